/- Walks: G40. -/
import Derived.Test.YtmgnckfhghibeaaZdA3
import Derived.Test.YtmgnckfhghibeaaZdA6
import Derived.Test.YtmgnckfhghibeaaZdA7
import Derived.Test.YtmgnckfhghibeaaZdA4
import Derived.Test.YtmgnckfhghibeaaZdA1
import Derived.Test.YtmgnckfhghibeaaZdA0
import Derived.Test.YtmgnckfhghibeaaZdA8
set_option linter.unusedSimpArgs false
set_option linter.unusedVariables false
set_option maxRecDepth 100000
attribute [local irreducible] Go.Proofs.Ytmgnckfhghibeaa.gv
set_option maxHeartbeats 16000000
namespace Go.Proofs.Ytmgnckfhghibeaa
open Go.RowKit
theorem c_impl_Slot_position (s : M.Slo) {As_1 : Option Addr} {cs_1 : Nat} {w : World}  : Ret Try.prog 61 [.agg #[.bool s.used, .slice As_1 s.pits.length cs_1, .int .i64 s.player, .int .i64 s.depth, .int .i64 s.value, .int .i64 s.bound]] w (Ty.agg [Ty.val (.slice As_1 s.pits.length cs_1), Ty.ints 2 [0, 0], Ty.int s.player]) := by
 refine enter @Try.func61 @Try.ntmps61 rfl rfl ?_
 refine zent ?_
 refine zS <| zb rfl fun b1 => za zeh fun b2 => zN <| Qf fh rfl <| Q0 1 rfl rfl rfl <| zbs fun b3 => ?_
 refine Qf fh rfl <| Q0 2 rfl rfl rfl <| Qb ?_
 refine zw 1 rfl rfl rfl ?_
 refine JL.nil ?_
 exact zro (Up.refl _ _)
theorem c_impl_Memory_place (mem : M.Mem) {v_mem : Value} (p : M.Pos) {v_p : Value} {w : World} (h_mem : (Ty.agg (cMemory mem)).ok w v_mem) (h_p : (Ty.agg (cPosition p)).ok w v_p) (r0 : M.okP mem.rules p = true := by exact om_) (r1 : 0 < mem.slots.length := by exact om_) (r2 : mem.slots.length ≤ 4194304 := by exact om_) : RetV Try.prog 41 [v_mem, v_p] w (.int .i64 (M.plc mem.slots.length p.pits p.player)) := by
 obtain ⟨g1, g2, g3, g4, g5, g6, g7⟩ := M.okP_bd r0
 revert v_mem; apply opn
 intro A1 c1 h1 bl1 bh1
 revert v_p; apply opn
 intro A2 c2 h2 bl2 bh2 A3 c3 h3 bl3 bh3
 refine enter @Try.func41 @Try.ntmps41 rfl rfl ?_
 refine zent ?_
 refine zS <| zb rfl fun b4 => zb rfl fun b5 => Qa rfl <| zN <| Qf fh rfl <| Q0 0 rfl rfl rfl <| Qp rfl rfl <| Qa rfl <| zJ <| zS <| Qf fh rfl <| Q0 0 rfl rfl rfl <| Qz rfl ?_
 refine Qm rfl <| JL.nil <| Js.block ?_
 refine zl [2, 12, 13] (fun F U l os u m => ∃ (k : Nat) (h : Int), l = F [(5, .int .i64 h), (14, .int .i64 (k : Int))] ∧ os = U [] ∧ (h = (p.pits.take k).foldl M.hashF (p.player + 1)) ∧ (0 ≤ h) ∧ (h < 1000003) ∧ (k ≤ p.pits.length) ∧ m = p.pits.length - k) ⟨0, p.player + 1, rfl, rfl, by rfl, by omega, by omega, zt, rfl⟩ ?_
 rintro _ _ u6 _ ⟨k, h, rfl, rfl, hH, h0, h1, hk, rfl⟩ x6
 refine zn ?_
 refine zS <| Ql rfl rfl <| zJ ?_
 refine zi (fun h7 h7' => ?_) fun h7 h7' => ?_
 ·
  have hkk : k < p.pits.length := by have := h7'; omega
  have hx9 := M.allOk_nth g5 k
  obtain ⟨b8, o8, he8, hc8⟩ := ints_elem (Ty.mono _ h2 x6.vis) (i := k) (by omega)
  refine Js.skip <| Js.seq <| Js.block <| zS <| Qq (p_indexAddr el_29 rfl rfl (by omega) (by omega) he8) <| QC hc8 rfl <| Qa rfl <| zG <| Qm rfl <| Qu rfl rfl <| Qm rfl <| Qp rfl rfl <| Qq (p_rem rfl rfl (by omega) (Int.tmod_eq_emod_of_nonneg (by omega))) <| Qa rfl ?_
  refine JL.nil <| Js.blockEnd <| Js.region <| Qp rfl rfl <| Qm rfl <| JL.nil ?_
  exact zag ⟨k + 1, ((31 * h) + (M.nth p.pits k)) % 1000003, rfl, rfl, by rw [M.hash_step (by assumption), ← hH], by omega, by omega, zt, rfl⟩ x6
 have hE : h = M.hashP p.pits p.player := by rw [hH]; exact M.hash_all (by have := h7'; omega)
 refine zx ?_
 have hrn9 := Int.emod_nonneg h (b := (mem.slots.length : Int)) (by omega)
 have hrl9 := Int.emod_lt_of_pos h (show 0 < (mem.slots.length : Int) by omega)
 refine zS <| Qm rfl <| Qf fh rfl <| Q0 1 rfl rfl rfl <| Qz rfl <| Qq (p_rem rfl rfl (by omega) (Int.tmod_eq_emod_of_nonneg (by omega))) <| Qa rfl <| JL.nil ?_
 refine zR x6 ?_
 rw [hE]; rfl
theorem c_impl_validContents (depth value bound : Int) {w : World}  : RetV Try.prog 33 [.int .i64 depth, .int .i64 value, .int .i64 bound] w (.bool (M.okCt depth value bound)) := by
 refine enter @Try.func33 @Try.ntmps33 rfl rfl ?_
 refine zent ?_
 refine zS <| Qa rfl <| zN <| Qm rfl <| zv rfl (fun w hw => c_impl_between depth 1 8) <| Qm rfl <| zg (Gd.t1 rfl rfl rfl) (fun hc => p_move rfl) <| zgv (Gd.t1 rfl rfl rfl) (fun hc => (opds_3 (gh hc rfl) rfl rfl)) (fun hc => (fun w hw => c_impl_between value (-96) 96)) ?_
 refine Qq (p_pickAnd rfl rfl rfl) <| Qm rfl <| zg (Gd.t1 rfl rfl rfl) (fun hc => p_move rfl) <| zgv (Gd.t1 rfl rfl rfl) (fun hc => (opds_3 (gh hc rfl) rfl rfl)) (fun hc => (fun w hw => c_impl_between bound 0 2)) ?_
 refine Qq (p_pickAnd rfl rfl rfl) <| Qa rfl <| JL.nil ?_
 refine zR (Up.refl _ _) ?_
 first | rfl | (simp [outV, M.okCt]; done)
theorem c_impl_Memory_validSlot (mem : M.Mem) {v_mem : Value} (i : Int) (s : M.Slo) {v_s : Value} {w : World} (h_mem : (Ty.agg (cMemory mem)).ok w v_mem) (h_s : (Ty.agg (cSlot s)).ok w v_s) (r0 : 0 < mem.slots.length := by exact om_) (r1 : mem.slots.length ≤ 4194304 := by exact om_) (r2 : s.pits.length ≤ 4194304 := by exact om_) : RetV Try.prog 51 [v_mem, .int .i64 i, v_s] w (.bool (M.okSI mem.rules mem.slots.length i s)) := by
 revert v_mem; apply opn
 intro A1 c1 h1 bl1 bh1
 revert v_s; apply opn
 intro A2 c2 h2 bl2 bh2
 refine enter @Try.func51 @Try.ntmps51 rfl rfl ?_
 refine zent ?_
 refine zS <| zb rfl fun b3 => zb rfl fun b4 => Qa rfl <| zJ <| zS <| Qf fh rfl <| Q0 0 rfl rfl rfl <| Qt rfl <| JL.nil ?_
 refine zi (fun h5 h5' => ?_) fun h5 h5' => ?_
 ·
  have hE := M.okSI_n (r := mem.rules) (n := mem.slots.length) (i := i) (s := s) (by simpa using h5)
  refine zS <| Qf fh rfl <| Q0 0 rfl rfl rfl <| Qz rfl <| Qe rfl rfl <| Qm rfl <| zg (Gd.t1 rfl rfl rfl) (fun hc => p_fieldAddr fld_45_2.h rfl) <| zgq (Gd.t1 rfl rfl rfl) (fun hc => q_load1 ty_2.h (gh hc rfl) (Mem.box (i := 0) rfl rfl)) <| zg (Gd.t1 rfl rfl rfl) (fun hc => p_eql (gh hc rfl) rfl) <| Qq (p_pickAnd rfl rfl rfl) <| Qm rfl <| zg (Gd.t1 rfl rfl rfl) (fun hc => p_fieldAddr fld_45_3.h rfl) <| zgq (Gd.t1 rfl rfl rfl) (fun hc => q_load1 ty_2.h (gh hc rfl) (Mem.box (i := 0) rfl rfl)) <| zg (Gd.t1 rfl rfl rfl) (fun hc => p_eql (gh hc rfl) rfl) ?_
  refine Qq (p_pickAnd rfl rfl rfl) <| Qm rfl <| zg (Gd.t1 rfl rfl rfl) (fun hc => p_fieldAddr fld_45_4.h rfl) <| zgq (Gd.t1 rfl rfl rfl) (fun hc => q_load1 ty_2.h (gh hc rfl) (Mem.box (i := 0) rfl rfl)) <| zg (Gd.t1 rfl rfl rfl) (fun hc => p_eql (gh hc rfl) rfl) <| Qq (p_pickAnd rfl rfl rfl) <| Qm rfl <| zg (Gd.t1 rfl rfl rfl) (fun hc => p_fieldAddr fld_45_5.h rfl) <| zgq (Gd.t1 rfl rfl rfl) (fun hc => q_load1 ty_2.h (gh hc rfl) (Mem.box (i := 0) rfl rfl)) <| zg (Gd.t1 rfl rfl rfl) (fun hc => p_eql (gh hc rfl) rfl) <| Qq (p_pickAnd rfl rfl rfl) <| Qa rfl <| JL.nil ?_
  refine zR (Up.refl _ _) ?_
  first | (rw [hE]; rfl) | (rw [hE]; simp [outV, M.freeS, Bool.and_assoc]; done) | (rw [hE, ‹((M.okP mem.rules (M.posS s)) && (M.okCt s.depth s.value s.bound)) = false›]; rfl)
 have hE := M.okSI_y (r := mem.rules) (n := mem.slots.length) (i := i) (s := s) (by simpa using h5)
 refine Js.skip <| Js.seq ?_
 rcases Bool.eq_false_or_eq_true ((M.okP mem.rules (M.posS s)) && (M.okCt s.depth s.value s.bound)) with h6 | h6
 ·
  refine zdr [] ?_
  refine jF 0 fld_28_0 rfl rfl ?_
  refine JH.q 1 rfl (L9 1 rfl rfl) ?_
  refine JH.q 2 rfl (L9 0 rfl rfl) ?_
  refine y1 3 ?_
  refine yc rfl rfl (fun w hw => c_impl_Slot_position s) ?_
  intro A7 c7 bl7 bh7
  refine y1 4 ?_
  refine yv rfl rfl (fun w hw => c_impl_ValidPosition mem.rules (M.posS s) (ok_ hw) (ok_ hw)) ?_
  refine jM 5 rfl rfl ?_
  refine JH.pg 6 rfl (Gd.t1 rfl rfl rfl) (fun hc => p_fieldAddr fld_45_3.h rfl) ?_
  refine JH.qg 7 rfl (Gd.t1 rfl rfl rfl) (fun hc => q_load1 ty_2.h (gvt rfl hc) (Mem.box (i := 0) rfl rfl)) ?_
  refine JH.pg 8 rfl (Gd.t1 rfl rfl rfl) (fun hc => p_fieldAddr fld_45_4.h rfl) ?_
  refine JH.qg 9 rfl (Gd.t1 rfl rfl rfl) (fun hc => q_load1 ty_2.h (gvt rfl hc) (Mem.box (i := 0) rfl rfl)) ?_
  refine JH.pg 10 rfl (Gd.t1 rfl rfl rfl) (fun hc => p_fieldAddr fld_45_5.h rfl) ?_
  refine JH.qg 11 rfl (Gd.t1 rfl rfl rfl) (fun hc => q_load1 ty_2.h (gvt rfl hc) (Mem.box (i := 0) rfl rfl)) ?_
  refine y1 12 ?_
  refine JHo.ge rfl (Gd.t1 rfl rfl rfl) (fun hc => e_callV fn_33.h (opds_3 (gvt rfl hc) (gvt rfl hc) (gvt rfl hc)) (fun w hw => c_impl_validContents s.depth s.value s.bound)) ?_
  refine JH.p 13 rfl (p_pickAnd rfl rfl rfl) ?_
  refine jM 14 rfl rfl ?_
  refine JH.qgT 15 rfl (Gd.t1 rfl rfl rfl) (show ((M.okP mem.rules (M.posS s)) && (M.okCt s.depth s.value s.bound)) = true by first | exact h6 | (rw [h6]; rfl) | simp [h6]) (L9 1 rfl rfl) ?_
  refine JH.qgT 16 rfl (Gd.t1 rfl rfl rfl) (show ((M.okP mem.rules (M.posS s)) && (M.okCt s.depth s.value s.bound)) = true by first | exact h6 | (rw [h6]; rfl) | simp [h6]) (L9 0 rfl rfl) ?_
  refine JH.pgT 19 rfl (Gd.t1 rfl rfl rfl) (show ((M.okP mem.rules (M.posS s)) && (M.okCt s.depth s.value s.bound)) = true by first | exact h6 | (rw [h6]; rfl) | simp [h6]) (p_move rfl) ?_
  refine y1 17 ?_
  refine ycT rfl (Gd.t1 rfl rfl rfl) (show ((M.okP mem.rules (M.posS s)) && (M.okCt s.depth s.value s.bound)) = true by first | exact h6 | (rw [h6]; rfl) | simp [h6]) rfl (fun w hw => c_impl_Slot_position s) ?_
  intro A8 c8 bl8 bh8
  refine y1 18 ?_
  refine yvT rfl (Gd.t1 rfl rfl rfl) (show ((M.okP mem.rules (M.posS s)) && (M.okCt s.depth s.value s.bound)) = true by first | exact h6 | (rw [h6]; rfl) | simp [h6]) rfl (fun w hw => c_impl_Memory_place mem (M.posS s) (ok_ hw) (ok_ hw) (r0 := (by have h9 := h6; simp only [Bool.and_eq_true] at h9; exact h9.1))) ?_
  refine JH.pgT 20 rfl (Gd.t1 rfl rfl rfl) (show ((M.okP mem.rules (M.posS s)) && (M.okCt s.depth s.value s.bound)) = true by first | exact h6 | (rw [h6]; rfl) | simp [h6]) (p_eql rfl rfl) ?_
  refine JH.p 21 rfl (p_pickAnd2 rfl rfl rfl) ?_
  refine jA 22 rfl rfl ?_
  refine yd ?_
  refine zR (Up.refl _ _) ?_
  first | (rw [hE]; rfl) | (rw [hE]; simp [outV, M.freeS, Bool.and_assoc]; done) | (rw [hE, ‹((M.okP mem.rules (M.posS s)) && (M.okCt s.depth s.value s.bound)) = false›]; rfl)
 refine zdr [] ?_
 refine jF 0 fld_28_0 rfl rfl ?_
 refine JH.q 1 rfl (L9 1 rfl rfl) ?_
 refine JH.q 2 rfl (L9 0 rfl rfl) ?_
 refine y1 3 ?_
 refine yc rfl rfl (fun w hw => c_impl_Slot_position s) ?_
 intro A9 c9 bl9 bh9
 refine y1 4 ?_
 refine yv rfl rfl (fun w hw => c_impl_ValidPosition mem.rules (M.posS s) (ok_ hw) (ok_ hw)) ?_
 refine jM 5 rfl rfl ?_
 refine JH.pg 6 rfl (Gd.t1 rfl rfl rfl) (fun hc => p_fieldAddr fld_45_3.h rfl) ?_
 refine JH.qg 7 rfl (Gd.t1 rfl rfl rfl) (fun hc => q_load1 ty_2.h (gvt rfl hc) (Mem.box (i := 0) rfl rfl)) ?_
 refine JH.pg 8 rfl (Gd.t1 rfl rfl rfl) (fun hc => p_fieldAddr fld_45_4.h rfl) ?_
 refine JH.qg 9 rfl (Gd.t1 rfl rfl rfl) (fun hc => q_load1 ty_2.h (gvt rfl hc) (Mem.box (i := 0) rfl rfl)) ?_
 refine JH.pg 10 rfl (Gd.t1 rfl rfl rfl) (fun hc => p_fieldAddr fld_45_5.h rfl) ?_
 refine JH.qg 11 rfl (Gd.t1 rfl rfl rfl) (fun hc => q_load1 ty_2.h (gvt rfl hc) (Mem.box (i := 0) rfl rfl)) ?_
 refine y1 12 ?_
 refine JHo.ge rfl (Gd.t1 rfl rfl rfl) (fun hc => e_callV fn_33.h (opds_3 (gvt rfl hc) (gvt rfl hc) (gvt rfl hc)) (fun w hw => c_impl_validContents s.depth s.value s.bound)) ?_
 refine JH.p 13 rfl (p_pickAnd rfl rfl rfl) ?_
 refine jM 14 rfl rfl ?_
 refine jU 15 rfl (Gd.t1 rfl rfl rfl) h6 ?_
 refine jU 16 rfl (Gd.t1 rfl rfl rfl) h6 ?_
 refine jU 19 rfl (Gd.t1 rfl rfl rfl) h6 ?_
 refine y1 17 ?_
 refine JHo.qg (v := undef) rfl (Gd.t1 rfl rfl rfl) (fun hc => absurd hc (by first | (rw [h6]; simp; done) | simp [h6])) ?_
 refine y1 18 ?_
 refine JHo.qg (v := undef) rfl (Gd.t1 rfl rfl rfl) (fun hc => absurd hc (by first | (rw [h6]; simp; done) | simp [h6])) ?_
 refine JH.pg (v := .bool false) 20 rfl (Gd.t1 rfl rfl rfl) (fun hc => absurd hc (by first | (rw [h6]; simp; done) | simp [h6])) ?_
 refine JH.p 21 rfl (p_pickAnd rfl rfl rfl) ?_
 refine jA 22 rfl rfl ?_
 refine yd ?_
 refine zR (Up.refl _ _) ?_
 first | (rw [hE]; rfl) | (rw [hE]; simp [outV, M.freeS, Bool.and_assoc]; done) | (rw [hE, ‹((M.okP mem.rules (M.posS s)) && (M.okCt s.depth s.value s.bound)) = false›]; rfl)
theorem c_impl_ValidMemory (mem : M.Mem) {v_mem : Value} {w : World} (h_mem : (Ty.agg (cMemory mem)).ok w v_mem) (r0 : mem.slots.length ≤ 4194304 := by exact om_) (r1 : ∀ x ∈ mem.slots, x.pits.length ≤ 4194304 := by exact om_) : RetV Try.prog 16 [v_mem] w (.bool (M.okM mem)) := by
 revert v_mem; apply opn
 intro A1 c1 h1 bl1 bh1
 refine enter @Try.func16 @Try.ntmps16 rfl rfl ?_
 refine zent ?_
 refine zS <| zb rfl fun b2 => Qa rfl <| zJ <| zS <| Qf fh rfl <| Q9 0 rfl rfl ?_
 refine zv rfl (fun w hw => c_impl_ValidRules mem.rules (ok_ hw)) <| Qt rfl <| Qm rfl <| zg (Gd.f1 rfl rfl rfl) (fun hc => p_fieldAddr fld_28_1.h rfl) <| zgq (Gd.f1 rfl rfl rfl) (fun hc => q_load1 ty_26.h (gh hc rfl) (Mem.box (i := 0) rfl rfl)) <| zg (Gd.f1 rfl rfl rfl) (fun hc => p_len el_26 (gh hc rfl)) <| zgv (Gd.f1 rfl rfl rfl) (fun hc => (opds_3 (gh hc rfl) rfl rfl)) (fun hc => (fun w hw => c_impl_between (mem.slots.length : Int) 1 64)) ?_
 refine zg (Gd.f1 rfl rfl rfl) (fun hc => p_not (gh hc rfl)) <| Qq (p_pickOr rfl rfl rfl) <| JL.nil ?_
 refine zi (fun h3 h3' => ?_) fun h3 h3' => ?_
 ·
  have hE : M.okM mem = false := by by_cases e : M.okR mem.rules = true; (exact M.okM_l (by have h9 := h3; simpa [e] using h9)); exact M.okM_r (by simpa using e)
  refine zS <| Qa rfl <| JL.nil ?_
  refine zR (Up.refl _ _) ?_
  rw [hE]; rfl
 obtain ⟨hr, hb⟩ : M.okR mem.rules = true ∧ M.betw (mem.slots.length : Int) 1 64 = true := by have h9 := h3; simpa using h9
 obtain ⟨hl1, hl2⟩ := M.betw_iff.1 hb
 refine Js.skip <| Js.seq <| zS <| Qf fh rfl <| Q0 0 rfl rfl rfl <| Qz rfl <| Qm rfl <| JL.nil <| Js.block ?_
 refine zl [1, 17, 18] (fun F U l os u m => ∃ (k : Nat), l = F [(19, .int .i64 (k : Int))] ∧ os = U [] ∧ (k ≤ mem.slots.length) ∧ (∀ i : Nat, i < k → M.okSI mem.rules mem.slots.length i (M.slo mem.slots i) = true) ∧ m = mem.slots.length - k) ⟨0, rfl, rfl, zt, by exact fun i hi => absurd hi (by omega), rfl⟩ ?_
 rintro _ _ u4 _ ⟨k, rfl, rfl, hk, hA, rfl⟩ x4
 refine zn ?_
 refine zS <| Ql rfl rfl <| zJ ?_
 refine zi (fun h5 h5' => ?_) fun h5 h5' => ?_
 ·
  have hkk : k < mem.slots.length := by have := h5'; omega
  have hy6 : mem.slots[k]? = some (M.slo mem.slots k) := M.slo_get (by omega)
  obtain ⟨b6, o6, A6_1, c6_1, he6, hr6, h6_1, bl6_1, bh6_1⟩ := elem_Slot (Ty.mono _ h1 x4.vis) hy6
  refine Js.skip <| Js.seq <| Js.block <| zS <| Qm rfl <| Qq (p_indexAddr el_26 rfl rfl (by omega) (by omega) he6) <| QS 0 hr6 rfl ?_
  refine za zeh fun b7 => Qa rfl <| zw 0 rfl rfl rfl ?_
  refine zN <| Q9 1 rfl rfl ?_
  refine Qm rfl <| Q9 0 rfl rfl ?_
  refine zv rfl (fun w hw => c_impl_Memory_validSlot mem (k : Int) (M.slo mem.slots k) (ok_ hw) (ok_ hw) (r2 := (r1 _ (M.slo_mem (by assumption))))) <| Qt rfl <| JL.nil ?_
  refine zi (fun h8 h8' => ?_) fun h8 h8' => ?_
  ·
   have hE := M.okM_no hkk (by simpa using h8)
   refine zS <| Qa rfl <| JL.nil ?_
   refine zR x4 ?_
   rw [hE]; rfl
  have hx9 : M.okSI mem.rules mem.slots.length k (M.slo mem.slots k) = true := by simpa using h8
  have hA2 : ∀ i : Nat, i < k + 1 → M.okSI mem.rules mem.slots.length i (M.slo mem.slots i) = true := fun i hi => by rcases Nat.lt_succ_iff_lt_or_eq.1 hi with h9 | h9; (exact hA i h9); subst h9; exact hx9
  refine Js.skip <| Js.blockEnd <| Js.region <| Qp rfl rfl <| Qm rfl <| JL.nil ?_
  refine zd [1] rfl fun u9 x9 => ?_
  exact zag ⟨k + 1, rfl, rfl, zt, by exact hA2, rfl⟩ (x4.trans x9)
 have hE : M.okM mem = true := M.okM_of hr (by omega) (by omega) (fun i hi => hA i (by have := h5'; omega))
 refine zx ?_
 refine zS <| Qa rfl <| JL.nil ?_
 refine zR x4 ?_
 rw [hE]; rfl
theorem c_impl_sameSlot (a : M.Slo) {v_a : Value} (b : M.Slo) {v_b : Value} {w : World} (h_a : (Ty.agg (cSlot a)).ok w v_a) (h_b : (Ty.agg (cSlot b)).ok w v_b) (r0 : a.pits.length ≤ 4194304 := by exact om_) (r1 : b.pits.length ≤ 4194304 := by exact om_) : RetV Try.prog 57 [v_a, v_b] w (.bool (M.sameS a b)) := by
 revert v_a; apply opn
 intro A1 c1 h1 bl1 bh1
 revert v_b; apply opn
 intro A2 c2 h2 bl2 bh2
 refine enter @Try.func57 @Try.ntmps57 rfl rfl ?_
 refine zent ?_
 refine zS <| zb rfl fun b3 => zb rfl fun b4 => Qa rfl <| zN <| Qf fh rfl <| Q0 1 rfl rfl rfl <| Qf fh rfl <| Q0 0 rfl rfl rfl <| Qq (p_eqlB und_4 rfl rfl) <| Qm rfl <| zg (Gd.t1 rfl rfl rfl) (fun hc => p_fieldAddr fld_45_1.h rfl) <| zgq (Gd.t1 rfl rfl rfl) (fun hc => q_load1 ty_29.h (gh hc rfl) (Mem.box (i := 1) rfl rfl)) <| zg (Gd.t1 rfl rfl rfl) (fun hc => p_fieldAddr fld_45_1.h rfl) ?_
 refine zgq (Gd.t1 rfl rfl rfl) (fun hc => q_load1 ty_29.h (gh hc rfl) (Mem.box (i := 0) rfl rfl)) <| zgv (Gd.t1 rfl rfl rfl) (fun hc => (opds_2 (gh hc rfl) (gh hc rfl))) (fun hc => (fun w hw => c_impl_sameNumbers a.pits b.pits (ok_ hw) (ok_ hw))) ?_
 refine Qq (p_pickAnd rfl rfl rfl) <| Qm rfl <| zg (Gd.t1 rfl rfl rfl) (fun hc => p_fieldAddr fld_45_2.h rfl) <| zgq (Gd.t1 rfl rfl rfl) (fun hc => q_load1 ty_2.h (gh hc rfl) (Mem.box (i := 1) rfl rfl)) <| zg (Gd.t1 rfl rfl rfl) (fun hc => p_fieldAddr fld_45_2.h rfl) <| zgq (Gd.t1 rfl rfl rfl) (fun hc => q_load1 ty_2.h (gh hc rfl) (Mem.box (i := 0) rfl rfl)) <| zg (Gd.t1 rfl rfl rfl) (fun hc => p_eql (gh hc rfl) (gh hc rfl)) <| Qq (p_pickAnd rfl rfl rfl) <| Qm rfl <| zg (Gd.t1 rfl rfl rfl) (fun hc => p_fieldAddr fld_45_3.h rfl) <| zgq (Gd.t1 rfl rfl rfl) (fun hc => q_load1 ty_2.h (gh hc rfl) (Mem.box (i := 1) rfl rfl)) <| zg (Gd.t1 rfl rfl rfl) (fun hc => p_fieldAddr fld_45_3.h rfl) <| zgq (Gd.t1 rfl rfl rfl) (fun hc => q_load1 ty_2.h (gh hc rfl) (Mem.box (i := 0) rfl rfl)) <| zg (Gd.t1 rfl rfl rfl) (fun hc => p_eql (gh hc rfl) (gh hc rfl)) ?_
 refine Qq (p_pickAnd rfl rfl rfl) <| Qm rfl <| zg (Gd.t1 rfl rfl rfl) (fun hc => p_fieldAddr fld_45_4.h rfl) <| zgq (Gd.t1 rfl rfl rfl) (fun hc => q_load1 ty_2.h (gh hc rfl) (Mem.box (i := 1) rfl rfl)) <| zg (Gd.t1 rfl rfl rfl) (fun hc => p_fieldAddr fld_45_4.h rfl) <| zgq (Gd.t1 rfl rfl rfl) (fun hc => q_load1 ty_2.h (gh hc rfl) (Mem.box (i := 0) rfl rfl)) <| zg (Gd.t1 rfl rfl rfl) (fun hc => p_eql (gh hc rfl) (gh hc rfl)) <| Qq (p_pickAnd rfl rfl rfl) <| Qm rfl <| zg (Gd.t1 rfl rfl rfl) (fun hc => p_fieldAddr fld_45_5.h rfl) <| zgq (Gd.t1 rfl rfl rfl) (fun hc => q_load1 ty_2.h (gh hc rfl) (Mem.box (i := 1) rfl rfl)) <| zg (Gd.t1 rfl rfl rfl) (fun hc => p_fieldAddr fld_45_5.h rfl) <| zgq (Gd.t1 rfl rfl rfl) (fun hc => q_load1 ty_2.h (gh hc rfl) (Mem.box (i := 0) rfl rfl)) <| zg (Gd.t1 rfl rfl rfl) (fun hc => p_eql (gh hc rfl) (gh hc rfl)) ?_
 refine Qq (p_pickAnd rfl rfl rfl) <| Qa rfl <| JL.nil ?_
 refine zR (Up.refl _ _) ?_
 first | rfl | (simp [outV, M.sameS, Bool.and_assoc]; done)
theorem c_impl_Memory_copied (mem : M.Mem) {v_mem : Value} {w : World} (h_mem : (Ty.agg (cMemory mem)).ok w v_mem) (r0 : mem.slots.length ≤ 4194304 := by exact om_) (r1 : ∀ x ∈ mem.slots, x.pits.length ≤ 4194304 := by exact om_) : Ret Try.prog 34 [v_mem] w (Ty.agg (cMemory mem)) := by
 revert v_mem; apply opn
 intro A1 c1 h1 bl1 bh1
 refine enter @Try.func34 @Try.ntmps34 rfl rfl ?_
 refine zent ?_
 refine zS <| zb rfl fun b2 => za zeh fun b3 => zN <| Qf fh rfl <| Q9 1 rfl rfl ?_
 refine Qb ?_
 refine za zeh fun b4 => zw 0 rfl rfl rfl ?_
 refine zJ <| zS <| Qf fh rfl <| Q0 2 rfl rfl rfl <| Qz rfl <| Qm rfl <| JL.nil <| Js.block ?_
 refine Js.conv (fun w hw => St.nilRowS 45 6 hw) ?_
 refine Js.vals (Ts := lSlot []) (vs := []) (fun w => rfl) ?_
 refine zl [2, 3, 10, 11] (fun F U l os u m => ∃ (k : Nat) (acc : List M.Slo) (A5_3_9 : Option Addr) (c5_3_9 : Nat) (g5_3_9 : List Nat) (vs5_3_9 : List Value) (fl5_3_9 : List Nat), l = F [(12, .int .i64 (k : Int))] ∧ os = U [some (ownC (lSlot acc) vs5_3_9 fl5_3_9), some (rowO 45 6 (.slice A5_3_9 acc.length c5_3_9) acc.length vs5_3_9 g5_3_9), some (boxO b4 [.int .i64 mem.rules.pits, .int .i64 mem.rules.seeds, .bool mem.rules.stores, .bool mem.rules.skip, .bool mem.rules.relay, .bool mem.rules.feed, .bool mem.rules.again, .int .i64 mem.rules.capture, .int .i64 mem.rules.slam, .slice A5_3_9 acc.length c5_3_9] 28)] ∧ (acc = mem.slots.take k) ∧ (k ≤ mem.slots.length) ∧ (acc.length ≤ c5_3_9) ∧ (c5_3_9 ≤ 9223372036854775807) ∧ m = mem.slots.length - k) ⟨0, [], _, _, _, _, _, rfl, rfl, by rfl, zt, zu, zu, rfl⟩ ?_
 rintro _ _ u5 _ ⟨k, acc, A5_3_9, c5_3_9, g5_3_9, vs5_3_9, fl5_3_9, rfl, rfl, hA, hk, f5_2, f5_3, rfl⟩ x5
 refine zn ?_
 have hla : acc.length = k := by rw [hA, List.length_take]; omega
 refine zS <| Ql rfl rfl <| zJ ?_
 refine zi (fun h6 h6' => ?_) fun h6 h6' => ?_
 ·
  have hkk : k < mem.slots.length := by have := h6'; omega
  have e1_ := r1 _ (M.slo_mem (l := mem.slots) (k := k) hkk)
  have hA2 := M.takeS hkk
  rw [← hA] at hA2
  have hA2 := hA2.symm
  have hy7 : mem.slots[k]? = some (M.slo mem.slots k) := M.slo_get (by omega)
  obtain ⟨b7, o7, A7_1, c7_1, he7, hr7, h7_1, bl7_1, bh7_1⟩ := elem_Slot (Ty.mono _ h1 x5.vis) hy7
  refine Js.skip <| Js.seq <| Js.block <| zS <| Qq (p_indexAddr el_26 rfl rfl (by omega) (by omega) he7) <| QS 0 hr7 rfl ?_
  refine za zeh fun b8 => zw 0 rfl rfl rfl ?_
  refine zN <| Qf fh rfl <| Q0 0 rfl rfl rfl <| zcs rfl (fun w hw => c_impl_copyNumbers ((M.slo mem.slots k).pits) (ok_ hw)) ?_
  intro A9 c9 bl9 bh9
  refine Qf fh rfl <| zw 1 rfl rfl rfl ?_
  refine zG <| Qf fh rfl <| Q0 4 rfl rfl rfl <| Q9 1 rfl rfl ?_
  refine zbs fun b10 => ?_
  refine JL.e (e_append (i := 4) (n' := (acc ++ [(M.slo mem.slots k)]).length) (vs' := vs5_3_9 ++ [.bool ((M.slo mem.slots k).used), .slice A9 (((M.slo mem.slots k).pits).length) c9, .int .i64 ((M.slo mem.slots k).player), .int .i64 ((M.slo mem.slots k).depth), .int .i64 ((M.slo mem.slots k).value), .int .i64 ((M.slo mem.slots k).bound)]) el_26 rfl rfl rfl rfl (src_row (i := 0) und_26 rfl rfl) (by omega) (by omega) ln2_ (rfl)) ?_
  rintro v12 _ _ ⟨⟨g13, rfl⟩, rfl⟩ _
  refine JL.fact (row_form' (i := 4) rfl) (fun hf14 => ?_)
  obtain ⟨A14, c14, rfl, bl14, bh14⟩ := hf14
  refine znl ?_
  refine Qf fh rfl <| zw 5 rfl rfl rfl ?_
  refine JL.nil ?_
  refine Js.pk (cSlot (M.slo mem.slots k)) [.bool ((M.slo mem.slots k).used), .slice A9 (((M.slo mem.slots k).pits).length) c9, .int .i64 ((M.slo mem.slots k).player), .int .i64 ((M.slo mem.slots k).depth), .int .i64 ((M.slo mem.slots k).value), .int .i64 ((M.slo mem.slots k).bound)] (fun f16 G16 => ?_)
  refine zn ?_
  refine Js.joinL (i := 4) (j := 0) (Vs := lSlot (acc ++ [(M.slo mem.slots k)])) rfl rfl (lSlot_snoc _ _) (fun f17 => ?_)
  refine zn ?_
  refine Js.blockEnd <| Js.region <| Qp rfl rfl <| Qm rfl <| JL.nil ?_
  refine zd [0, 3, 3, 3, 3] rfl fun u18 x18 => ?_
  exact zag ⟨k + 1, acc ++ [(M.slo mem.slots k)], _, _, _, _, _, rfl, rfl, by exact hA2, zt, zu, zu, rfl⟩ (x5.trans x18)
 have hE : acc = mem.slots := by rw [hA, List.take_of_length_le (by have := h6'; omega)]
 refine zx ?_
 have hq0 : acc = mem.slots := by first | rfl | (rw [hE]; done) | (rw [hE]; rfl)
 refine zS <| Q9 2 rfl rfl ?_
 refine zw 3 rfl rfl rfl ?_
 refine JL.nil ?_
 exact zro x5
theorem c_impl_Memory_store (mem_rules : M.Rul) (mem_slots : List M.Slo) {Amem_9 : Option Addr} {cmem_9 : Nat} {gmem_9 : List Nat} {vsmem_9 : List Value} {fmem_9 : List Nat} (s : M.Slo) {v_s : Value} {w : World} (hb : Bw w [rowO 45 6 (.slice Amem_9 mem_slots.length cmem_9) mem_slots.length vsmem_9 gmem_9, ownC (lSlot mem_slots) vsmem_9 fmem_9]) (h_s : (Ty.agg (cSlot s)).ok (offW w (([rowO 45 6 (.slice Amem_9 mem_slots.length cmem_9) mem_slots.length vsmem_9 gmem_9, ownC (lSlot mem_slots) vsmem_9 fmem_9] : List Own).flatMap (·.fp))) v_s) (bd0 : mem_slots.length ≤ cmem_9 := by exact om_) (bd1 : cmem_9 ≤ 9223372036854775807 := by exact om_) (r0 : M.okP mem_rules (M.posS s) = true := by exact om_) (r1 : 0 < mem_slots.length := by exact om_) (r2 : mem_slots.length ≤ 4194304 := by exact om_) (r3 : s.pits.length ≤ 4194304 := by exact om_) : RetB Try.prog 35 [.agg #[.int .i64 mem_rules.pits, .int .i64 mem_rules.seeds, .bool mem_rules.stores, .bool mem_rules.skip, .bool mem_rules.relay, .bool mem_rules.feed, .bool mem_rules.again, .int .i64 mem_rules.capture, .int .i64 mem_rules.slam, .slice Amem_9 mem_slots.length cmem_9], v_s] w [rowO 45 6 (.slice Amem_9 mem_slots.length cmem_9) mem_slots.length vsmem_9 gmem_9, ownC (lSlot mem_slots) vsmem_9 fmem_9] (fun v bs' => ∃ (vsxmem_w0 : List Value) (fxmem_w0 : List Nat), v = .tuple #[] ∧ bs' = [rowO 45 6 (.slice Amem_9 mem_slots.length cmem_9) mem_slots.length vsxmem_w0 gmem_9, ownC (lSlot (M.stoS mem_slots s)) vsxmem_w0 fxmem_w0]) := by
 obtain ⟨hp1, hp2⟩ := M.plc_bd (n := mem_slots.length) s.pits s.player r1
 revert v_s; apply opn
 intro A1 c1 h1 bl1 bh1
 refine enterB hb @Try.func35 @Try.ntmps35 rfl rfl ?_
 refine zent ?_
 refine Js.trashE ?_
 refine zn ?_
 refine zS <| zb rfl fun b2 => zb rfl fun b3 => zJ ?_
 refine zdr [] ?_
 refine JH.q 0 rfl (L9 1 rfl rfl) ?_
 refine JH.q 1 rfl (L9 0 rfl rfl) ?_
 refine y1 2 ?_
 refine yc rfl rfl (fun w hw => c_impl_Slot_position s) ?_
 intro A4 c4 bl4 bh4
 refine y1 3 ?_
 refine yv rfl rfl (fun w hw => c_impl_Memory_place (M.Mem.mk mem_rules mem_slots) (M.posS s) (by exact ⟨_, rfl, ⟨rfl, rfl, rfl, rfl, rfl, rfl, rfl, rfl, rfl, (srow_ok lSlot (xs := mem_slots) (hw.pr (i := 3) rfl) (hw.pr (i := 4) rfl) (lSlot_length _)), trivial⟩⟩) (ok_ hw) (r0 := r0)) ?_
 refine jA 4 rfl rfl ?_
 refine yd ?_
 refine zS <| Qf fh rfl <| Q0 2 rfl rfl rfl <| Qm rfl ?_
 refine JL.fact (row_some (i := 3) rfl (by omega)) (fun hf6 => ?_)
 obtain ⟨b6, rfl⟩ := hf6
 have hy5 : mem_slots[(M.plc (M.Mem.mk mem_rules mem_slots).slots.length (M.posS s).pits (M.posS s).player).toNat]? = some (M.slo mem_slots ((M.plc (M.Mem.mk mem_rules mem_slots).slots.length (M.posS s).pits (M.posS s).player).toNat)) := M.slo_get len_
 refine JL.fact (fun w hw => elemv_Slot (Mem.ownC (i := 4) rfl w hw) hy5) (fun hf5 => ?_)
 obtain ⟨A5_1, c5_1, he5, bl5_1, bh5_1⟩ := hf5
 refine Qq (p_indexAddr el_26 rfl rfl (by omega) (by omega) rfl) <| Qw (q_loadN ty_45.h rfl (Mem.rowR' (i := 3) rfl he5) rfl rfl) <| za zeh fun b7 => zw 0 rfl rfl rfl ?_
 refine zN <| Qf fh rfl <| Q0 0 rfl rfl rfl <| Qt rfl <| Qm rfl <| zg (Gd.f1 rfl rfl rfl) (fun hc => p_fieldAddr fld_45_3.h rfl) <| zgq (Gd.f1 rfl rfl rfl) (fun hc => q_load1 ty_2.h (gh hc rfl) (Mem.box (i := 0) rfl rfl)) <| zg (Gd.f1 rfl rfl rfl) (fun hc => p_fieldAddr fld_45_3.h rfl) <| zgq (Gd.f1 rfl rfl rfl) (fun hc => q_load1 ty_2.h (gh hc rfl) (Mem.box (i := 2) rfl rfl)) <| zg (Gd.f1 rfl rfl rfl) (fun hc => p_leq (gh hc rfl) (gh hc rfl)) <| Qq (p_pickOr rfl rfl rfl) <| JL.nil ?_
 refine zi (fun h8 h8' => ?_) fun h8 h8' => ?_
 ·
  have hE9 : M.stoS mem_slots s = mem_slots.set (M.plc mem_slots.length s.pits s.player).toNat s := if_pos (by have h9 := h8; simp only [Bool.or_eq_true, Bool.not_eq_true', decide_eq_true_eq] at h9; exact h9)
  refine zS <| Qf fh rfl <| Q0 2 rfl rfl rfl <| zcs rfl (fun w hw => c_impl_copyNumbers s.pits (ok_ hw)) ?_
  intro A9 c9 bl9 bh9
  have hy10 : mem_slots[(M.plc (M.Mem.mk mem_rules mem_slots).slots.length (M.posS s).pits (M.posS s).player).toNat]? = some (M.slo mem_slots ((M.plc (M.Mem.mk mem_rules mem_slots).slots.length (M.posS s).pits (M.posS s).player).toNat)) := M.slo_get len_
  refine Qf fh rfl <| zw 3 rfl rfl rfl ?_
  refine zG <| Qf fh rfl <| Q0 4 rfl rfl rfl <| Qm rfl <| Q9 3 rfl rfl ?_
  refine JL.fact (fun w hw => elemv_Slot (Mem.ownC (i := 6) rfl w hw) hy10) (fun hf10 => ?_)
  obtain ⟨A10_1, c10_1, he10, bl10_1, bh10_1⟩ := hf10
  refine Qq (p_indexAddr el_26 rfl rfl (by omega) (by omega) rfl) ?_
  refine JL.fact (fun w hw => elem_in cSlot (m := 6) (k := (M.plc (M.Mem.mk mem_rules mem_slots).slots.length (M.posS s).pits (M.posS s).player).toNat) (xs := mem_slots) (fun _ => rfl) (Mem.ownC (i := 6) rfl w hw) len_) (fun hl11 => ?_)
  refine JL.ex3 (fun w hw => St.elemS cSlot (m := 6) (i := 6) (xs := mem_slots) (fun _ => rfl) rfl hy10 he10 hw) (fun f11_1 f11_2 f11_3 => ?_)
  refine znl ?_
  refine JL.pk (cSlot s) [.bool s.used, .slice A9 s.pits.length c9, .int .i64 s.player, .int .i64 s.depth, .int .i64 s.value, .int .i64 s.bound] (fun f12 G12 => ?_)
  refine znl ?_
  refine JL.s (e_storeRow (i := 9) (xs' := setL vsmem_9 (0 + ((M.plc (M.Mem.mk mem_rules mem_slots).slots.length (M.posS s).pits (M.posS s).player).toNat) * 6) [.bool s.used, .slice A9 s.pits.length c9, .int .i64 s.player, .int .i64 s.depth, .int .i64 s.value, .int .i64 s.bound]) ty_45.h rfl rfl rfl rfl rfl rfl (by omega) rfl) ?_
  rintro _ _ _ ⟨rfl, rfl⟩ _
  refine zhl [4, 0, 2] ?_
  refine JL.conv (fun w hw => St.closeE cSlot (k := (M.plc (M.Mem.mk mem_rules mem_slots).slots.length (M.posS s).pits (M.posS s).player).toNat) (m := 6) (xs := mem_slots) (y := s) (vs := vsmem_9) (vs' := (setL vsmem_9 (0 + ((M.plc (M.Mem.mk mem_rules mem_slots).slots.length (M.posS s).pits (M.posS s).player).toNat) * 6) [.bool s.used, .slice A9 s.pits.length c9, .int .i64 s.player, .int .i64 s.depth, .int .i64 s.value, .int .i64 s.bound])) len_ rfl rfl hw) ?_
  refine znl ?_
  refine znl ?_
  refine JL.nil ?_
  refine zrbE [7, 0] hb (Up.refl _ _) ?_
  have hE1 : (M.stoS mem_slots s) = mem_slots.set ((M.plc (M.Mem.mk mem_rules mem_slots).slots.length (M.posS s).pits (M.posS s).player).toNat) s := by first | exact hE9 | rfl
  refine ⟨(setL vsmem_9 (0 + ((M.plc (M.Mem.mk mem_rules mem_slots).slots.length (M.posS s).pits (M.posS s).player).toNat) * 6) [.bool s.used, .slice A9 s.pits.length c9, .int .i64 s.player, .int .i64 s.depth, .int .i64 s.value, .int .i64 s.bound]), (f11_3 ++ f12 ++ f11_2), rfl, ?_⟩
  · exact r5_ hE1
 have hE9 : M.stoS mem_slots s = mem_slots := if_neg (by have h9 := h8; simp only [Bool.or_eq_false_iff, Bool.not_eq_false', decide_eq_false_iff_not] at h9; rintro (h8 | h8); (rw [h9.1] at h8; cases h8); exact h9.2 h8)
 refine Js.skip ?_
 refine zrbE [4, 4] hb (Up.refl _ _) ?_
 have hE1 : (M.stoS mem_slots s) = mem_slots := by first | exact hE9 | rfl
 refine ⟨vsmem_9, fmem_9, rfl, ?_⟩
 · exact r5_ hE1
theorem c_impl_NewMemory (r : M.Rul) {v_r : Value} (size : Int) {w : World} (h_r : (Ty.agg (cRules r)).ok w v_r) : Ret Try.prog 25 [v_r, .int .i64 size] w (Ty.tup [Ty.agg (cMemory ((M.newM r size).1)), Ty.int ((M.newM r size).2)]) := by
 revert v_r; apply opn
 refine enter @Try.func25 @Try.ntmps25 rfl rfl ?_
 refine zent ?_
 refine zS <| zb rfl fun b1 => za zeh fun b2 => Qa rfl <| zJ <| zS <| Q9 1 rfl rfl ?_
 refine zv rfl (fun w hw => c_impl_ValidRules r (ok_ hw)) <| Qt rfl <| JL.nil ?_
 refine zi (fun h3 h3' => ?_) fun h3 h3' => ?_
 ·
  have hE := M.newM_1 (n := size) (by simpa using h3)
  have hq0 : 0 = (((M.newM r size).1).rules).pits := by first | (rw [hE]; done) | (rw [hE]; rfl) | (rw [hE]; assumption)
  have hq1 : 0 = (((M.newM r size).1).rules).seeds := by first | (rw [hE]; done) | (rw [hE]; rfl) | (rw [hE]; assumption)
  have hq2 : false = (((M.newM r size).1).rules).stores := by first | (rw [hE]; done) | (rw [hE]; rfl) | (rw [hE]; assumption)
  have hq3 : false = (((M.newM r size).1).rules).skip := by first | (rw [hE]; done) | (rw [hE]; rfl) | (rw [hE]; assumption)
  have hq4 : false = (((M.newM r size).1).rules).relay := by first | (rw [hE]; done) | (rw [hE]; rfl) | (rw [hE]; assumption)
  have hq5 : false = (((M.newM r size).1).rules).feed := by first | (rw [hE]; done) | (rw [hE]; rfl) | (rw [hE]; assumption)
  have hq6 : false = (((M.newM r size).1).rules).again := by first | (rw [hE]; done) | (rw [hE]; rfl) | (rw [hE]; assumption)
  have hq7 : 0 = (((M.newM r size).1).rules).capture := by first | (rw [hE]; done) | (rw [hE]; rfl) | (rw [hE]; assumption)
  have hq8 : 0 = (((M.newM r size).1).rules).slam := by first | (rw [hE]; done) | (rw [hE]; rfl) | (rw [hE]; assumption)
  have hq9 : [] = ((M.newM r size).1).slots := by first | (rw [hE]; done) | (rw [hE]; rfl) | (rw [hE]; assumption)
  have hq10 : 1 = (M.newM r size).2 := by first | (rw [hE]; done) | (rw [hE]; rfl) | (rw [hE]; assumption)
  refine zS <| Qb ?_
  refine zw 0 rfl rfl rfl ?_
  refine Qa rfl <| JL.nil ?_
  exact zro (Up.refl _ _)
 have hr9 : M.okR r = true := by simpa using h3
 refine Js.skip <| Js.seq <| zS <| Qm rfl <| zv rfl (fun w hw => c_impl_between size 1 64) <| Qt rfl <| JL.nil ?_
 refine zi (fun h4 h4' => ?_) fun h4 h4' => ?_
 ·
  have hE := M.newM_2 hr9 (by simpa using h4)
  have hq0 : 0 = (((M.newM r size).1).rules).pits := by first | (rw [hE]; done) | (rw [hE]; rfl) | (rw [hE]; assumption)
  have hq1 : 0 = (((M.newM r size).1).rules).seeds := by first | (rw [hE]; done) | (rw [hE]; rfl) | (rw [hE]; assumption)
  have hq2 : false = (((M.newM r size).1).rules).stores := by first | (rw [hE]; done) | (rw [hE]; rfl) | (rw [hE]; assumption)
  have hq3 : false = (((M.newM r size).1).rules).skip := by first | (rw [hE]; done) | (rw [hE]; rfl) | (rw [hE]; assumption)
  have hq4 : false = (((M.newM r size).1).rules).relay := by first | (rw [hE]; done) | (rw [hE]; rfl) | (rw [hE]; assumption)
  have hq5 : false = (((M.newM r size).1).rules).feed := by first | (rw [hE]; done) | (rw [hE]; rfl) | (rw [hE]; assumption)
  have hq6 : false = (((M.newM r size).1).rules).again := by first | (rw [hE]; done) | (rw [hE]; rfl) | (rw [hE]; assumption)
  have hq7 : 0 = (((M.newM r size).1).rules).capture := by first | (rw [hE]; done) | (rw [hE]; rfl) | (rw [hE]; assumption)
  have hq8 : 0 = (((M.newM r size).1).rules).slam := by first | (rw [hE]; done) | (rw [hE]; rfl) | (rw [hE]; assumption)
  have hq9 : [] = ((M.newM r size).1).slots := by first | (rw [hE]; done) | (rw [hE]; rfl) | (rw [hE]; assumption)
  have hq10 : 2 = (M.newM r size).2 := by first | (rw [hE]; done) | (rw [hE]; rfl) | (rw [hE]; assumption)
  refine zS <| Qb ?_
  refine zw 0 rfl rfl rfl ?_
  refine Qa rfl <| JL.nil ?_
  exact zro (Up.refl _ _)
 have hb9 : M.betw size 1 64 = true := by simpa using h4
 obtain ⟨s0, s1⟩ := M.betw_iff.1 hb9
 have hE := M.newM_0 hr9 hb9
 refine Js.skip <| Js.seq ?_
 refine zdr [4] ?_
 refine JH.q 0 rfl (L9 1 rfl rfl) ?_
 refine jM 1 rfl rfl ?_
 refine y1 2 ?_
 refine ymkL cSlot lSlot M.Slo.zero rfl (a0 := size) (m := size.toNat) (by omega) (by omega) zown_Slot ?_
 intro b5 xs6 hx6
 have hl6 : xs6.length = size.toNat := by rw [hx6]; exact List.length_replicate
 refine JH.p 3 rfl (q_bld) ?_
 refine y1 4 ?_
 refine yst rfl rfl rfl ?_
 refine jA 5 rfl rfl ?_
 refine yd ?_
 have hq0 : r.pits = (((M.newM r size).1).rules).pits := by first | (rw [hE]; done) | (rw [hE]; rfl) | (rw [hE]; assumption)
 have hq1 : r.seeds = (((M.newM r size).1).rules).seeds := by first | (rw [hE]; done) | (rw [hE]; rfl) | (rw [hE]; assumption)
 have hq2 : r.stores = (((M.newM r size).1).rules).stores := by first | (rw [hE]; done) | (rw [hE]; rfl) | (rw [hE]; assumption)
 have hq3 : r.skip = (((M.newM r size).1).rules).skip := by first | (rw [hE]; done) | (rw [hE]; rfl) | (rw [hE]; assumption)
 have hq4 : r.relay = (((M.newM r size).1).rules).relay := by first | (rw [hE]; done) | (rw [hE]; rfl) | (rw [hE]; assumption)
 have hq5 : r.feed = (((M.newM r size).1).rules).feed := by first | (rw [hE]; done) | (rw [hE]; rfl) | (rw [hE]; assumption)
 have hq6 : r.again = (((M.newM r size).1).rules).again := by first | (rw [hE]; done) | (rw [hE]; rfl) | (rw [hE]; assumption)
 have hq7 : r.capture = (((M.newM r size).1).rules).capture := by first | (rw [hE]; done) | (rw [hE]; rfl) | (rw [hE]; assumption)
 have hq8 : r.slam = (((M.newM r size).1).rules).slam := by first | (rw [hE]; done) | (rw [hE]; rfl) | (rw [hE]; assumption)
 have hq9 : xs6 = ((M.newM r size).1).slots := by first | (rw [hE]; done) | (rw [hE]; rfl) | (rw [hE]; assumption)
 have hq10 : 0 = (M.newM r size).2 := by first | (rw [hE]; done) | (rw [hE]; rfl) | (rw [hE]; assumption)
 exact zro (Up.refl _ _)
theorem c_impl_FilledSlots (mem : M.Mem) {v_mem : Value} {w : World} (h_mem : (Ty.agg (cMemory mem)).ok w v_mem) (r0 : mem.slots.length ≤ 4194304 := by exact om_) (r1 : ∀ x ∈ mem.slots, x.pits.length ≤ 4194304 := by exact om_) : RetV Try.prog 15 [v_mem] w (.tuple #[.int .i64 (M.filM mem), .int .i64 (M.okMC mem)]) := by
 revert v_mem; apply opn
 intro A1 c1 h1 bl1 bh1
 refine enter @Try.func15 @Try.ntmps15 rfl rfl ?_
 refine zent ?_
 refine zS <| zb rfl fun b2 => Qa rfl <| Qa rfl <| zJ <| zS <| Q9 0 rfl rfl ?_
 refine zv rfl (fun w hw => c_impl_ValidMemory mem (ok_ hw) (r1 := r1)) <| Qt rfl <| JL.nil ?_
 refine zi (fun h3 h3' => ?_) fun h3 h3' => ?_
 ·
  obtain ⟨hE, hE2⟩ := M.filM_1 (m := mem) (by simpa using h3)
  refine zS <| Qa rfl <| Qa rfl <| JL.nil ?_
  refine zR (Up.refl _ _) ?_
  first | (rw [hE, hE2]; rfl) | (rw [hE, hE2, hN, hA]; rfl)
 have hok : M.okM mem = true := by simpa using h3
 obtain ⟨hE, hE2⟩ := M.filM_0 hok
 refine Js.skip <| zS <| Qa rfl <| zJ <| zS <| Qf fh rfl <| Q0 0 rfl rfl rfl <| Qz rfl <| Qm rfl <| JL.nil <| Js.block ?_
 refine zl [11, 12] (fun F U l os u m => ∃ (k : Nat) (n : Int), l = F [(4, .int .i64 n), (13, .int .i64 (k : Int))] ∧ os = U [] ∧ (n = M.cntS (·.used) (mem.slots.take k)) ∧ (k ≤ mem.slots.length) ∧ m = mem.slots.length - k) ⟨0, 0, rfl, rfl, by rfl, zt, rfl⟩ ?_
 rintro _ _ u4 _ ⟨k, n, rfl, rfl, hN, hk, rfl⟩ x4
 refine zn ?_
 have hcb := M.cntS_tk (·.used) mem.slots k
 refine zS <| Ql rfl rfl <| zJ ?_
 refine zi (fun h5 h5' => ?_) fun h5 h5' => ?_
 ·
  have hkk : k < mem.slots.length := by have := h5'; omega
  have hy6 : mem.slots[k]? = some (M.slo mem.slots k) := M.slo_get (by omega)
  obtain ⟨b6, o6, A6_1, c6_1, he6, hr6, h6_1, bl6_1, bh6_1⟩ := elem_Slot (Ty.mono _ h1 x4.vis) hy6
  refine Js.skip <| Js.seq <| Js.block <| zS <| Qq (p_indexAddr el_26 rfl rfl (by omega) (by omega) he6) <| QS 0 hr6 rfl ?_
  refine za zeh fun b7 => zw 0 rfl rfl rfl ?_
  refine zN <| Qf fh rfl <| Q0 0 rfl rfl rfl <| JL.nil ?_
  refine zi (fun h8 h8' => ?_) fun h8 h8' => ?_
  ·
   have hu9 : (M.slo mem.slots k).used = true := h8
   refine Js.region <| Qm rfl <| Qp rfl rfl <| Qa rfl <| JL.nil <| Js.blockEnd <| Js.region <| Qp rfl rfl <| Qm rfl <| JL.nil ?_
   refine zd [1] rfl fun u9 x9 => ?_
   exact zag ⟨k + 1, n + 1, rfl, rfl, by first | (rw [M.cntS_y hkk ‹_›, hN]; done) | (rw [M.cntS_n hkk ‹_›, hN]; done), zt, rfl⟩ (x4.trans x9)
  have hu9 : (M.slo mem.slots k).used = false := h8
  refine Js.skip <| Js.blockEnd <| Js.region <| Qp rfl rfl <| Qm rfl <| JL.nil ?_
  refine zd [1] rfl fun u10 x10 => ?_
  exact zag ⟨k + 1, n, rfl, rfl, by first | (rw [M.cntS_y hkk ‹_›, hN]; done) | (rw [M.cntS_n hkk ‹_›, hN]; done), zt, rfl⟩ (x4.trans x10)
 have hA := M.cntS_all (q := (·.used)) (l := mem.slots) (k := k) (by have := h5'; omega)
 refine zx ?_
 refine zS <| Qm rfl <| Qa rfl <| Qa rfl <| JL.nil ?_
 refine zR x4 ?_
 first | (rw [hE, hE2]; rfl) | (rw [hE, hE2, hN, hA]; rfl)
theorem c_impl_ForgetShallow (mem : M.Mem) {v_mem : Value} (depth : Int) {w : World} (h_mem : (Ty.agg (cMemory mem)).ok w v_mem) (r0 : mem.slots.length ≤ 4194304 := by exact om_) (r1 : ∀ x ∈ mem.slots, x.pits.length ≤ 4194304 := by exact om_) : Ret Try.prog 18 [v_mem, .int .i64 depth] w (Ty.tup [Ty.agg (cMemory ((M.forM_ mem depth).1)), Ty.int ((M.forM_ mem depth).2)]) := by
 revert v_mem; apply opn
 intro A1 c1 h1 bl1 bh1
 refine enter @Try.func18 @Try.ntmps18 rfl rfl ?_
 refine zent ?_
 refine zS <| zb rfl fun b2 => za zeh fun b3 => Qa rfl <| zJ <| zS <| Q9 1 rfl rfl ?_
 refine zv rfl (fun w hw => c_impl_ValidMemory mem (ok_ hw) (r1 := r1)) <| Qt rfl <| JL.nil ?_
 refine zi (fun h4 h4' => ?_) fun h4 h4' => ?_
 ·
  have hE := M.forM_1 (m := mem) (d := depth) (by simpa using h4)
  have hq0 : 0 = (((M.forM_ mem depth).1).rules).pits := by first | (rw [hE]; done) | (rw [hE]; rfl) | (rw [hE]; exact hS)
  have hq1 : 0 = (((M.forM_ mem depth).1).rules).seeds := by first | (rw [hE]; done) | (rw [hE]; rfl) | (rw [hE]; exact hS)
  have hq2 : false = (((M.forM_ mem depth).1).rules).stores := by first | (rw [hE]; done) | (rw [hE]; rfl) | (rw [hE]; exact hS)
  have hq3 : false = (((M.forM_ mem depth).1).rules).skip := by first | (rw [hE]; done) | (rw [hE]; rfl) | (rw [hE]; exact hS)
  have hq4 : false = (((M.forM_ mem depth).1).rules).relay := by first | (rw [hE]; done) | (rw [hE]; rfl) | (rw [hE]; exact hS)
  have hq5 : false = (((M.forM_ mem depth).1).rules).feed := by first | (rw [hE]; done) | (rw [hE]; rfl) | (rw [hE]; exact hS)
  have hq6 : false = (((M.forM_ mem depth).1).rules).again := by first | (rw [hE]; done) | (rw [hE]; rfl) | (rw [hE]; exact hS)
  have hq7 : 0 = (((M.forM_ mem depth).1).rules).capture := by first | (rw [hE]; done) | (rw [hE]; rfl) | (rw [hE]; exact hS)
  have hq8 : 0 = (((M.forM_ mem depth).1).rules).slam := by first | (rw [hE]; done) | (rw [hE]; rfl) | (rw [hE]; exact hS)
  have hq9 : [] = ((M.forM_ mem depth).1).slots := by first | (rw [hE]; done) | (rw [hE]; rfl) | (rw [hE]; exact hS)
  have hq10 : 1 = (M.forM_ mem depth).2 := by first | (rw [hE]; done) | (rw [hE]; rfl) | (rw [hE]; exact hS)
  refine zS <| Qb ?_
  refine zw 0 rfl rfl rfl ?_
  refine Qa rfl <| JL.nil ?_
  exact zro (Up.refl _ _)
 have hok : M.okM mem = true := by simpa using h4
 refine Js.skip <| Js.seq <| zS <| Qm rfl <| zv rfl (fun w hw => c_impl_between depth 0 9) <| Qt rfl <| JL.nil ?_
 refine zi (fun h5 h5' => ?_) fun h5 h5' => ?_
 ·
  have hE := M.forM_2 hok (by simpa using h5)
  have hq0 : 0 = (((M.forM_ mem depth).1).rules).pits := by first | (rw [hE]; done) | (rw [hE]; rfl) | (rw [hE]; exact hS)
  have hq1 : 0 = (((M.forM_ mem depth).1).rules).seeds := by first | (rw [hE]; done) | (rw [hE]; rfl) | (rw [hE]; exact hS)
  have hq2 : false = (((M.forM_ mem depth).1).rules).stores := by first | (rw [hE]; done) | (rw [hE]; rfl) | (rw [hE]; exact hS)
  have hq3 : false = (((M.forM_ mem depth).1).rules).skip := by first | (rw [hE]; done) | (rw [hE]; rfl) | (rw [hE]; exact hS)
  have hq4 : false = (((M.forM_ mem depth).1).rules).relay := by first | (rw [hE]; done) | (rw [hE]; rfl) | (rw [hE]; exact hS)
  have hq5 : false = (((M.forM_ mem depth).1).rules).feed := by first | (rw [hE]; done) | (rw [hE]; rfl) | (rw [hE]; exact hS)
  have hq6 : false = (((M.forM_ mem depth).1).rules).again := by first | (rw [hE]; done) | (rw [hE]; rfl) | (rw [hE]; exact hS)
  have hq7 : 0 = (((M.forM_ mem depth).1).rules).capture := by first | (rw [hE]; done) | (rw [hE]; rfl) | (rw [hE]; exact hS)
  have hq8 : 0 = (((M.forM_ mem depth).1).rules).slam := by first | (rw [hE]; done) | (rw [hE]; rfl) | (rw [hE]; exact hS)
  have hq9 : [] = ((M.forM_ mem depth).1).slots := by first | (rw [hE]; done) | (rw [hE]; rfl) | (rw [hE]; exact hS)
  have hq10 : 2 = (M.forM_ mem depth).2 := by first | (rw [hE]; done) | (rw [hE]; rfl) | (rw [hE]; exact hS)
  refine zS <| Qb ?_
  refine zw 0 rfl rfl rfl ?_
  refine Qa rfl <| JL.nil ?_
  exact zro (Up.refl _ _)
 have hE := M.forM_0 hok (by simpa using h5)
 refine Js.skip <| zS <| Q9 1 rfl rfl ?_
 refine zc rfl (fun w hw => c_impl_Memory_copied mem (ok_ hw) (r1 := r1)) ?_
 intro A7 c7 vs7 f7 bl7 bh7
 refine za zeh fun b8 => zw 0 rfl rfl rfl ?_
 refine zJ <| zS <| Qf fh rfl <| Q0 0 rfl rfl rfl <| Qz rfl <| Qm rfl <| JL.nil <| Js.block ?_
 refine zl [1, 4, 6, 20, 21] (fun F U l os u m => ∃ (k : Nat) (sl : List M.Slo) (vs9_1 : List Value) (fl9_1 : List Nat), l = F [(22, .int .i64 (k : Int))] ∧ os = U [nO, some (rowO 45 6 (.slice A7 mem.slots.length c7) mem.slots.length vs9_1 []), some (ownC (lSlot sl) vs9_1 fl9_1)] ∧ (sl = M.forK depth mem.slots k) ∧ (k ≤ mem.slots.length) ∧ (sl.length = mem.slots.length) ∧ m = mem.slots.length - k) ⟨0, mem.slots, _, _, rfl, rfl, by exact M.forK_zero _ _, zt, by rfl, rfl⟩ ?_
 rintro _ _ u9 _ ⟨k, sl, vs9_1, fl9_1, rfl, rfl, hA, hk, hl, rfl⟩ x9
 refine zn ?_
 refine zS <| Ql rfl rfl <| zJ ?_
 refine zi (fun h10 h10' => ?_) fun h10 h10' => ?_
 ·
  have hkk : k < mem.slots.length := by have := h10'; omega
  have hg9 : M.slo sl k = M.slo mem.slots k := by rw [hA]; exact M.forK_get hkk
  refine Js.skip <| Js.seq <| Js.block <| zS <| Qm rfl ?_
  refine JL.fact (row_some (i := 1) rfl (by omega)) (fun hf12 => ?_)
  obtain ⟨b12, rfl⟩ := hf12
  have hy11 : sl[k]? = some (M.slo sl k) := M.slo_get len_
  refine JL.fact (fun w hw => elemv_Slot (Mem.ownC (i := 2) rfl w hw) hy11) (fun hf11 => ?_)
  obtain ⟨A11_1, c11_1, he11, bl11_1, bh11_1⟩ := hf11
  refine Qq (p_indexAddr el_26 rfl rfl (by omega) (by omega) rfl) <| Qw (q_loadN ty_45.h rfl (Mem.rowR' (i := 1) rfl he11) rfl rfl) <| za zeh fun b13 => Qa rfl <| zw 0 rfl rfl rfl ?_
  refine zN <| Qf fh rfl <| Q0 0 rfl rfl rfl <| Qm rfl <| zg (Gd.t1 rfl rfl rfl) (fun hc => p_fieldAddr fld_45_3.h rfl) <| zgq (Gd.t1 rfl rfl rfl) (fun hc => q_load1 ty_2.h (gh hc rfl) (Mem.box (i := 0) rfl rfl)) <| zg (Gd.t1 rfl rfl rfl) (fun hc => p_move rfl) <| zg (Gd.t1 rfl rfl rfl) (fun hc => p_lss (gh hc rfl) (gh hc rfl)) <| Qq (p_pickAnd rfl rfl rfl) <| JL.nil ?_
  refine zi (fun h14 h14' => ?_) fun h14 h14' => ?_
  ·
   have hc9 : (M.slo sl k).used = true ∧ (M.slo sl k).depth < depth := by have h9 := h14; simpa using h9
   rw [hg9] at hc9
   have hA2 := M.forK_y hkk (M.forS_y hc9.1 hc9.2)
   rw [← hA] at hA2
   have hy15 : sl[k]? = some (M.slo sl k) := M.slo_get len_
   refine Js.region <| Qf fh rfl <| Q0 1 rfl rfl rfl <| Qm rfl <| Qb ?_
   refine JL.fact (fun w hw => elemv_Slot (Mem.ownC (i := 3) rfl w hw) hy15) (fun hf15 => ?_)
   obtain ⟨A15_1, c15_1, he15, bl15_1, bh15_1⟩ := hf15
   refine Qq (p_indexAddr el_26 rfl rfl (by omega) (by omega) rfl) ?_
   refine JL.fact (fun w hw => elem_in cSlot (m := 6) (k := k) (xs := sl) (fun _ => rfl) (Mem.ownC (i := 3) rfl w hw) len_) (fun hl16 => ?_)
   refine JL.ex3 (fun w hw => St.elemS cSlot (m := 6) (i := 3) (xs := sl) (fun _ => rfl) rfl hy15 he15 hw) (fun f16_1 f16_2 f16_3 => ?_)
   refine znl ?_
   refine JL.pk (cSlot (M.Slo.mk false [] 0 0 0 0)) [.bool false, .slice none 0 0, .int .i64 0, .int .i64 0, .int .i64 0, .int .i64 0] (fun f17 G17 => ?_)
   refine znl ?_
   refine JL.s (e_storeRow (i := 7) (xs' := setL vs9_1 (0 + k * 6) [.bool false, .slice none 0 0, .int .i64 0, .int .i64 0, .int .i64 0, .int .i64 0]) ty_45.h rfl rfl rfl rfl rfl rfl (by omega) rfl) ?_
   rintro _ _ _ ⟨rfl, rfl⟩ _
   refine zhl [4, 0, 2] ?_
   refine JL.conv (fun w hw => St.closeE cSlot (k := k) (m := 6) (xs := sl) (y := (M.Slo.mk false [] 0 0 0 0)) (vs := vs9_1) (vs' := (setL vs9_1 (0 + k * 6) [.bool false, .slice none 0 0, .int .i64 0, .int .i64 0, .int .i64 0, .int .i64 0])) len_ rfl rfl hw) ?_
   refine znl ?_
   refine znl ?_
   refine JL.nil <| Js.blockEnd <| Js.region <| Qp rfl rfl <| Qm rfl <| JL.nil ?_
   refine zd [4, 4, 0, 3, 3] rfl fun u18 x18 => ?_
   exact zag ⟨k + 1, sl.set k (M.Slo.mk false [] 0 0 0 0), _, _, rfl, rfl, by first | exact hA2 | (rw [hA]; exact hA2), zt, by first | exact hl | (rw [List.length_set]; exact hl), rfl⟩ (x9.trans x18)
  have hc9 : (M.slo sl k).used = false ∨ ¬ (M.slo sl k).depth < depth := by have h9 := h14; cases hu9 : (M.slo sl k).used with | false => exact Or.inl rfl | true => exact Or.inr (by rw [hu9] at h9; simpa using h9)
  rw [hg9] at hc9
  have hA2 := M.forK_n hkk (M.forS_n hc9)
  refine Js.skip <| Js.blockEnd <| Js.region <| Qp rfl rfl <| Qm rfl <| JL.nil ?_
  refine zd [1, 1, 1, 1, 1] rfl fun u19 x19 => ?_
  exact zag ⟨k + 1, sl, _, _, rfl, rfl, by first | exact hA2 | (rw [hA]; exact hA2), zt, by first | exact hl | (rw [List.length_set]; exact hl), rfl⟩ (x9.trans x19)
 have hS : sl = mem.slots.map (M.forS depth) := by rw [hA]; exact M.forK_all (by have := h10'; omega)
 refine zx ?_
 have hq0 : mem.rules.pits = (((M.forM_ mem depth).1).rules).pits := by first | (rw [hE]; done) | (rw [hE]; rfl) | (rw [hE]; exact hS)
 have hq1 : mem.rules.seeds = (((M.forM_ mem depth).1).rules).seeds := by first | (rw [hE]; done) | (rw [hE]; rfl) | (rw [hE]; exact hS)
 have hq2 : mem.rules.stores = (((M.forM_ mem depth).1).rules).stores := by first | (rw [hE]; done) | (rw [hE]; rfl) | (rw [hE]; exact hS)
 have hq3 : mem.rules.skip = (((M.forM_ mem depth).1).rules).skip := by first | (rw [hE]; done) | (rw [hE]; rfl) | (rw [hE]; exact hS)
 have hq4 : mem.rules.relay = (((M.forM_ mem depth).1).rules).relay := by first | (rw [hE]; done) | (rw [hE]; rfl) | (rw [hE]; exact hS)
 have hq5 : mem.rules.feed = (((M.forM_ mem depth).1).rules).feed := by first | (rw [hE]; done) | (rw [hE]; rfl) | (rw [hE]; exact hS)
 have hq6 : mem.rules.again = (((M.forM_ mem depth).1).rules).again := by first | (rw [hE]; done) | (rw [hE]; rfl) | (rw [hE]; exact hS)
 have hq7 : mem.rules.capture = (((M.forM_ mem depth).1).rules).capture := by first | (rw [hE]; done) | (rw [hE]; rfl) | (rw [hE]; exact hS)
 have hq8 : mem.rules.slam = (((M.forM_ mem depth).1).rules).slam := by first | (rw [hE]; done) | (rw [hE]; rfl) | (rw [hE]; exact hS)
 have hq9 : sl = ((M.forM_ mem depth).1).slots := by first | (rw [hE]; done) | (rw [hE]; rfl) | (rw [hE]; exact hS)
 have hq10 : 0 = (M.forM_ mem depth).2 := by first | (rw [hE]; done) | (rw [hE]; rfl) | (rw [hE]; exact hS)
 refine zS <| Q9 0 rfl rfl ?_
 refine zw 3 rfl rfl rfl ?_
 refine Qa rfl <| JL.nil ?_
 exact zro x9
theorem c_impl_MergeMemories (a : M.Mem) {v_a : Value} (b : M.Mem) {v_b : Value} {w : World} (h_a : (Ty.agg (cMemory a)).ok w v_a) (h_b : (Ty.agg (cMemory b)).ok w v_b) (r0 : a.slots.length ≤ 4194304 := by exact om_) (r1 : ∀ x ∈ a.slots, x.pits.length ≤ 4194304 := by exact om_) (r2 : b.slots.length ≤ 4194304 := by exact om_) (r3 : ∀ x ∈ b.slots, x.pits.length ≤ 4194304 := by exact om_) : Ret Try.prog 21 [v_a, v_b] w (Ty.tup [Ty.agg (cMemory ((M.mrgM a b).1)), Ty.int ((M.mrgM a b).2)]) := by
 revert v_a; apply opn
 intro A1 c1 h1 bl1 bh1
 revert v_b; apply opn
 intro A2 c2 h2 bl2 bh2
 refine enter @Try.func21 @Try.ntmps21 rfl rfl ?_
 refine zent ?_
 refine zS <| zb rfl fun b3 => zb rfl fun b4 => za zeh fun b5 => Qa rfl <| zJ <| zS <| Q9 2 rfl rfl ?_
 refine zv rfl (fun w hw => c_impl_ValidMemory a (ok_ hw) (r1 := (by first | exact r1 | exact r3))) <| Qt rfl <| Qm rfl <| zgq (Gd.f1 rfl rfl rfl) (fun hc => L9 1 rfl rfl) <| zgv (Gd.f1 rfl rfl rfl) (fun hc => (opds_1 (gh hc rfl))) (fun hc => (fun w hw => c_impl_ValidMemory b (ok_ hw) (r1 := (by first | exact r1 | exact r3)))) ?_
 refine zg (Gd.f1 rfl rfl rfl) (fun hc => p_not (gh hc rfl)) <| Qq (p_pickOr rfl rfl rfl) <| JL.nil ?_
 refine zi (fun h6 h6' => ?_) fun h6 h6' => ?_
 ·
  have hE := M.mrgM_1 (a := a) (b := b) (by have h9 := h6; simpa using h9)
  have hq0 : 0 = (((M.mrgM a b).1).rules).pits := by first | (rw [hE]; done) | (rw [hE]; rfl) | (rw [hE]; exact hS)
  have hq1 : 0 = (((M.mrgM a b).1).rules).seeds := by first | (rw [hE]; done) | (rw [hE]; rfl) | (rw [hE]; exact hS)
  have hq2 : false = (((M.mrgM a b).1).rules).stores := by first | (rw [hE]; done) | (rw [hE]; rfl) | (rw [hE]; exact hS)
  have hq3 : false = (((M.mrgM a b).1).rules).skip := by first | (rw [hE]; done) | (rw [hE]; rfl) | (rw [hE]; exact hS)
  have hq4 : false = (((M.mrgM a b).1).rules).relay := by first | (rw [hE]; done) | (rw [hE]; rfl) | (rw [hE]; exact hS)
  have hq5 : false = (((M.mrgM a b).1).rules).feed := by first | (rw [hE]; done) | (rw [hE]; rfl) | (rw [hE]; exact hS)
  have hq6 : false = (((M.mrgM a b).1).rules).again := by first | (rw [hE]; done) | (rw [hE]; rfl) | (rw [hE]; exact hS)
  have hq7 : 0 = (((M.mrgM a b).1).rules).capture := by first | (rw [hE]; done) | (rw [hE]; rfl) | (rw [hE]; exact hS)
  have hq8 : 0 = (((M.mrgM a b).1).rules).slam := by first | (rw [hE]; done) | (rw [hE]; rfl) | (rw [hE]; exact hS)
  have hq9 : [] = ((M.mrgM a b).1).slots := by first | (rw [hE]; done) | (rw [hE]; rfl) | (rw [hE]; exact hS)
  have hq10 : 1 = (M.mrgM a b).2 := by first | (rw [hE]; done) | (rw [hE]; rfl) | (rw [hE]; exact hS)
  refine zS <| Qb ?_
  refine zw 0 rfl rfl rfl ?_
  refine Qa rfl <| JL.nil ?_
  exact zro (Up.refl _ _)
 have hab : M.okM a = true ∧ M.okM b = true := by have h9 := h6; simpa using h9
 obtain ⟨_, q1_, q2_, _⟩ := M.okM_parts hab.1
 refine Js.skip <| Js.seq <| zS <| Qf fh rfl <| Q9 2 rfl rfl ?_
 refine Qf fh rfl <| Q9 1 rfl rfl ?_
 refine Qq (p_neqS (by kernel_rfl) (fun w => eqs_Rules a.rules b.rules w) rfl rfl) <| Qm rfl <| zg (Gd.f1 rfl rfl rfl) (fun hc => p_fieldAddr fld_28_1.h rfl) <| zgq (Gd.f1 rfl rfl rfl) (fun hc => q_load1 ty_26.h (gh hc rfl) (Mem.box (i := 2) rfl rfl)) <| zg (Gd.f1 rfl rfl rfl) (fun hc => p_len el_26 (gh hc rfl)) <| zg (Gd.f1 rfl rfl rfl) (fun hc => p_fieldAddr fld_28_1.h rfl) <| zgq (Gd.f1 rfl rfl rfl) (fun hc => q_load1 ty_26.h (gh hc rfl) (Mem.box (i := 1) rfl rfl)) <| zg (Gd.f1 rfl rfl rfl) (fun hc => p_len el_26 (gh hc rfl)) <| zg (Gd.f1 rfl rfl rfl) (fun hc => p_neq (gh hc rfl) (gh hc rfl)) <| Qq (p_pickOr rfl rfl rfl) <| JL.nil ?_
 refine zi (fun h7 h7' => ?_) fun h7 h7' => ?_
 ·
  have hE := M.mrgM_6 hab (by have h9 := h7; simpa using h9)
  have hq0 : 0 = (((M.mrgM a b).1).rules).pits := by first | (rw [hE]; done) | (rw [hE]; rfl) | (rw [hE]; exact hS)
  have hq1 : 0 = (((M.mrgM a b).1).rules).seeds := by first | (rw [hE]; done) | (rw [hE]; rfl) | (rw [hE]; exact hS)
  have hq2 : false = (((M.mrgM a b).1).rules).stores := by first | (rw [hE]; done) | (rw [hE]; rfl) | (rw [hE]; exact hS)
  have hq3 : false = (((M.mrgM a b).1).rules).skip := by first | (rw [hE]; done) | (rw [hE]; rfl) | (rw [hE]; exact hS)
  have hq4 : false = (((M.mrgM a b).1).rules).relay := by first | (rw [hE]; done) | (rw [hE]; rfl) | (rw [hE]; exact hS)
  have hq5 : false = (((M.mrgM a b).1).rules).feed := by first | (rw [hE]; done) | (rw [hE]; rfl) | (rw [hE]; exact hS)
  have hq6 : false = (((M.mrgM a b).1).rules).again := by first | (rw [hE]; done) | (rw [hE]; rfl) | (rw [hE]; exact hS)
  have hq7 : 0 = (((M.mrgM a b).1).rules).capture := by first | (rw [hE]; done) | (rw [hE]; rfl) | (rw [hE]; exact hS)
  have hq8 : 0 = (((M.mrgM a b).1).rules).slam := by first | (rw [hE]; done) | (rw [hE]; rfl) | (rw [hE]; exact hS)
  have hq9 : [] = ((M.mrgM a b).1).slots := by first | (rw [hE]; done) | (rw [hE]; rfl) | (rw [hE]; exact hS)
  have hq10 : 6 = (M.mrgM a b).2 := by first | (rw [hE]; done) | (rw [hE]; rfl) | (rw [hE]; exact hS)
  refine zS <| Qb ?_
  refine zw 0 rfl rfl rfl ?_
  refine Qa rfl <| JL.nil ?_
  exact zro (Up.refl _ _)
 have hrl := M.sameM_h (a := a) (b := b) (by have h9 := h7; simpa using h9)
 obtain ⟨hr9, hl9⟩ := hrl
 have hE := M.mrgM_0 hab ⟨hr9, hl9⟩
 refine Js.skip <| zS <| Q9 2 rfl rfl ?_
 refine zc rfl (fun w hw => c_impl_Memory_copied a (ok_ hw) (r1 := r1)) ?_
 intro A9 c9 vs9 f9 bl9 bh9
 refine za zeh fun b10 => zw 0 rfl rfl rfl ?_
 refine zJ <| zS <| Qf fh rfl <| Q0 4 rfl rfl rfl <| Qz rfl <| Qm rfl <| JL.nil <| Js.block ?_
 refine zl [4, 6, 36, 37] (fun F U l os u m => ∃ (k : Nat) (sl : List M.Slo) (vs11_1 : List Value) (fl11_1 : List Nat), l = F [(38, .int .i64 (k : Int))] ∧ os = U [nO, some (rowO 45 6 (.slice A9 a.slots.length c9) a.slots.length vs11_1 []), some (ownC (lSlot sl) vs11_1 fl11_1)] ∧ (sl = M.mrgS a.slots (b.slots.take k)) ∧ (k ≤ b.slots.length) ∧ (sl.length = a.slots.length) ∧ m = b.slots.length - k) ⟨0, a.slots, _, _, rfl, rfl, by rfl, zt, by rfl, rfl⟩ ?_
 rintro _ _ u11 _ ⟨k, sl, vs11_1, fl11_1, rfl, rfl, hA, hk, hl, rfl⟩ x11
 refine zn ?_
 refine zS <| Ql rfl rfl <| zJ ?_
 refine zi (fun h12 h12' => ?_) fun h12 h12' => ?_
 ·
  have hkk : k < b.slots.length := by have := h12'; omega
  have hbs := r3 _ (M.slo_mem hkk)
  have hy13 : b.slots[k]? = some (M.slo b.slots k) := M.slo_get (by omega)
  obtain ⟨b13, o13, A13_1, c13_1, he13, hr13, h13_1, bl13_1, bh13_1⟩ := elem_Slot (Ty.mono _ h2 x11.vis) hy13
  refine Js.skip <| Js.seq <| Js.block <| zS <| Qq (p_indexAddr el_26 rfl rfl (by omega) (by omega) he13) <| QS 0 hr13 rfl ?_
  refine za zeh fun b14 => zw 0 rfl rfl rfl ?_
  refine zN <| Qf fh rfl <| Q0 0 rfl rfl rfl <| JL.nil ?_
  refine zi (fun h15 h15' => ?_) fun h15 h15' => ?_
  ·
   have hu9 : (M.slo b.slots k).used = true := h15
   have hps : M.okP a.rules (M.posS (M.slo b.slots k)) = true := by rw [hr9]; exact (M.okM_used hab.2 hkk hu9).1
   have hA2 := M.mrgS_y (a := a.slots) hkk hu9
   rw [← hA] at hA2
   rw [← hl]
   refine Js.region <| Q9 1 rfl rfl ?_
   refine Q9 0 rfl rfl ?_
   refine zhl [2, 2] ?_
   refine zB 2 sp_ rfl (fun w hb hw => c_impl_Memory_store a.rules sl (M.slo b.slots k) hb (ok_ hw) (r0 := hps)) ?_
   rintro _ _ G16 ⟨vs16mem_w0, f16mem_w0, rfl, rfl⟩
   refine znl ?_
   refine JL.nil <| Js.blockEnd <| Js.region <| Qp rfl rfl <| Qm rfl <| JL.nil ?_
   refine zd [4, 0, 0, 2, 2, 2] rfl fun u17 x17 => ?_
   exact zag ⟨k + 1, (M.stoS sl (M.slo b.slots k)), _, _, rfl, rfl, by first | exact hA2 | (rw [hA]; exact hA2), zt, by first | exact hl | exact M.stoS_len _ _ | (rw [M.stoS_len]; exact hl), rfl⟩ (x11.trans x17)
  have hA2 := M.mrgS_n (a := a.slots) hkk h15
  refine Js.skip <| Js.blockEnd <| Js.region <| Qp rfl rfl <| Qm rfl <| JL.nil ?_
  refine zd [1, 1, 1, 1, 1, 1] rfl fun u18 x18 => ?_
  exact zag ⟨k + 1, sl, _, _, rfl, rfl, by first | exact hA2 | (rw [hA]; exact hA2), zt, by first | exact hl | exact M.stoS_len _ _ | (rw [M.stoS_len]; exact hl), rfl⟩ (x11.trans x18)
 have hS : sl = M.mrgS a.slots b.slots := by rw [hA]; exact M.mrgS_all (by have := h12'; omega)
 refine zx ?_
 have hq0 : a.rules.pits = (((M.mrgM a b).1).rules).pits := by first | (rw [hE]; done) | (rw [hE]; rfl) | (rw [hE]; exact hS)
 have hq1 : a.rules.seeds = (((M.mrgM a b).1).rules).seeds := by first | (rw [hE]; done) | (rw [hE]; rfl) | (rw [hE]; exact hS)
 have hq2 : a.rules.stores = (((M.mrgM a b).1).rules).stores := by first | (rw [hE]; done) | (rw [hE]; rfl) | (rw [hE]; exact hS)
 have hq3 : a.rules.skip = (((M.mrgM a b).1).rules).skip := by first | (rw [hE]; done) | (rw [hE]; rfl) | (rw [hE]; exact hS)
 have hq4 : a.rules.relay = (((M.mrgM a b).1).rules).relay := by first | (rw [hE]; done) | (rw [hE]; rfl) | (rw [hE]; exact hS)
 have hq5 : a.rules.feed = (((M.mrgM a b).1).rules).feed := by first | (rw [hE]; done) | (rw [hE]; rfl) | (rw [hE]; exact hS)
 have hq6 : a.rules.again = (((M.mrgM a b).1).rules).again := by first | (rw [hE]; done) | (rw [hE]; rfl) | (rw [hE]; exact hS)
 have hq7 : a.rules.capture = (((M.mrgM a b).1).rules).capture := by first | (rw [hE]; done) | (rw [hE]; rfl) | (rw [hE]; exact hS)
 have hq8 : a.rules.slam = (((M.mrgM a b).1).rules).slam := by first | (rw [hE]; done) | (rw [hE]; rfl) | (rw [hE]; exact hS)
 have hq9 : sl = ((M.mrgM a b).1).slots := by first | (rw [hE]; done) | (rw [hE]; rfl) | (rw [hE]; exact hS)
 have hq10 : 0 = (M.mrgM a b).2 := by first | (rw [hE]; done) | (rw [hE]; rfl) | (rw [hE]; exact hS)
 refine zS <| Q9 0 rfl rfl ?_
 refine zw 3 rfl rfl rfl ?_
 refine Qa rfl <| JL.nil ?_
 exact zro x11
theorem c_impl_SameMemory (a : M.Mem) {v_a : Value} (b : M.Mem) {v_b : Value} {w : World} (h_a : (Ty.agg (cMemory a)).ok w v_a) (h_b : (Ty.agg (cMemory b)).ok w v_b) (r0 : a.slots.length ≤ 4194304 := by exact om_) (r1 : ∀ x ∈ a.slots, x.pits.length ≤ 4194304 := by exact om_) (r2 : b.slots.length ≤ 4194304 := by exact om_) (r3 : ∀ x ∈ b.slots, x.pits.length ≤ 4194304 := by exact om_) : RetV Try.prog 27 [v_a, v_b] w (.bool (M.sameM a b)) := by
 revert v_a; apply opn
 intro A1 c1 h1 bl1 bh1
 revert v_b; apply opn
 intro A2 c2 h2 bl2 bh2
 refine enter @Try.func27 @Try.ntmps27 rfl rfl ?_
 refine zent ?_
 refine zS <| zb rfl fun b3 => zb rfl fun b4 => Qa rfl <| zJ <| zS <| Qf fh rfl <| Q9 1 rfl rfl ?_
 refine Qf fh rfl <| Q9 0 rfl rfl ?_
 refine Qq (p_neqS (by kernel_rfl) (fun w => eqs_Rules a.rules b.rules w) rfl rfl) <| Qm rfl <| zg (Gd.f1 rfl rfl rfl) (fun hc => p_fieldAddr fld_28_1.h rfl) <| zgq (Gd.f1 rfl rfl rfl) (fun hc => q_load1 ty_26.h (gh hc rfl) (Mem.box (i := 1) rfl rfl)) <| zg (Gd.f1 rfl rfl rfl) (fun hc => p_len el_26 (gh hc rfl)) <| zg (Gd.f1 rfl rfl rfl) (fun hc => p_fieldAddr fld_28_1.h rfl) <| zgq (Gd.f1 rfl rfl rfl) (fun hc => q_load1 ty_26.h (gh hc rfl) (Mem.box (i := 0) rfl rfl)) <| zg (Gd.f1 rfl rfl rfl) (fun hc => p_len el_26 (gh hc rfl)) <| zg (Gd.f1 rfl rfl rfl) (fun hc => p_neq (gh hc rfl) (gh hc rfl)) <| Qq (p_pickOr rfl rfl rfl) <| JL.nil ?_
 refine zi (fun h5 h5' => ?_) fun h5 h5' => ?_
 ·
  have hE := M.sameM_no (a := a) (b := b) (by have h9 := h5; simpa using h9)
  refine zS <| Qa rfl <| JL.nil ?_
  refine zR (Up.refl _ _) ?_
  rw [hE]; rfl
 obtain ⟨hr, hl⟩ : a.rules = b.rules ∧ a.slots.length = b.slots.length := M.sameM_h (by have h9 := h5; simpa using h9)
 refine Js.skip <| Js.seq <| zS <| Qf fh rfl <| Q0 1 rfl rfl rfl <| Qz rfl <| Qm rfl <| JL.nil <| Js.block ?_
 refine zl [2, 3, 22] (fun F U l os u m => ∃ (k : Nat), l = F [(23, .int .i64 (k : Int))] ∧ os = U [] ∧ (k ≤ a.slots.length) ∧ (∀ i : Nat, i < k → M.slo a.slots i = M.slo b.slots i) ∧ m = a.slots.length - k) ⟨0, rfl, rfl, zt, by exact fun i hi => absurd hi (by omega), rfl⟩ ?_
 rintro _ _ u6 _ ⟨k, rfl, rfl, hk, hA, rfl⟩ x6
 refine zn ?_
 refine zS <| Ql rfl rfl <| zJ ?_
 refine zi (fun h7 h7' => ?_) fun h7 h7' => ?_
 ·
  have hkk : k < a.slots.length := by have := h7'; omega
  have ha9 := r1 _ (M.slo_mem (l := a.slots) (k := k) (by omega))
  have hb9 := r3 _ (M.slo_mem (l := b.slots) (k := k) (by omega))
  refine Js.skip <| Js.seq <| Js.block <| zS <| Qm rfl <| Qa rfl <| zJ ?_
  refine zdr [] ?_
  refine jF 0 fld_28_1 rfl rfl ?_
  refine jB 1 1 ty_26 rfl rfl rfl rfl ?_
  refine jM 2 rfl rfl ?_
  have hy8 : a.slots[k]? = some (M.slo a.slots k) := M.slo_get (by omega)
  obtain ⟨b8, o8, A8_1, c8_1, he8, hr8, h8_1, bl8_1, bh8_1⟩ := elem_Slot (Ty.mono _ h1 x6.vis) hy8
  refine jI 3 el_26 rfl rfl rfl he8 ?_
  refine JH.w 4 rfl (fun os' u' hv => LS 0 (hr8.vis hv) rfl) ?_
  refine jF 5 fld_28_1 rfl rfl ?_
  refine jB 6 0 ty_26 rfl rfl rfl rfl ?_
  refine jM 7 rfl rfl ?_
  have hy9 : b.slots[k]? = some (M.slo b.slots k) := M.slo_get (by omega)
  obtain ⟨b9, o9, A9_1, c9_1, he9, hr9, h9_1, bl9_1, bh9_1⟩ := elem_Slot (Ty.mono _ h2 x6.vis) hy9
  refine jI 8 el_26 rfl rfl rfl he9 ?_
  refine JH.w 9 rfl (fun os' u' hv => LS 0 (hr9.vis hv) rfl) ?_
  refine y1 10 ?_
  refine yv rfl rfl (fun w hw => c_impl_sameSlot (M.slo a.slots k) (M.slo b.slots k) (ok_ hw) (ok_ hw) (r0 := (r1 _ (M.slo_mem (by omega)))) (r1 := (r3 _ (M.slo_mem (by omega))))) ?_
  refine JH.p 11 rfl (p_not rfl) ?_
  refine yd ?_
  refine zi (fun h10 h10' => ?_) fun h10 h10' => ?_
  ·
   have hE := M.sameM_x (a := a) (b := b) (k := k) (by have h9 := h10; simpa using h9)
   refine zS <| Qa rfl <| JL.nil ?_
   refine zR x6 ?_
   rw [hE]; rfl
  have hx9 : M.slo a.slots k = M.slo b.slots k := M.sameS_iff.1 (by simpa using h10)
  have hA2 : ∀ i : Nat, i < k + 1 → M.slo a.slots i = M.slo b.slots i := fun i hi => by rcases Nat.lt_succ_iff_lt_or_eq.1 hi with h9 | h9; (exact hA i h9); subst h9; exact hx9
  refine Js.skip <| Js.blockEnd <| Js.region <| Qp rfl rfl <| Qm rfl <| JL.nil ?_
  exact zag ⟨k + 1, rfl, rfl, zt, by exact hA2, rfl⟩ x6
 have hE := M.sameM_y hr hl (fun i hi => hA i (by have := h7'; omega))
 refine zx ?_
 refine zS <| Qa rfl <| JL.nil ?_
 refine zR x6 ?_
 rw [hE]; rfl
theorem c_spec_ForgetShallow (mem : M.Mem) {v_mem : Value} (depth : Int) {w : World} (h_mem : (Ty.agg (cMemory mem)).ok w v_mem) (r0 : mem.slots.length ≤ 4194304 := by exact om_) (r1 : ∀ x ∈ mem.slots, x.pits.length ≤ 4194304 := by exact om_) : Ret Try.prog 19 [v_mem, .int .i64 depth] w (Ty.tup [Ty.agg (cMemory ((M.forM_ mem depth).1)), Ty.int ((M.forM_ mem depth).2)]) := by
 revert v_mem; apply opn
 intro A1 c1 h1 bl1 bh1
 refine enter @Try.func19 @Try.ntmps19 rfl rfl ?_
 refine zent ?_
 refine zS <| zb rfl fun b2 => za zeh fun b3 => Qa rfl <| zJ <| zS <| zv rfl (fun w hw => c_spec_l16Ok mem (ok_ hw) (r1 := r1)) <| Qt rfl <| JL.nil ?_
 refine zi (fun h4 h4' => ?_) fun h4 h4' => ?_
 ·
  have hE := M.forM_1 (m := mem) (d := depth) (by simpa using h4)
  have hq0 : 0 = (((M.forM_ mem depth).1).rules).pits := by first | (rw [hE]; done) | (rw [hE]; rfl) | (rw [hE]; exact hS)
  have hq1 : 0 = (((M.forM_ mem depth).1).rules).seeds := by first | (rw [hE]; done) | (rw [hE]; rfl) | (rw [hE]; exact hS)
  have hq2 : false = (((M.forM_ mem depth).1).rules).stores := by first | (rw [hE]; done) | (rw [hE]; rfl) | (rw [hE]; exact hS)
  have hq3 : false = (((M.forM_ mem depth).1).rules).skip := by first | (rw [hE]; done) | (rw [hE]; rfl) | (rw [hE]; exact hS)
  have hq4 : false = (((M.forM_ mem depth).1).rules).relay := by first | (rw [hE]; done) | (rw [hE]; rfl) | (rw [hE]; exact hS)
  have hq5 : false = (((M.forM_ mem depth).1).rules).feed := by first | (rw [hE]; done) | (rw [hE]; rfl) | (rw [hE]; exact hS)
  have hq6 : false = (((M.forM_ mem depth).1).rules).again := by first | (rw [hE]; done) | (rw [hE]; rfl) | (rw [hE]; exact hS)
  have hq7 : 0 = (((M.forM_ mem depth).1).rules).capture := by first | (rw [hE]; done) | (rw [hE]; rfl) | (rw [hE]; exact hS)
  have hq8 : 0 = (((M.forM_ mem depth).1).rules).slam := by first | (rw [hE]; done) | (rw [hE]; rfl) | (rw [hE]; exact hS)
  have hq9 : [] = ((M.forM_ mem depth).1).slots := by first | (rw [hE]; done) | (rw [hE]; rfl) | (rw [hE]; exact hS)
  have hq10 : 1 = (M.forM_ mem depth).2 := by first | (rw [hE]; done) | (rw [hE]; rfl) | (rw [hE]; exact hS)
  refine zS <| Qb ?_
  refine zw 0 rfl rfl rfl ?_
  refine Qa rfl <| JL.nil ?_
  exact zro (Up.refl _ _)
 have hok : M.okM mem = true := by simpa using h4
 refine Js.skip <| Js.seq <| zS <| Qm rfl <| zv rfl (fun w hw => c_spec_l00In depth 0 9) <| Qt rfl <| JL.nil ?_
 refine zi (fun h5 h5' => ?_) fun h5 h5' => ?_
 ·
  have hE := M.forM_2 hok (by simpa using h5)
  have hq0 : 0 = (((M.forM_ mem depth).1).rules).pits := by first | (rw [hE]; done) | (rw [hE]; rfl) | (rw [hE]; exact hS)
  have hq1 : 0 = (((M.forM_ mem depth).1).rules).seeds := by first | (rw [hE]; done) | (rw [hE]; rfl) | (rw [hE]; exact hS)
  have hq2 : false = (((M.forM_ mem depth).1).rules).stores := by first | (rw [hE]; done) | (rw [hE]; rfl) | (rw [hE]; exact hS)
  have hq3 : false = (((M.forM_ mem depth).1).rules).skip := by first | (rw [hE]; done) | (rw [hE]; rfl) | (rw [hE]; exact hS)
  have hq4 : false = (((M.forM_ mem depth).1).rules).relay := by first | (rw [hE]; done) | (rw [hE]; rfl) | (rw [hE]; exact hS)
  have hq5 : false = (((M.forM_ mem depth).1).rules).feed := by first | (rw [hE]; done) | (rw [hE]; rfl) | (rw [hE]; exact hS)
  have hq6 : false = (((M.forM_ mem depth).1).rules).again := by first | (rw [hE]; done) | (rw [hE]; rfl) | (rw [hE]; exact hS)
  have hq7 : 0 = (((M.forM_ mem depth).1).rules).capture := by first | (rw [hE]; done) | (rw [hE]; rfl) | (rw [hE]; exact hS)
  have hq8 : 0 = (((M.forM_ mem depth).1).rules).slam := by first | (rw [hE]; done) | (rw [hE]; rfl) | (rw [hE]; exact hS)
  have hq9 : [] = ((M.forM_ mem depth).1).slots := by first | (rw [hE]; done) | (rw [hE]; rfl) | (rw [hE]; exact hS)
  have hq10 : 2 = (M.forM_ mem depth).2 := by first | (rw [hE]; done) | (rw [hE]; rfl) | (rw [hE]; exact hS)
  refine zS <| Qb ?_
  refine zw 0 rfl rfl rfl ?_
  refine Qa rfl <| JL.nil ?_
  exact zro (Up.refl _ _)
 have hE := M.forM_0 hok (by simpa using h5)
 refine Js.skip <| zS <| zc rfl (fun w hw => c_spec_l16Own mem (ok_ hw) (r1 := r1)) ?_
 intro A7 c7 vs7 f7 bl7 bh7
 refine za zeh fun b8 => zw 0 rfl rfl rfl ?_
 refine zJ <| zS <| Qa rfl <| JL.nil <| Js.block ?_
 refine zl [1, 4, 6] (fun F U l os u m => ∃ (k : Nat) (sl : List M.Slo) (vs9_1 : List Value) (fl9_1 : List Nat), l = F [(7, .int .i64 (k : Int))] ∧ os = U [nO, some (rowO 45 6 (.slice A7 mem.slots.length c7) mem.slots.length vs9_1 []), some (ownC (lSlot sl) vs9_1 fl9_1)] ∧ (sl = M.forK depth mem.slots k) ∧ (k ≤ mem.slots.length) ∧ (sl.length = mem.slots.length) ∧ m = mem.slots.length - k) ⟨0, mem.slots, _, _, rfl, rfl, by exact M.forK_zero _ _, zt, by rfl, rfl⟩ ?_
 rintro _ _ u9 _ ⟨k, sl, vs9_1, fl9_1, rfl, rfl, hA, hk, hl, rfl⟩ x9
 refine zn ?_
 refine Js.seq <| zS <| Qm rfl <| Qf fh rfl <| Q0 0 rfl rfl rfl <| Qz rfl <| Ql rfl rfl <| JL.nil ?_
 refine zi (fun h10 h10' => ?_) fun h10 h10' => ?_
 ·
  have hkk : k < mem.slots.length := by have := h10'; omega
  have hg9 : M.slo sl k = M.slo mem.slots k := by rw [hA]; exact M.forK_get hkk
  refine Js.skip <| Js.seq <| Js.block <| zS <| Qf fh rfl <| Q0 0 rfl rfl rfl <| Qm rfl ?_
  refine JL.fact (row_some (i := 1) rfl (by omega)) (fun hf12 => ?_)
  obtain ⟨b12, rfl⟩ := hf12
  have hy11 : sl[k]? = some (M.slo sl k) := M.slo_get len_
  refine JL.fact (fun w hw => elemv_Slot (Mem.ownC (i := 2) rfl w hw) hy11) (fun hf11 => ?_)
  obtain ⟨A11_1, c11_1, he11, bl11_1, bh11_1⟩ := hf11
  refine Qq (p_indexAddr el_26 rfl rfl (by omega) (by omega) rfl) <| Qf fh rfl <| Qw (q_load1 ty_2.h rfl (fun w hw => (Mem.rowR' (i := 1) rfl he11 w hw) 3 _ rfl)) <| Qm rfl <| Ql rfl rfl <| JL.nil ?_
  refine zi (fun h13 h13' => ?_) fun h13 h13' => ?_
  ·
   have hc9 : (M.slo sl k).depth < depth := h13'
   rw [hg9] at hc9
   have hA2 := M.forK_y hkk (M.forS_d hok hkk hc9)
   rw [← hA] at hA2
   have hy14 : sl[k]? = some (M.slo sl k) := M.slo_get len_
   refine Js.region <| Qf fh rfl <| Q0 0 rfl rfl rfl <| Qm rfl <| Qb ?_
   refine JL.fact (fun w hw => elemv_Slot (Mem.ownC (i := 2) rfl w hw) hy14) (fun hf14 => ?_)
   obtain ⟨A14_1, c14_1, he14, bl14_1, bh14_1⟩ := hf14
   refine Qq (p_indexAddr el_26 rfl rfl (by omega) (by omega) rfl) ?_
   refine JL.fact (fun w hw => elem_in cSlot (m := 6) (k := k) (xs := sl) (fun _ => rfl) (Mem.ownC (i := 2) rfl w hw) len_) (fun hl15 => ?_)
   refine JL.ex3 (fun w hw => St.elemS cSlot (m := 6) (i := 2) (xs := sl) (fun _ => rfl) rfl hy14 he14 hw) (fun f15_1 f15_2 f15_3 => ?_)
   refine znl ?_
   refine JL.pk (cSlot (M.Slo.mk false [] 0 0 0 0)) [.bool false, .slice none 0 0, .int .i64 0, .int .i64 0, .int .i64 0, .int .i64 0] (fun f16 G16 => ?_)
   refine znl ?_
   refine JL.s (e_storeRow (i := 6) (xs' := setL vs9_1 (0 + k * 6) [.bool false, .slice none 0 0, .int .i64 0, .int .i64 0, .int .i64 0, .int .i64 0]) ty_45.h rfl rfl rfl rfl rfl rfl (by omega) rfl) ?_
   rintro _ _ _ ⟨rfl, rfl⟩ _
   refine zhl [4, 0, 2] ?_
   refine JL.conv (fun w hw => St.closeE cSlot (k := k) (m := 6) (xs := sl) (y := (M.Slo.mk false [] 0 0 0 0)) (vs := vs9_1) (vs' := (setL vs9_1 (0 + k * 6) [.bool false, .slice none 0 0, .int .i64 0, .int .i64 0, .int .i64 0, .int .i64 0])) len_ rfl rfl hw) ?_
   refine znl ?_
   refine znl ?_
   refine JL.nil <| Js.blockEnd <| Js.region <| Qm rfl <| Qp rfl rfl <| Qa rfl <| JL.nil ?_
   refine zd [3, 3, 0, 2, 2] rfl fun u17 x17 => ?_
   exact zag ⟨k + 1, sl.set k (M.Slo.mk false [] 0 0 0 0), _, _, rfl, rfl, by first | exact hA2 | (rw [hA]; exact hA2), zt, by first | exact hl | (rw [List.length_set]; exact hl), rfl⟩ (x9.trans x17)
  have hc9 : ¬ (M.slo sl k).depth < depth := by have := h13'; omega
  rw [hg9] at hc9
  have hA2 := M.forK_n hkk (M.forS_n (Or.inr hc9))
  refine Js.skip <| Js.blockEnd <| Js.region <| Qm rfl <| Qp rfl rfl <| Qa rfl <| JL.nil ?_
  exact zag ⟨k + 1, sl, _, _, rfl, rfl, by first | exact hA2 | (rw [hA]; exact hA2), zt, by first | exact hl | (rw [List.length_set]; exact hl), rfl⟩ x9
 have hS : sl = mem.slots.map (M.forS depth) := by rw [hA]; exact M.forK_all (by have := h10'; omega)
 refine zx ?_
 have hq0 : mem.rules.pits = (((M.forM_ mem depth).1).rules).pits := by first | (rw [hE]; done) | (rw [hE]; rfl) | (rw [hE]; exact hS)
 have hq1 : mem.rules.seeds = (((M.forM_ mem depth).1).rules).seeds := by first | (rw [hE]; done) | (rw [hE]; rfl) | (rw [hE]; exact hS)
 have hq2 : mem.rules.stores = (((M.forM_ mem depth).1).rules).stores := by first | (rw [hE]; done) | (rw [hE]; rfl) | (rw [hE]; exact hS)
 have hq3 : mem.rules.skip = (((M.forM_ mem depth).1).rules).skip := by first | (rw [hE]; done) | (rw [hE]; rfl) | (rw [hE]; exact hS)
 have hq4 : mem.rules.relay = (((M.forM_ mem depth).1).rules).relay := by first | (rw [hE]; done) | (rw [hE]; rfl) | (rw [hE]; exact hS)
 have hq5 : mem.rules.feed = (((M.forM_ mem depth).1).rules).feed := by first | (rw [hE]; done) | (rw [hE]; rfl) | (rw [hE]; exact hS)
 have hq6 : mem.rules.again = (((M.forM_ mem depth).1).rules).again := by first | (rw [hE]; done) | (rw [hE]; rfl) | (rw [hE]; exact hS)
 have hq7 : mem.rules.capture = (((M.forM_ mem depth).1).rules).capture := by first | (rw [hE]; done) | (rw [hE]; rfl) | (rw [hE]; exact hS)
 have hq8 : mem.rules.slam = (((M.forM_ mem depth).1).rules).slam := by first | (rw [hE]; done) | (rw [hE]; rfl) | (rw [hE]; exact hS)
 have hq9 : sl = ((M.forM_ mem depth).1).slots := by first | (rw [hE]; done) | (rw [hE]; rfl) | (rw [hE]; exact hS)
 have hq10 : 0 = (M.forM_ mem depth).2 := by first | (rw [hE]; done) | (rw [hE]; rfl) | (rw [hE]; exact hS)
 refine zS <| Q9 0 rfl rfl ?_
 refine zw 3 rfl rfl rfl ?_
 refine Qa rfl <| JL.nil ?_
 exact zro x9
theorem c_spec_MergeMemories (a : M.Mem) {v_a : Value} (b : M.Mem) {v_b : Value} {w : World} (h_a : (Ty.agg (cMemory a)).ok w v_a) (h_b : (Ty.agg (cMemory b)).ok w v_b) (r0 : a.slots.length ≤ 4194304 := by exact om_) (r1 : ∀ x ∈ a.slots, x.pits.length ≤ 4194304 := by exact om_) (r2 : b.slots.length ≤ 4194304 := by exact om_) (r3 : ∀ x ∈ b.slots, x.pits.length ≤ 4194304 := by exact om_) : Ret Try.prog 22 [v_a, v_b] w (Ty.tup [Ty.agg (cMemory ((M.mrgM a b).1)), Ty.int ((M.mrgM a b).2)]) := by
 revert v_a; apply opn
 intro A1 c1 h1 bl1 bh1
 revert v_b; apply opn
 intro A2 c2 h2 bl2 bh2
 refine enter @Try.func22 @Try.ntmps22 rfl rfl ?_
 refine zent ?_
 refine zS <| zb rfl fun b3 => zb rfl fun b4 => za zeh fun b5 => Qa rfl <| zJ <| zS <| zv rfl (fun w hw => c_spec_l16Ok a (ok_ hw) (r1 := (by first | exact r1 | exact r3))) <| Qt rfl <| Qm rfl <| zgv (Gd.f1 rfl rfl rfl) (fun hc => rfl) (fun hc => (fun w hw => c_spec_l16Ok b (ok_ hw) (r0 := (by have hc9 := hc; (try simp only [Bool.not_eq_true', Bool.not_eq_false'] at hc9); omega)) (r1 := (by first | exact r1 | exact r3)))) ?_
 refine zg (Gd.f1 rfl rfl rfl) (fun hc => p_not (gh hc rfl)) <| Qq (p_pickOr rfl rfl rfl) <| JL.nil ?_
 refine zi (fun h6 h6' => ?_) fun h6 h6' => ?_
 ·
  have hE := M.mrgM_1 (a := a) (b := b) (by have h9 := h6; simpa using h9)
  have hq0 : 0 = (((M.mrgM a b).1).rules).pits := by first | (rw [hE]; done) | (rw [hE]; rfl) | (rw [hE]; exact hS)
  have hq1 : 0 = (((M.mrgM a b).1).rules).seeds := by first | (rw [hE]; done) | (rw [hE]; rfl) | (rw [hE]; exact hS)
  have hq2 : false = (((M.mrgM a b).1).rules).stores := by first | (rw [hE]; done) | (rw [hE]; rfl) | (rw [hE]; exact hS)
  have hq3 : false = (((M.mrgM a b).1).rules).skip := by first | (rw [hE]; done) | (rw [hE]; rfl) | (rw [hE]; exact hS)
  have hq4 : false = (((M.mrgM a b).1).rules).relay := by first | (rw [hE]; done) | (rw [hE]; rfl) | (rw [hE]; exact hS)
  have hq5 : false = (((M.mrgM a b).1).rules).feed := by first | (rw [hE]; done) | (rw [hE]; rfl) | (rw [hE]; exact hS)
  have hq6 : false = (((M.mrgM a b).1).rules).again := by first | (rw [hE]; done) | (rw [hE]; rfl) | (rw [hE]; exact hS)
  have hq7 : 0 = (((M.mrgM a b).1).rules).capture := by first | (rw [hE]; done) | (rw [hE]; rfl) | (rw [hE]; exact hS)
  have hq8 : 0 = (((M.mrgM a b).1).rules).slam := by first | (rw [hE]; done) | (rw [hE]; rfl) | (rw [hE]; exact hS)
  have hq9 : [] = ((M.mrgM a b).1).slots := by first | (rw [hE]; done) | (rw [hE]; rfl) | (rw [hE]; exact hS)
  have hq10 : 1 = (M.mrgM a b).2 := by first | (rw [hE]; done) | (rw [hE]; rfl) | (rw [hE]; exact hS)
  refine zS <| Qb ?_
  refine zw 0 rfl rfl rfl ?_
  refine Qa rfl <| JL.nil ?_
  exact zro (Up.refl _ _)
 have hab : M.okM a = true ∧ M.okM b = true := by have h9 := h6; simpa using h9
 obtain ⟨_, q1_, q2_, _⟩ := M.okM_parts hab.1
 refine Js.skip <| Js.seq <| zS <| Qf fh rfl <| Q9 2 rfl rfl ?_
 refine Qf fh rfl <| Q9 1 rfl rfl ?_
 refine Qq (p_neqS (by kernel_rfl) (fun w => eqs_Rules a.rules b.rules w) rfl rfl) <| Qm rfl <| zg (Gd.f1 rfl rfl rfl) (fun hc => p_fieldAddr fld_28_1.h rfl) <| zgq (Gd.f1 rfl rfl rfl) (fun hc => q_load1 ty_26.h (gh hc rfl) (Mem.box (i := 2) rfl rfl)) <| zg (Gd.f1 rfl rfl rfl) (fun hc => p_len el_26 (gh hc rfl)) <| zg (Gd.f1 rfl rfl rfl) (fun hc => p_fieldAddr fld_28_1.h rfl) <| zgq (Gd.f1 rfl rfl rfl) (fun hc => q_load1 ty_26.h (gh hc rfl) (Mem.box (i := 1) rfl rfl)) <| zg (Gd.f1 rfl rfl rfl) (fun hc => p_len el_26 (gh hc rfl)) <| zg (Gd.f1 rfl rfl rfl) (fun hc => p_neq (gh hc rfl) (gh hc rfl)) <| Qq (p_pickOr rfl rfl rfl) <| JL.nil ?_
 refine zi (fun h7 h7' => ?_) fun h7 h7' => ?_
 ·
  have hE := M.mrgM_6 hab (by have h9 := h7; simpa using h9)
  have hq0 : 0 = (((M.mrgM a b).1).rules).pits := by first | (rw [hE]; done) | (rw [hE]; rfl) | (rw [hE]; exact hS)
  have hq1 : 0 = (((M.mrgM a b).1).rules).seeds := by first | (rw [hE]; done) | (rw [hE]; rfl) | (rw [hE]; exact hS)
  have hq2 : false = (((M.mrgM a b).1).rules).stores := by first | (rw [hE]; done) | (rw [hE]; rfl) | (rw [hE]; exact hS)
  have hq3 : false = (((M.mrgM a b).1).rules).skip := by first | (rw [hE]; done) | (rw [hE]; rfl) | (rw [hE]; exact hS)
  have hq4 : false = (((M.mrgM a b).1).rules).relay := by first | (rw [hE]; done) | (rw [hE]; rfl) | (rw [hE]; exact hS)
  have hq5 : false = (((M.mrgM a b).1).rules).feed := by first | (rw [hE]; done) | (rw [hE]; rfl) | (rw [hE]; exact hS)
  have hq6 : false = (((M.mrgM a b).1).rules).again := by first | (rw [hE]; done) | (rw [hE]; rfl) | (rw [hE]; exact hS)
  have hq7 : 0 = (((M.mrgM a b).1).rules).capture := by first | (rw [hE]; done) | (rw [hE]; rfl) | (rw [hE]; exact hS)
  have hq8 : 0 = (((M.mrgM a b).1).rules).slam := by first | (rw [hE]; done) | (rw [hE]; rfl) | (rw [hE]; exact hS)
  have hq9 : [] = ((M.mrgM a b).1).slots := by first | (rw [hE]; done) | (rw [hE]; rfl) | (rw [hE]; exact hS)
  have hq10 : 6 = (M.mrgM a b).2 := by first | (rw [hE]; done) | (rw [hE]; rfl) | (rw [hE]; exact hS)
  refine zS <| Qb ?_
  refine zw 0 rfl rfl rfl ?_
  refine Qa rfl <| JL.nil ?_
  exact zro (Up.refl _ _)
 have hrl := M.sameM_h (a := a) (b := b) (by have h9 := h7; simpa using h9)
 obtain ⟨hr9, hl9⟩ := hrl
 have hE := M.mrgM_0 hab ⟨hr9, hl9⟩
 refine Js.skip <| zS <| zc rfl (fun w hw => c_spec_l16Own a (ok_ hw) (r1 := r1)) ?_
 intro A9 c9 vs9 f9 bl9 bh9
 refine za zeh fun b10 => zw 0 rfl rfl rfl ?_
 refine zJ <| zS <| Qa rfl <| JL.nil <| Js.block ?_
 refine zl [3, 4, 6] (fun F U l os u m => ∃ (k : Nat) (sl : List M.Slo) (A11_6_9 : Option Addr) (c11_6_9 : Nat) (g11_6_9 : List Nat) (vs11_6_9 : List Value) (fl11_6_9 : List Nat), l = F [(7, .int .i64 (k : Int))] ∧ os = U [some (boxO b10 [.int .i64 a.rules.pits, .int .i64 a.rules.seeds, .bool a.rules.stores, .bool a.rules.skip, .bool a.rules.relay, .bool a.rules.feed, .bool a.rules.again, .int .i64 a.rules.capture, .int .i64 a.rules.slam, .slice A11_6_9 sl.length c11_6_9] 28), some (rowO 45 6 (.slice A11_6_9 sl.length c11_6_9) sl.length vs11_6_9 g11_6_9), some (ownC (lSlot sl) vs11_6_9 fl11_6_9)] ∧ (sl = M.mrgS a.slots (b.slots.take k)) ∧ (k ≤ b.slots.length) ∧ (sl.length = a.slots.length) ∧ (sl.length ≤ c11_6_9) ∧ (c11_6_9 ≤ 9223372036854775807) ∧ m = b.slots.length - k) ⟨0, a.slots, _, _, _, _, _, rfl, rfl, by rfl, zt, by rfl, zu, zu, rfl⟩ ?_
 rintro _ _ u11 _ ⟨k, sl, A11_6_9, c11_6_9, g11_6_9, vs11_6_9, fl11_6_9, rfl, rfl, hA, hk, hl, f11_3, f11_4, rfl⟩ x11
 refine zn ?_
 refine Js.seq <| zS <| Qm rfl <| Qf fh rfl <| Q0 4 rfl rfl rfl <| Qz rfl <| Ql rfl rfl <| JL.nil ?_
 refine zi (fun h12 h12' => ?_) fun h12 h12' => ?_
 ·
  have hkk : k < b.slots.length := by have := h12'; omega
  have hbs := r3 _ (M.slo_mem hkk)
  have hy13 : b.slots[k]? = some (M.slo b.slots k) := M.slo_get (by omega)
  obtain ⟨b13, o13, A13_1, c13_1, he13, hr13, h13_1, bl13_1, bh13_1⟩ := elem_Slot (Ty.mono _ h2 x11.vis) hy13
  refine Js.skip <| Js.seq <| Js.block <| zS <| Qf fh rfl <| Q0 4 rfl rfl rfl <| Qm rfl <| Qq (p_indexAddr el_26 rfl rfl (by omega) (by omega) he13) <| Qf fh rfl <| QC (hr13 0 _ rfl) rfl <| JL.nil ?_
  refine zi (fun h14 h14' => ?_) fun h14 h14' => ?_
  ·
   have hu9 : (M.slo b.slots k).used = true := h14
   have hps : M.okP a.rules (M.posS (M.slo b.slots k)) = true := by rw [hr9]; exact (M.okM_used hab.2 hkk hu9).1
   have hA2 := M.mrgS_y (a := a.slots) hkk hu9
   rw [← hA] at hA2
   have hy15 : b.slots[k]? = some (M.slo b.slots k) := M.slo_get (by omega)
   obtain ⟨b15, o15, A15_1, c15_1, he15, hr15, h15_1, bl15_1, bh15_1⟩ := elem_Slot (Ty.mono _ h2 x11.vis) hy15
   refine Js.region <| Qf fh rfl <| Q0 4 rfl rfl rfl <| Qm rfl <| Qq (p_indexAddr el_26 rfl rfl (by omega) (by omega) he15) <| zB 3 sp_ rfl (fun w hb hw => c_spec_l16Store a.rules sl (M.slo b.slots k) hb (ok_ hw) (r0 := hps)) ?_
   rintro _ _ G16 ⟨A16mem_9, c16mem_9, g16mem_9, vs16mem_9, f16mem_9, rfl, rfl, bl16_0, bl16_1⟩
   refine znl ?_
   refine JL.nil <| Js.blockEnd <| Js.region <| Qm rfl <| Qp rfl rfl <| Qa rfl <| JL.nil ?_
   refine zd [0, 0, 0, 1, 1, 1] rfl fun u17 x17 => ?_
   exact zag ⟨k + 1, (M.stoS sl (M.slo b.slots k)), _, _, _, _, _, rfl, rfl, by first | exact hA2 | (rw [hA]; exact hA2), zt, by first | exact hl | (rw [M.stoS_len]; exact hl), zu, zu, rfl⟩ (x11.trans x17)
  have hA2 := M.mrgS_n (a := a.slots) hkk h14
  refine Js.skip <| Js.blockEnd <| Js.region <| Qm rfl <| Qp rfl rfl <| Qa rfl <| JL.nil ?_
  exact zag ⟨k + 1, sl, _, _, _, _, _, rfl, rfl, by first | exact hA2 | (rw [hA]; exact hA2), zt, by first | exact hl | (rw [M.stoS_len]; exact hl), zu, zu, rfl⟩ x11
 have hS : sl = M.mrgS a.slots b.slots := by rw [hA]; exact M.mrgS_all (by have := h12'; omega)
 refine zx ?_
 have hq0 : a.rules.pits = (((M.mrgM a b).1).rules).pits := by first | (rw [hE]; done) | (rw [hE]; rfl) | (rw [hE]; exact hS)
 have hq1 : a.rules.seeds = (((M.mrgM a b).1).rules).seeds := by first | (rw [hE]; done) | (rw [hE]; rfl) | (rw [hE]; exact hS)
 have hq2 : a.rules.stores = (((M.mrgM a b).1).rules).stores := by first | (rw [hE]; done) | (rw [hE]; rfl) | (rw [hE]; exact hS)
 have hq3 : a.rules.skip = (((M.mrgM a b).1).rules).skip := by first | (rw [hE]; done) | (rw [hE]; rfl) | (rw [hE]; exact hS)
 have hq4 : a.rules.relay = (((M.mrgM a b).1).rules).relay := by first | (rw [hE]; done) | (rw [hE]; rfl) | (rw [hE]; exact hS)
 have hq5 : a.rules.feed = (((M.mrgM a b).1).rules).feed := by first | (rw [hE]; done) | (rw [hE]; rfl) | (rw [hE]; exact hS)
 have hq6 : a.rules.again = (((M.mrgM a b).1).rules).again := by first | (rw [hE]; done) | (rw [hE]; rfl) | (rw [hE]; exact hS)
 have hq7 : a.rules.capture = (((M.mrgM a b).1).rules).capture := by first | (rw [hE]; done) | (rw [hE]; rfl) | (rw [hE]; exact hS)
 have hq8 : a.rules.slam = (((M.mrgM a b).1).rules).slam := by first | (rw [hE]; done) | (rw [hE]; rfl) | (rw [hE]; exact hS)
 have hq9 : sl = ((M.mrgM a b).1).slots := by first | (rw [hE]; done) | (rw [hE]; rfl) | (rw [hE]; exact hS)
 have hq10 : 0 = (M.mrgM a b).2 := by first | (rw [hE]; done) | (rw [hE]; rfl) | (rw [hE]; exact hS)
 refine zS <| Q9 0 rfl rfl ?_
 refine zw 3 rfl rfl rfl ?_
 refine Qa rfl <| JL.nil ?_
 exact zro x11
theorem c_laws_f6big (code : Nat) {v_code : Value} {w : World} (h_code : (Ty.bytes 5 code).ok w v_code) : RetV Try.prog 5 [v_code] w (.bool (decide (4096 < (code : Int)))) := by
 revert v_code; apply opn
 intro A1 c1 h1 bl1 bh1
 have h_code := h1
 refine enter @Try.func5 @Try.ntmps5 rfl rfl ?_
 refine zent ?_
 refine zS <| Qa rfl <| zN <| Qm rfl <| Qz rfl <| Qg rfl rfl <| Qa rfl <| JL.nil ?_
 exact zr (Up.refl _ _)
theorem c_laws_FnForgotten (code : Nat) {v_code : Value} {w : World} (h_code : (Ty.bytes 5 code).ok w v_code) : RetV Try.prog 4 [v_code] w (.bool true) := by
 revert v_code; apply opn
 intro A1 c1 h1 bl1 bh1
 have h_code := h1
 refine enter @Try.func4 @Try.ntmps4 rfl rfl ?_
 refine zent ?_
 refine zS <| Qa rfl <| zJ <| zS <| Qm rfl <| zv rfl (fun w hw => c_laws_f6big code (ok_ hw)) <| JL.nil ?_
 refine zi (fun h2 h2' => ?_) fun h2 h2' => ?_
 ·
  refine zS <| Qa rfl <| JL.nil ?_
  refine zR (Up.refl _ _) ?_
  first | rfl | (simp [outV, f4_, hN]; done)
 refine Js.skip <| zS <| Qm rfl <| zp rfl (fun w hw => c_spec_DrawForgetShallow code (ok_ hw)) ?_
 intro u3 x3 X4 hX4 A5 c5 h5 bl5 bh5 X6 hX6
 have hM1 := (by assumption : X4.slots.length ≤ 65 ∧ M.SzM 16 X4.slots)
 obtain ⟨hl1, hz1⟩ := hM1
 obtain ⟨hl2, hz2⟩ := M.forM_sz (m := X4) X6 hl1 hz1
 refine Qm rfl <| Qx rfl rfl <| Qx rfl rfl <| za zeh fun b7 => zw 0 rfl rfl rfl ?_
 refine Qa rfl <| zN <| Q9 0 rfl rfl ?_
 refine Qm rfl <| zp rfl (fun w hw => c_impl_ForgetShallow X4 X6 (ok_ hw) (r1 := (by first | exact hz1.mono (by omega) | exact hz2.mono (by omega) | exact hz3.mono (by omega) | exact hz4.mono (by omega) | exact hz5.mono (by omega) | exact hz6.mono (by omega) | exact hz7.mono (by omega) | exact hz8.mono (by omega) | exact hz9.mono (by omega)))) ?_
 intro u8 x8 A9 c9 h9 bl9 bh9
 refine Qm rfl <| Qx rfl rfl <| Qx rfl rfl <| za zeh fun b10 => zw 0 rfl rfl rfl ?_
 refine Qa rfl <| zN <| Q9 1 rfl rfl ?_
 refine Qm rfl <| zp rfl (fun w hw => c_spec_ForgetShallow X4 X6 (ok_ hw) (r1 := (by first | exact hz1.mono (by omega) | exact hz2.mono (by omega) | exact hz3.mono (by omega) | exact hz4.mono (by omega) | exact hz5.mono (by omega) | exact hz6.mono (by omega) | exact hz7.mono (by omega) | exact hz8.mono (by omega) | exact hz9.mono (by omega)))) ?_
 intro u11 x11 A12 c12 h12 bl12 bh12
 refine Qm rfl <| Qx rfl rfl <| Qx rfl rfl <| za zeh fun b13 => zw 0 rfl rfl rfl ?_
 refine Qa rfl <| zN <| Qm rfl <| zp rfl (fun w hw => c_spec_DrawMergeMemories code (ok_ hw)) ?_
 intro u14 x14 X15 hX15 A16 c16 h16 bl16 bh16 X17 hX17 A18 c18 h18 bl18 bh18
 have hM3 := (by assumption : X15.slots.length ≤ 65 ∧ M.SzM 16 X15.slots)
 obtain ⟨hl3, hz3⟩ := hM3
 have hM4 := (by assumption : X17.slots.length ≤ 65 ∧ M.SzM 16 X17.slots)
 obtain ⟨hl4, hz4⟩ := hM4
 obtain ⟨hl5, hz5⟩ := M.mrgM_sz (a := X15) (b := X17) hl3 hz3 hz4
 refine Qm rfl <| Qx rfl rfl <| Qx rfl rfl <| za zeh fun b19 => za zeh fun b20 => zw 1 rfl rfl rfl ?_
 refine zw 0 rfl rfl rfl ?_
 refine zN <| Q9 1 rfl rfl ?_
 refine Q9 0 rfl rfl ?_
 refine zp rfl (fun w hw => c_impl_MergeMemories X15 X17 (ok_ hw) (ok_ hw) (r1 := (by first | exact hz1.mono (by omega) | exact hz2.mono (by omega) | exact hz3.mono (by omega) | exact hz4.mono (by omega) | exact hz5.mono (by omega) | exact hz6.mono (by omega) | exact hz7.mono (by omega) | exact hz8.mono (by omega) | exact hz9.mono (by omega))) (r3 := (by first | exact hz1.mono (by omega) | exact hz2.mono (by omega) | exact hz3.mono (by omega) | exact hz4.mono (by omega) | exact hz5.mono (by omega) | exact hz6.mono (by omega) | exact hz7.mono (by omega) | exact hz8.mono (by omega) | exact hz9.mono (by omega)))) ?_
 intro u21 x21 A22 c22 h22 bl22 bh22
 refine Qm rfl <| Qx rfl rfl <| Qx rfl rfl <| za zeh fun b23 => zw 0 rfl rfl rfl ?_
 refine Qa rfl <| zN <| Q9 2 rfl rfl ?_
 refine Q9 1 rfl rfl ?_
 refine zp rfl (fun w hw => c_spec_MergeMemories X15 X17 (ok_ hw) (ok_ hw) (r1 := (by first | exact hz1.mono (by omega) | exact hz2.mono (by omega) | exact hz3.mono (by omega) | exact hz4.mono (by omega) | exact hz5.mono (by omega) | exact hz6.mono (by omega) | exact hz7.mono (by omega) | exact hz8.mono (by omega) | exact hz9.mono (by omega))) (r3 := (by first | exact hz1.mono (by omega) | exact hz2.mono (by omega) | exact hz3.mono (by omega) | exact hz4.mono (by omega) | exact hz5.mono (by omega) | exact hz6.mono (by omega) | exact hz7.mono (by omega) | exact hz8.mono (by omega) | exact hz9.mono (by omega)))) ?_
 intro u24 x24 A25 c25 h25 bl25 bh25
 refine Qm rfl <| Qx rfl rfl <| Qx rfl rfl <| za zeh fun b26 => zw 0 rfl rfl rfl ?_
 refine Qa rfl <| zN <| Qm rfl <| zp rfl (fun w hw => c_spec_DrawSameMemory code (ok_ hw)) ?_
 intro u27 x27 X28 hX28 A29 c29 h29 bl29 bh29 X30 hX30 A31 c31 h31 bl31 bh31
 refine Qm rfl <| Qx rfl rfl <| Qx rfl rfl <| za zeh fun b32 => za zeh fun b33 => zw 1 rfl rfl rfl ?_
 refine zw 0 rfl rfl rfl ?_
 refine zN <| Qm rfl <| zp rfl (fun w hw => c_spec_DrawNewMemory code (ok_ hw)) ?_
 intro u34 x34 X35 hX35 X36 hX36
 refine Qm rfl <| Qx rfl rfl <| Qx rfl rfl <| za zeh fun b37 => zw 0 rfl rfl rfl ?_
 refine Qa rfl <| zN <| Q9 0 rfl rfl ?_
 refine Qm rfl <| zp rfl (fun w hw => c_impl_NewMemory X35 X36 (ok_ hw)) ?_
 intro u38 x38 A39 c39 h39 bl39 bh39
 refine Qm rfl <| Qx rfl rfl <| Qx rfl rfl <| za zeh fun b40 => zw 0 rfl rfl rfl ?_
 refine Qa rfl <| zN <| Q9 1 rfl rfl ?_
 refine Qm rfl <| zp rfl (fun w hw => c_spec_NewMemory X35 X36 (ok_ hw)) ?_
 intro u41 x41 A42 c42 h42 bl42 bh42
 have hM6 := (by assumption : X28.slots.length ≤ 65 ∧ M.SzM 16 X28.slots)
 obtain ⟨hl6, hz6⟩ := hM6
 have hM7 := (by assumption : X30.slots.length ≤ 65 ∧ M.SzM 16 X30.slots)
 obtain ⟨hl7, hz7⟩ := hM7
 obtain ⟨hl8, hz8⟩ := M.newM_sz X35 X36
 refine Qm rfl <| Qx rfl rfl <| Qx rfl rfl <| za zeh fun b43 => zw 0 rfl rfl rfl ?_
 refine Qa rfl <| zJ <| Js.seq ?_
 refine zdr [] ?_
 refine jM 0 rfl rfl ?_
 refine jM 1 rfl rfl ?_
 refine JH.p 2 rfl (p_neq rfl rfl) ?_
 refine jM 3 rfl rfl ?_
 refine JH.qg 4 rfl (Gd.f1 rfl rfl rfl) (fun hc => L9 10 rfl rfl) ?_
 refine JH.qg 5 rfl (Gd.f1 rfl rfl rfl) (fun hc => L9 9 rfl rfl) ?_
 refine y1 6 ?_
 refine JHo.ge rfl (Gd.f1 rfl rfl rfl) (fun hc => e_callV fn_14.h (opds_2 (gvt rfl hc) (gvt rfl hc)) (fun w hw => c_spec_SameMemory ((M.forM_ X4 X6).1) ((M.forM_ X4 X6).1) (ok_ hw) (ok_ hw) (r0 := (by have hc9 := hc; (try simp only [Bool.not_eq_true', Bool.not_eq_false', decide_eq_true_eq] at hc9); omega)) (r1 := (by first | exact hz1.mono (by omega) | exact hz2.mono (by omega) | exact hz3.mono (by omega) | exact hz4.mono (by omega) | exact hz5.mono (by omega) | exact hz6.mono (by omega) | exact hz7.mono (by omega) | exact hz8.mono (by omega) | exact hz9.mono (by omega))) (r2 := (by have hc9 := hc; (try simp only [Bool.not_eq_true', Bool.not_eq_false', decide_eq_true_eq] at hc9); omega)) (r3 := (by first | exact hz1.mono (by omega) | exact hz2.mono (by omega) | exact hz3.mono (by omega) | exact hz4.mono (by omega) | exact hz5.mono (by omega) | exact hz6.mono (by omega) | exact hz7.mono (by omega) | exact hz8.mono (by omega) | exact hz9.mono (by omega))))) ?_
 refine JH.pg 7 rfl (Gd.f1 rfl rfl rfl) (fun hc => p_not (gvt rfl hc)) ?_
 refine JH.p 8 rfl (p_pickOr rfl rfl rfl) ?_
 refine jM 9 rfl rfl ?_
 refine JH.pg 10 rfl (Gd.f1 rfl rfl rfl) (fun hc => p_move rfl) ?_
 refine JH.pg 11 rfl (Gd.f1 rfl rfl rfl) (fun hc => p_move rfl) ?_
 refine JH.pg 12 rfl (Gd.f1 rfl rfl rfl) (fun hc => p_neq (gvt rfl hc) (gvt rfl hc)) ?_
 refine JH.p 13 rfl (p_pickOr rfl rfl rfl) ?_
 refine jM 14 rfl rfl ?_
 refine JH.qg 15 rfl (Gd.f1 rfl rfl rfl) (fun hc => L9 6 rfl rfl) ?_
 refine JH.qg 16 rfl (Gd.f1 rfl rfl rfl) (fun hc => L9 5 rfl rfl) ?_
 refine y1 17 ?_
 refine JHo.ge rfl (Gd.f1 rfl rfl rfl) (fun hc => e_callV fn_14.h (opds_2 (gvt rfl hc) (gvt rfl hc)) (fun w hw => c_spec_SameMemory ((M.mrgM X15 X17).1) ((M.mrgM X15 X17).1) (ok_ hw) (ok_ hw) (r0 := (by have hc9 := hc; (try simp only [Bool.not_eq_true', Bool.or_eq_false_iff, Bool.not_eq_false', decide_eq_true_eq] at hc9); omega)) (r1 := (by first | exact hz1.mono (by omega) | exact hz2.mono (by omega) | exact hz3.mono (by omega) | exact hz4.mono (by omega) | exact hz5.mono (by omega) | exact hz6.mono (by omega) | exact hz7.mono (by omega) | exact hz8.mono (by omega) | exact hz9.mono (by omega))) (r2 := (by have hc9 := hc; (try simp only [Bool.not_eq_true', Bool.or_eq_false_iff, Bool.not_eq_false', decide_eq_true_eq] at hc9); omega)) (r3 := (by first | exact hz1.mono (by omega) | exact hz2.mono (by omega) | exact hz3.mono (by omega) | exact hz4.mono (by omega) | exact hz5.mono (by omega) | exact hz6.mono (by omega) | exact hz7.mono (by omega) | exact hz8.mono (by omega) | exact hz9.mono (by omega))))) ?_
 refine JH.pg 18 rfl (Gd.f1 rfl rfl rfl) (fun hc => p_not (gvt rfl hc)) ?_
 refine JH.p 19 rfl (p_pickOr rfl rfl rfl) ?_
 refine jM 20 rfl rfl ?_
 refine JH.qg 21 rfl (Gd.f1 rfl rfl rfl) (fun hc => L9 4 rfl rfl) ?_
 refine JH.qg 22 rfl (Gd.f1 rfl rfl rfl) (fun hc => L9 3 rfl rfl) ?_
 refine JH.qg 24 rfl (Gd.f1 rfl rfl rfl) (fun hc => L9 4 rfl rfl) ?_
 refine JH.qg 25 rfl (Gd.f1 rfl rfl rfl) (fun hc => L9 3 rfl rfl) ?_
 refine y1 23 ?_
 refine JHo.ge rfl (Gd.f1 rfl rfl rfl) (fun hc => e_callV fn_27.h (opds_2 (gvt rfl hc) (gvt rfl hc)) (fun w hw => c_impl_SameMemory X28 X30 (ok_ hw) (ok_ hw) (r0 := (by have hc9 := hc; (try simp only [Bool.not_eq_true', Bool.or_eq_false_iff, Bool.not_eq_false', decide_eq_true_eq] at hc9); omega)) (r1 := (by first | exact hz1.mono (by omega) | exact hz2.mono (by omega) | exact hz3.mono (by omega) | exact hz4.mono (by omega) | exact hz5.mono (by omega) | exact hz6.mono (by omega) | exact hz7.mono (by omega) | exact hz8.mono (by omega) | exact hz9.mono (by omega))) (r2 := (by have hc9 := hc; (try simp only [Bool.not_eq_true', Bool.or_eq_false_iff, Bool.not_eq_false', decide_eq_true_eq] at hc9); omega)) (r3 := (by first | exact hz1.mono (by omega) | exact hz2.mono (by omega) | exact hz3.mono (by omega) | exact hz4.mono (by omega) | exact hz5.mono (by omega) | exact hz6.mono (by omega) | exact hz7.mono (by omega) | exact hz8.mono (by omega) | exact hz9.mono (by omega))))) ?_
 refine y1 26 ?_
 refine JHo.ge rfl (Gd.f1 rfl rfl rfl) (fun hc => e_callV fn_14.h (opds_2 (gvt rfl hc) (gvt rfl hc)) (fun w hw => c_spec_SameMemory X28 X30 (ok_ hw) (ok_ hw) (r0 := (by have hc9 := hc; (try simp only [Bool.not_eq_true', Bool.or_eq_false_iff, Bool.not_eq_false', decide_eq_true_eq] at hc9); omega)) (r1 := (by first | exact hz1.mono (by omega) | exact hz2.mono (by omega) | exact hz3.mono (by omega) | exact hz4.mono (by omega) | exact hz5.mono (by omega) | exact hz6.mono (by omega) | exact hz7.mono (by omega) | exact hz8.mono (by omega) | exact hz9.mono (by omega))) (r2 := (by have hc9 := hc; (try simp only [Bool.not_eq_true', Bool.or_eq_false_iff, Bool.not_eq_false', decide_eq_true_eq] at hc9); omega)) (r3 := (by first | exact hz1.mono (by omega) | exact hz2.mono (by omega) | exact hz3.mono (by omega) | exact hz4.mono (by omega) | exact hz5.mono (by omega) | exact hz6.mono (by omega) | exact hz7.mono (by omega) | exact hz8.mono (by omega) | exact hz9.mono (by omega))))) ?_
 refine JH.pg 27 rfl (Gd.f1 rfl rfl rfl) (fun hc => p_neqB und_4 (gvt rfl hc) (gvt rfl hc)) ?_
 refine JH.p 28 rfl (p_pickOr rfl rfl rfl) ?_
 refine jM 29 rfl rfl ?_
 refine JH.pg 30 rfl (Gd.f1 rfl rfl rfl) (fun hc => p_move rfl) ?_
 refine JH.pg 31 rfl (Gd.f1 rfl rfl rfl) (fun hc => p_move rfl) ?_
 refine JH.pg 32 rfl (Gd.f1 rfl rfl rfl) (fun hc => p_neq (gvt rfl hc) (gvt rfl hc)) ?_
 refine JH.p 33 rfl (p_pickOr rfl rfl rfl) ?_
 refine jM 34 rfl rfl ?_
 refine JH.qg 35 rfl (Gd.f1 rfl rfl rfl) (fun hc => L9 1 rfl rfl) ?_
 refine JH.qg 36 rfl (Gd.f1 rfl rfl rfl) (fun hc => L9 0 rfl rfl) ?_
 refine y1 37 ?_
 refine JHo.ge rfl (Gd.f1 rfl rfl rfl) (fun hc => e_callV fn_14.h (opds_2 (gvt rfl hc) (gvt rfl hc)) (fun w hw => c_spec_SameMemory ((M.newM X35 X36).1) ((M.newM X35 X36).1) (ok_ hw) (ok_ hw) (r0 := (by have hc9 := hc; (try simp only [Bool.not_eq_true', Bool.or_eq_false_iff, Bool.not_eq_false', decide_eq_true_eq] at hc9); omega)) (r1 := (by first | exact hz1.mono (by omega) | exact hz2.mono (by omega) | exact hz3.mono (by omega) | exact hz4.mono (by omega) | exact hz5.mono (by omega) | exact hz6.mono (by omega) | exact hz7.mono (by omega) | exact hz8.mono (by omega) | exact hz9.mono (by omega))) (r2 := (by have hc9 := hc; (try simp only [Bool.not_eq_true', Bool.or_eq_false_iff, Bool.not_eq_false', decide_eq_true_eq] at hc9); omega)) (r3 := (by first | exact hz1.mono (by omega) | exact hz2.mono (by omega) | exact hz3.mono (by omega) | exact hz4.mono (by omega) | exact hz5.mono (by omega) | exact hz6.mono (by omega) | exact hz7.mono (by omega) | exact hz8.mono (by omega) | exact hz9.mono (by omega))))) ?_
 refine JH.pg 38 rfl (Gd.f1 rfl rfl rfl) (fun hc => p_not (gvt rfl hc)) ?_
 refine JH.p 39 rfl (p_pickOr rfl rfl rfl) ?_
 refine yd ?_
 refine zi (fun h44 h44' => ?_) fun h44 h44' => ?_
 · exact absurd h44 (by simp [M.sameM_iff])
 refine Js.skip <| Js.seq <| zS <| Qm rfl <| Qe rfl rfl <| JL.nil ?_
 refine zi (fun h45 h45' => ?_) fun h45 h45' => ?_
 ·
  obtain ⟨k1_, k2_⟩ := M.mrg_law (a := X15) (b := X17) (by simpa using h45)
  obtain ⟨hl9, hz9⟩ := M.mrgM_sz hl5 hz5 hz5
  refine zS <| Q9 6 rfl rfl ?_
  refine Q9 6 rfl rfl ?_
  refine zp rfl (fun w hw => c_impl_MergeMemories ((M.mrgM X15 X17).1) ((M.mrgM X15 X17).1) (ok_ hw) (ok_ hw) (r1 := (by first | exact hz1.mono (by omega) | exact hz2.mono (by omega) | exact hz3.mono (by omega) | exact hz4.mono (by omega) | exact hz5.mono (by omega) | exact hz6.mono (by omega) | exact hz7.mono (by omega) | exact hz8.mono (by omega) | exact hz9.mono (by omega))) (r3 := (by first | exact hz1.mono (by omega) | exact hz2.mono (by omega) | exact hz3.mono (by omega) | exact hz4.mono (by omega) | exact hz5.mono (by omega) | exact hz6.mono (by omega) | exact hz7.mono (by omega) | exact hz8.mono (by omega) | exact hz9.mono (by omega)))) ?_
  intro u46 x46 A47 c47 h47 bl47 bh47
  refine Qm rfl <| Qx rfl rfl <| Qx rfl rfl <| za zeh fun b48 => zw 0 rfl rfl rfl ?_
  refine Qa rfl <| zN <| Qm rfl <| Qd rfl rfl <| Qm rfl <| zgq (Gd.f1 rfl rfl rfl) (fun hc => L9 0 rfl rfl) <| zgq (Gd.f1 rfl rfl rfl) (fun hc => L9 7 rfl rfl) <| zgv (Gd.f1 rfl rfl rfl) (fun hc => (opds_2 (gh hc rfl) (gh hc rfl))) (fun hc => (fun w hw => c_spec_SameMemory ((M.mrgM ((M.mrgM X15 X17).1) ((M.mrgM X15 X17).1)).1) ((M.mrgM X15 X17).1) (ok_ hw) (ok_ hw) (r0 := (by have hc9 := hc; (try simp only [Bool.not_eq_true', Bool.not_eq_false', decide_eq_true_eq] at hc9); omega)) (r1 := (by first | exact hz1.mono (by omega) | exact hz2.mono (by omega) | exact hz3.mono (by omega) | exact hz4.mono (by omega) | exact hz5.mono (by omega) | exact hz6.mono (by omega) | exact hz7.mono (by omega) | exact hz8.mono (by omega) | exact hz9.mono (by omega))) (r2 := (by have hc9 := hc; (try simp only [Bool.not_eq_true', Bool.not_eq_false', decide_eq_true_eq] at hc9); omega)) (r3 := (by first | exact hz1.mono (by omega) | exact hz2.mono (by omega) | exact hz3.mono (by omega) | exact hz4.mono (by omega) | exact hz5.mono (by omega) | exact hz6.mono (by omega) | exact hz7.mono (by omega) | exact hz8.mono (by omega) | exact hz9.mono (by omega))))) ?_
  refine zg (Gd.f1 rfl rfl rfl) (fun hc => p_not (gh hc rfl)) <| Qq (p_pickOr rfl rfl rfl) <| Qm rfl <| zgq (Gd.f1 rfl rfl rfl) (fun hc => L9 7 rfl rfl) <| zgv (Gd.f1 rfl rfl rfl) (fun hc => (opds_1 (gh hc rfl))) (fun hc => (fun w hw => c_impl_ValidMemory ((M.mrgM X15 X17).1) (ok_ hw) (r0 := (by have hc9 := hc; (try simp only [Bool.not_eq_true', Bool.or_eq_false_iff, Bool.not_eq_false', decide_eq_true_eq] at hc9); omega)) (r1 := (by first | exact hz1.mono (by omega) | exact hz2.mono (by omega) | exact hz3.mono (by omega) | exact hz4.mono (by omega) | exact hz5.mono (by omega) | exact hz6.mono (by omega) | exact hz7.mono (by omega) | exact hz8.mono (by omega) | exact hz9.mono (by omega))))) ?_
  refine zg (Gd.f1 rfl rfl rfl) (fun hc => p_not (gh hc rfl)) <| Qq (p_pickOr rfl rfl rfl) <| JL.nil ?_
  refine zi (fun h49 h49' => ?_) fun h49 h49' => ?_
  · exact absurd h49 (by simp [k1_, k2_, M.sameM_iff])
  refine Js.skip <| Js.seq <| zS <| Qm rfl <| Qd rfl rfl <| JL.nil ?_
  refine zi (fun h50 h50' => ?_) fun h50 h50' => ?_
  ·
   refine zS <| Qa rfl <| JL.nil ?_
   refine zR ((((((((((x3.trans x8).trans x11).trans x14).trans x21).trans x24).trans x27).trans x34).trans x38).trans x41).trans x46) ?_
   first | rfl | (simp [outV, f4_, hN]; done)
  obtain ⟨f1_, f2_, f3_, f4_⟩ := M.for_law (m := X4) (d := X6) (by simpa using h50)
  refine Js.skip <| zS <| Qa rfl <| zJ <| zS <| Qa rfl <| JL.nil <| Js.block ?_
  refine zl [3, 4, 5] (fun F U l os u m => ∃ (k : Nat) (n : Int), l = F [(25, .int .i64 n), (26, .int .i64 (k : Int))] ∧ os = U [] ∧ (n = M.cntS (fun s : M.Slo => s.used && decide (X6 ≤ s.depth)) (X4.slots.take k)) ∧ (k ≤ X4.slots.length) ∧ m = X4.slots.length - k) ⟨0, 0, rfl, rfl, by rfl, zt, rfl⟩ ?_
  rintro _ _ u51 _ ⟨k, n, rfl, rfl, hA, hk, rfl⟩ x51
  refine zn ?_
  have hcb := M.cntS_tk (fun s : M.Slo => s.used && decide (X6 ≤ s.depth)) X4.slots k
  refine Js.seq <| zS <| Qm rfl <| Qf fh rfl <| Q0 12 rfl rfl rfl <| Qz rfl <| Ql rfl rfl <| JL.nil ?_
  refine zi (fun h52 h52' => ?_) fun h52 h52' => ?_
  ·
   have hkk : k < X4.slots.length := by have := h52'; omega
   have hy53 : X4.slots[k]? = some (M.slo X4.slots k) := M.slo_get (by omega)
   obtain ⟨b53, o53, A53_1, c53_1, he53, hr53, h53_1, bl53_1, bh53_1⟩ := elem_Slot (Ty.mono _ h5 ((((((((((x8.vis.trans x11.vis).trans x14.vis).trans x21.vis).trans x24.vis).trans x27.vis).trans x34.vis).trans x38.vis).trans x41.vis).trans x46.vis).trans x51.vis)) hy53
   have hy54 : X4.slots[k]? = some (M.slo X4.slots k) := M.slo_get (by omega)
   obtain ⟨b54, o54, A54_1, c54_1, he54, hr54, h54_1, bl54_1, bh54_1⟩ := elem_Slot (Ty.mono _ h5 ((((((((((x8.vis.trans x11.vis).trans x14.vis).trans x21.vis).trans x24.vis).trans x27.vis).trans x34.vis).trans x38.vis).trans x41.vis).trans x46.vis).trans x51.vis)) hy54
   refine Js.skip <| Js.seq <| Js.block <| zS <| Qf fh rfl <| Q0 12 rfl rfl rfl <| Qm rfl <| Qq (p_indexAddr el_26 rfl rfl (by omega) (by omega) he53) <| Qf fh rfl <| QC (hr53 0 _ rfl) rfl <| Qm rfl <| zg (Gd.t1 rfl rfl rfl) (fun hc => p_fieldAddr fld_28_1.h rfl) <| zgq (Gd.t1 rfl rfl rfl) (fun hc => q_load1 ty_26.h (gh hc rfl) (Mem.box (i := 12) rfl rfl)) <| zg (Gd.t1 rfl rfl rfl) (fun hc => p_move rfl) ?_
   refine zg (Gd.t1 rfl rfl rfl) (fun hc => p_indexAddr el_26 (gh hc rfl) (gh hc rfl) (by omega) (by omega) he54) ?_
   refine zg (Gd.t1 rfl rfl rfl) (fun hc => p_fieldAddr fld_45_3.h (gh hc rfl)) <| zgq (Gd.t1 rfl rfl rfl) (fun hc => q_load1 ty_2.h (gh hc rfl) (Mem.pub (hr54 3 _ rfl))) <| zg (Gd.t1 rfl rfl rfl) (fun hc => p_move rfl) <| zg (Gd.t1 rfl rfl rfl) (fun hc => p_geq (gh hc rfl) (gh hc rfl)) <| Qq (p_pickAnd rfl rfl rfl) <| JL.nil ?_
   refine zi (fun h55 h55' => ?_) fun h55 h55' => ?_
   ·
    have hA2 := M.cntS_y (q := (fun s : M.Slo => s.used && decide (X6 ≤ s.depth))) hkk h55
    rw [← hA] at hA2
    refine Js.region <| Qm rfl <| Qp rfl rfl <| Qa rfl <| JL.nil <| Js.blockEnd <| Js.region <| Qm rfl <| Qp rfl rfl <| Qa rfl <| JL.nil ?_
    exact zag ⟨k + 1, n + 1, rfl, rfl, by exact hA2.symm, zt, rfl⟩ x51
   have hA2 := M.cntS_n (q := (fun s : M.Slo => s.used && decide (X6 ≤ s.depth))) hkk h55
   rw [← hA] at hA2
   refine Js.skip <| Js.blockEnd <| Js.region <| Qm rfl <| Qp rfl rfl <| Qa rfl <| JL.nil ?_
   exact zag ⟨k + 1, n, rfl, rfl, by exact hA2.symm, zt, rfl⟩ x51
  have hN : M.filM (M.forM_ X4 X6).1 = n := by rw [f3_, hA]; exact (M.cntS_all (by have := h52'; omega)).symm
  refine zx ?_
  refine zS <| Q9 11 rfl rfl ?_
  refine zv rfl (fun w hw => c_impl_FilledSlots ((M.forM_ X4 X6).1) (ok_ hw) (r1 := (by first | exact hz1.mono (by omega) | exact hz2.mono (by omega) | exact hz3.mono (by omega) | exact hz4.mono (by omega) | exact hz5.mono (by omega) | exact hz6.mono (by omega) | exact hz7.mono (by omega) | exact hz8.mono (by omega) | exact hz9.mono (by omega)))) <| Qm rfl <| Qx rfl rfl <| Qx rfl rfl <| Qa rfl <| Qa rfl <| zN <| Qm rfl <| Qe rfl rfl <| Qm rfl <| zg (Gd.t1 rfl rfl rfl) (fun hc => p_move rfl) <| zg (Gd.t1 rfl rfl rfl) (fun hc => p_move rfl) <| zg (Gd.t1 rfl rfl rfl) (fun hc => p_eql (gh hc rfl) (gh hc rfl)) <| Qq (p_pickAnd rfl rfl rfl) ?_
  refine Qa rfl <| JL.nil ?_
  refine zR (((((((((((x3.trans x8).trans x11).trans x14).trans x21).trans x24).trans x27).trans x34).trans x38).trans x41).trans x46).trans x51) ?_
  first | rfl | (simp [outV, f4_, hN]; done)
 refine Js.skip <| Js.seq <| zS <| Qm rfl <| Qd rfl rfl <| JL.nil ?_
 refine zi (fun h56 h56' => ?_) fun h56 h56' => ?_
 ·
  refine zS <| Qa rfl <| JL.nil ?_
  refine zR (((((((((x3.trans x8).trans x11).trans x14).trans x21).trans x24).trans x27).trans x34).trans x38).trans x41) ?_
  first | rfl | (simp [outV, f4_, hN]; done)
 obtain ⟨f1_, f2_, f3_, f4_⟩ := M.for_law (m := X4) (d := X6) (by simpa using h56)
 refine Js.skip <| zS <| Qa rfl <| zJ <| zS <| Qa rfl <| JL.nil <| Js.block ?_
 refine zl [3, 4, 5] (fun F U l os u m => ∃ (k : Nat) (n : Int), l = F [(25, .int .i64 n), (26, .int .i64 (k : Int))] ∧ os = U [] ∧ (n = M.cntS (fun s : M.Slo => s.used && decide (X6 ≤ s.depth)) (X4.slots.take k)) ∧ (k ≤ X4.slots.length) ∧ m = X4.slots.length - k) ⟨0, 0, rfl, rfl, by rfl, zt, rfl⟩ ?_
 rintro _ _ u57 _ ⟨k, n, rfl, rfl, hA, hk, rfl⟩ x57
 refine zn ?_
 have hcb := M.cntS_tk (fun s : M.Slo => s.used && decide (X6 ≤ s.depth)) X4.slots k
 refine Js.seq <| zS <| Qm rfl <| Qf fh rfl <| Q0 11 rfl rfl rfl <| Qz rfl <| Ql rfl rfl <| JL.nil ?_
 refine zi (fun h58 h58' => ?_) fun h58 h58' => ?_
 ·
  have hkk : k < X4.slots.length := by have := h58'; omega
  have hy59 : X4.slots[k]? = some (M.slo X4.slots k) := M.slo_get (by omega)
  obtain ⟨b59, o59, A59_1, c59_1, he59, hr59, h59_1, bl59_1, bh59_1⟩ := elem_Slot (Ty.mono _ h5 (((((((((x8.vis.trans x11.vis).trans x14.vis).trans x21.vis).trans x24.vis).trans x27.vis).trans x34.vis).trans x38.vis).trans x41.vis).trans x57.vis)) hy59
  have hy60 : X4.slots[k]? = some (M.slo X4.slots k) := M.slo_get (by omega)
  obtain ⟨b60, o60, A60_1, c60_1, he60, hr60, h60_1, bl60_1, bh60_1⟩ := elem_Slot (Ty.mono _ h5 (((((((((x8.vis.trans x11.vis).trans x14.vis).trans x21.vis).trans x24.vis).trans x27.vis).trans x34.vis).trans x38.vis).trans x41.vis).trans x57.vis)) hy60
  refine Js.skip <| Js.seq <| Js.block <| zS <| Qf fh rfl <| Q0 11 rfl rfl rfl <| Qm rfl <| Qq (p_indexAddr el_26 rfl rfl (by omega) (by omega) he59) <| Qf fh rfl <| QC (hr59 0 _ rfl) rfl <| Qm rfl <| zg (Gd.t1 rfl rfl rfl) (fun hc => p_fieldAddr fld_28_1.h rfl) <| zgq (Gd.t1 rfl rfl rfl) (fun hc => q_load1 ty_26.h (gh hc rfl) (Mem.box (i := 11) rfl rfl)) <| zg (Gd.t1 rfl rfl rfl) (fun hc => p_move rfl) ?_
  refine zg (Gd.t1 rfl rfl rfl) (fun hc => p_indexAddr el_26 (gh hc rfl) (gh hc rfl) (by omega) (by omega) he60) ?_
  refine zg (Gd.t1 rfl rfl rfl) (fun hc => p_fieldAddr fld_45_3.h (gh hc rfl)) <| zgq (Gd.t1 rfl rfl rfl) (fun hc => q_load1 ty_2.h (gh hc rfl) (Mem.pub (hr60 3 _ rfl))) <| zg (Gd.t1 rfl rfl rfl) (fun hc => p_move rfl) <| zg (Gd.t1 rfl rfl rfl) (fun hc => p_geq (gh hc rfl) (gh hc rfl)) <| Qq (p_pickAnd rfl rfl rfl) <| JL.nil ?_
  refine zi (fun h61 h61' => ?_) fun h61 h61' => ?_
  ·
   have hA2 := M.cntS_y (q := (fun s : M.Slo => s.used && decide (X6 ≤ s.depth))) hkk h61
   rw [← hA] at hA2
   refine Js.region <| Qm rfl <| Qp rfl rfl <| Qa rfl <| JL.nil <| Js.blockEnd <| Js.region <| Qm rfl <| Qp rfl rfl <| Qa rfl <| JL.nil ?_
   exact zag ⟨k + 1, n + 1, rfl, rfl, by exact hA2.symm, zt, rfl⟩ x57
  have hA2 := M.cntS_n (q := (fun s : M.Slo => s.used && decide (X6 ≤ s.depth))) hkk h61
  rw [← hA] at hA2
  refine Js.skip <| Js.blockEnd <| Js.region <| Qm rfl <| Qp rfl rfl <| Qa rfl <| JL.nil ?_
  exact zag ⟨k + 1, n, rfl, rfl, by exact hA2.symm, zt, rfl⟩ x57
 have hN : M.filM (M.forM_ X4 X6).1 = n := by rw [f3_, hA]; exact (M.cntS_all (by have := h58'; omega)).symm
 refine zx ?_
 refine zS <| Q9 10 rfl rfl ?_
 refine zv rfl (fun w hw => c_impl_FilledSlots ((M.forM_ X4 X6).1) (ok_ hw) (r1 := (by first | exact hz1.mono (by omega) | exact hz2.mono (by omega) | exact hz3.mono (by omega) | exact hz4.mono (by omega) | exact hz5.mono (by omega) | exact hz6.mono (by omega) | exact hz7.mono (by omega) | exact hz8.mono (by omega) | exact hz9.mono (by omega)))) <| Qm rfl <| Qx rfl rfl <| Qx rfl rfl <| Qa rfl <| Qa rfl <| zN <| Qm rfl <| Qe rfl rfl <| Qm rfl <| zg (Gd.t1 rfl rfl rfl) (fun hc => p_move rfl) <| zg (Gd.t1 rfl rfl rfl) (fun hc => p_move rfl) <| zg (Gd.t1 rfl rfl rfl) (fun hc => p_eql (gh hc rfl) (gh hc rfl)) <| Qq (p_pickAnd rfl rfl rfl) ?_
 refine Qa rfl <| JL.nil ?_
 refine zR ((((((((((x3.trans x8).trans x11).trans x14).trans x21).trans x24).trans x27).trans x34).trans x38).trans x41).trans x57) ?_
 first | rfl | (simp [outV, f4_, hN]; done)
end Go.Proofs.Ytmgnckfhghibeaa

/- Walks: L53. -/
import Derived.Test.YthdmaamdlibjaaaDoorZcA3
import Derived.Test.YthdmaamdlibjaaaDoorZcA6
import Derived.Test.YthdmaamdlibjaaaDoorZcA7
import Derived.Test.YthdmaamdlibjaaaDoorZcA4
set_option linter.unusedSimpArgs false
set_option linter.unusedVariables false
set_option maxRecDepth 100000
attribute [local irreducible] Go.Proofs.YthdmaamdlibjaaaDoor.gv
set_option maxHeartbeats 16000000
namespace Go.Proofs.YthdmaamdlibjaaaDoor
open Go.RowKit
theorem c_laws_f6problems (a : List M.Prb) {v_a : Value} (b : List M.Prb) {v_b : Value} {w : World} (h_a : (Ty.sl 35 3 a.length (lProblem a)).ok w v_a) (h_b : (Ty.sl 35 3 b.length (lProblem b)).ok w v_b) (r0 : a.length ≤ 4194304 := by exact om_) (r1 : b.length ≤ 4194304 := by exact om_) : RetV Tryd.prog 34 [v_a, v_b] w (.bool (decide (a = b))) := by
 revert v_a; apply opn
 intro A1 c1 h1 bl1 bh1
 have h_a := h1
 revert v_b; apply opn
 intro A2 c2 h2 bl2 bh2
 have h_b := h2
 refine enter @Tryd.func34 @Tryd.ntmps34 rfl rfl ?_
 refine zent ?_
 refine zS <| Qa rfl <| zJ <| zS <| Qm rfl <| Qz rfl <| Qm rfl <| Qz rfl <| Qd rfl rfl <| JL.nil ?_
 refine zi (fun h3 h3' => ?_) fun h3 h3' => ?_
 ·
  have e1 : decide (a = b) = false := by simp; rintro rfl; simp at h3
  refine zS <| Qa rfl <| JL.nil ?_
  refine zR (Up.refl _ _) ?_
  simp [outV, e1]
 have hlen : a.length = b.length := by have := h3'; omega
 refine Js.skip <| Js.seq <| zS <| Qa rfl <| JL.nil <| Js.block ?_
 refine zl [0, 1] (fun F U l os u m => ∃ (k : Nat), l = F [(5, .int .i64 (k : Int))] ∧ os = U [] ∧ (k ≤ a.length) ∧ (a.take k = b.take k) ∧ m = a.length - k) ⟨0, rfl, rfl, zt, by rfl, rfl⟩ ?_
 rintro _ _ u4 _ ⟨k, rfl, rfl, hk, hU, rfl⟩ x4
 refine zn ?_
 refine Js.seq <| zS <| Qm rfl <| Qm rfl <| Qz rfl <| Ql rfl rfl <| JL.nil ?_
 refine zi (fun h5 h5' => ?_) fun h5 h5' => ?_
 ·
  obtain ⟨ye6, hye6⟩ : ∃ x, a[k]? = some x := ⟨_, List.getElem?_eq_getElem (by omega)⟩
  obtain ⟨ye7, hye7⟩ : ∃ x, b[k]? = some x := ⟨_, List.getElem?_eq_getElem (by omega)⟩
  refine Js.skip <| Js.seq <| Js.block <| Js.seq ?_
  refine zdr [] ?_
  refine jM 0 rfl rfl ?_
  refine jM 1 rfl rfl ?_
  have hy8 := hye6
  obtain ⟨b8, o8, he8, hr8⟩ := elem_Problem (Ty.mono _ h1 x4.vis) hy8
  refine jI 2 el_41 rfl rfl rfl he8 ?_
  refine JH.w 3 rfl (fun os' u' hv => LS 0 (hr8.vis hv) rfl) ?_
  refine jM 4 rfl rfl ?_
  refine jM 5 rfl rfl ?_
  have hy9 := hye7
  obtain ⟨b9, o9, he9, hr9⟩ := elem_Problem (Ty.mono _ h2 x4.vis) hy9
  refine jI 6 el_41 rfl rfl rfl he9 ?_
  refine JH.w 7 rfl (fun os' u' hv => LS 0 (hr9.vis hv) rfl) ?_
  refine JH.p 8 rfl (p_neqS (by kernel_rfl) (fun w => eqs_Problem ye6 ye7 w) rfl rfl) ?_
  refine yd ?_
  refine zi (fun h10 h10' => ?_) fun h10 h10' => ?_
  ·
   have e1 : decide (a = b) = false := decide_eq_false (M.upto_ne hye6 hye7 (by simpa using h10))
   refine zS <| Qa rfl <| JL.nil ?_
   refine zR x4 ?_
   simp [outV, e1]
  have hab : ye6 = ye7 := by simpa using h10
  rw [← hab] at hye7
  have hU2 := M.upto_step hU hye6 hye7
  refine Js.skip <| Js.blockEnd <| Js.region <| Qm rfl <| Qp rfl rfl <| Qa rfl <| JL.nil ?_
  exact zag ⟨k + 1, rfl, rfl, zt, by exact hU2, rfl⟩ x4
 have e1 : a = b := M.upto_done hU (by have := h5'; omega) (by have := h5'; omega)
 refine zx ?_
 refine zS <| Qa rfl <| JL.nil ?_
 refine zR x4 ?_
 simp [outV, e1]
theorem c_laws_FnRuleTexts (code : Nat) {v_code : Value} {w : World} (h_code : (Ty.bytes 5 code).ok w v_code) (h_tab : tabT.ok w undef) : RetV Tryd.prog 5 [v_code] w (.bool true) := by
 revert v_code; apply opn
 intro A1 c1 h1 bl1 bh1
 have h_code := h1
 refine enter @Tryd.func5 @Tryd.ntmps5 rfl rfl ?_
 refine zent ?_
 refine zS <| Qa rfl <| zJ <| zS <| Qm rfl <| zv rfl (fun w hw => c_laws_f6big code (ok_ hw)) <| JL.nil ?_
 refine zi (fun h2 h2' => ?_) fun h2 h2' => ?_
 ·
  refine zS <| Qa rfl <| JL.nil ?_
  refine zR (Up.refl _ _) ?_
  first | rfl | (simp [outV]; done) | (rw [hcT]; simp [outV])
 refine Js.skip <| zS <| Qm rfl <| zp rfl (fun w hw => c_spec_DrawRulesText code (ok_ hw)) ?_
 intro u3 x3 X4 hX4
 have hrl := M.rulesTR_len X4
 refine za zeh fun b5 => zw 0 rfl rfl rfl ?_
 refine zN <| Q9 0 rfl rfl ?_
 refine zv rfl (fun w hw => c_impl_RulesText X4 (ok_ hw) (ok_ hw)) <| Qa rfl <| zN <| Qm rfl <| zp rfl (fun w hw => c_impl_ReadRules (M.rulesTR X4) (ok_ hw)) ?_
 intro u6 x6
 refine Qm rfl <| Qx rfl rfl <| Qx rfl rfl <| za zeh fun b7 => zw 0 rfl rfl rfl ?_
 refine Qa rfl <| zN <| Qm rfl <| zp rfl (fun w hw => c_spec_DrawCheckRules code (ok_ hw)) ?_
 intro u8 x8 X9 hX9
 have hcl := M.chkT_len X9
 refine Qa rfl <| zN <| Qm rfl <| zp rfl (fun w hw => c_impl_CheckRules X9 (ok_ hw)) ?_
 intro u10 x10 A11 c11 h11 bl11 bh11
 refine Qm rfl <| Qx rfl rfl <| Qx rfl rfl <| Qx rfl rfl <| za zeh fun b12 => zw 0 rfl rfl rfl ?_
 refine Qa rfl <| Qa rfl <| zN <| Qm rfl <| zp rfl (fun w hw => c_spec_CheckRules X9) ?_
 intro u13 x13 A14 c14 h14 bl14 bh14
 refine Qm rfl <| Qx rfl rfl <| Qx rfl rfl <| Qx rfl rfl <| za zeh fun b15 => zw 0 rfl rfl rfl ?_
 refine Qa rfl <| Qa rfl <| zN <| Qm rfl <| zp rfl (fun w hw => c_impl_ReadRules X9 (ok_ hw)) ?_
 intro u16 x16
 refine Qm rfl <| Qx rfl rfl <| Qx rfl rfl <| za zeh fun b17 => zw 0 rfl rfl rfl ?_
 refine Qa rfl <| zN <| Qm rfl <| zp rfl (fun w hw => c_spec_ReadRules X9) ?_
 intro u18 x18
 refine Qm rfl <| Qx rfl rfl <| Qx rfl rfl <| za zeh fun b19 => zw 0 rfl rfl rfl ?_
 refine Qa rfl <| zJ <| zS <| Qm rfl <| Q9 5 rfl rfl ?_
 refine zv rfl (fun w hw => c_spec_RulesText X4 (ok_ hw)) <| Qq (p_neqT und_9 rfl rfl) <| Qm rfl <| zg (Gd.f1 rfl rfl rfl) (fun hc => p_move rfl) <| zg (Gd.f1 rfl rfl rfl) (fun hc => p_move rfl) <| zg (Gd.f1 rfl rfl rfl) (fun hc => p_neqT und_9 (gh hc rfl) rfl) <| zg (Gd.f1 rfl rfl rfl) (fun hc => p_neqB und_4 (gh hc rfl) (gh hc rfl)) <| Qq (p_pickOr rfl rfl rfl) <| Qm rfl <| zg (Gd.f1 rfl rfl rfl) (fun hc => p_move rfl) <| zg (Gd.f1 rfl rfl rfl) (fun hc => p_move (gh hc rfl)) <| zgq (Gd.t2 rfl rfl rfl) (fun hc => L9 4 rfl rfl) <| zgq (Gd.t2 rfl rfl rfl) (fun hc => L9 5 rfl rfl) <| zg (Gd.t2 rfl rfl rfl) (fun hc => p_neqS (by kernel_rfl) (fun w => eqs_Rules ((M.readR (M.rulesTR X4)).1) X4 w) (gh hc rfl) (gh hc rfl)) ?_
 refine zg (Gd.f1 rfl rfl rfl) (fun hc => p_pickAnd (gh hc rfl) (gvl rfl hc) rfl) <| Qq (p_pickOr rfl rfl rfl) <| Qm rfl <| zg (Gd.f1 rfl rfl rfl) (fun hc => p_move rfl) <| zg (Gd.f1 rfl rfl rfl) (fun hc => p_move rfl) <| zg (Gd.f1 rfl rfl rfl) (fun hc => p_neq (gh hc rfl) (gh hc rfl)) <| Qq (p_pickOr rfl rfl rfl) <| Qm rfl <| zgq (Gd.f1 rfl rfl rfl) (fun hc => L9 3 rfl rfl) <| zgq (Gd.f1 rfl rfl rfl) (fun hc => L9 2 rfl rfl) <| zg (Gd.f1 rfl rfl rfl) (fun hc => p_neqS (by kernel_rfl) (fun w => eqs_Rules ((M.chkT X9).1) ((M.chkT X9).1) w) (gh hc rfl) (gh hc rfl)) <| Qq (p_pickOr rfl rfl rfl) <| Qm rfl <| zg (Gd.f1 rfl rfl rfl) (fun hc => p_move rfl) ?_
 refine zg (Gd.f1 rfl rfl rfl) (fun hc => p_move rfl) <| zgv (Gd.f1 rfl rfl rfl) (fun hc => (opds_2 (gh hc rfl) (gh hc rfl))) (fun hc => (fun w hw => c_laws_f6problems ((M.chkT X9).2.1) ((M.chkT X9).2.1) (ok_ hw) (ok_ hw) (r0 := (by have hc9 := hc; (try simp only [Bool.not_eq_true', Bool.or_eq_false_iff, Bool.not_eq_false', decide_eq_true_eq, Bool.and_eq_false_iff] at hc9); omega)) (r1 := (by have hc9 := hc; (try simp only [Bool.not_eq_true', Bool.or_eq_false_iff, Bool.not_eq_false', decide_eq_true_eq, Bool.and_eq_false_iff] at hc9); omega)))) ?_
 refine zg (Gd.f1 rfl rfl rfl) (fun hc => p_not (gh hc rfl)) <| Qq (p_pickOr rfl rfl rfl) <| Qm rfl <| zg (Gd.f1 rfl rfl rfl) (fun hc => p_move rfl) <| zg (Gd.f1 rfl rfl rfl) (fun hc => p_move rfl) <| zg (Gd.f1 rfl rfl rfl) (fun hc => p_neqB und_4 (gh hc rfl) (gh hc rfl)) <| Qq (p_pickOr rfl rfl rfl) <| Qm rfl <| zgq (Gd.f1 rfl rfl rfl) (fun hc => L9 1 rfl rfl) <| zgq (Gd.f1 rfl rfl rfl) (fun hc => L9 0 rfl rfl) <| zg (Gd.f1 rfl rfl rfl) (fun hc => p_neqS (by kernel_rfl) (fun w => eqs_Rules ((M.readR X9).1) ((M.readR X9).1) w) (gh hc rfl) (gh hc rfl)) <| Qq (p_pickOr rfl rfl rfl) <| JL.nil ?_
 refine zi (fun h20 h20' => ?_) fun h20 h20' => ?_
 · exact absurd h20 (by obtain ⟨b1, b2⟩ := M.readR_back X4; cases h8 : (M.readR (M.rulesTR X4)).2 <;> simp_all)
 refine Js.skip <| Js.seq <| zS <| Qa rfl <| JL.nil <| Js.block ?_
 refine zl [3, 4, 6, 7, 8, 9, 10, 14, 15] (fun F U l os u m => ∃ (k : Nat), l = F [(18, .int .i64 (k : Int))] ∧ os = U [] ∧ (k ≤ (M.chkT X9).2.1.length) ∧ m = (M.chkT X9).2.1.length - k) ⟨0, rfl, rfl, zt, rfl⟩ ?_
 rintro _ _ u21 _ ⟨k, rfl, rfl, hk, rfl⟩ x21
 refine zn ?_
 refine Js.seq <| zS <| Qm rfl <| Qm rfl <| Qz rfl <| Ql rfl rfl <| JL.nil ?_
 refine zi (fun h22 h22' => ?_) fun h22 h22' => ?_
 ·
  obtain ⟨ye23, hye23⟩ : ∃ x, ((M.chkT X9).2.1)[k]? = some x := ⟨_, List.getElem?_eq_getElem (by omega)⟩
  have hY : (M.chkT X9).2.1[k]? = some ye23 := hye23
  have hT := M.chkT_told X9 _ (List.mem_of_getElem? hY)
  obtain ⟨hw9, ha9, hb9⟩ := M.chkT_el hY
  have hy24 := hye23
  obtain ⟨b24, o24, he24, hr24⟩ := elem_Problem (Ty.mono _ h11 (((x13.vis.trans x16.vis).trans x18.vis).trans x21.vis)) hy24
  refine Js.skip <| Js.seq <| Js.block <| zS <| Qm rfl <| Qm rfl <| Qq (p_indexAddr el_41 rfl rfl (by omega) (by omega) he24) <| QS 0 hr24 rfl ?_
  refine za zeh fun b25 => zw 0 rfl rfl rfl ?_
  refine zJ <| Js.seq ?_
  refine zdr [] ?_
  refine JH.q 0 rfl (L9 0 rfl rfl) ?_
  refine JH.q 2 rfl (L9 0 rfl rfl) ?_
  refine y1 1 ?_
  refine yv rfl rfl (fun w hw => c_impl_ProblemText ye23 (ok_ hw) (ok_ hw)) ?_
  refine y1 3 ?_
  refine yv rfl rfl (fun w hw => c_spec_ProblemText ye23 (ok_ hw)) ?_
  refine JH.p 4 rfl (p_neqT und_9 rfl rfl) ?_
  refine jM 5 rfl rfl ?_
  refine JH.qg 6 rfl (Gd.f1 rfl rfl rfl) (fun hc => L9 0 rfl rfl) ?_
  refine y1 7 ?_
  refine JHo.ge rfl (Gd.f1 rfl rfl rfl) (fun hc => e_callV fn_20.h (opds_1 (gvt rfl hc)) (fun w hw => c_impl_ProblemText ye23 (ok_ hw) (ok_ hw) (r0 := (by have hc9 := hc; (try simp only [Bool.not_eq_true', Bool.not_eq_false', decide_eq_true_eq] at hc9); omega)) (r1 := (by have hc9 := hc; (try simp only [Bool.not_eq_true', Bool.not_eq_false', decide_eq_true_eq] at hc9); omega)) (r2 := (by have hc9 := hc; (try simp only [Bool.not_eq_true', Bool.not_eq_false', decide_eq_true_eq] at hc9); omega)))) ?_
  refine JH.pg 8 rfl (Gd.f1 rfl rfl rfl) (fun hc => p_eqlT und_9 (gvt rfl hc) rfl) ?_
  refine JH.p 9 rfl (p_pickOr rfl rfl rfl) ?_
  refine yd ?_
  refine zi (fun h26 h26' => ?_) fun h26 h26' => ?_
  · exact absurd h26 (by simp [M.prbT_ne hT.k])
  refine Js.skip <| Js.seq <| zS <| Qf fh rfl <| Q0 0 rfl rfl rfl <| Qe rfl rfl <| JL.nil ?_
  refine zi (fun h27 h27' => ?_) fun h27 h27' => ?_
  ·
   refine zx ?_
   refine Js.region <| Qm rfl <| Qp rfl rfl <| Qa rfl <| JL.nil ?_
   refine zd [1, 1, 1, 1, 1, 1] rfl fun u28 x28 => ?_
   exact zag ⟨k + 1, rfl, rfl, zt, rfl⟩ (x21.trans x28)
  have hK : ¬ ye23.kind = 5 := by simpa using h27
  obtain ⟨t1_, t2_, t3_⟩ := hT.t hK
  refine Js.skip <| zS <| Qf fh rfl <| Q0 0 rfl rfl rfl <| Qf fh rfl <| Q0 0 rfl rfl rfl <| Qq (p_lenS und_9 rfl) <| Qp rfl rfl <| Qa rfl <| zJ ?_
  refine zdr [] ?_
  refine jF 0 fld_35_1 rfl rfl ?_
  refine jB 1 0 ty_2 rfl rfl rfl rfl ?_
  refine JH.p 2 rfl (p_lss rfl rfl) ?_
  refine jM 3 rfl rfl ?_
  refine JH.pg 4 rfl (Gd.f1 rfl rfl rfl) (fun hc => p_move rfl) ?_
  refine JH.pg 5 rfl (Gd.f1 rfl rfl rfl) (fun hc => p_move rfl) ?_
  refine JH.pg 6 rfl (Gd.f1 rfl rfl rfl) (fun hc => p_lenS und_9 (gvt rfl hc)) ?_
  refine JH.pg 7 rfl (Gd.f1 rfl rfl rfl) (fun hc => p_gtr (gvt rfl hc) (gvt rfl hc)) ?_
  refine JH.p 8 rfl (p_pickOr rfl rfl rfl) ?_
  refine jM 9 rfl rfl ?_
  refine JH.pg 10 rfl (Gd.f1 rfl rfl rfl) (fun hc => p_move rfl) ?_
  refine JH.pg 11 rfl (Gd.f1 rfl rfl rfl) (fun hc => p_fieldAddr fld_35_1.h rfl) ?_
  refine JH.qg 12 rfl (Gd.f1 rfl rfl rfl) (fun hc => q_load1 ty_2.h (gvt rfl hc) (Mem.box (i := 0) rfl rfl)) ?_
  refine JH.pg 13 rfl (Gd.f1 rfl rfl rfl) (fun hc => p_move rfl) ?_
  refine JH.pg 14 rfl (Gd.f1 rfl rfl rfl) (fun hc => p_midS (i := ye23.at1.toNat) (j := (ye23.at1 + (ye23.word.length : Int)).toNat) und_9 (gvt rfl hc) (by rw [Int.toNat_of_nonneg (by omega)]; exact (gvt rfl hc)) (by rw [Int.toNat_of_nonneg (by omega)]; exact (gvt rfl hc)) (by have hc9 := hc; (try simp only [Bool.not_eq_true', Bool.or_eq_false_iff, decide_eq_false_iff_not, Int.not_lt] at hc9); omega) (by have hc9 := hc; (try simp only [Bool.not_eq_true', Bool.or_eq_false_iff, decide_eq_false_iff_not, Int.not_lt] at hc9); omega)) ?_
  refine JH.pg 15 rfl (Gd.f1 rfl rfl rfl) (fun hc => p_fieldAddr fld_35_2.h rfl) ?_
  refine JH.qg 16 rfl (Gd.f1 rfl rfl rfl) (fun hc => q_load1 ty_9.h (gvt rfl hc) (Mem.box (i := 0) rfl rfl)) ?_
  refine JH.pg 17 rfl (Gd.f1 rfl rfl rfl) (fun hc => p_neqT und_9 (gvt rfl hc) (gvt rfl hc)) ?_
  refine JH.p 18 rfl (p_pickOr rfl rfl rfl) ?_
  refine yd ?_
  refine zi (fun h29 h29' => ?_) fun h29 h29' => ?_
  · exact absurd h29 (by have e9 : (ye23.at1 + (ye23.word.length : Int)).toNat - ye23.at1.toNat = ye23.word.length := (by omega); rw [e9, t1_]; simp; omega)
  refine Js.skip <| Js.blockEnd <| Js.region <| Qm rfl <| Qp rfl rfl <| Qa rfl <| JL.nil ?_
  refine zd [1, 1, 1, 1, 1, 1] rfl fun u30 x30 => ?_
  exact zag ⟨k + 1, rfl, rfl, zt, rfl⟩ (x21.trans x30)
 refine zx ?_
 refine Js.seq <| zS <| Qm rfl <| Qm rfl <| zg (Gd.t1 rfl rfl rfl) (fun hc => p_move rfl) <| zg (Gd.t1 rfl rfl rfl) (fun hc => p_neq (gh hc rfl) rfl) <| zg (Gd.t1 rfl rfl rfl) (fun hc => p_move (gh hc rfl)) <| zg (Gd.f2 rfl rfl rfl) (fun hc => p_move rfl) <| zg (Gd.f2 rfl rfl rfl) (fun hc => p_len el_41 (gh hc rfl)) <| zg (Gd.f2 rfl rfl rfl) (fun hc => p_neq (gh hc rfl) rfl) <| zg (Gd.t1 rfl rfl rfl) (fun hc => p_pickOr (gh hc rfl) rfl (gvl rfl hc)) <| zg (Gd.t1 rfl rfl rfl) (fun hc => p_move (gh hc rfl)) <| zgq (Gd.f2 rfl rfl rfl) (fun hc => L9 3 rfl rfl) <| zgq (Gd.f2 rfl rfl rfl) (fun hc => L9 1 rfl rfl) ?_
 refine zg (Gd.f2 rfl rfl rfl) (fun hc => p_neqS (by kernel_rfl) (fun w => eqs_Rules ((M.chkT X9).1) ((M.readR X9).1) w) (gh hc rfl) (gh hc rfl)) <| zg (Gd.t1 rfl rfl rfl) (fun hc => p_pickOr (gh hc rfl) rfl (gvl rfl hc)) <| Qq (p_pickAnd rfl rfl rfl) <| JL.nil ?_
 refine zi (fun h31 h31' => ?_) fun h31 h31' => ?_
 · exact absurd h31 (by cases h8 : (M.readR X9).2; simp; (obtain ⟨o1, o2, o3⟩ := M.readR_one h8; simp [o1, o2, o3]))
 refine Js.skip <| Js.seq <| zS <| Qm rfl <| Qt rfl <| JL.nil ?_
 refine zi (fun h32 h32' => ?_) fun h32 h32' => ?_
 ·
  refine zS <| Qa rfl <| JL.nil ?_
  refine zR (((((((x3.trans x6).trans x8).trans x10).trans x13).trans x16).trans x18).trans x21) ?_
  first | rfl | (simp [outV]; done) | (rw [hcT]; simp [outV])
 have hok : M.okR X4 = true := ((M.readR_back X4).2 (by simpa using h32)).2
 have hwr : M.wds (M.rulesTR X4) = M.rW X4 := by rw [M.rulesTR_yes hok]; exact M.wds_rules hok
 have hwl9 := congrArg List.length hwr
 refine Js.skip <| zS <| Qa rfl <| zN <| Qm rfl <| zp rfl (fun w hw => c_spec_SplitWords (M.rulesTR X4)) ?_
 intro u33 x33 A34 c34 h34 bl34 bh34
 refine Qa rfl <| zJ <| zS <| Qa rfl <| JL.nil <| Js.block ?_
 refine zl [3, 22] (fun F U l os u m => ∃ (j : Nat) (u9 : List UInt8), l = F [(21, .string (sB u9)), (23, .int .i64 (j : Int))] ∧ os = U [] ∧ (u9 = M.turnN (M.rW X4) j) ∧ (j ≤ (M.rW X4).length) ∧ m = (M.rW X4).length - j) ⟨0, ([] : List UInt8), rfl, rfl, by rfl, zt, rfl⟩ ?_
 rintro _ _ u35 _ ⟨j, u9, rfl, rfl, hU, hj, rfl⟩ x35
 refine zn ?_
 have hul : u9.length ≤ 200 := by rw [hU]; have := M.turn_len (M.rW_ok hok) j hj; have := M.rW_len X4; omega
 have lb9 : LenB u9 200 := ⟨hul⟩
 refine Js.seq <| zS <| Qm rfl <| Qm rfl <| Qz rfl <| Ql rfl rfl <| JL.nil ?_
 refine zi (fun h36 h36' => ?_) fun h36 h36' => ?_
 ·
  obtain ⟨ye37, hye37⟩ : ∃ x, (M.wds (M.rulesTR X4))[j]? = some x := ⟨_, List.getElem?_eq_getElem (by omega)⟩
  have hY2 : (M.rW X4)[j]? = some ye37 := by rw [← hwr]; exact hye37
  have lb8 : LenB ye37 17 := by obtain ⟨_, _, q⟩ := M.rW_ok hok _ (List.mem_of_getElem? hY2); exact ⟨q.l⟩
  have hy38 := hye37
  obtain ⟨b38, o38, he38, hc38⟩ := strs_elem (Ty.mono _ h34 x35.vis) hy38
  refine Js.skip <| Js.seq <| Js.block <| Js.region <| Qm rfl <| Qm rfl <| Qq (p_indexAddr el_38 rfl rfl (by omega) (by omega) he38) <| QC hc38 rfl <| Qq (q_cat rfl rfl) <| Qm rfl <| Qq (q_cat rfl rfl) <| Qa rfl <| JL.nil <| Js.blockEnd ?_
  refine Js.region <| Qm rfl <| Qp rfl rfl <| Qa rfl <| JL.nil ?_
  exact zag ⟨j + 1, (ye37 ++ ([32, 32] : List UInt8)) ++ u9, rfl, rfl, by rw [hU, M.turnN, M.wdn_get hY2], zt, rfl⟩ x35
 have hjn : j = (M.rW X4).length := by have := h36'; rw [hwr] at this; omega
 subst hjn
 have hcT := M.chk_turned hok
 rw [← hU] at hcT
 have hul : u9.length ≤ 200 := by rw [hU]; have := M.turn_len (M.rW_ok hok) _ hj; have := M.rW_len X4; omega
 refine zx ?_
 refine zS <| Qm rfl <| zp rfl (fun w hw => c_impl_CheckRules u9 (ok_ hw)) ?_
 intro u39 x39 A40 c40 h40 bl40 bh40
 refine Qm rfl <| Qx rfl rfl <| Qx rfl rfl <| Qx rfl rfl <| za zeh fun b41 => zw 0 rfl rfl rfl ?_
 refine Qa rfl <| Qa rfl <| zN <| Qm rfl <| Qe rfl rfl <| Qm rfl <| zg (Gd.t1 rfl rfl rfl) (fun hc => p_move rfl) <| zg (Gd.t1 rfl rfl rfl) (fun hc => p_len el_41 (gh hc rfl)) <| zg (Gd.t1 rfl rfl rfl) (fun hc => p_eql (gh hc rfl) rfl) <| Qq (p_pickAnd rfl rfl rfl) <| Qm rfl <| zgq (Gd.t1 rfl rfl rfl) (fun hc => L9 0 rfl rfl) <| zgq (Gd.t1 rfl rfl rfl) (fun hc => L9 6 rfl rfl) <| zg (Gd.t1 rfl rfl rfl) (fun hc => p_eqlS (by kernel_rfl) (fun w => eqs_Rules ((M.chkT u9).1) X4 w) (gh hc rfl) (gh hc rfl)) ?_
 refine Qq (p_pickAnd rfl rfl rfl) <| Qa rfl <| JL.nil ?_
 refine zR ((((((((((x3.trans x6).trans x8).trans x10).trans x13).trans x16).trans x18).trans x21).trans x33).trans x35).trans x39) ?_
 first | rfl | (simp [outV]; done) | (rw [hcT]; simp [outV])
end Go.Proofs.YthdmaamdlibjaaaDoor

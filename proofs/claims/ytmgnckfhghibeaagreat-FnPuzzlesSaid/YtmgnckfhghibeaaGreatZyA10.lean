/- Walks: L42. -/
import Derived.Test.YtmgnckfhghibeaaGreatZyA3
import Derived.Test.YtmgnckfhghibeaaGreatZyA9
import Derived.Test.YtmgnckfhghibeaaGreatZyA1
import Derived.Test.YtmgnckfhghibeaaGreatZyA4
set_option linter.unusedSimpArgs false
set_option linter.unusedVariables false
set_option maxRecDepth 100000
attribute [local irreducible] Go.Proofs.YtmgnckfhghibeaaGreat.gv
set_option maxHeartbeats 16000000
namespace Go.Proofs.YtmgnckfhghibeaaGreat
open Go.RowKit
theorem c_laws_FnPuzzles (code : Nat) {v_code : Value} {w : World} (h_code : (Ty.bytes 5 code).ok w v_code) : RetV Tryz.prog 4 [v_code] w (.bool true) := by
 revert v_code; apply opn
 intro A1 c1 h1 bl1 bh1
 have h_code := h1
 refine enter @Tryz.func4 @Tryz.ntmps4 rfl rfl ?_
 refine zent ?_
 refine zS <| Qa rfl <| zJ <| zS <| Qm rfl <| zv rfl (fun w hw => c_laws_f6big code (ok_ hw)) <| JL.nil ?_
 refine zi (fun h2 h2' => ?_) fun h2 h2' => ?_
 ·
  refine zS <| Qa rfl <| JL.nil ?_
  refine zR (Up.refl _ _) ?_
  first | rfl | (simp [outV, hE, hP.solc, hsol, M.nth]; done)
 refine Js.skip <| zS <| Qm rfl <| zp rfl (fun w hw => c_spec_DrawPuzzleOf code (ok_ hw)) ?_
 intro u3 x3 X4 hX4 X5 hX5 A6 c6 h6 bl6 bh6 A7 c7 h7 bl7 bh7 X8 hX8
 refine Qm rfl <| Qx rfl rfl <| Qx rfl rfl <| Qx rfl rfl <| za zeh fun b9 => za zeh fun b10 => zw 1 rfl rfl rfl ?_
 refine zw 0 rfl rfl rfl ?_
 refine Qa rfl <| zN <| Q9 1 rfl rfl ?_
 refine Q9 0 rfl rfl ?_
 refine Qm rfl <| zp rfl (fun w hw => c_impl_PuzzleOf X4 X5 X8 (ok_ hw) (ok_ hw)) ?_
 intro u11 x11 A12 c12 h12 bl12 bh12 A13 c13 h13 bl13 bh13
 have hsm := M.puz_small X4 X5 X8
 have hs1 := hsm.sp
 have hs2 := hsm.ss
 refine Qm rfl <| Qx rfl rfl <| Qx rfl rfl <| za zeh fun b14 => zw 0 rfl rfl rfl ?_
 refine Qa rfl <| zN <| Q9 2 rfl rfl ?_
 refine Q9 1 rfl rfl ?_
 refine Qm rfl <| zp rfl (fun w hw => c_spec_PuzzleOf X4 X5 X8 (ok_ hw) (ok_ hw)) ?_
 intro u15 x15 A16 c16 h16 bl16 bh16 A17 c17 h17 bl17 bh17
 refine Qm rfl <| Qx rfl rfl <| Qx rfl rfl <| za zeh fun b18 => zw 0 rfl rfl rfl ?_
 refine Qa rfl <| zN <| Qm rfl <| zp rfl (fun w hw => c_spec_DrawValidPuzzle code (ok_ hw)) ?_
 intro u19 x19 X20 hX20 A21 c21 h21 bl21 bh21 A22 c22 h22 bl22 bh22
 have hts := M.turnZ_sz (z := X20)
 refine za zeh fun b23 => zw 0 rfl rfl rfl ?_
 refine zN <| Q9 0 rfl rfl ?_
 refine zp rfl (fun w hw => c_impl_TurnPuzzle X20 (ok_ hw)) ?_
 intro u24 x24 A25 c25 h25 bl25 bh25 A26 c26 h26 bl26 bh26
 refine Qm rfl <| Qx rfl rfl <| Qx rfl rfl <| za zeh fun b27 => zw 0 rfl rfl rfl ?_
 refine Qa rfl <| zN <| Q9 1 rfl rfl ?_
 refine zp rfl (fun w hw => c_spec_TurnPuzzle X20 (ok_ hw)) ?_
 intro u28 x28 A29 c29 h29 bl29 bh29 A30 c30 h30 bl30 bh30
 refine Qm rfl <| Qx rfl rfl <| Qx rfl rfl <| za zeh fun b31 => zw 0 rfl rfl rfl ?_
 refine Qa rfl <| zN <| Qm rfl <| zp rfl (fun w hw => c_spec_DrawSamePuzzle code (ok_ hw)) ?_
 intro u32 x32 X33 hX33 A34 c34 h34 bl34 bh34 A35 c35 h35 bl35 bh35 X36 hX36 A37 c37 h37 bl37 bh37 A38 c38 h38 bl38 bh38
 refine Qm rfl <| Qx rfl rfl <| Qx rfl rfl <| za zeh fun b39 => za zeh fun b40 => zw 1 rfl rfl rfl ?_
 refine zw 0 rfl rfl rfl ?_
 refine zJ <| Js.seq ?_
 refine zdr [] ?_
 refine jM 0 rfl rfl ?_
 refine jM 1 rfl rfl ?_
 refine JH.p 2 rfl (p_neq rfl rfl) ?_
 refine jM 3 rfl rfl ?_
 refine JH.qg 4 rfl (Gd.f1 rfl rfl rfl) (fun hc => L9 6 rfl rfl) ?_
 refine JH.qg 5 rfl (Gd.f1 rfl rfl rfl) (fun hc => L9 5 rfl rfl) ?_
 refine y1 6 ?_
 refine JHo.ge rfl (Gd.f1 rfl rfl rfl) (fun hc => e_callV fn_25.h (opds_2 (gvt rfl hc) (gvt rfl hc)) (fun w hw => c_spec_SamePuzzle ((M.puz X4 X5 X8).1) ((M.puz X4 X5 X8).1) (ok_ hw) (ok_ hw) (r0 := (by have hc9 := hc; (try simp only [Bool.not_eq_true', Bool.not_eq_false', decide_eq_true_eq] at hc9); omega)) (r1 := (by have hc9 := hc; (try simp only [Bool.not_eq_true', Bool.not_eq_false', decide_eq_true_eq] at hc9); omega)) (r2 := (by have hc9 := hc; (try simp only [Bool.not_eq_true', Bool.not_eq_false', decide_eq_true_eq] at hc9); omega)) (r3 := (by have hc9 := hc; (try simp only [Bool.not_eq_true', Bool.not_eq_false', decide_eq_true_eq] at hc9); omega)))) ?_
 refine JH.pg 7 rfl (Gd.f1 rfl rfl rfl) (fun hc => p_not (gvt rfl hc)) ?_
 refine JH.p 8 rfl (p_pickOr rfl rfl rfl) ?_
 refine jM 9 rfl rfl ?_
 refine JH.qg 10 rfl (Gd.f1 rfl rfl rfl) (fun hc => L9 4 rfl rfl) ?_
 refine JH.qg 12 rfl (Gd.f1 rfl rfl rfl) (fun hc => L9 4 rfl rfl) ?_
 refine y1 11 ?_
 refine JHo.ge rfl (Gd.f1 rfl rfl rfl) (fun hc => e_callV fn_26.h (opds_1 (gvt rfl hc)) (fun w hw => c_impl_ValidPuzzle X20 (ok_ hw) (r0 := (by have hc9 := hc; (try simp only [Bool.not_eq_true', Bool.or_eq_false_iff, Bool.not_eq_false', decide_eq_true_eq] at hc9); omega)) (r1 := (by have hc9 := hc; (try simp only [Bool.not_eq_true', Bool.or_eq_false_iff, Bool.not_eq_false', decide_eq_true_eq] at hc9); omega)))) ?_
 refine y1 13 ?_
 refine JHo.ge rfl (Gd.f1 rfl rfl rfl) (fun hc => e_callV fn_27.h (opds_1 (gvt rfl hc)) (fun w hw => c_spec_ValidPuzzle X20 (ok_ hw) (r0 := (by have hc9 := hc; (try simp only [Bool.not_eq_true', Bool.or_eq_false_iff, Bool.not_eq_false', decide_eq_true_eq] at hc9); omega)) (r1 := (by have hc9 := hc; (try simp only [Bool.not_eq_true', Bool.or_eq_false_iff, Bool.not_eq_false', decide_eq_true_eq] at hc9); omega)))) ?_
 refine JH.pg 14 rfl (Gd.f1 rfl rfl rfl) (fun hc => p_neqB und_4 (gvt rfl hc) (gvt rfl hc)) ?_
 refine JH.p 15 rfl (p_pickOr rfl rfl rfl) ?_
 refine jM 16 rfl rfl ?_
 refine JH.pg 17 rfl (Gd.f1 rfl rfl rfl) (fun hc => p_move rfl) ?_
 refine JH.pg 18 rfl (Gd.f1 rfl rfl rfl) (fun hc => p_move rfl) ?_
 refine JH.pg 19 rfl (Gd.f1 rfl rfl rfl) (fun hc => p_neq (gvt rfl hc) (gvt rfl hc)) ?_
 refine JH.p 20 rfl (p_pickOr rfl rfl rfl) ?_
 refine jM 21 rfl rfl ?_
 refine JH.qg 22 rfl (Gd.f1 rfl rfl rfl) (fun hc => L9 3 rfl rfl) ?_
 refine JH.qg 23 rfl (Gd.f1 rfl rfl rfl) (fun hc => L9 2 rfl rfl) ?_
 refine y1 24 ?_
 refine JHo.ge rfl (Gd.f1 rfl rfl rfl) (fun hc => e_callV fn_25.h (opds_2 (gvt rfl hc) (gvt rfl hc)) (fun w hw => c_spec_SamePuzzle ((M.turnZ X20).1) ((M.turnZ X20).1) (ok_ hw) (ok_ hw) (r0 := (by have hc9 := hc; (try simp only [Bool.not_eq_true', Bool.or_eq_false_iff, Bool.not_eq_false', decide_eq_true_eq] at hc9); omega)) (r1 := (by have hc9 := hc; (try simp only [Bool.not_eq_true', Bool.or_eq_false_iff, Bool.not_eq_false', decide_eq_true_eq] at hc9); omega)) (r2 := (by have hc9 := hc; (try simp only [Bool.not_eq_true', Bool.or_eq_false_iff, Bool.not_eq_false', decide_eq_true_eq] at hc9); omega)) (r3 := (by have hc9 := hc; (try simp only [Bool.not_eq_true', Bool.or_eq_false_iff, Bool.not_eq_false', decide_eq_true_eq] at hc9); omega)))) ?_
 refine JH.pg 25 rfl (Gd.f1 rfl rfl rfl) (fun hc => p_not (gvt rfl hc)) ?_
 refine JH.p 26 rfl (p_pickOr rfl rfl rfl) ?_
 refine jM 27 rfl rfl ?_
 refine JH.qg 28 rfl (Gd.f1 rfl rfl rfl) (fun hc => L9 1 rfl rfl) ?_
 refine JH.qg 29 rfl (Gd.f1 rfl rfl rfl) (fun hc => L9 0 rfl rfl) ?_
 refine JH.qg 31 rfl (Gd.f1 rfl rfl rfl) (fun hc => L9 1 rfl rfl) ?_
 refine JH.qg 32 rfl (Gd.f1 rfl rfl rfl) (fun hc => L9 0 rfl rfl) ?_
 refine y1 30 ?_
 refine JHo.ge rfl (Gd.f1 rfl rfl rfl) (fun hc => e_callV fn_28.h (opds_2 (gvt rfl hc) (gvt rfl hc)) (fun w hw => c_impl_SamePuzzle X33 X36 (ok_ hw) (ok_ hw) (r0 := (by have hc9 := hc; (try simp only [Bool.not_eq_true', Bool.or_eq_false_iff, Bool.not_eq_false', decide_eq_true_eq] at hc9); omega)) (r1 := (by have hc9 := hc; (try simp only [Bool.not_eq_true', Bool.or_eq_false_iff, Bool.not_eq_false', decide_eq_true_eq] at hc9); omega)) (r2 := (by have hc9 := hc; (try simp only [Bool.not_eq_true', Bool.or_eq_false_iff, Bool.not_eq_false', decide_eq_true_eq] at hc9); omega)) (r3 := (by have hc9 := hc; (try simp only [Bool.not_eq_true', Bool.or_eq_false_iff, Bool.not_eq_false', decide_eq_true_eq] at hc9); omega)))) ?_
 refine y1 33 ?_
 refine JHo.ge rfl (Gd.f1 rfl rfl rfl) (fun hc => e_callV fn_25.h (opds_2 (gvt rfl hc) (gvt rfl hc)) (fun w hw => c_spec_SamePuzzle X33 X36 (ok_ hw) (ok_ hw) (r0 := (by have hc9 := hc; (try simp only [Bool.not_eq_true', Bool.or_eq_false_iff, Bool.not_eq_false', decide_eq_true_eq] at hc9); omega)) (r1 := (by have hc9 := hc; (try simp only [Bool.not_eq_true', Bool.or_eq_false_iff, Bool.not_eq_false', decide_eq_true_eq] at hc9); omega)) (r2 := (by have hc9 := hc; (try simp only [Bool.not_eq_true', Bool.or_eq_false_iff, Bool.not_eq_false', decide_eq_true_eq] at hc9); omega)) (r3 := (by have hc9 := hc; (try simp only [Bool.not_eq_true', Bool.or_eq_false_iff, Bool.not_eq_false', decide_eq_true_eq] at hc9); omega)))) ?_
 refine JH.pg 34 rfl (Gd.f1 rfl rfl rfl) (fun hc => p_neqB und_4 (gvt rfl hc) (gvt rfl hc)) ?_
 refine JH.p 35 rfl (p_pickOr rfl rfl rfl) ?_
 refine yd ?_
 refine zi (fun h41 h41' => ?_) fun h41 h41' => ?_
 · exact absurd h41 (by simp [M.samez_refl])
 refine Js.skip <| Js.seq <| zS <| Qm rfl <| Qe rfl rfl <| JL.nil ?_
 refine zi (fun h42 h42' => ?_) fun h42 h42' => ?_
 ·
  have htz := M.turnZ_ok (z := X20) (by simpa using h42)
  obtain ⟨ht1, ht2⟩ := htz
  have hts2 := M.turnZ_sz (z := (M.turnZ X20).1)
  refine zS <| Q9 3 rfl rfl ?_
  refine zp rfl (fun w hw => c_impl_TurnPuzzle ((M.turnZ X20).1) (ok_ hw)) ?_
  intro u43 x43 A44 c44 h44 bl44 bh44 A45 c45 h45 bl45 bh45
  refine Qm rfl <| Qx rfl rfl <| Qx rfl rfl <| za zeh fun b46 => zw 0 rfl rfl rfl ?_
  refine Qa rfl <| zN <| Q9 4 rfl rfl ?_
  refine zv rfl (fun w hw => c_impl_ValidPuzzle ((M.turnZ X20).1) (ok_ hw)) <| Qt rfl <| Qm rfl <| zg (Gd.f1 rfl rfl rfl) (fun hc => p_move rfl) <| zg (Gd.f1 rfl rfl rfl) (fun hc => p_neq (gh hc rfl) rfl) <| Qq (p_pickOr rfl rfl rfl) <| Qm rfl <| zgq (Gd.f1 rfl rfl rfl) (fun hc => L9 0 rfl rfl) <| zgq (Gd.f1 rfl rfl rfl) (fun hc => L9 5 rfl rfl) <| zgv (Gd.f1 rfl rfl rfl) (fun hc => (opds_2 (gh hc rfl) (gh hc rfl))) (fun hc => (fun w hw => c_spec_SamePuzzle ((M.turnZ ((M.turnZ X20).1)).1) X20 (ok_ hw) (ok_ hw) (r0 := (by have hc9 := hc; (try simp only [Bool.not_eq_true', Bool.or_eq_false_iff, Bool.not_eq_false', decide_eq_true_eq] at hc9); omega)) (r1 := (by have hc9 := hc; (try simp only [Bool.not_eq_true', Bool.or_eq_false_iff, Bool.not_eq_false', decide_eq_true_eq] at hc9); omega)) (r2 := (by have hc9 := hc; (try simp only [Bool.not_eq_true', Bool.or_eq_false_iff, Bool.not_eq_false', decide_eq_true_eq] at hc9); omega)) (r3 := (by have hc9 := hc; (try simp only [Bool.not_eq_true', Bool.or_eq_false_iff, Bool.not_eq_false', decide_eq_true_eq] at hc9); omega)))) ?_
  refine zg (Gd.f1 rfl rfl rfl) (fun hc => p_not (gh hc rfl)) <| Qq (p_pickOr rfl rfl rfl) <| JL.nil ?_
  refine zi (fun h47 h47' => ?_) fun h47 h47' => ?_
  · exact absurd h47 (by simp [ht1, ht2, M.samez_refl])
  refine Js.skip <| Js.seq <| zS <| Qm rfl <| Qd rfl rfl <| JL.nil ?_
  refine zi (fun h48 h48' => ?_) fun h48 h48' => ?_
  ·
   refine zS <| Qa rfl <| JL.nil ?_
   refine zR (((((((x3.trans x11).trans x15).trans x19).trans x24).trans x28).trans x32).trans x43) ?_
   first | rfl | (simp [outV, hE, hP.solc, hsol, M.nth]; done)
  have hz : (M.puz X4 X5 X8).2 = 0 := by simpa using h48
  obtain ⟨hP, hP2⟩ := M.puzzled hz
  have hok := M.puz_okP hz
  have hlc := M.legC_y hok
  have hll := M.legal_len' hok
  have hp2 := hP.two
  have hpm := hP.mar
  obtain ⟨tl9, hsol⟩ := hP.sol
  have hsl : (M.sol (M.puz X4 X5 X8).1).length = tl9.length + 1 := by rw [hsol]; rfl
  refine Js.skip <| zS <| Q9 9 rfl rfl ?_
  refine Q9 8 rfl rfl ?_
  refine zp rfl (fun w hw => c_spec_LegalMovesL X4 X5 (ok_ hw) (ok_ hw)) ?_
  intro u49 x49 A50 c50 h50 bl50 bh50
  refine Qm rfl <| Qx rfl rfl <| Qx rfl rfl <| Qa rfl <| Qa rfl <| zJ <| zS <| Qm rfl <| Qd rfl rfl <| Qm rfl <| zg (Gd.f1 rfl rfl rfl) (fun hc => p_move rfl) <| zg (Gd.f1 rfl rfl rfl) (fun hc => p_len el_29 (gh hc rfl)) <| zg (Gd.f1 rfl rfl rfl) (fun hc => p_lss (gh hc rfl) rfl) <| Qq (p_pickOr rfl rfl rfl) ?_
  refine Qm rfl <| zg (Gd.f1 rfl rfl rfl) (fun hc => p_fieldAddr fld_53_5.h rfl) <| zgq (Gd.f1 rfl rfl rfl) (fun hc => q_load1 ty_2.h (gh hc rfl) (Mem.box (i := 7) rfl rfl)) <| zg (Gd.f1 rfl rfl rfl) (fun hc => p_lss (gh hc rfl) rfl) <| Qq (p_pickOr rfl rfl rfl) <| JL.nil ?_
  refine zi (fun h51 h51' => ?_) fun h51 h51' => ?_
  · exact absurd h51 (by first | (simp [hlc]; omega) | (simp [hlc, hll]; omega))
  refine Js.skip <| zS <| Qa rfl <| zJ <| zS <| Qa rfl <| JL.nil <| Js.block ?_
  refine zl [6, 19] (fun F U l os u m => ∃ (i : Nat) (t : Int), l = F [(21, .int .i64 t), (22, .int .i64 (i : Int))] ∧ os = U [] ∧ (M.leastA (M.puz X4 X5 X8).1 t ((M.results X4 X5).drop i) = ((M.puz X4 X5 X8).1).margin) ∧ (i ≤ (M.legal X4 X5).length) ∧ m = (M.legal X4 X5).length - i) ⟨0, 1000, rfl, rfl, by exact hP2, zt, rfl⟩ ?_
  rintro _ _ u52 _ ⟨i, t, rfl, rfl, hS, hi, rfl⟩ x52
  refine zn ?_
  refine Js.seq <| zS <| Qm rfl <| Qm rfl <| Qz rfl <| Ql rfl rfl <| JL.nil ?_
  refine zi (fun h53 h53' => ?_) fun h53 h53' => ?_
  ·
   have hii : i < (M.legal X4 X5).length := by have := h53'; omega
   obtain ⟨x9, hx9, hm9, hn9⟩ := M.legal_get hok hii
   obtain ⟨l1, l2, l3, l4⟩ := hP.loss x9 hm9
   rw [← hn9] at l1 l2 l3 l4
   refine Js.skip <| Js.seq <| Js.block <| Js.seq ?_
   refine zdr [] ?_
   refine JH.q 0 rfl (L9 7 rfl rfl) ?_
   refine jM 1 rfl rfl ?_
   refine jM 2 rfl rfl ?_
   obtain ⟨b54, o54, he54, hc54⟩ := ints_elem (Ty.mono _ h50 x52.vis) (i := i) (by omega)
   refine jI 3 el_29 rfl rfl rfl he54 ?_
   refine jW 4 ty_2 rfl rfl hc54.vis ?_
   refine y1 5 ?_
   refine yv rfl rfl (fun w hw => c_impl_AnswerLoss ((M.puz X4 X5 X8).1) (M.nth (M.legal X4 X5) i) (ok_ hw)) ?_
   refine jM 6 rfl rfl ?_
   refine JH.p 7 rfl (p_extract rfl rfl) ?_
   refine JH.p 8 rfl (p_extract rfl rfl) ?_
   refine jA 9 rfl rfl ?_
   refine jA 10 rfl rfl ?_
   refine yd ?_
   refine Js.seq <| Js.seq ?_
   refine zdr [] ?_
   refine jM 0 rfl rfl ?_
   refine JH.p 1 rfl (p_neq rfl rfl) ?_
   refine jM 2 rfl rfl ?_
   refine JH.pg 3 rfl (Gd.f1 rfl rfl rfl) (fun hc => p_move rfl) ?_
   refine JH.pg 4 rfl (Gd.f1 rfl rfl rfl) (fun hc => p_eql (gvt rfl hc) rfl) ?_
   refine JH.pg 5 rfl (Gd.f1 rfl rfl rfl) (fun hc => p_move rfl) ?_
   refine JH.pg 6 rfl (Gd.f1 rfl rfl rfl) (fun hc => p_move rfl) ?_
   obtain ⟨b55, o55, he55, hc55⟩ := ints_elem (Ty.mono _ h50 x52.vis) (i := i) (by omega)
   refine JH.pg 7 rfl (Gd.f1 rfl rfl rfl) (fun hc => p_indexAddr el_29 (gvt rfl hc) (gvt rfl hc) (by omega) (by omega) he55) ?_
   refine JH.wg 8 rfl (Gd.f1 rfl rfl rfl) (fun hc os' u' hv => q_load1 ty_2.h (gvt rfl hc) (Mem.pub (hc55.vis hv))) ?_
   refine JH.pg 9 rfl (Gd.f1 rfl rfl rfl) (fun hc => p_fieldAddr fld_53_3.h rfl) ?_
   refine JH.qg 10 rfl (Gd.f1 rfl rfl rfl) (fun hc => q_load1 ty_2.h (gvt rfl hc) (Mem.box (i := 7) rfl rfl)) ?_
   refine JH.pg 11 rfl (Gd.f1 rfl rfl rfl) (fun hc => p_eql (gvt rfl hc) (gvt rfl hc)) ?_
   refine JH.pg 12 rfl (Gd.f1 rfl rfl rfl) (fun hc => p_neqB und_4 (gvt rfl hc) (gvt rfl hc)) ?_
   refine JH.p 13 rfl (p_pickOr rfl rfl rfl) ?_
   refine jM 14 rfl rfl ?_
   refine JH.pg 15 rfl (Gd.f1 rfl rfl rfl) (fun hc => p_move rfl) ?_
   refine JH.pg 16 rfl (Gd.f1 rfl rfl rfl) (fun hc => p_lss (gvt rfl hc) rfl) ?_
   refine JH.p 17 rfl (p_pickOr rfl rfl rfl) ?_
   refine yd ?_
   refine zi (fun h56 h56' => ?_) fun h56 h56' => ?_
   · exact absurd h56 (by first | (simp [l1, l4]; done) | (simp [l1, l4]; omega))
   refine Js.skip <| Js.seq ?_
   refine zdr [] ?_
   refine jM 0 rfl rfl ?_
   refine jM 1 rfl rfl ?_
   obtain ⟨b57, o57, he57, hc57⟩ := ints_elem (Ty.mono _ h50 x52.vis) (i := i) (by omega)
   refine jI 2 el_29 rfl rfl rfl he57 ?_
   refine jW 3 ty_2 rfl rfl hc57.vis ?_
   refine jF 4 fld_53_3 rfl rfl ?_
   refine jB 5 7 ty_2 rfl rfl rfl rfl ?_
   refine JH.p 6 rfl (p_neq rfl rfl) ?_
   refine yd ?_
   refine zi (fun h58 h58' => ?_) fun h58 h58' => ?_
   ·
    have hS2 := M.leastA_n (s := t) hx9 (by rw [← hn9]; simpa using h58)
    rw [hS, ← hn9] at hS2
    have hS3 := hS2.symm
    refine Js.region <| Qm rfl <| Qm rfl <| Qq (p_min rfl rfl) <| Qa rfl <| JL.nil <| Js.blockEnd <| Js.region <| Qm rfl <| Qp rfl rfl <| Qa rfl <| JL.nil ?_
    exact zag ⟨i + 1, if (M.ans ((M.puz X4 X5 X8).1) (M.nth (M.legal X4 X5) i)).1 < t then (M.ans ((M.puz X4 X5 X8).1) (M.nth (M.legal X4 X5) i)).1 else t, rfl, rfl, by exact hS3, zt, rfl⟩ x52
   have hS2 := M.leastA_y (s := t) hx9 (by rw [← hn9]; simpa using h58)
   rw [hS] at hS2
   have hS3 := hS2.symm
   refine Js.skip <| Js.blockEnd <| Js.region <| Qm rfl <| Qp rfl rfl <| Qa rfl <| JL.nil ?_
   exact zag ⟨i + 1, t, rfl, rfl, by exact hS3, zt, rfl⟩ x52
  have hE : t = ((M.puz X4 X5 X8).1).margin := by rw [← hS, M.leastA_e (by rw [← hll]; have := h53'; omega)]
  refine zx ?_
  refine zS <| Q9 7 rfl rfl ?_
  refine zp rfl (fun w hw => c_impl_SolutionOf ((M.puz X4 X5 X8).1) (ok_ hw)) ?_
  intro u59 x59 A60 c60 h60 bl60 bh60
  refine Qm rfl <| Qx rfl rfl <| Qx rfl rfl <| Qa rfl <| Qa rfl <| zJ ?_
  refine zdr [] ?_
  refine jM 0 rfl rfl ?_
  refine jF 1 fld_53_5 rfl rfl ?_
  refine jB 2 7 ty_2 rfl rfl rfl rfl ?_
  refine JH.p 3 rfl (p_eql rfl rfl) ?_
  refine jM 4 rfl rfl ?_
  refine JH.pg 5 rfl (Gd.t1 rfl rfl rfl) (fun hc => p_move rfl) ?_
  refine JH.pg 6 rfl (Gd.t1 rfl rfl rfl) (fun hc => p_eql (gvt rfl hc) rfl) ?_
  refine JH.p 7 rfl (p_pickAnd rfl rfl rfl) ?_
  refine jM 8 rfl rfl ?_
  refine JH.pg 9 rfl (Gd.t1 rfl rfl rfl) (fun hc => p_move rfl) ?_
  refine JH.pg 10 rfl (Gd.t1 rfl rfl rfl) (fun hc => p_len el_29 (gvt rfl hc)) ?_
  refine JH.pg 11 rfl (Gd.t1 rfl rfl rfl) (fun hc => p_gtr (gvt rfl hc) rfl) ?_
  refine JH.p 12 rfl (p_pickAnd rfl rfl rfl) ?_
  refine jM 13 rfl rfl ?_
  refine JH.pg 14 rfl (Gd.t1 rfl rfl rfl) (fun hc => p_move rfl) ?_
  obtain ⟨b61, o61, he61, hc61⟩ := ints_elem h60 (i := 0) (by omega)
  refine JH.pg 15 rfl (Gd.t1 rfl rfl rfl) (fun hc => p_indexAddr el_29 (gvt rfl hc) rfl (by omega) (by omega) he61) ?_
  refine JH.wg 16 rfl (Gd.t1 rfl rfl rfl) (fun hc os' u' hv => q_load1 ty_2.h (gvt rfl hc) (Mem.pub (hc61.vis hv))) ?_
  refine JH.pg 17 rfl (Gd.t1 rfl rfl rfl) (fun hc => p_fieldAddr fld_53_3.h rfl) ?_
  refine JH.qg 18 rfl (Gd.t1 rfl rfl rfl) (fun hc => q_load1 ty_2.h (gvt rfl hc) (Mem.box (i := 7) rfl rfl)) ?_
  refine JH.pg 19 rfl (Gd.t1 rfl rfl rfl) (fun hc => p_eql (gvt rfl hc) (gvt rfl hc)) ?_
  refine JH.p 20 rfl (p_pickAnd rfl rfl rfl) ?_
  refine jA 21 rfl rfl ?_
  refine yd ?_
  refine zR ((((((((((x3.trans x11).trans x15).trans x19).trans x24).trans x28).trans x32).trans x43).trans x49).trans x52).trans x59) ?_
  first | rfl | (simp [outV, hE, hP.solc, hsol, M.nth]; done)
 refine Js.skip <| Js.seq <| zS <| Qm rfl <| Qd rfl rfl <| JL.nil ?_
 refine zi (fun h62 h62' => ?_) fun h62 h62' => ?_
 ·
  refine zS <| Qa rfl <| JL.nil ?_
  refine zR ((((((x3.trans x11).trans x15).trans x19).trans x24).trans x28).trans x32) ?_
  first | rfl | (simp [outV, hE, hP.solc, hsol, M.nth]; done)
 have hz : (M.puz X4 X5 X8).2 = 0 := by simpa using h62
 obtain ⟨hP, hP2⟩ := M.puzzled hz
 have hok := M.puz_okP hz
 have hlc := M.legC_y hok
 have hll := M.legal_len' hok
 have hp2 := hP.two
 have hpm := hP.mar
 obtain ⟨tl9, hsol⟩ := hP.sol
 have hsl : (M.sol (M.puz X4 X5 X8).1).length = tl9.length + 1 := by rw [hsol]; rfl
 refine Js.skip <| zS <| Q9 8 rfl rfl ?_
 refine Q9 7 rfl rfl ?_
 refine zp rfl (fun w hw => c_spec_LegalMovesL X4 X5 (ok_ hw) (ok_ hw)) ?_
 intro u63 x63 A64 c64 h64 bl64 bh64
 refine Qm rfl <| Qx rfl rfl <| Qx rfl rfl <| Qa rfl <| Qa rfl <| zJ <| zS <| Qm rfl <| Qd rfl rfl <| Qm rfl <| zg (Gd.f1 rfl rfl rfl) (fun hc => p_move rfl) <| zg (Gd.f1 rfl rfl rfl) (fun hc => p_len el_29 (gh hc rfl)) <| zg (Gd.f1 rfl rfl rfl) (fun hc => p_lss (gh hc rfl) rfl) <| Qq (p_pickOr rfl rfl rfl) ?_
 refine Qm rfl <| zg (Gd.f1 rfl rfl rfl) (fun hc => p_fieldAddr fld_53_5.h rfl) <| zgq (Gd.f1 rfl rfl rfl) (fun hc => q_load1 ty_2.h (gh hc rfl) (Mem.box (i := 6) rfl rfl)) <| zg (Gd.f1 rfl rfl rfl) (fun hc => p_lss (gh hc rfl) rfl) <| Qq (p_pickOr rfl rfl rfl) <| JL.nil ?_
 refine zi (fun h65 h65' => ?_) fun h65 h65' => ?_
 · exact absurd h65 (by first | (simp [hlc]; omega) | (simp [hlc, hll]; omega))
 refine Js.skip <| zS <| Qa rfl <| zJ <| zS <| Qa rfl <| JL.nil <| Js.block ?_
 refine zl [6, 19] (fun F U l os u m => ∃ (i : Nat) (t : Int), l = F [(21, .int .i64 t), (22, .int .i64 (i : Int))] ∧ os = U [] ∧ (M.leastA (M.puz X4 X5 X8).1 t ((M.results X4 X5).drop i) = ((M.puz X4 X5 X8).1).margin) ∧ (i ≤ (M.legal X4 X5).length) ∧ m = (M.legal X4 X5).length - i) ⟨0, 1000, rfl, rfl, by exact hP2, zt, rfl⟩ ?_
 rintro _ _ u66 _ ⟨i, t, rfl, rfl, hS, hi, rfl⟩ x66
 refine zn ?_
 refine Js.seq <| zS <| Qm rfl <| Qm rfl <| Qz rfl <| Ql rfl rfl <| JL.nil ?_
 refine zi (fun h67 h67' => ?_) fun h67 h67' => ?_
 ·
  have hii : i < (M.legal X4 X5).length := by have := h67'; omega
  obtain ⟨x9, hx9, hm9, hn9⟩ := M.legal_get hok hii
  obtain ⟨l1, l2, l3, l4⟩ := hP.loss x9 hm9
  rw [← hn9] at l1 l2 l3 l4
  refine Js.skip <| Js.seq <| Js.block <| Js.seq ?_
  refine zdr [] ?_
  refine JH.q 0 rfl (L9 6 rfl rfl) ?_
  refine jM 1 rfl rfl ?_
  refine jM 2 rfl rfl ?_
  obtain ⟨b68, o68, he68, hc68⟩ := ints_elem (Ty.mono _ h64 x66.vis) (i := i) (by omega)
  refine jI 3 el_29 rfl rfl rfl he68 ?_
  refine jW 4 ty_2 rfl rfl hc68.vis ?_
  refine y1 5 ?_
  refine yv rfl rfl (fun w hw => c_impl_AnswerLoss ((M.puz X4 X5 X8).1) (M.nth (M.legal X4 X5) i) (ok_ hw)) ?_
  refine jM 6 rfl rfl ?_
  refine JH.p 7 rfl (p_extract rfl rfl) ?_
  refine JH.p 8 rfl (p_extract rfl rfl) ?_
  refine jA 9 rfl rfl ?_
  refine jA 10 rfl rfl ?_
  refine yd ?_
  refine Js.seq <| Js.seq ?_
  refine zdr [] ?_
  refine jM 0 rfl rfl ?_
  refine JH.p 1 rfl (p_neq rfl rfl) ?_
  refine jM 2 rfl rfl ?_
  refine JH.pg 3 rfl (Gd.f1 rfl rfl rfl) (fun hc => p_move rfl) ?_
  refine JH.pg 4 rfl (Gd.f1 rfl rfl rfl) (fun hc => p_eql (gvt rfl hc) rfl) ?_
  refine JH.pg 5 rfl (Gd.f1 rfl rfl rfl) (fun hc => p_move rfl) ?_
  refine JH.pg 6 rfl (Gd.f1 rfl rfl rfl) (fun hc => p_move rfl) ?_
  obtain ⟨b69, o69, he69, hc69⟩ := ints_elem (Ty.mono _ h64 x66.vis) (i := i) (by omega)
  refine JH.pg 7 rfl (Gd.f1 rfl rfl rfl) (fun hc => p_indexAddr el_29 (gvt rfl hc) (gvt rfl hc) (by omega) (by omega) he69) ?_
  refine JH.wg 8 rfl (Gd.f1 rfl rfl rfl) (fun hc os' u' hv => q_load1 ty_2.h (gvt rfl hc) (Mem.pub (hc69.vis hv))) ?_
  refine JH.pg 9 rfl (Gd.f1 rfl rfl rfl) (fun hc => p_fieldAddr fld_53_3.h rfl) ?_
  refine JH.qg 10 rfl (Gd.f1 rfl rfl rfl) (fun hc => q_load1 ty_2.h (gvt rfl hc) (Mem.box (i := 6) rfl rfl)) ?_
  refine JH.pg 11 rfl (Gd.f1 rfl rfl rfl) (fun hc => p_eql (gvt rfl hc) (gvt rfl hc)) ?_
  refine JH.pg 12 rfl (Gd.f1 rfl rfl rfl) (fun hc => p_neqB und_4 (gvt rfl hc) (gvt rfl hc)) ?_
  refine JH.p 13 rfl (p_pickOr rfl rfl rfl) ?_
  refine jM 14 rfl rfl ?_
  refine JH.pg 15 rfl (Gd.f1 rfl rfl rfl) (fun hc => p_move rfl) ?_
  refine JH.pg 16 rfl (Gd.f1 rfl rfl rfl) (fun hc => p_lss (gvt rfl hc) rfl) ?_
  refine JH.p 17 rfl (p_pickOr rfl rfl rfl) ?_
  refine yd ?_
  refine zi (fun h70 h70' => ?_) fun h70 h70' => ?_
  · exact absurd h70 (by first | (simp [l1, l4]; done) | (simp [l1, l4]; omega))
  refine Js.skip <| Js.seq ?_
  refine zdr [] ?_
  refine jM 0 rfl rfl ?_
  refine jM 1 rfl rfl ?_
  obtain ⟨b71, o71, he71, hc71⟩ := ints_elem (Ty.mono _ h64 x66.vis) (i := i) (by omega)
  refine jI 2 el_29 rfl rfl rfl he71 ?_
  refine jW 3 ty_2 rfl rfl hc71.vis ?_
  refine jF 4 fld_53_3 rfl rfl ?_
  refine jB 5 6 ty_2 rfl rfl rfl rfl ?_
  refine JH.p 6 rfl (p_neq rfl rfl) ?_
  refine yd ?_
  refine zi (fun h72 h72' => ?_) fun h72 h72' => ?_
  ·
   have hS2 := M.leastA_n (s := t) hx9 (by rw [← hn9]; simpa using h72)
   rw [hS, ← hn9] at hS2
   have hS3 := hS2.symm
   refine Js.region <| Qm rfl <| Qm rfl <| Qq (p_min rfl rfl) <| Qa rfl <| JL.nil <| Js.blockEnd <| Js.region <| Qm rfl <| Qp rfl rfl <| Qa rfl <| JL.nil ?_
   exact zag ⟨i + 1, if (M.ans ((M.puz X4 X5 X8).1) (M.nth (M.legal X4 X5) i)).1 < t then (M.ans ((M.puz X4 X5 X8).1) (M.nth (M.legal X4 X5) i)).1 else t, rfl, rfl, by exact hS3, zt, rfl⟩ x66
  have hS2 := M.leastA_y (s := t) hx9 (by rw [← hn9]; simpa using h72)
  rw [hS] at hS2
  have hS3 := hS2.symm
  refine Js.skip <| Js.blockEnd <| Js.region <| Qm rfl <| Qp rfl rfl <| Qa rfl <| JL.nil ?_
  exact zag ⟨i + 1, t, rfl, rfl, by exact hS3, zt, rfl⟩ x66
 have hE : t = ((M.puz X4 X5 X8).1).margin := by rw [← hS, M.leastA_e (by rw [← hll]; have := h67'; omega)]
 refine zx ?_
 refine zS <| Q9 6 rfl rfl ?_
 refine zp rfl (fun w hw => c_impl_SolutionOf ((M.puz X4 X5 X8).1) (ok_ hw)) ?_
 intro u73 x73 A74 c74 h74 bl74 bh74
 refine Qm rfl <| Qx rfl rfl <| Qx rfl rfl <| Qa rfl <| Qa rfl <| zJ ?_
 refine zdr [] ?_
 refine jM 0 rfl rfl ?_
 refine jF 1 fld_53_5 rfl rfl ?_
 refine jB 2 6 ty_2 rfl rfl rfl rfl ?_
 refine JH.p 3 rfl (p_eql rfl rfl) ?_
 refine jM 4 rfl rfl ?_
 refine JH.pg 5 rfl (Gd.t1 rfl rfl rfl) (fun hc => p_move rfl) ?_
 refine JH.pg 6 rfl (Gd.t1 rfl rfl rfl) (fun hc => p_eql (gvt rfl hc) rfl) ?_
 refine JH.p 7 rfl (p_pickAnd rfl rfl rfl) ?_
 refine jM 8 rfl rfl ?_
 refine JH.pg 9 rfl (Gd.t1 rfl rfl rfl) (fun hc => p_move rfl) ?_
 refine JH.pg 10 rfl (Gd.t1 rfl rfl rfl) (fun hc => p_len el_29 (gvt rfl hc)) ?_
 refine JH.pg 11 rfl (Gd.t1 rfl rfl rfl) (fun hc => p_gtr (gvt rfl hc) rfl) ?_
 refine JH.p 12 rfl (p_pickAnd rfl rfl rfl) ?_
 refine jM 13 rfl rfl ?_
 refine JH.pg 14 rfl (Gd.t1 rfl rfl rfl) (fun hc => p_move rfl) ?_
 obtain ⟨b75, o75, he75, hc75⟩ := ints_elem h74 (i := 0) (by omega)
 refine JH.pg 15 rfl (Gd.t1 rfl rfl rfl) (fun hc => p_indexAddr el_29 (gvt rfl hc) rfl (by omega) (by omega) he75) ?_
 refine JH.wg 16 rfl (Gd.t1 rfl rfl rfl) (fun hc os' u' hv => q_load1 ty_2.h (gvt rfl hc) (Mem.pub (hc75.vis hv))) ?_
 refine JH.pg 17 rfl (Gd.t1 rfl rfl rfl) (fun hc => p_fieldAddr fld_53_3.h rfl) ?_
 refine JH.qg 18 rfl (Gd.t1 rfl rfl rfl) (fun hc => q_load1 ty_2.h (gvt rfl hc) (Mem.box (i := 6) rfl rfl)) ?_
 refine JH.pg 19 rfl (Gd.t1 rfl rfl rfl) (fun hc => p_eql (gvt rfl hc) (gvt rfl hc)) ?_
 refine JH.p 20 rfl (p_pickAnd rfl rfl rfl) ?_
 refine jA 21 rfl rfl ?_
 refine yd ?_
 refine zR (((((((((x3.trans x11).trans x15).trans x19).trans x24).trans x28).trans x32).trans x63).trans x66).trans x73) ?_
 first | rfl | (simp [outV, hE, hP.solc, hsol, M.nth]; done)
end Go.Proofs.YtmgnckfhghibeaaGreat

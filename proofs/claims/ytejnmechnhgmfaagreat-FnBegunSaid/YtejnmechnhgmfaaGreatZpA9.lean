/- Walks: L19. -/
import Derived.Test.YtejnmechnhgmfaaGreatZpA2
import Derived.Test.YtejnmechnhgmfaaGreatZpA6
import Derived.Test.YtejnmechnhgmfaaGreatZpA8
import Derived.Test.YtejnmechnhgmfaaGreatZpA1
import Derived.Test.YtejnmechnhgmfaaGreatZpA3
set_option linter.unusedSimpArgs false
set_option linter.unusedVariables false
set_option maxRecDepth 100000
attribute [local irreducible] Go.Proofs.YtejnmechnhgmfaaGreat.gv
namespace Go.Proofs.YtejnmechnhgmfaaGreat
open Go.RowKit

set_option maxHeartbeats 8000000 in
theorem c_laws_FnBegun (code : Nat) {v_code : Value} {w : World} (h_code : (Ty.bytes 5 code).ok w v_code) : RetV Tryz.prog 4 [v_code] w (.bool true) := by
 revert v_code; apply opn
 intro A1 c1 h1 bl1 bh1
 have h_code := h1
 refine enter @Tryz.func4 @Tryz.ntmps4 rfl rfl ?_
 refine zent ?_
 refine zS <| Qa rfl <| zJ <| zS <| Qm rfl <| zv rfl (fun w hw => c_laws_f6big code (ok_ hw)) <| JL.nil ?_
 refine zi (fun h2 h2' => ?_) fun h2 h2' => ?_
 ·
  refine zS <| Qa rfl <| JL.nil ?_
  refine zR (Up.refl _ _) ?_
  first | rfl | (simp [outV, hr2, hr3, hr4]; done)
 refine Js.skip <| zS <| Qm rfl <| zp rfl (fun w hw => c_spec_DrawNewGame code (ok_ hw)) ?_
 intro u3 x3 X4 hX4
 refine za zeh fun b5 => zw 0 rfl rfl rfl ?_
 refine zN <| Q9 0 rfl rfl ?_
 refine zp rfl (fun w hw => c_impl_NewGame X4 (ok_ hw)) ?_
 intro u6 x6 A7 c7 h7 bl7 bh7 A8 c8 h8 bl8 bh8 A9 c9 h9 bl9 bh9 A10 c10 h10 bl10 bh10 A11 c11 h11 bl11 bh11
 refine Qm rfl <| Qx rfl rfl <| Qx rfl rfl <| za zeh fun b12 => zw 0 rfl rfl rfl ?_
 refine Qa rfl <| zN <| Q9 1 rfl rfl ?_
 refine zp rfl (fun w hw => c_spec_NewGame X4 (ok_ hw)) ?_
 intro u13 x13 A14 c14 h14 bl14 bh14 A15 c15 h15 bl15 bh15 A16 c16 h16 bl16 bh16 A17 c17 h17 bl17 bh17 A18 c18 h18 bl18 bh18
 refine Qm rfl <| Qx rfl rfl <| Qx rfl rfl <| za zeh fun b19 => zw 0 rfl rfl rfl ?_
 refine Qa rfl <| zN <| Qm rfl <| zp rfl (fun w hw => c_spec_DrawGameFrom code (ok_ hw)) ?_
 intro u20 x20 X21 hX21 X22 hX22 A23 c23 h23 bl23 bh23 A24 c24 h24 bl24 bh24
 refine Qm rfl <| Qx rfl rfl <| Qx rfl rfl <| za zeh fun b25 => za zeh fun b26 => zw 1 rfl rfl rfl ?_
 refine zw 0 rfl rfl rfl ?_
 refine zN <| Q9 1 rfl rfl ?_
 refine Q9 0 rfl rfl ?_
 refine zp rfl (fun w hw => c_impl_GameFrom X21 X22 (ok_ hw) (ok_ hw)) ?_
 intro u27 x27 A28 c28 h28 bl28 bh28 A29 c29 h29 bl29 bh29 A30 c30 h30 bl30 bh30 A31 c31 h31 bl31 bh31 A32 c32 h32 bl32 bh32
 refine Qm rfl <| Qx rfl rfl <| Qx rfl rfl <| za zeh fun b33 => zw 0 rfl rfl rfl ?_
 refine Qa rfl <| zN <| Q9 2 rfl rfl ?_
 refine Q9 1 rfl rfl ?_
 refine zp rfl (fun w hw => c_spec_GameFrom X21 X22 (ok_ hw) (ok_ hw)) ?_
 intro u34 x34 A35 c35 h35 bl35 bh35 A36 c36 h36 bl36 bh36 A37 c37 h37 bl37 bh37 A38 c38 h38 bl38 bh38 A39 c39 h39 bl39 bh39
 refine Qm rfl <| Qx rfl rfl <| Qx rfl rfl <| za zeh fun b40 => zw 0 rfl rfl rfl ?_
 refine Qa rfl <| zN <| Qm rfl <| zp rfl (fun w hw => c_spec_DrawResignGame code (ok_ hw)) ?_
 intro u41 x41 X42 hX42 A43 c43 h43 bl43 bh43 A44 c44 h44 bl44 bh44 A45 c45 h45 bl45 bh45 A46 c46 h46 bl46 bh46 A47 c47 h47 bl47 bh47 X48 hX48
 refine Qm rfl <| Qx rfl rfl <| Qx rfl rfl <| za zeh fun b49 => zw 0 rfl rfl rfl ?_
 refine Qa rfl <| zN <| Q9 0 rfl rfl ?_
 refine Qm rfl <| zp rfl (fun w hw => c_impl_ResignGame X42 X48 (ok_ hw)) ?_
 intro u50 x50 A51 c51 h51 bl51 bh51 A52 c52 h52 bl52 bh52 A53 c53 h53 bl53 bh53 A54 c54 h54 bl54 bh54 A55 c55 h55 bl55 bh55
 refine Qm rfl <| Qx rfl rfl <| Qx rfl rfl <| za zeh fun b56 => zw 0 rfl rfl rfl ?_
 refine Qa rfl <| zN <| Q9 1 rfl rfl ?_
 refine Qm rfl <| zp rfl (fun w hw => c_spec_ResignGame X42 X48 (ok_ hw)) ?_
 intro u57 x57 A58 c58 h58 bl58 bh58 A59 c59 h59 bl59 bh59 A60 c60 h60 bl60 bh60 A61 c61 h61 bl61 bh61 A62 c62 h62 bl62 bh62
 refine Qm rfl <| Qx rfl rfl <| Qx rfl rfl <| za zeh fun b63 => zw 0 rfl rfl rfl ?_
 refine Qa rfl <| zN <| Qm rfl <| zp rfl (fun w hw => c_spec_DrawSameGame code (ok_ hw)) ?_
 intro u64 x64 X65 hX65 A66 c66 h66 bl66 bh66 A67 c67 h67 bl67 bh67 A68 c68 h68 bl68 bh68 A69 c69 h69 bl69 bh69 A70 c70 h70 bl70 bh70 X71 hX71 A72 c72 h72 bl72 bh72 A73 c73 h73 bl73 bh73 A74 c74 h74 bl74 bh74 A75 c75 h75 bl75 bh75 A76 c76 h76 bl76 bh76
 obtain ⟨w1_0, w1_1, w1_2, w1_3, w1_4⟩ := (M.newG_small _ : M.Small ((M.newG X4).1))
 obtain ⟨w2_0, w2_1, w2_2, w2_3, w2_4⟩ := (M.fromG_small _ _ : M.Small ((M.fromG X21 X22).1))
 obtain ⟨w3_0, w3_1, w3_2, w3_3, w3_4⟩ := (M.resign_small _ _ : M.Small ((M.resign X42 X48).1))
 refine Qm rfl <| Qx rfl rfl <| Qx rfl rfl <| za zeh fun b77 => za zeh fun b78 => zw 1 rfl rfl rfl ?_
 refine zw 0 rfl rfl rfl ?_
 refine zJ <| Js.seq ?_
 refine zdr [] ?_
 refine JH.p 0 rfl (p_move rfl) ?_
 refine JH.p 1 rfl (p_move rfl) ?_
 refine JH.p 2 rfl (p_neq rfl rfl) ?_
 refine JH.p 3 rfl (p_move rfl) ?_
 refine JH.qg 4 rfl (Gd.f1 rfl rfl rfl) (fun hc => L9 10 rfl rfl) ?_
 refine JH.qg 5 rfl (Gd.f1 rfl rfl rfl) (fun hc => L9 9 rfl rfl) ?_
 refine y1 6 ?_
 refine JHo.ge rfl (Gd.f1 rfl rfl rfl) (fun hc => e_callV fn_21.h (opds_2 (gvt rfl hc) (gvt rfl hc)) (fun w hw => c_spec_SameGame ((M.newG X4).1) ((M.newG X4).1) (ok_ hw) (ok_ hw) (r0 := (by have hc9 := hc; (try simp only [Bool.not_eq_true', Bool.not_eq_false', decide_eq_true_eq] at hc9); omega)) (r1 := (by have hc9 := hc; (try simp only [Bool.not_eq_true', Bool.not_eq_false', decide_eq_true_eq] at hc9); omega)) (r2 := (by have hc9 := hc; (try simp only [Bool.not_eq_true', Bool.not_eq_false', decide_eq_true_eq] at hc9); omega)) (r3 := (by have hc9 := hc; (try simp only [Bool.not_eq_true', Bool.not_eq_false', decide_eq_true_eq] at hc9); omega)) (r4 := (by have hc9 := hc; (try simp only [Bool.not_eq_true', Bool.not_eq_false', decide_eq_true_eq] at hc9); omega)) (r5 := (by have hc9 := hc; (try simp only [Bool.not_eq_true', Bool.not_eq_false', decide_eq_true_eq] at hc9); omega)) (r6 := (by have hc9 := hc; (try simp only [Bool.not_eq_true', Bool.not_eq_false', decide_eq_true_eq] at hc9); omega)) (r7 := (by have hc9 := hc; (try simp only [Bool.not_eq_true', Bool.not_eq_false', decide_eq_true_eq] at hc9); omega)) (r8 := (by have hc9 := hc; (try simp only [Bool.not_eq_true', Bool.not_eq_false', decide_eq_true_eq] at hc9); omega)) (r9 := (by have hc9 := hc; (try simp only [Bool.not_eq_true', Bool.not_eq_false', decide_eq_true_eq] at hc9); omega)))) ?_
 refine JH.pg 7 rfl (Gd.f1 rfl rfl rfl) (fun hc => p_not (gvt rfl hc)) ?_
 refine JH.p 8 rfl (p_pickOr rfl rfl rfl) ?_
 refine JH.p 9 rfl (p_move rfl) ?_
 refine JH.pg 10 rfl (Gd.f1 rfl rfl rfl) (fun hc => p_move rfl) ?_
 refine JH.pg 11 rfl (Gd.f1 rfl rfl rfl) (fun hc => p_move rfl) ?_
 refine JH.pg 12 rfl (Gd.f1 rfl rfl rfl) (fun hc => p_neq (gvt rfl hc) (gvt rfl hc)) ?_
 refine JH.p 13 rfl (p_pickOr rfl rfl rfl) ?_
 refine JH.p 14 rfl (p_move rfl) ?_
 refine JH.qg 15 rfl (Gd.f1 rfl rfl rfl) (fun hc => L9 6 rfl rfl) ?_
 refine JH.qg 16 rfl (Gd.f1 rfl rfl rfl) (fun hc => L9 5 rfl rfl) ?_
 refine y1 17 ?_
 refine JHo.ge rfl (Gd.f1 rfl rfl rfl) (fun hc => e_callV fn_21.h (opds_2 (gvt rfl hc) (gvt rfl hc)) (fun w hw => c_spec_SameGame ((M.fromG X21 X22).1) ((M.fromG X21 X22).1) (ok_ hw) (ok_ hw) (r0 := (by have hc9 := hc; (try simp only [Bool.not_eq_true', Bool.or_eq_false_iff, Bool.not_eq_false', decide_eq_true_eq] at hc9); omega)) (r1 := (by have hc9 := hc; (try simp only [Bool.not_eq_true', Bool.or_eq_false_iff, Bool.not_eq_false', decide_eq_true_eq] at hc9); omega)) (r2 := (by have hc9 := hc; (try simp only [Bool.not_eq_true', Bool.or_eq_false_iff, Bool.not_eq_false', decide_eq_true_eq] at hc9); omega)) (r3 := (by have hc9 := hc; (try simp only [Bool.not_eq_true', Bool.or_eq_false_iff, Bool.not_eq_false', decide_eq_true_eq] at hc9); omega)) (r4 := (by have hc9 := hc; (try simp only [Bool.not_eq_true', Bool.or_eq_false_iff, Bool.not_eq_false', decide_eq_true_eq] at hc9); omega)) (r5 := (by have hc9 := hc; (try simp only [Bool.not_eq_true', Bool.or_eq_false_iff, Bool.not_eq_false', decide_eq_true_eq] at hc9); omega)) (r6 := (by have hc9 := hc; (try simp only [Bool.not_eq_true', Bool.or_eq_false_iff, Bool.not_eq_false', decide_eq_true_eq] at hc9); omega)) (r7 := (by have hc9 := hc; (try simp only [Bool.not_eq_true', Bool.or_eq_false_iff, Bool.not_eq_false', decide_eq_true_eq] at hc9); omega)) (r8 := (by have hc9 := hc; (try simp only [Bool.not_eq_true', Bool.or_eq_false_iff, Bool.not_eq_false', decide_eq_true_eq] at hc9); omega)) (r9 := (by have hc9 := hc; (try simp only [Bool.not_eq_true', Bool.or_eq_false_iff, Bool.not_eq_false', decide_eq_true_eq] at hc9); omega)))) ?_
 refine JH.pg 18 rfl (Gd.f1 rfl rfl rfl) (fun hc => p_not (gvt rfl hc)) ?_
 refine JH.p 19 rfl (p_pickOr rfl rfl rfl) ?_
 refine JH.p 20 rfl (p_move rfl) ?_
 refine JH.pg 21 rfl (Gd.f1 rfl rfl rfl) (fun hc => p_move rfl) ?_
 refine JH.pg 22 rfl (Gd.f1 rfl rfl rfl) (fun hc => p_move rfl) ?_
 refine JH.pg 23 rfl (Gd.f1 rfl rfl rfl) (fun hc => p_neq (gvt rfl hc) (gvt rfl hc)) ?_
 refine JH.p 24 rfl (p_pickOr rfl rfl rfl) ?_
 refine JH.p 25 rfl (p_move rfl) ?_
 refine JH.qg 26 rfl (Gd.f1 rfl rfl rfl) (fun hc => L9 3 rfl rfl) ?_
 refine JH.qg 27 rfl (Gd.f1 rfl rfl rfl) (fun hc => L9 2 rfl rfl) ?_
 refine y1 28 ?_
 refine JHo.ge rfl (Gd.f1 rfl rfl rfl) (fun hc => e_callV fn_21.h (opds_2 (gvt rfl hc) (gvt rfl hc)) (fun w hw => c_spec_SameGame ((M.resign X42 X48).1) ((M.resign X42 X48).1) (ok_ hw) (ok_ hw) (r0 := (by have hc9 := hc; (try simp only [Bool.not_eq_true', Bool.or_eq_false_iff, Bool.not_eq_false', decide_eq_true_eq] at hc9); omega)) (r1 := (by have hc9 := hc; (try simp only [Bool.not_eq_true', Bool.or_eq_false_iff, Bool.not_eq_false', decide_eq_true_eq] at hc9); omega)) (r2 := (by have hc9 := hc; (try simp only [Bool.not_eq_true', Bool.or_eq_false_iff, Bool.not_eq_false', decide_eq_true_eq] at hc9); omega)) (r3 := (by have hc9 := hc; (try simp only [Bool.not_eq_true', Bool.or_eq_false_iff, Bool.not_eq_false', decide_eq_true_eq] at hc9); omega)) (r4 := (by have hc9 := hc; (try simp only [Bool.not_eq_true', Bool.or_eq_false_iff, Bool.not_eq_false', decide_eq_true_eq] at hc9); omega)) (r5 := (by have hc9 := hc; (try simp only [Bool.not_eq_true', Bool.or_eq_false_iff, Bool.not_eq_false', decide_eq_true_eq] at hc9); omega)) (r6 := (by have hc9 := hc; (try simp only [Bool.not_eq_true', Bool.or_eq_false_iff, Bool.not_eq_false', decide_eq_true_eq] at hc9); omega)) (r7 := (by have hc9 := hc; (try simp only [Bool.not_eq_true', Bool.or_eq_false_iff, Bool.not_eq_false', decide_eq_true_eq] at hc9); omega)) (r8 := (by have hc9 := hc; (try simp only [Bool.not_eq_true', Bool.or_eq_false_iff, Bool.not_eq_false', decide_eq_true_eq] at hc9); omega)) (r9 := (by have hc9 := hc; (try simp only [Bool.not_eq_true', Bool.or_eq_false_iff, Bool.not_eq_false', decide_eq_true_eq] at hc9); omega)))) ?_
 refine JH.pg 29 rfl (Gd.f1 rfl rfl rfl) (fun hc => p_not (gvt rfl hc)) ?_
 refine JH.p 30 rfl (p_pickOr rfl rfl rfl) ?_
 refine JH.p 31 rfl (p_move rfl) ?_
 refine JH.qg 32 rfl (Gd.f1 rfl rfl rfl) (fun hc => L9 1 rfl rfl) ?_
 refine JH.qg 33 rfl (Gd.f1 rfl rfl rfl) (fun hc => L9 0 rfl rfl) ?_
 refine JH.qg 35 rfl (Gd.f1 rfl rfl rfl) (fun hc => L9 1 rfl rfl) ?_
 refine JH.qg 36 rfl (Gd.f1 rfl rfl rfl) (fun hc => L9 0 rfl rfl) ?_
 refine y1 34 ?_
 refine JHo.ge rfl (Gd.f1 rfl rfl rfl) (fun hc => e_callV fn_34.h (opds_2 (gvt rfl hc) (gvt rfl hc)) (fun w hw => c_impl_SameGame X65 X71 (ok_ hw) (ok_ hw) (r0 := (by have hc9 := hc; (try simp only [Bool.not_eq_true', Bool.or_eq_false_iff, Bool.not_eq_false', decide_eq_true_eq] at hc9); omega)) (r1 := (by have hc9 := hc; (try simp only [Bool.not_eq_true', Bool.or_eq_false_iff, Bool.not_eq_false', decide_eq_true_eq] at hc9); omega)) (r2 := (by have hc9 := hc; (try simp only [Bool.not_eq_true', Bool.or_eq_false_iff, Bool.not_eq_false', decide_eq_true_eq] at hc9); omega)) (r3 := (by have hc9 := hc; (try simp only [Bool.not_eq_true', Bool.or_eq_false_iff, Bool.not_eq_false', decide_eq_true_eq] at hc9); omega)) (r4 := (by have hc9 := hc; (try simp only [Bool.not_eq_true', Bool.or_eq_false_iff, Bool.not_eq_false', decide_eq_true_eq] at hc9); omega)) (r5 := (by have hc9 := hc; (try simp only [Bool.not_eq_true', Bool.or_eq_false_iff, Bool.not_eq_false', decide_eq_true_eq] at hc9); omega)) (r6 := (by have hc9 := hc; (try simp only [Bool.not_eq_true', Bool.or_eq_false_iff, Bool.not_eq_false', decide_eq_true_eq] at hc9); omega)) (r7 := (by have hc9 := hc; (try simp only [Bool.not_eq_true', Bool.or_eq_false_iff, Bool.not_eq_false', decide_eq_true_eq] at hc9); omega)) (r8 := (by have hc9 := hc; (try simp only [Bool.not_eq_true', Bool.or_eq_false_iff, Bool.not_eq_false', decide_eq_true_eq] at hc9); omega)) (r9 := (by have hc9 := hc; (try simp only [Bool.not_eq_true', Bool.or_eq_false_iff, Bool.not_eq_false', decide_eq_true_eq] at hc9); omega)))) ?_
 refine y1 37 ?_
 refine JHo.ge rfl (Gd.f1 rfl rfl rfl) (fun hc => e_callV fn_21.h (opds_2 (gvt rfl hc) (gvt rfl hc)) (fun w hw => c_spec_SameGame X65 X71 (ok_ hw) (ok_ hw) (r0 := (by have hc9 := hc; (try simp only [Bool.not_eq_true', Bool.or_eq_false_iff, Bool.not_eq_false', decide_eq_true_eq] at hc9); omega)) (r1 := (by have hc9 := hc; (try simp only [Bool.not_eq_true', Bool.or_eq_false_iff, Bool.not_eq_false', decide_eq_true_eq] at hc9); omega)) (r2 := (by have hc9 := hc; (try simp only [Bool.not_eq_true', Bool.or_eq_false_iff, Bool.not_eq_false', decide_eq_true_eq] at hc9); omega)) (r3 := (by have hc9 := hc; (try simp only [Bool.not_eq_true', Bool.or_eq_false_iff, Bool.not_eq_false', decide_eq_true_eq] at hc9); omega)) (r4 := (by have hc9 := hc; (try simp only [Bool.not_eq_true', Bool.or_eq_false_iff, Bool.not_eq_false', decide_eq_true_eq] at hc9); omega)) (r5 := (by have hc9 := hc; (try simp only [Bool.not_eq_true', Bool.or_eq_false_iff, Bool.not_eq_false', decide_eq_true_eq] at hc9); omega)) (r6 := (by have hc9 := hc; (try simp only [Bool.not_eq_true', Bool.or_eq_false_iff, Bool.not_eq_false', decide_eq_true_eq] at hc9); omega)) (r7 := (by have hc9 := hc; (try simp only [Bool.not_eq_true', Bool.or_eq_false_iff, Bool.not_eq_false', decide_eq_true_eq] at hc9); omega)) (r8 := (by have hc9 := hc; (try simp only [Bool.not_eq_true', Bool.or_eq_false_iff, Bool.not_eq_false', decide_eq_true_eq] at hc9); omega)) (r9 := (by have hc9 := hc; (try simp only [Bool.not_eq_true', Bool.or_eq_false_iff, Bool.not_eq_false', decide_eq_true_eq] at hc9); omega)))) ?_
 refine JH.pg 38 rfl (Gd.f1 rfl rfl rfl) (fun hc => p_neqB und_4 (gvt rfl hc) (gvt rfl hc)) ?_
 refine JH.p 39 rfl (p_pickOr rfl rfl rfl) ?_
 refine yd ?_
 refine zi (fun h79 h79' => ?_) fun h79 h79' => ?_
 · exact absurd h79 (by simp [M.sameG_refl])
 refine Js.skip <| Js.seq <| zS <| Qm rfl <| Qe rfl rfl <| Qm rfl <| zg (Gd.t1 rfl rfl rfl) (fun hc => p_fieldAddr fld_30_3.h rfl) <| zgq (Gd.t1 rfl rfl rfl) (fun hc => L9 6 (gh hc rfl) rfl) <| zgq (Gd.t1 rfl rfl rfl) (fun hc => L9 7 rfl rfl) <| zgv (Gd.t1 rfl rfl rfl) (fun hc => (opds_2 (gh hc rfl) (gh hc rfl))) (fun hc => (fun w hw => c_spec_SamePosition (((M.fromG X21 X22).1).now) X22 (ok_ hw) (ok_ hw) (r0 := (by have hc9 := hc; (try simp only [decide_eq_true_eq] at hc9); omega)) (r1 := (by have hc9 := hc; (try simp only [decide_eq_true_eq] at hc9); omega)) (r2 := (by have hc9 := hc; (try simp only [decide_eq_true_eq] at hc9); omega)) (r3 := (by have hc9 := hc; (try simp only [decide_eq_true_eq] at hc9); omega)))) ?_
 refine zg (Gd.t1 rfl rfl rfl) (fun hc => p_not (gh hc rfl)) <| zg (Gd.t1 rfl rfl rfl) (fun hc => p_move (gh hc rfl)) <| zgq (Gd.f2 rfl rfl rfl) (fun hc => L9 6 rfl rfl) <| zgv (Gd.f2 rfl rfl rfl) (fun hc => (opds_1 (gh hc rfl))) (fun hc => (fun w hw => c_impl_ValidGame ((M.fromG X21 X22).1) (ok_ hw) (r0 := (by have hc9 := hc; (try simp only [Bool.and_eq_true, decide_eq_true_eq, Bool.not_eq_true', Bool.not_eq_false'] at hc9); omega)) (r1 := (by have hc9 := hc; (try simp only [Bool.and_eq_true, decide_eq_true_eq, Bool.not_eq_true', Bool.not_eq_false'] at hc9); omega)) (r2 := (by have hc9 := hc; (try simp only [Bool.and_eq_true, decide_eq_true_eq, Bool.not_eq_true', Bool.not_eq_false'] at hc9); omega)) (r3 := (by have hc9 := hc; (try simp only [Bool.and_eq_true, decide_eq_true_eq, Bool.not_eq_true', Bool.not_eq_false'] at hc9); omega)) (r4 := (by have hc9 := hc; (try simp only [Bool.and_eq_true, decide_eq_true_eq, Bool.not_eq_true', Bool.not_eq_false'] at hc9); omega)))) ?_
 refine zg (Gd.f2 rfl rfl rfl) (fun hc => p_not (gh hc rfl)) <| zg (Gd.t1 rfl rfl rfl) (fun hc => p_pickOr (gh hc rfl) rfl (gvl rfl hc)) <| Qq (p_pickAnd rfl rfl rfl) <| JL.nil ?_
 refine zi (fun h80 h80' => ?_) fun h80 h80' => ?_
 · exact absurd h80 (by rw [M.begun]; decide)
 refine Js.skip <| Js.seq <| zS <| Qm rfl <| Qd rfl rfl <| JL.nil ?_
 refine zi (fun h81 h81' => ?_) fun h81 h81' => ?_
 ·
  refine zS <| Qa rfl <| JL.nil ?_
  refine zR (((((((((x3.trans x6).trans x13).trans x20).trans x27).trans x34).trans x41).trans x50).trans x57).trans x64) ?_
  first | rfl | (simp [outV, hr2, hr3, hr4]; done)
 have hz0 := h81'
 have hz : (M.resign X42 X48).2 = 0 := by simpa using hz0
 have hpl := M.resign_pl hz
 obtain ⟨hr1, hr2, hr3, hr4⟩ := M.resigned hz
 refine Js.skip <| zS <| Q9 3 rfl rfl ?_
 refine zp rfl (fun w hw => c_impl_PlayMove ((M.resign X42 X48).1) 0 (ok_ hw)) ?_
 intro u82 x82 A83 c83 h83 bl83 bh83 A84 c84 h84 bl84 bh84 A85 c85 h85 bl85 bh85 A86 c86 h86 bl86 bh86 A87 c87 h87 bl87 bh87
 refine Qm rfl <| Qx rfl rfl <| Qx rfl rfl <| za zeh fun b88 => zw 0 rfl rfl rfl ?_
 refine Qa rfl <| zN <| Q9 4 rfl rfl ?_
 refine zv rfl (fun w hw => c_impl_WinnerOf ((M.resign X42 X48).1) (ok_ hw)) <| Qm rfl <| Qx rfl rfl <| Qx rfl rfl <| Qa rfl <| Qa rfl <| zN <| Qm rfl <| Qe rfl rfl <| Qm rfl <| zg (Gd.t1 rfl rfl rfl) (fun hc => p_move rfl) <| zg (Gd.t1 rfl rfl rfl) (fun hc => p_eql (gh hc rfl) rfl) <| Qq (p_pickAnd rfl rfl rfl) <| Qm rfl ?_
 refine zg (Gd.t1 rfl rfl rfl) (fun hc => p_move rfl) <| zg (Gd.t1 rfl rfl rfl) (fun hc => p_move rfl) <| zg (Gd.t1 rfl rfl rfl) (fun hc => p_sub rfl (gh hc rfl) (IntWalk.i64_in _ (by have hc9 := hc; (try simp only [Bool.and_eq_true, decide_eq_true_eq] at hc9); omega))) ?_
 refine zg (Gd.t1 rfl rfl rfl) (fun hc => p_eql (gh hc rfl) (gh hc rfl)) <| Qq (p_pickAnd rfl rfl rfl) <| Qa rfl <| JL.nil ?_
 refine zR ((((((((((x3.trans x6).trans x13).trans x20).trans x27).trans x34).trans x41).trans x50).trans x57).trans x64).trans x82) ?_
 first | rfl | (simp [outV, hr2, hr3, hr4]; done)

end Go.Proofs.YtejnmechnhgmfaaGreat


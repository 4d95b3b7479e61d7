/- Walks: L18. -/
import Derived.Test.YtejnmechnhgmfaaZpTn
import Derived.Test.YtejnmechnhgmfaaZpND6
import Derived.Test.YtejnmechnhgmfaaZpND7
import Derived.Test.YtejnmechnhgmfaaZpNG5
import Derived.Test.YtejnmechnhgmfaaZpNG12
import Derived.Test.YtejnmechnhgmfaaZpNK11
import Derived.Test.YtejnmechnhgmfaaZpNK6
import Derived.Test.YtejnmechnhgmfaaZpNG7
import Derived.Test.YtejnmechnhgmfaaZpNG1
import Derived.Test.YtejnmechnhgmfaaZpNG4
import Derived.Test.YtejnmechnhgmfaaZpF13
import Derived.Test.YtejnmechnhgmfaaZpF14
import Derived.Test.YtejnmechnhgmfaaZpM9
set_option linter.unusedSimpArgs false
set_option linter.unusedVariables false
set_option maxRecDepth 100000
attribute [local irreducible] Go.Proofs.Ytejnmechnhgmfaa.gv
namespace Go.Proofs.Ytejnmechnhgmfaa
open Go.RowKit

set_option maxHeartbeats 8000000 in
theorem c_laws_FnPlayed (code : Nat) {v_code : Value} {w : World} (h_code : (Ty.bytes 5 code).ok w v_code) : RetV Try.prog 16 [v_code] w (.bool true) := by
 revert v_code; apply opn
 intro A1 c1 h1 bl1 bh1
 have h_code := h1
 refine enter @Try.func16 @Try.ntmps16 rfl rfl ?_
 refine zent ?_
 refine zS <| Qa rfl <| zJ <| zS <| Qm rfl <| zv rfl (fun w hw => c_laws_f6big code (ok_ hw)) <| JL.nil ?_
 refine zi (fun h2 h2' => ?_) fun h2 h2' => ?_
 ·
  refine zS <| Qa rfl <| JL.nil ?_
  refine zR (Up.refl _ _) ?_
  first | rfl | (simp [outV, hpe, hpd.ok, hpd.code, hpd.now, hpd.back, M.sameG_refl, M.sameP_of]; done)
 refine Js.skip <| zS <| Qm rfl <| zp rfl (fun w hw => c_spec_DrawPlayMove code (ok_ hw)) ?_
 intro u3 x3 X4 hX4 A5 c5 h5 bl5 bh5 A6 c6 h6 bl6 bh6 A7 c7 h7 bl7 bh7 A8 c8 h8 bl8 bh8 A9 c9 h9 bl9 bh9 X10 hX10
 refine Qm rfl <| Qx rfl rfl <| Qx rfl rfl <| za zeh fun b11 => zw 0 rfl rfl rfl ?_
 refine Qa rfl <| zN <| Q9 0 rfl rfl ?_
 refine Qm rfl <| zp rfl (fun w hw => c_impl_PlayMove X4 X10 (ok_ hw)) ?_
 intro u12 x12 A13 c13 h13 bl13 bh13 A14 c14 h14 bl14 bh14 A15 c15 h15 bl15 bh15 A16 c16 h16 bl16 bh16 A17 c17 h17 bl17 bh17
 refine Qm rfl <| Qx rfl rfl <| Qx rfl rfl <| za zeh fun b18 => zw 0 rfl rfl rfl ?_
 refine Qa rfl <| zN <| Q9 1 rfl rfl ?_
 refine Qm rfl <| zp rfl (fun w hw => c_spec_PlayMove X4 X10 (ok_ hw)) ?_
 intro u19 x19 A20 c20 h20 bl20 bh20 A21 c21 h21 bl21 bh21 A22 c22 h22 bl22 bh22 A23 c23 h23 bl23 bh23 A24 c24 h24 bl24 bh24
 refine Qm rfl <| Qx rfl rfl <| Qx rfl rfl <| za zeh fun b25 => zw 0 rfl rfl rfl ?_
 refine Qa rfl <| zN <| Qm rfl <| zp rfl (fun w hw => c_spec_DrawUndoMove code (ok_ hw)) ?_
 intro u26 x26 X27 hX27 A28 c28 h28 bl28 bh28 A29 c29 h29 bl29 bh29 A30 c30 h30 bl30 bh30 A31 c31 h31 bl31 bh31 A32 c32 h32 bl32 bh32
 refine za zeh fun b33 => zw 0 rfl rfl rfl ?_
 refine zN <| Q9 0 rfl rfl ?_
 refine zp rfl (fun w hw => c_impl_UndoMove X27 (ok_ hw)) ?_
 intro u34 x34 A35 c35 h35 bl35 bh35 A36 c36 h36 bl36 bh36 A37 c37 h37 bl37 bh37 A38 c38 h38 bl38 bh38 A39 c39 h39 bl39 bh39
 refine Qm rfl <| Qx rfl rfl <| Qx rfl rfl <| za zeh fun b40 => zw 0 rfl rfl rfl ?_
 refine Qa rfl <| zN <| Q9 1 rfl rfl ?_
 refine zp rfl (fun w hw => c_spec_UndoMove X27 (ok_ hw)) ?_
 intro u41 x41 A42 c42 h42 bl42 bh42 A43 c43 h43 bl43 bh43 A44 c44 h44 bl44 bh44 A45 c45 h45 bl45 bh45 A46 c46 h46 bl46 bh46
 obtain ⟨w1_0, w1_1, w1_2, w1_3, w1_4⟩ := (M.playR_small X4 X10 : M.Small ((M.playR X4 X10).1))
 obtain ⟨w2_0, w2_1, w2_2, w2_3, w2_4⟩ := (M.undo_small X27 : M.Small ((M.undo X27).1))
 refine Qm rfl <| Qx rfl rfl <| Qx rfl rfl <| za zeh fun b47 => zw 0 rfl rfl rfl ?_
 refine Qa rfl <| zJ <| Js.seq ?_
 refine zdr [] ?_
 refine JH.p 0 rfl (p_move rfl) ?_
 refine JH.p 1 rfl (p_move rfl) ?_
 refine JH.p 2 rfl (p_neq rfl rfl) ?_
 refine JH.p 3 rfl (p_move rfl) ?_
 refine JH.qg 4 rfl (Gd.f1 rfl rfl rfl) (fun hc => L9 4 rfl rfl) ?_
 refine JH.qg 5 rfl (Gd.f1 rfl rfl rfl) (fun hc => L9 3 rfl rfl) ?_
 refine y1 6 ?_
 refine JHo.ge rfl (Gd.f1 rfl rfl rfl) (fun hc => e_callV fn_61.h (opds_2 (gvt rfl hc) (gvt rfl hc)) (fun w hw => c_spec_SameGame ((M.playR X4 X10).1) ((M.playR X4 X10).1) (ok_ hw) (ok_ hw) (r0 := (by have hc9 := hc; (try simp only [Bool.not_eq_true', Bool.not_eq_false', decide_eq_true_eq] at hc9); omega)) (r1 := (by have hc9 := hc; (try simp only [Bool.not_eq_true', Bool.not_eq_false', decide_eq_true_eq] at hc9); omega)) (r2 := (by have hc9 := hc; (try simp only [Bool.not_eq_true', Bool.not_eq_false', decide_eq_true_eq] at hc9); omega)) (r3 := (by have hc9 := hc; (try simp only [Bool.not_eq_true', Bool.not_eq_false', decide_eq_true_eq] at hc9); omega)) (r4 := (by have hc9 := hc; (try simp only [Bool.not_eq_true', Bool.not_eq_false', decide_eq_true_eq] at hc9); omega)) (r5 := (by have hc9 := hc; (try simp only [Bool.not_eq_true', Bool.not_eq_false', decide_eq_true_eq] at hc9); omega)) (r6 := (by have hc9 := hc; (try simp only [Bool.not_eq_true', Bool.not_eq_false', decide_eq_true_eq] at hc9); omega)) (r7 := (by have hc9 := hc; (try simp only [Bool.not_eq_true', Bool.not_eq_false', decide_eq_true_eq] at hc9); omega)) (r8 := (by have hc9 := hc; (try simp only [Bool.not_eq_true', Bool.not_eq_false', decide_eq_true_eq] at hc9); omega)) (r9 := (by have hc9 := hc; (try simp only [Bool.not_eq_true', Bool.not_eq_false', decide_eq_true_eq] at hc9); omega)))) ?_
 refine JH.pg 7 rfl (Gd.f1 rfl rfl rfl) (fun hc => p_not (gvt rfl hc)) ?_
 refine JH.p 8 rfl (p_pickOr rfl rfl rfl) ?_
 refine JH.p 9 rfl (p_move rfl) ?_
 refine JH.pg 10 rfl (Gd.f1 rfl rfl rfl) (fun hc => p_move rfl) ?_
 refine JH.pg 11 rfl (Gd.f1 rfl rfl rfl) (fun hc => p_move rfl) ?_
 refine JH.pg 12 rfl (Gd.f1 rfl rfl rfl) (fun hc => p_neq (gvt rfl hc) (gvt rfl hc)) ?_
 refine JH.p 13 rfl (p_pickOr rfl rfl rfl) ?_
 refine JH.p 14 rfl (p_move rfl) ?_
 refine JH.qg 15 rfl (Gd.f1 rfl rfl rfl) (fun hc => L9 1 rfl rfl) ?_
 refine JH.qg 16 rfl (Gd.f1 rfl rfl rfl) (fun hc => L9 0 rfl rfl) ?_
 refine y1 17 ?_
 refine JHo.ge rfl (Gd.f1 rfl rfl rfl) (fun hc => e_callV fn_61.h (opds_2 (gvt rfl hc) (gvt rfl hc)) (fun w hw => c_spec_SameGame ((M.undo X27).1) ((M.undo X27).1) (ok_ hw) (ok_ hw) (r0 := (by have hc9 := hc; (try simp only [Bool.not_eq_true', Bool.or_eq_false_iff, Bool.not_eq_false', decide_eq_true_eq] at hc9); omega)) (r1 := (by have hc9 := hc; (try simp only [Bool.not_eq_true', Bool.or_eq_false_iff, Bool.not_eq_false', decide_eq_true_eq] at hc9); omega)) (r2 := (by have hc9 := hc; (try simp only [Bool.not_eq_true', Bool.or_eq_false_iff, Bool.not_eq_false', decide_eq_true_eq] at hc9); omega)) (r3 := (by have hc9 := hc; (try simp only [Bool.not_eq_true', Bool.or_eq_false_iff, Bool.not_eq_false', decide_eq_true_eq] at hc9); omega)) (r4 := (by have hc9 := hc; (try simp only [Bool.not_eq_true', Bool.or_eq_false_iff, Bool.not_eq_false', decide_eq_true_eq] at hc9); omega)) (r5 := (by have hc9 := hc; (try simp only [Bool.not_eq_true', Bool.or_eq_false_iff, Bool.not_eq_false', decide_eq_true_eq] at hc9); omega)) (r6 := (by have hc9 := hc; (try simp only [Bool.not_eq_true', Bool.or_eq_false_iff, Bool.not_eq_false', decide_eq_true_eq] at hc9); omega)) (r7 := (by have hc9 := hc; (try simp only [Bool.not_eq_true', Bool.or_eq_false_iff, Bool.not_eq_false', decide_eq_true_eq] at hc9); omega)) (r8 := (by have hc9 := hc; (try simp only [Bool.not_eq_true', Bool.or_eq_false_iff, Bool.not_eq_false', decide_eq_true_eq] at hc9); omega)) (r9 := (by have hc9 := hc; (try simp only [Bool.not_eq_true', Bool.or_eq_false_iff, Bool.not_eq_false', decide_eq_true_eq] at hc9); omega)))) ?_
 refine JH.pg 18 rfl (Gd.f1 rfl rfl rfl) (fun hc => p_not (gvt rfl hc)) ?_
 refine JH.p 19 rfl (p_pickOr rfl rfl rfl) ?_
 refine JH.p 20 rfl (p_move rfl) ?_
 refine JH.qg 21 rfl (Gd.f1 rfl rfl rfl) (fun hc => L9 5 rfl rfl) ?_
 refine JH.qg 23 rfl (Gd.f1 rfl rfl rfl) (fun hc => L9 5 rfl rfl) ?_
 refine y1 22 ?_
 refine JHo.ge rfl (Gd.f1 rfl rfl rfl) (fun hc => e_callV fn_62.h (opds_1 (gvt rfl hc)) (fun w hw => c_impl_ValidGame X4 (ok_ hw) (r0 := (by have hc9 := hc; (try simp only [Bool.not_eq_true', Bool.or_eq_false_iff, Bool.not_eq_false', decide_eq_true_eq] at hc9); omega)) (r1 := (by have hc9 := hc; (try simp only [Bool.not_eq_true', Bool.or_eq_false_iff, Bool.not_eq_false', decide_eq_true_eq] at hc9); omega)) (r2 := (by have hc9 := hc; (try simp only [Bool.not_eq_true', Bool.or_eq_false_iff, Bool.not_eq_false', decide_eq_true_eq] at hc9); omega)) (r3 := (by have hc9 := hc; (try simp only [Bool.not_eq_true', Bool.or_eq_false_iff, Bool.not_eq_false', decide_eq_true_eq] at hc9); omega)) (r4 := (by have hc9 := hc; (try simp only [Bool.not_eq_true', Bool.or_eq_false_iff, Bool.not_eq_false', decide_eq_true_eq] at hc9); omega)))) ?_
 refine y1 24 ?_
 refine JHo.ge rfl (Gd.f1 rfl rfl rfl) (fun hc => e_callV fn_63.h (opds_1 (gvt rfl hc)) (fun w hw => c_spec_ValidGame X4 (ok_ hw) (r0 := (by have hc9 := hc; (try simp only [Bool.not_eq_true', Bool.or_eq_false_iff, Bool.not_eq_false', decide_eq_true_eq] at hc9); omega)) (r1 := (by have hc9 := hc; (try simp only [Bool.not_eq_true', Bool.or_eq_false_iff, Bool.not_eq_false', decide_eq_true_eq] at hc9); omega)) (r2 := (by have hc9 := hc; (try simp only [Bool.not_eq_true', Bool.or_eq_false_iff, Bool.not_eq_false', decide_eq_true_eq] at hc9); omega)) (r3 := (by have hc9 := hc; (try simp only [Bool.not_eq_true', Bool.or_eq_false_iff, Bool.not_eq_false', decide_eq_true_eq] at hc9); omega)) (r4 := (by have hc9 := hc; (try simp only [Bool.not_eq_true', Bool.or_eq_false_iff, Bool.not_eq_false', decide_eq_true_eq] at hc9); omega)))) ?_
 refine JH.pg 25 rfl (Gd.f1 rfl rfl rfl) (fun hc => p_neqB und_4 (gvt rfl hc) (gvt rfl hc)) ?_
 refine JH.p 26 rfl (p_pickOr rfl rfl rfl) ?_
 refine yd ?_
 refine zi (fun h48 h48' => ?_) fun h48 h48' => ?_
 · exact absurd h48 (by simp [M.sameG_refl])
 refine Js.skip <| Js.seq <| zS <| Qm rfl <| Qe rfl rfl <| JL.nil ?_
 refine zi (fun h49 h49' => ?_) fun h49 h49' => ?_
 ·
  have hu0 := h49'
  obtain ⟨ho, hl, hp⟩ := M.undone (g := X27) (by simpa using hu0)
  refine Js.seq ?_
  refine zk [3, 4, 5, 6, 9] (fun F U l os u => ∃ (b57 : Nat) (A52 : Option Addr) (c52 : Nat) (A53 : Option Addr) (c53 : Nat) (A54 : Option Addr) (c54 : Nat) (A55 : Option Addr) (c55 : Nat) (A56 : Option Addr) (c56 : Nat), l = F [(14, .pointer (some ⟨b57, 0, none⟩)), (15, .int .i64 ((M.playR ((M.undo X27).1) (M.nth X27.moves (((X27.moves.length : Int) - 1).toNat))).2))] ∧ os = [boxO b57 [.int .i64 ((((M.playR ((M.undo X27).1) (M.nth X27.moves (((X27.moves.length : Int) - 1).toNat))).1).rules).pits), .int .i64 ((((M.playR ((M.undo X27).1) (M.nth X27.moves (((X27.moves.length : Int) - 1).toNat))).1).rules).seeds), .bool ((((M.playR ((M.undo X27).1) (M.nth X27.moves (((X27.moves.length : Int) - 1).toNat))).1).rules).stores), .bool ((((M.playR ((M.undo X27).1) (M.nth X27.moves (((X27.moves.length : Int) - 1).toNat))).1).rules).skip), .bool ((((M.playR ((M.undo X27).1) (M.nth X27.moves (((X27.moves.length : Int) - 1).toNat))).1).rules).relay), .bool ((((M.playR ((M.undo X27).1) (M.nth X27.moves (((X27.moves.length : Int) - 1).toNat))).1).rules).feed), .bool ((((M.playR ((M.undo X27).1) (M.nth X27.moves (((X27.moves.length : Int) - 1).toNat))).1).rules).again), .int .i64 ((((M.playR ((M.undo X27).1) (M.nth X27.moves (((X27.moves.length : Int) - 1).toNat))).1).rules).capture), .int .i64 ((((M.playR ((M.undo X27).1) (M.nth X27.moves (((X27.moves.length : Int) - 1).toNat))).1).rules).slam), .slice A52 (((((M.playR ((M.undo X27).1) (M.nth X27.moves (((X27.moves.length : Int) - 1).toNat))).1).start).pits).length) c52, .slice A53 (((((M.playR ((M.undo X27).1) (M.nth X27.moves (((X27.moves.length : Int) - 1).toNat))).1).start).stores).length) c53, .int .i64 ((((M.playR ((M.undo X27).1) (M.nth X27.moves (((X27.moves.length : Int) - 1).toNat))).1).start).player), .slice A54 ((((M.playR ((M.undo X27).1) (M.nth X27.moves (((X27.moves.length : Int) - 1).toNat))).1).moves).length) c54, .slice A55 (((((M.playR ((M.undo X27).1) (M.nth X27.moves (((X27.moves.length : Int) - 1).toNat))).1).now).pits).length) c55, .slice A56 (((((M.playR ((M.undo X27).1) (M.nth X27.moves (((X27.moves.length : Int) - 1).toNat))).1).now).stores).length) c56, .int .i64 ((((M.playR ((M.undo X27).1) (M.nth X27.moves (((X27.moves.length : Int) - 1).toNat))).1).now).player), .int .i64 (((M.playR ((M.undo X27).1) (M.nth X27.moves (((X27.moves.length : Int) - 1).toNat))).1).resigned)] 35] ++ U [] ∧ (((((M.playR ((M.undo X27).1) (M.nth X27.moves (((X27.moves.length : Int) - 1).toNat))).1).start).pits).length ≤ c52) ∧ (c52 ≤ 9223372036854775807) ∧ ((Ty.ints 2 ((((M.playR ((M.undo X27).1) (M.nth X27.moves (((X27.moves.length : Int) - 1).toNat))).1).start).pits)).ok u (.slice A52 (((((M.playR ((M.undo X27).1) (M.nth X27.moves (((X27.moves.length : Int) - 1).toNat))).1).start).pits).length) c52)) ∧ (((((M.playR ((M.undo X27).1) (M.nth X27.moves (((X27.moves.length : Int) - 1).toNat))).1).start).stores).length ≤ c53) ∧ (c53 ≤ 9223372036854775807) ∧ ((Ty.ints 2 ((((M.playR ((M.undo X27).1) (M.nth X27.moves (((X27.moves.length : Int) - 1).toNat))).1).start).stores)).ok u (.slice A53 (((((M.playR ((M.undo X27).1) (M.nth X27.moves (((X27.moves.length : Int) - 1).toNat))).1).start).stores).length) c53)) ∧ ((((M.playR ((M.undo X27).1) (M.nth X27.moves (((X27.moves.length : Int) - 1).toNat))).1).moves).length ≤ c54) ∧ (c54 ≤ 9223372036854775807) ∧ ((Ty.ints 2 (((M.playR ((M.undo X27).1) (M.nth X27.moves (((X27.moves.length : Int) - 1).toNat))).1).moves)).ok u (.slice A54 ((((M.playR ((M.undo X27).1) (M.nth X27.moves (((X27.moves.length : Int) - 1).toNat))).1).moves).length) c54)) ∧ (((((M.playR ((M.undo X27).1) (M.nth X27.moves (((X27.moves.length : Int) - 1).toNat))).1).now).pits).length ≤ c55) ∧ (c55 ≤ 9223372036854775807) ∧ ((Ty.ints 2 ((((M.playR ((M.undo X27).1) (M.nth X27.moves (((X27.moves.length : Int) - 1).toNat))).1).now).pits)).ok u (.slice A55 (((((M.playR ((M.undo X27).1) (M.nth X27.moves (((X27.moves.length : Int) - 1).toNat))).1).now).pits).length) c55)) ∧ (((((M.playR ((M.undo X27).1) (M.nth X27.moves (((X27.moves.length : Int) - 1).toNat))).1).now).stores).length ≤ c56) ∧ (c56 ≤ 9223372036854775807) ∧ ((Ty.ints 2 ((((M.playR ((M.undo X27).1) (M.nth X27.moves (((X27.moves.length : Int) - 1).toNat))).1).now).stores)).ok u (.slice A56 (((((M.playR ((M.undo X27).1) (M.nth X27.moves (((X27.moves.length : Int) - 1).toNat))).1).now).stores).length) c56))) ?_ ?_
  ·
   refine zdr [14] ?_
   refine JH.q 0 rfl (L9 1 rfl rfl) ?_
   refine JH.p 1 rfl (p_fieldAddr fld_35_2.h rfl) ?_
   refine JH.q 2 rfl (q_load1 ty_24.h rfl (Mem.box (i := 2) rfl rfl)) ?_
   refine JH.p 3 rfl (p_fieldAddr fld_35_2.h rfl) ?_
   refine JH.q 4 rfl (q_load1 ty_24.h rfl (Mem.box (i := 2) rfl rfl)) ?_
   refine JH.p 5 rfl (p_len el_24 rfl) ?_
   refine JH.p 6 rfl (p_sub rfl rfl (IntWalk.i64_in _ (by omega))) ?_
   obtain ⟨b66, o66, he66, hc66⟩ := ints_elem (Ty.mono _ h30 (x34.vis.trans x41.vis)) (i := ((X27.moves.length : Int) - 1).toNat) (by omega)
   refine JH.p 7 rfl (p_indexAddr el_24 rfl rfl (by omega) (by omega) he66) ?_
   refine JH.w 8 rfl (fun os' u' hv => q_load1 ty_2.h rfl (Mem.pub (hc66.vis hv))) ?_
   refine y2 9 13 ?_ ?_
   ·
    refine yp rfl rfl (fun w hw => c_impl_PlayMove ((M.undo X27).1) (M.nth X27.moves (((X27.moves.length : Int) - 1).toNat)) (ok_ hw)) ?_
    intro u67 x67 A68 c68 h68 bl68 bh68 A69 c69 h69 bl69 bh69 A70 c70 h70 bl70 bh70 A71 c71 h71 bl71 bh71 A72 c72 h72 bl72 bh72
    refine JH.p 10 rfl (p_move rfl) ?_
    refine JH.p 11 rfl (p_extract rfl rfl) ?_
    refine JH.p 12 rfl (p_extract rfl rfl) ?_
    refine y1 13 ?_
    refine ya rfl fun b73 => ?_
    refine y1 14 ?_
    refine yst rfl rfl rfl ?_
    refine JH.p 15 rfl (p_assign rfl) ?_
    refine yd ?_
    exact zm ⟨_, _, _, _, _, _, _, _, _, _, _, rfl, rfl, zt, zt, h68, zt, zt, h69, zt, zt, h70, zt, zt, h71, zt, zt, h72⟩ x67
   refine ya rfl fun b74 => ?_
   refine y1 9 ?_
   refine yp rfl rfl (fun w hw => c_impl_PlayMove ((M.undo X27).1) (M.nth X27.moves (((X27.moves.length : Int) - 1).toNat)) (ok_ hw)) ?_
   intro u75 x75 A76 c76 h76 bl76 bh76 A77 c77 h77 bl77 bh77 A78 c78 h78 bl78 bh78 A79 c79 h79 bl79 bh79 A80 c80 h80 bl80 bh80
   refine JH.p 10 rfl (p_move rfl) ?_
   refine JH.p 11 rfl (p_extract rfl rfl) ?_
   refine JH.p 12 rfl (p_extract rfl rfl) ?_
   refine y1 14 ?_
   refine yst rfl rfl rfl ?_
   refine JH.p 15 rfl (p_assign rfl) ?_
   refine yd ?_
   exact zm ⟨_, _, _, _, _, _, _, _, _, _, _, rfl, rfl, zt, zt, h76, zt, zt, h77, zt, zt, h78, zt, zt, h79, zt, zt, h80⟩ x75
  rintro _ _ u65 ⟨b57, A52, c52, A53, c53, A54, c54, A55, c55, A56, c56, rfl, rfl, f65_0, f65_1, f65_2, f65_3, f65_4, f65_5, f65_6, f65_7, f65_8, f65_9, f65_10, f65_11, f65_12, f65_13, f65_14⟩ x65
  refine zn ?_
  have hpp : M.playR (M.undo X27).1 (M.nth X27.moves (X27.moves.length - 1)) = (X27, 0) := hp
  obtain ⟨w3_0, w3_1, w3_2, w3_3, w3_4⟩ := (M.Small.ok ho : M.Small X27)
  obtain ⟨w4_0, w4_1, w4_2, w4_3, w4_4⟩ := (M.playR_small _ _ : M.Small ((M.playR ((M.undo X27).1) (M.nth X27.moves (((X27.moves.length : Int) - 1).toNat))).1))
  refine zS <| Qm rfl <| Qd rfl rfl <| Qm rfl <| zgq (Gd.f1 rfl rfl rfl) (fun hc => L9 0 rfl rfl) <| zgq (Gd.f1 rfl rfl rfl) (fun hc => L9 3 rfl rfl) <| zgv (Gd.f1 rfl rfl rfl) (fun hc => (opds_2 (gh hc rfl) (gh hc rfl))) (fun hc => (fun w hw => c_spec_SameGame ((M.playR ((M.undo X27).1) (M.nth X27.moves (((X27.moves.length : Int) - 1).toNat))).1) X27 (ok_ hw) (ok_ hw) (r0 := (by have hc9 := hc; (try simp only [Bool.not_eq_true', Bool.not_eq_false', decide_eq_true_eq] at hc9); omega)) (r1 := (by have hc9 := hc; (try simp only [Bool.not_eq_true', Bool.not_eq_false', decide_eq_true_eq] at hc9); omega)) (r2 := (by have hc9 := hc; (try simp only [Bool.not_eq_true', Bool.not_eq_false', decide_eq_true_eq] at hc9); omega)) (r3 := (by have hc9 := hc; (try simp only [Bool.not_eq_true', Bool.not_eq_false', decide_eq_true_eq] at hc9); omega)) (r4 := (by have hc9 := hc; (try simp only [Bool.not_eq_true', Bool.not_eq_false', decide_eq_true_eq] at hc9); omega)) (r5 := (by have hc9 := hc; (try simp only [Bool.not_eq_true', Bool.not_eq_false', decide_eq_true_eq] at hc9); omega)) (r6 := (by have hc9 := hc; (try simp only [Bool.not_eq_true', Bool.not_eq_false', decide_eq_true_eq] at hc9); omega)) (r7 := (by have hc9 := hc; (try simp only [Bool.not_eq_true', Bool.not_eq_false', decide_eq_true_eq] at hc9); omega)) (r8 := (by have hc9 := hc; (try simp only [Bool.not_eq_true', Bool.not_eq_false', decide_eq_true_eq] at hc9); omega)) (r9 := (by have hc9 := hc; (try simp only [Bool.not_eq_true', Bool.not_eq_false', decide_eq_true_eq] at hc9); omega)))) ?_
  refine zg (Gd.f1 rfl rfl rfl) (fun hc => p_not (gh hc rfl)) <| Qq (p_pickOr rfl rfl rfl) <| JL.nil ?_
  refine zi (fun h81 h81' => ?_) fun h81 h81' => ?_
  · exact absurd h81 (by simp [hp, M.sameG_refl])
  refine Js.skip <| Js.seq <| zS <| Qm rfl <| Qd rfl rfl <| JL.nil ?_
  refine zi (fun h82 h82' => ?_) fun h82 h82' => ?_
  ·
   refine zS <| Qa rfl <| JL.nil ?_
   refine zR ((((((x3.trans x12).trans x19).trans x26).trans x34).trans x41).trans x65) ?_
   first | rfl | (simp [outV, hpe, hpd.ok, hpd.code, hpd.now, hpd.back, M.sameG_refl, M.sameP_of]; done)
  have hb0 := h82'
  obtain ⟨hgo, hpe, hpz, hpd⟩ := M.playedOf (g := X4) (move := X10) (by simpa using hb0)
  refine Js.skip <| zS <| Q9 5 rfl rfl ?_
  refine zp rfl (fun w hw => c_impl_UndoMove ((M.playR X4 X10).1) (ok_ hw)) ?_
  intro u83 x83 A84 c84 h84 bl84 bh84 A85 c85 h85 bl85 bh85 A86 c86 h86 bl86 bh86 A87 c87 h87 bl87 bh87 A88 c88 h88 bl88 bh88
  refine Qm rfl <| Qx rfl rfl <| Qx rfl rfl <| za zeh fun b89 => zw 0 rfl rfl rfl ?_
  refine Qa rfl <| zN <| Qf fh rfl <| Q9 7 rfl rfl ?_
  refine Qf fh rfl <| Q9 7 rfl rfl ?_
  refine Qm rfl <| zp rfl (fun w hw => c_impl_MakeMove X4.rules X4.now X10 (ok_ hw) (ok_ hw)) ?_
  intro u90 x90 A91 c91 h91 bl91 bh91 A92 c92 h92 bl92 bh92
  obtain ⟨w5_0, w5_1, w5_2, w5_3, w5_4⟩ := (M.undo_small _ : M.Small ((M.undo ((M.playR X4 X10).1)).1))
  have hnw := M.okP_len (M.okG_now hpd.ok)
  rw [hpd.now] at hnw
  refine Qm rfl <| Qx rfl rfl <| Qx rfl rfl <| Qx rfl rfl <| za zeh fun b93 => zw 0 rfl rfl rfl ?_
  refine Qa rfl <| Qa rfl <| zN <| Qm rfl <| Qe rfl rfl <| Qm rfl <| zgq (Gd.t1 rfl rfl rfl) (fun hc => L9 1 rfl rfl) <| zgq (Gd.t1 rfl rfl rfl) (fun hc => L9 8 rfl rfl) <| zgv (Gd.t1 rfl rfl rfl) (fun hc => (opds_2 (gh hc rfl) (gh hc rfl))) (fun hc => (fun w hw => c_spec_SameGame ((M.undo ((M.playR X4 X10).1)).1) X4 (ok_ hw) (ok_ hw) (r0 := (by have hc9 := hc; (try simp only [decide_eq_true_eq] at hc9); omega)) (r1 := (by have hc9 := hc; (try simp only [decide_eq_true_eq] at hc9); omega)) (r2 := (by have hc9 := hc; (try simp only [decide_eq_true_eq] at hc9); omega)) (r3 := (by have hc9 := hc; (try simp only [decide_eq_true_eq] at hc9); omega)) (r4 := (by have hc9 := hc; (try simp only [decide_eq_true_eq] at hc9); omega)) (r5 := (by have hc9 := hc; (try simp only [decide_eq_true_eq] at hc9); omega)) (r6 := (by have hc9 := hc; (try simp only [decide_eq_true_eq] at hc9); omega)) (r7 := (by have hc9 := hc; (try simp only [decide_eq_true_eq] at hc9); omega)) (r8 := (by have hc9 := hc; (try simp only [decide_eq_true_eq] at hc9); omega)) (r9 := (by have hc9 := hc; (try simp only [decide_eq_true_eq] at hc9); omega)))) ?_
  refine Qq (p_pickAnd rfl rfl rfl) <| Qm rfl <| zg (Gd.t1 rfl rfl rfl) (fun hc => p_move rfl) <| zg (Gd.t1 rfl rfl rfl) (fun hc => p_eql (gh hc rfl) rfl) <| Qq (p_pickAnd rfl rfl rfl) <| Qm rfl <| zgq (Gd.t1 rfl rfl rfl) (fun hc => L9 0 rfl rfl) <| zg (Gd.t1 rfl rfl rfl) (fun hc => p_fieldAddr fld_35_3.h rfl) <| zgq (Gd.t1 rfl rfl rfl) (fun hc => L9 7 (gh hc rfl) rfl) <| zgv (Gd.t1 rfl rfl rfl) (fun hc => (opds_2 (gh hc rfl) (gh hc rfl))) (fun hc => (fun w hw => c_spec_SamePosition ((M.make X4.rules X4.now X10).1.next) (((M.playR X4 X10).1).now) (ok_ hw) (ok_ hw) (r0 := (by have hc9 := hc; (try simp only [Bool.and_eq_true, decide_eq_true_eq] at hc9); omega)) (r1 := (by have hc9 := hc; (try simp only [Bool.and_eq_true, decide_eq_true_eq] at hc9); omega)) (r2 := (by have hc9 := hc; (try simp only [Bool.and_eq_true, decide_eq_true_eq] at hc9); omega)) (r3 := (by have hc9 := hc; (try simp only [Bool.and_eq_true, decide_eq_true_eq] at hc9); omega)))) ?_
  refine Qq (p_pickAnd rfl rfl rfl) <| Qm rfl <| zgq (Gd.t1 rfl rfl rfl) (fun hc => L9 7 rfl rfl) <| zgv (Gd.t1 rfl rfl rfl) (fun hc => (opds_1 (gh hc rfl))) (fun hc => (fun w hw => c_impl_ValidGame ((M.playR X4 X10).1) (ok_ hw) (r0 := (by have hc9 := hc; (try simp only [Bool.and_eq_true, decide_eq_true_eq] at hc9); omega)) (r1 := (by have hc9 := hc; (try simp only [Bool.and_eq_true, decide_eq_true_eq] at hc9); omega)) (r2 := (by have hc9 := hc; (try simp only [Bool.and_eq_true, decide_eq_true_eq] at hc9); omega)) (r3 := (by have hc9 := hc; (try simp only [Bool.and_eq_true, decide_eq_true_eq] at hc9); omega)) (r4 := (by have hc9 := hc; (try simp only [Bool.and_eq_true, decide_eq_true_eq] at hc9); omega)))) ?_
  refine Qq (p_pickAnd rfl rfl rfl) <| Qa rfl <| JL.nil ?_
  refine zR ((((((((x3.trans x12).trans x19).trans x26).trans x34).trans x41).trans x65).trans x83).trans x90) ?_
  first | rfl | (simp [outV, hpe, hpd.ok, hpd.code, hpd.now, hpd.back, M.sameG_refl, M.sameP_of]; done)
 refine Js.skip <| Js.seq <| zS <| Qm rfl <| Qd rfl rfl <| JL.nil ?_
 refine zi (fun h94 h94' => ?_) fun h94 h94' => ?_
 ·
  refine zS <| Qa rfl <| JL.nil ?_
  refine zR (((((x3.trans x12).trans x19).trans x26).trans x34).trans x41) ?_
  first | rfl | (simp [outV, hpe, hpd.ok, hpd.code, hpd.now, hpd.back, M.sameG_refl, M.sameP_of]; done)
 have hb0 := h94'
 obtain ⟨hgo, hpe, hpz, hpd⟩ := M.playedOf (g := X4) (move := X10) (by simpa using hb0)
 refine Js.skip <| zS <| Q9 4 rfl rfl ?_
 refine zp rfl (fun w hw => c_impl_UndoMove ((M.playR X4 X10).1) (ok_ hw)) ?_
 intro u95 x95 A96 c96 h96 bl96 bh96 A97 c97 h97 bl97 bh97 A98 c98 h98 bl98 bh98 A99 c99 h99 bl99 bh99 A100 c100 h100 bl100 bh100
 refine Qm rfl <| Qx rfl rfl <| Qx rfl rfl <| za zeh fun b101 => zw 0 rfl rfl rfl ?_
 refine Qa rfl <| zN <| Qf fh rfl <| Q9 6 rfl rfl ?_
 refine Qf fh rfl <| Q9 6 rfl rfl ?_
 refine Qm rfl <| zp rfl (fun w hw => c_impl_MakeMove X4.rules X4.now X10 (ok_ hw) (ok_ hw)) ?_
 intro u102 x102 A103 c103 h103 bl103 bh103 A104 c104 h104 bl104 bh104
 obtain ⟨w5_0, w5_1, w5_2, w5_3, w5_4⟩ := (M.undo_small _ : M.Small ((M.undo ((M.playR X4 X10).1)).1))
 have hnw := M.okP_len (M.okG_now hpd.ok)
 rw [hpd.now] at hnw
 refine Qm rfl <| Qx rfl rfl <| Qx rfl rfl <| Qx rfl rfl <| za zeh fun b105 => zw 0 rfl rfl rfl ?_
 refine Qa rfl <| Qa rfl <| zN <| Qm rfl <| Qe rfl rfl <| Qm rfl <| zgq (Gd.t1 rfl rfl rfl) (fun hc => L9 1 rfl rfl) <| zgq (Gd.t1 rfl rfl rfl) (fun hc => L9 7 rfl rfl) <| zgv (Gd.t1 rfl rfl rfl) (fun hc => (opds_2 (gh hc rfl) (gh hc rfl))) (fun hc => (fun w hw => c_spec_SameGame ((M.undo ((M.playR X4 X10).1)).1) X4 (ok_ hw) (ok_ hw) (r0 := (by have hc9 := hc; (try simp only [decide_eq_true_eq] at hc9); omega)) (r1 := (by have hc9 := hc; (try simp only [decide_eq_true_eq] at hc9); omega)) (r2 := (by have hc9 := hc; (try simp only [decide_eq_true_eq] at hc9); omega)) (r3 := (by have hc9 := hc; (try simp only [decide_eq_true_eq] at hc9); omega)) (r4 := (by have hc9 := hc; (try simp only [decide_eq_true_eq] at hc9); omega)) (r5 := (by have hc9 := hc; (try simp only [decide_eq_true_eq] at hc9); omega)) (r6 := (by have hc9 := hc; (try simp only [decide_eq_true_eq] at hc9); omega)) (r7 := (by have hc9 := hc; (try simp only [decide_eq_true_eq] at hc9); omega)) (r8 := (by have hc9 := hc; (try simp only [decide_eq_true_eq] at hc9); omega)) (r9 := (by have hc9 := hc; (try simp only [decide_eq_true_eq] at hc9); omega)))) ?_
 refine Qq (p_pickAnd rfl rfl rfl) <| Qm rfl <| zg (Gd.t1 rfl rfl rfl) (fun hc => p_move rfl) <| zg (Gd.t1 rfl rfl rfl) (fun hc => p_eql (gh hc rfl) rfl) <| Qq (p_pickAnd rfl rfl rfl) <| Qm rfl <| zgq (Gd.t1 rfl rfl rfl) (fun hc => L9 0 rfl rfl) <| zg (Gd.t1 rfl rfl rfl) (fun hc => p_fieldAddr fld_35_3.h rfl) <| zgq (Gd.t1 rfl rfl rfl) (fun hc => L9 6 (gh hc rfl) rfl) <| zgv (Gd.t1 rfl rfl rfl) (fun hc => (opds_2 (gh hc rfl) (gh hc rfl))) (fun hc => (fun w hw => c_spec_SamePosition ((M.make X4.rules X4.now X10).1.next) (((M.playR X4 X10).1).now) (ok_ hw) (ok_ hw) (r0 := (by have hc9 := hc; (try simp only [Bool.and_eq_true, decide_eq_true_eq] at hc9); omega)) (r1 := (by have hc9 := hc; (try simp only [Bool.and_eq_true, decide_eq_true_eq] at hc9); omega)) (r2 := (by have hc9 := hc; (try simp only [Bool.and_eq_true, decide_eq_true_eq] at hc9); omega)) (r3 := (by have hc9 := hc; (try simp only [Bool.and_eq_true, decide_eq_true_eq] at hc9); omega)))) ?_
 refine Qq (p_pickAnd rfl rfl rfl) <| Qm rfl <| zgq (Gd.t1 rfl rfl rfl) (fun hc => L9 6 rfl rfl) <| zgv (Gd.t1 rfl rfl rfl) (fun hc => (opds_1 (gh hc rfl))) (fun hc => (fun w hw => c_impl_ValidGame ((M.playR X4 X10).1) (ok_ hw) (r0 := (by have hc9 := hc; (try simp only [Bool.and_eq_true, decide_eq_true_eq] at hc9); omega)) (r1 := (by have hc9 := hc; (try simp only [Bool.and_eq_true, decide_eq_true_eq] at hc9); omega)) (r2 := (by have hc9 := hc; (try simp only [Bool.and_eq_true, decide_eq_true_eq] at hc9); omega)) (r3 := (by have hc9 := hc; (try simp only [Bool.and_eq_true, decide_eq_true_eq] at hc9); omega)) (r4 := (by have hc9 := hc; (try simp only [Bool.and_eq_true, decide_eq_true_eq] at hc9); omega)))) ?_
 refine Qq (p_pickAnd rfl rfl rfl) <| Qa rfl <| JL.nil ?_
 refine zR (((((((x3.trans x12).trans x19).trans x26).trans x34).trans x41).trans x95).trans x102) ?_
 first | rfl | (simp [outV, hpe, hpd.ok, hpd.code, hpd.now, hpd.back, M.sameG_refl, M.sameP_of]; done)

end Go.Proofs.Ytejnmechnhgmfaa

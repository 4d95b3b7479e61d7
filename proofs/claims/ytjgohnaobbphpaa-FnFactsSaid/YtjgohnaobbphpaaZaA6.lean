/- Walks: D1. -/
import Derived.Test.YtjgohnaobbphpaaZaA3
import Derived.Test.YtjgohnaobbphpaaZaA5
import Derived.Test.YtjgohnaobbphpaaZaA1
import Derived.Test.YtjgohnaobbphpaaZaA2
set_option linter.unusedSimpArgs false
set_option linter.unusedVariables false
set_option maxRecDepth 100000
attribute [local irreducible] Go.Proofs.Ytjgohnaobbphpaa.gv
set_option maxHeartbeats 4000000
namespace Go.Proofs.Ytjgohnaobbphpaa
open Go.RowKit
theorem c_spec_l00From (code : Nat) {v_code : Value} {w : World} (h_code : (Ty.bytes 5 code).ok w v_code) : Ret Try.prog 28 [v_code] w (Ty.box 105 [Ty.val v_code, Ty.int 0, Ty.val (.int .u64 0)]) := by
 revert v_code; apply opn
 intro A1 c1 h1 bl1 bh1
 have h_code := h1
 refine enter @Try.func28 @Try.ntmps28 rfl rfl ?_
 refine zent ?_
 refine zS <| Qa rfl <| zN <| Qm rfl <| Qb ?_
 refine zb rfl fun b2 => Qa rfl <| JL.nil ?_
 exact zro (Up.refl _ _)
theorem c_spec_l00Src_next (s_code : Nat) (s_at s_seed : Int) {As_0 : Option Addr} {cs_0 bs : Nat} {w : World} (hb : Bw w [boxO bs [.slice As_0 s_code cs_0, .int .i64 s_at, .int .u64 s_seed] 105]) (hps_0 : (Ty.bytes 5 s_code).ok (offW w (([boxO bs [.slice As_0 s_code cs_0, .int .i64 s_at, .int .u64 s_seed] 105] : List Own).flatMap (·.fp))) (.slice As_0 s_code cs_0)) (r0 : 0 ≤ s_at := by exact om_) (r1 : s_at ≤ 999999999 := by exact om_) (r2 : s_code ≤ 1048576 := by exact om_) : RetB Try.prog 62 [.pointer (some ⟨bs, 0, none⟩)] w [boxO bs [.slice As_0 s_code cs_0, .int .i64 s_at, .int .u64 s_seed] 105] (fun v bs' => ∃ (KX AT SD : Int), v = .int .i64 KX ∧ bs' = [boxO bs [.slice As_0 s_code cs_0, .int .i64 AT, .int .u64 SD] 105] ∧ (0 ≤ KX) ∧ (KX ≤ 255) ∧ (s_at ≤ AT) ∧ (AT ≤ s_at + 1)) := by
 refine enterB hb @Try.func62 @Try.ntmps62 rfl rfl ?_
 refine zent ?_
 refine Js.trashE ?_
 refine zn ?_
 refine zS <| Qa rfl <| zN <| Qa rfl <| zJ <| Js.seq ?_
 refine zdr [] ?_
 refine jM 0 rfl rfl ?_
 refine jN 1 rfl rfl ?_
 refine jF 2 fld_105_1 rfl rfl ?_
 refine jB 3 0 ty_3 rfl rfl rfl rfl ?_
 refine jM 4 rfl rfl ?_
 refine jN 5 rfl rfl ?_
 refine jF 6 fld_105_0 rfl rfl ?_
 refine jB 7 0 ty_22 rfl rfl rfl rfl ?_
 refine JH.p 8 rfl (p_len el_22 rfl) ?_
 refine JH.p 9 rfl (p_lss rfl rfl) ?_
 refine yd ?_
 refine zi (fun h1 h1' => ?_) fun h1 h1' => ?_
 ·
  refine zdr [] ?_
  refine jM 0 rfl rfl ?_
  refine jN 1 rfl rfl ?_
  refine jF 2 fld_105_0 rfl rfl ?_
  refine jB 3 0 ty_22 rfl rfl rfl rfl ?_
  refine jM 4 rfl rfl ?_
  refine jN 5 rfl rfl ?_
  refine jF 6 fld_105_1 rfl rfl ?_
  refine jB 7 0 ty_3 rfl rfl rfl rfl ?_
  obtain ⟨b2, o2, z2, he2, hc2, hz2⟩ := bytes_elem hps_0 (i := s_at.toNat) (by omega)
  refine jI 8 el_22 rfl rfl rfl he2 ?_
  refine jW 9 ty_5 rfl rfl hc2.vis ?_
  refine y1 10 ?_
  refine JHo.q rfl (OpP.q (p_conv @Try.underlying5 @Try.underlying3 rfl (IntWalk.i64_in _ (by omega)))) ?_
  refine jA 11 rfl rfl ?_
  refine yd ?_
  refine zS <| Qm rfl <| Qc rfl <| Qf fh rfl <| Q0 0 rfl rfl rfl <| Qp rfl rfl <| Qc rfl <| Qf fh rfl <| zw 0 rfl rfl rfl ?_
  refine zN <| Qm rfl <| Qm rfl <| Qc rfl <| Qf fh rfl <| Q0 0 rfl rfl rfl <| Qq (p_mul rfl rfl rfl) <| Qm rfl <| Qq (p_conv @Try.underlying3 @Try.underlying103 rfl rfl) <| Qq (p_add rfl rfl rfl) <| Qq (p_add rfl rfl rfl) <| Qc rfl <| Qf fh rfl <| zw 0 rfl rfl rfl ?_
  refine zJ <| Js.seq ?_
  refine zdr [] ?_
  refine jM 0 rfl rfl ?_
  refine jN 1 rfl rfl ?_
  refine jF 2 fld_105_1 rfl rfl ?_
  refine jB 3 0 ty_3 rfl rfl rfl rfl ?_
  refine jM 4 rfl rfl ?_
  refine jN 5 rfl rfl ?_
  refine jF 6 fld_105_0 rfl rfl ?_
  refine jB 7 0 ty_22 rfl rfl rfl rfl ?_
  refine JH.p 8 rfl (p_len el_22 rfl) ?_
  refine JH.p 9 rfl (p_leq rfl rfl) ?_
  refine yd ?_
  refine zi (fun h3 h3' => ?_) fun h3 h3' => ?_
  ·
   refine zS <| Qm rfl <| Qa rfl <| JL.nil ?_
   refine zrb [0] hb (Up.refl _ _) ?_
   exact ⟨(z2), ((s_at + 1)), ((IntKind.u64.wrap ((IntKind.u64.wrap ((IntKind.u64.wrap (s_seed * 6364136223846793005)) + (IntKind.u64.wrap z2))) + 1442695040888963407))), rfl, rfl, zt, zt, zt, zt⟩
  have had4 := andI_255 ((IntKind.u64.wrap ((IntKind.u64.wrap ((IntKind.u64.wrap (s_seed * 6364136223846793005)) + (IntKind.u64.wrap z2))) + 1442695040888963407)).fdiv (2 ^ (min (40 : Int).toNat IntKind.u64.bits)))
  refine Js.skip <| zS <| Qm rfl <| Qc rfl <| Qf fh rfl <| Q0 0 rfl rfl rfl <| Qq (p_shr rfl rfl (by decide)) <| Qq (p_and rfl rfl) <| Qq (p_conv @Try.underlying103 @Try.underlying2 rfl (IntWalk.i64_in _ (by omega))) <| Qa rfl <| JL.nil ?_
  refine zrb [0] hb (Up.refl _ _) ?_
  exact ⟨(andI .u64 ((IntKind.u64.wrap ((IntKind.u64.wrap ((IntKind.u64.wrap (s_seed * 6364136223846793005)) + (IntKind.u64.wrap z2))) + 1442695040888963407)).fdiv (2 ^ (min (40 : Int).toNat IntKind.u64.bits))) 255), ((s_at + 1)), ((IntKind.u64.wrap ((IntKind.u64.wrap ((IntKind.u64.wrap (s_seed * 6364136223846793005)) + (IntKind.u64.wrap z2))) + 1442695040888963407))), rfl, rfl, zt, zt, zt, zt⟩
 refine Js.skip <| zS <| Qm rfl <| Qc rfl <| Qf fh rfl <| Q0 0 rfl rfl rfl <| Qp rfl rfl <| Qc rfl <| Qf fh rfl <| zw 0 rfl rfl rfl ?_
 refine zN <| Qm rfl <| Qm rfl <| Qc rfl <| Qf fh rfl <| Q0 0 rfl rfl rfl <| Qq (p_mul rfl rfl rfl) <| Qm rfl <| Qq (p_conv @Try.underlying3 @Try.underlying103 rfl rfl) <| Qq (p_add rfl rfl rfl) <| Qq (p_add rfl rfl rfl) <| Qc rfl <| Qf fh rfl <| zw 0 rfl rfl rfl ?_
 refine zJ <| Js.seq ?_
 refine zdr [] ?_
 refine jM 0 rfl rfl ?_
 refine jN 1 rfl rfl ?_
 refine jF 2 fld_105_1 rfl rfl ?_
 refine jB 3 0 ty_3 rfl rfl rfl rfl ?_
 refine jM 4 rfl rfl ?_
 refine jN 5 rfl rfl ?_
 refine jF 6 fld_105_0 rfl rfl ?_
 refine jB 7 0 ty_22 rfl rfl rfl rfl ?_
 refine JH.p 8 rfl (p_len el_22 rfl) ?_
 refine JH.p 9 rfl (p_leq rfl rfl) ?_
 refine yd ?_
 refine zi (fun h5 h5' => ?_) fun h5 h5' => ?_
 ·
  refine zS <| Qm rfl <| Qa rfl <| JL.nil ?_
  refine zrb [0] hb (Up.refl _ _) ?_
  exact ⟨(0), ((s_at + 1)), ((IntKind.u64.wrap ((IntKind.u64.wrap ((IntKind.u64.wrap (s_seed * 6364136223846793005)) + (IntKind.u64.wrap 0))) + 1442695040888963407))), rfl, rfl, zt, zt, zt, zt⟩
 have had6 := andI_255 ((IntKind.u64.wrap ((IntKind.u64.wrap ((IntKind.u64.wrap (s_seed * 6364136223846793005)) + (IntKind.u64.wrap 0))) + 1442695040888963407)).fdiv (2 ^ (min (40 : Int).toNat IntKind.u64.bits)))
 refine Js.skip <| zS <| Qm rfl <| Qc rfl <| Qf fh rfl <| Q0 0 rfl rfl rfl <| Qq (p_shr rfl rfl (by decide)) <| Qq (p_and rfl rfl) <| Qq (p_conv @Try.underlying103 @Try.underlying2 rfl (IntWalk.i64_in _ (by omega))) <| Qa rfl <| JL.nil ?_
 refine zrb [0] hb (Up.refl _ _) ?_
 exact ⟨(andI .u64 ((IntKind.u64.wrap ((IntKind.u64.wrap ((IntKind.u64.wrap (s_seed * 6364136223846793005)) + (IntKind.u64.wrap 0))) + 1442695040888963407)).fdiv (2 ^ (min (40 : Int).toNat IntKind.u64.bits))) 255), ((s_at + 1)), ((IntKind.u64.wrap ((IntKind.u64.wrap ((IntKind.u64.wrap (s_seed * 6364136223846793005)) + (IntKind.u64.wrap 0))) + 1442695040888963407))), rfl, rfl, zt, zt, zt, zt⟩
theorem c_spec_l00Src_pick (s_code : Nat) (s_at s_seed : Int) {As_0 : Option Addr} {cs_0 : Nat} (n : Int) {bs : Nat} {w : World} (hb : Bw w [boxO bs [.slice As_0 s_code cs_0, .int .i64 s_at, .int .u64 s_seed] 105]) (hps_0 : (Ty.bytes 5 s_code).ok (offW w (([boxO bs [.slice As_0 s_code cs_0, .int .i64 s_at, .int .u64 s_seed] 105] : List Own).flatMap (·.fp))) (.slice As_0 s_code cs_0)) (r0 : 0 ≤ s_at := by exact om_) (r1 : s_at ≤ 999999998 := by exact om_) (r2 : s_code ≤ 1048576 := by exact om_) (r3 : n ≤ 1000000 := by exact om_) : RetB Try.prog 30 [.pointer (some ⟨bs, 0, none⟩), .int .i64 n] w [boxO bs [.slice As_0 s_code cs_0, .int .i64 s_at, .int .u64 s_seed] 105] (fun v bs' => ∃ (KX AT SD : Int), v = .int .i64 KX ∧ bs' = [boxO bs [.slice As_0 s_code cs_0, .int .i64 AT, .int .u64 SD] 105] ∧ (0 ≤ KX) ∧ (KX = 0 ∨ KX < n) ∧ (s_at ≤ AT) ∧ (AT ≤ s_at + 2)) := by
 refine enterB hb @Try.func30 @Try.ntmps30 rfl rfl ?_
 refine zent ?_
 refine Js.trashE ?_
 refine zn ?_
 refine zS <| Qa rfl <| zJ <| zS <| Qm rfl <| Qk rfl rfl <| JL.nil ?_
 refine zi (fun h1 h1' => ?_) fun h1 h1' => ?_
 ·
  refine zS <| Qa rfl <| JL.nil ?_
  refine zrb [0] hb (Up.refl _ _) ?_
  exact ⟨(0), (s_at), (s_seed), rfl, rfl, zt, zt, zt, zt⟩
 refine Js.skip <| zS <| Qm rfl <| zBB 1 sp_ rfl (fun w hb _ hw => c_spec_l00Src_next s_code s_at s_seed hb (ok_ hw)) ?_
 rintro _ _ G2 ⟨X2KX, X2AT, X2SD, rfl, rfl, hX2_0, hX2_1, hX2_2, hX2_3⟩
 refine znl ?_
 refine Qa rfl <| zJ <| zS <| Qm rfl <| Qg rfl rfl <| JL.nil ?_
 refine zi (fun h3 h3' => ?_) fun h3 h3' => ?_
 ·
  refine Js.region <| Qm rfl <| Qu rfl rfl <| Qm rfl <| zBB 1 sp_ rfl (fun w hb _ hw => c_spec_l00Src_next s_code X2AT X2SD hb (ok_ hw)) ?_
  rintro _ _ G4 ⟨X4KX, X4AT, X4SD, rfl, rfl, hX4_0, hX4_1, hX4_2, hX4_3⟩
  refine znl ?_
  have hrn5 := Int.emod_nonneg ((X2KX * 256) + X4KX) (b := n) (by omega)
  have hrl5 := Int.emod_lt_of_pos ((X2KX * 256) + X4KX) (show 0 < n by omega)
  refine Qp rfl rfl <| Qa rfl <| zN <| Qm rfl <| Qm rfl <| Qq (p_rem rfl rfl (by omega) (Int.tmod_eq_emod_of_nonneg (by omega))) <| Qa rfl <| JL.nil ?_
  refine zrb [0] hb (Up.refl _ _) ?_
  exact ⟨(((X2KX * 256) + X4KX) % n), (X4AT), (X4SD), rfl, rfl, zt, zt, zt, zt⟩
 have hrn6 := Int.emod_nonneg X2KX (b := n) (by omega)
 have hrl6 := Int.emod_lt_of_pos X2KX (show 0 < n by omega)
 refine Js.skip <| zS <| Qm rfl <| Qm rfl <| Qq (p_rem rfl rfl (by omega) (Int.tmod_eq_emod_of_nonneg (by omega))) <| Qa rfl <| JL.nil ?_
 refine zrb [0] hb (Up.refl _ _) ?_
 exact ⟨(X2KX % n), (X2AT), (X2SD), rfl, rfl, zt, zt, zt, zt⟩
theorem c_spec_l00Src_one (s_code : Nat) (s_at s_seed : Int) {As_0 : Option Addr} {cs_0 : Nat} (n : Int) {bs : Nat} {w : World} (hb : Bw w [boxO bs [.slice As_0 s_code cs_0, .int .i64 s_at, .int .u64 s_seed] 105]) (hps_0 : (Ty.bytes 5 s_code).ok (offW w (([boxO bs [.slice As_0 s_code cs_0, .int .i64 s_at, .int .u64 s_seed] 105] : List Own).flatMap (·.fp))) (.slice As_0 s_code cs_0)) (r0 : 0 ≤ s_at := by exact om_) (r1 : s_at ≤ 999999998 := by exact om_) (r2 : s_code ≤ 1048576 := by exact om_) (r3 : n ≤ 1000000 := by exact om_) : RetB Try.prog 32 [.pointer (some ⟨bs, 0, none⟩), .int .i64 n] w [boxO bs [.slice As_0 s_code cs_0, .int .i64 s_at, .int .u64 s_seed] 105] (fun v bs' => ∃ (BX : Bool) (AT SD : Int), v = .bool BX ∧ bs' = [boxO bs [.slice As_0 s_code cs_0, .int .i64 AT, .int .u64 SD] 105] ∧ (s_at ≤ AT) ∧ (AT ≤ s_at + 2)) := by
 refine enterB hb @Try.func32 @Try.ntmps32 rfl rfl ?_
 refine zent ?_
 refine Js.trashE ?_
 refine zn ?_
 refine zS <| Qa rfl <| zN <| Qm rfl <| Qm rfl <| zBB 1 sp_ rfl (fun w hb _ hw => c_spec_l00Src_pick s_code s_at s_seed n hb (ok_ hw)) ?_
 rintro _ _ G1 ⟨X1KX, X1AT, X1SD, rfl, rfl, hX1_0, hX1_1, hX1_2, hX1_3⟩
 refine znl ?_
 refine Qe rfl rfl <| Qa rfl <| JL.nil ?_
 refine zrb [0] hb (Up.refl _ _) ?_
 exact ⟨(decide (X1KX = 0)), (X1AT), (X1SD), rfl, rfl, zt, zt⟩
theorem c_spec_l00Src_among (s_code : Nat) (s_at s_seed : Int) {As_0 : Option Addr} {cs_0 : Nat} (list : List Int) {v_list : Value} {bs : Nat} {w : World} (hb : Bw w [boxO bs [.slice As_0 s_code cs_0, .int .i64 s_at, .int .u64 s_seed] 105]) (hps_0 : (Ty.bytes 5 s_code).ok (offW w (([boxO bs [.slice As_0 s_code cs_0, .int .i64 s_at, .int .u64 s_seed] 105] : List Own).flatMap (·.fp))) (.slice As_0 s_code cs_0)) (h_list : (Ty.ints 2 list).ok (offW w (([boxO bs [.slice As_0 s_code cs_0, .int .i64 s_at, .int .u64 s_seed] 105] : List Own).flatMap (·.fp))) v_list) (r0 : 0 ≤ s_at := by exact om_) (r1 : s_at ≤ 999999998 := by exact om_) (r2 : s_code ≤ 1048576 := by exact om_) (r3 : 1 ≤ list.length := by exact om_) (r4 : list.length ≤ 1000 := by exact om_) : RetB Try.prog 63 [.pointer (some ⟨bs, 0, none⟩), v_list] w [boxO bs [.slice As_0 s_code cs_0, .int .i64 s_at, .int .u64 s_seed] 105] (fun v bs' => ∃ (KX AT SD : Int), v = .int .i64 KX ∧ bs' = [boxO bs [.slice As_0 s_code cs_0, .int .i64 AT, .int .u64 SD] 105] ∧ (KX ∈ list) ∧ (s_at ≤ AT) ∧ (AT ≤ s_at + 2)) := by
 revert v_list; apply opn
 intro A1 c1 h1 bl1 bh1
 have h_list := h1
 refine enterB hb @Try.func63 @Try.ntmps63 rfl rfl ?_
 refine zent ?_
 refine Js.trashE ?_
 refine zn ?_
 refine zS <| Qa rfl <| zN <| Qm rfl <| Qm rfl <| Qm rfl <| Qz rfl <| zBB 1 sp_ rfl (fun w hb _ hw => c_spec_l00Src_pick s_code s_at s_seed (list.length : Int) hb (ok_ hw)) ?_
 rintro _ _ G2 ⟨X2KX, X2AT, X2SD, rfl, rfl, hX2_0, hX2_1, hX2_2, hX2_3⟩
 refine znl ?_
 obtain ⟨b3, o3, he3, hc3⟩ := ints_elem h1 (i := X2KX.toNat) (by omega)
 refine Qq (p_indexAddr el_26 rfl rfl (by omega) (by omega) he3) <| QC hc3 rfl <| Qa rfl <| JL.nil ?_
 refine zrb [0] hb (Up.refl _ _) ?_
 refine ⟨(M.nth list X2KX.toNat), (X2AT), (X2SD), rfl, ?_, by first | trivial | omega | exact M.nth_mem (by omega), by first | trivial | omega | exact M.nth_mem (by omega), by first | trivial | omega | exact M.nth_mem (by omega)⟩
 · rfl
theorem c_spec_l00Src_text (s_code : Nat) (s_at s_seed : Int) {As_0 : Option Addr} {cs_0 : Nat} (list : List (List UInt8)) {v_list : Value} {bs : Nat} {w : World} (hb : Bw w [boxO bs [.slice As_0 s_code cs_0, .int .i64 s_at, .int .u64 s_seed] 105]) (hps_0 : (Ty.bytes 5 s_code).ok (offW w (([boxO bs [.slice As_0 s_code cs_0, .int .i64 s_at, .int .u64 s_seed] 105] : List Own).flatMap (·.fp))) (.slice As_0 s_code cs_0)) (h_list : (Ty.strs 9 list).ok (offW w (([boxO bs [.slice As_0 s_code cs_0, .int .i64 s_at, .int .u64 s_seed] 105] : List Own).flatMap (·.fp))) v_list) (r0 : 0 ≤ s_at := by exact om_) (r1 : s_at ≤ 999999998 := by exact om_) (r2 : s_code ≤ 1048576 := by exact om_) (r3 : 1 ≤ list.length := by exact om_) (r4 : list.length ≤ 1000 := by exact om_) : RetB Try.prog 100 [.pointer (some ⟨bs, 0, none⟩), v_list] w [boxO bs [.slice As_0 s_code cs_0, .int .i64 s_at, .int .u64 s_seed] 105] (fun v bs' => ∃ (TX : List UInt8) (AT SD : Int), v = .string (sB TX) ∧ bs' = [boxO bs [.slice As_0 s_code cs_0, .int .i64 AT, .int .u64 SD] 105] ∧ (TX ∈ list) ∧ (s_at ≤ AT) ∧ (AT ≤ s_at + 2)) := by
 revert v_list; apply opn
 intro A1 c1 h1 bl1 bh1
 have h_list := h1
 refine enterB hb @Try.func100 @Try.ntmps100 rfl rfl ?_
 refine zent ?_
 refine Js.trashE ?_
 refine zn ?_
 refine zS <| Qa rfl <| zN <| Qm rfl <| Qm rfl <| Qm rfl <| Qz rfl <| zBB 1 sp_ rfl (fun w hb _ hw => c_spec_l00Src_pick s_code s_at s_seed (list.length : Int) hb (ok_ hw)) ?_
 rintro _ _ G2 ⟨X2KX, X2AT, X2SD, rfl, rfl, hX2_0, hX2_1, hX2_2, hX2_3⟩
 refine znl ?_
 obtain ⟨y3, hy3⟩ : ∃ x, list[X2KX.toNat]? = some x := ⟨_, List.getElem?_eq_getElem (by omega)⟩
 obtain ⟨b3, o3, he3, hc3⟩ := strs_elem h1 hy3
 refine Qq (p_indexAddr el_135 rfl rfl (by omega) (by omega) he3) <| QC hc3 rfl <| Qa rfl <| JL.nil ?_
 refine zrb [0] hb (Up.refl _ _) ?_
 refine ⟨(y3), (X2AT), (X2SD), rfl, ?_, by first | trivial | omega | exact List.mem_of_getElem? (by assumption), by first | trivial | omega | exact List.mem_of_getElem? (by assumption), by first | trivial | omega | exact List.mem_of_getElem? (by assumption)⟩
 · rfl
theorem c_spec_StandardNames  {w : World}  : Ret Try.prog 101 [] w (Ty.strs 9 M.stdNames) := by
 refine enter @Try.func101 @Try.ntmps101 rfl rfl ?_
 refine zent ?_
 refine zS <| Qa rfl <| zN <| zbs fun b1 => ?_
 refine Qa rfl <| JL.nil ?_
 exact zro (Up.refl _ _) (g := by exact (gv_strs po_ (by rfl) (by rfl)))
theorem c_spec_StandardRules (name : List UInt8) {w : World} (r0 : name ∈ M.stdNames := by exact om_) : Ret Try.prog 99 [.string (sB name)] w (Ty.tup [Ty.ex (fun (RX : M.Rul) => (2 ≤ RX.pits ∧ RX.pits ≤ 8)) (fun RX => Ty.agg (cRules RX)), Ty.ex (fun (CX : Int) => True) (fun CX => Ty.int CX)]) := by
 refine enter @Try.func99 @Try.ntmps99 rfl rfl ?_
 refine zent ?_
 refine zS <| za zeh fun b1 => Qa rfl <| zJ <| zS <| Qm rfl <| JL.nil <| Js.block <| zS <| Qq (p_eqlT und_9 rfl rfl) <| Qa rfl <| JL.nil ?_
 refine zi (fun h2 h2' => ?_) fun h2 h2' => ?_
 ·
  refine zS <| Qb ?_
  refine zw 0 rfl rfl rfl ?_
  refine Qa rfl <| JL.nil ?_
  exact zro (Up.refl _ _) (g := by exact (gv_tup (gvc (gv_ex (M.Rul.mk 6 4 true false false false true 2 0) (by first | trivial | omega | decide | (dsimp only; omega) | (exfalso; simp only [M.stdNames, List.mem_cons, List.not_mem_nil, or_false] at r0; rcases r0 with rfl | rfl | rfl | rfl <;> simp_all)) gv_) (gvc (gv_ex 0 (by first | trivial | omega | decide | (dsimp only; omega) | (exfalso; simp only [M.stdNames, List.mem_cons, List.not_mem_nil, or_false] at r0; rcases r0 with rfl | rfl | rfl | rfl <;> simp_all)) gv_) gvn))))
 refine zS <| Qq (p_eqlT und_9 rfl rfl) <| Qa rfl <| JL.nil ?_
 refine zi (fun h3 h3' => ?_) fun h3 h3' => ?_
 ·
  refine zS <| Qb ?_
  refine zw 0 rfl rfl rfl ?_
  refine Qa rfl <| JL.nil ?_
  exact zro (Up.refl _ _) (g := by exact (gv_tup (gvc (gv_ex (M.Rul.mk 3 2 false false false true false 1 0) (by first | trivial | omega | decide | (dsimp only; omega) | (exfalso; simp only [M.stdNames, List.mem_cons, List.not_mem_nil, or_false] at r0; rcases r0 with rfl | rfl | rfl | rfl <;> simp_all)) gv_) (gvc (gv_ex 0 (by first | trivial | omega | decide | (dsimp only; omega) | (exfalso; simp only [M.stdNames, List.mem_cons, List.not_mem_nil, or_false] at r0; rcases r0 with rfl | rfl | rfl | rfl <;> simp_all)) gv_) gvn))))
 refine zS <| Qq (p_eqlT und_9 rfl rfl) <| Qa rfl <| JL.nil ?_
 refine zi (fun h4 h4' => ?_) fun h4 h4' => ?_
 ·
  refine zS <| Qb ?_
  refine zw 0 rfl rfl rfl ?_
  refine Qa rfl <| JL.nil ?_
  exact zro (Up.refl _ _) (g := by exact (gv_tup (gvc (gv_ex (M.Rul.mk 6 4 false true false true false 1 2) (by first | trivial | omega | decide | (dsimp only; omega) | (exfalso; simp only [M.stdNames, List.mem_cons, List.not_mem_nil, or_false] at r0; rcases r0 with rfl | rfl | rfl | rfl <;> simp_all)) gv_) (gvc (gv_ex 0 (by first | trivial | omega | decide | (dsimp only; omega) | (exfalso; simp only [M.stdNames, List.mem_cons, List.not_mem_nil, or_false] at r0; rcases r0 with rfl | rfl | rfl | rfl <;> simp_all)) gv_) gvn))))
 refine zS <| Qq (p_eqlT und_9 rfl rfl) <| Qa rfl <| JL.nil ?_
 refine zi (fun h5 h5' => ?_) fun h5 h5' => ?_
 ·
  refine zS <| Qb ?_
  refine zw 0 rfl rfl rfl ?_
  refine Qa rfl <| JL.nil ?_
  exact zro (Up.refl _ _) (g := by exact (gv_tup (gvc (gv_ex (M.Rul.mk 4 2 false false true false false 2 0) (by first | trivial | omega | decide | (dsimp only; omega) | (exfalso; simp only [M.stdNames, List.mem_cons, List.not_mem_nil, or_false] at r0; rcases r0 with rfl | rfl | rfl | rfl <;> simp_all)) gv_) (gvc (gv_ex 0 (by first | trivial | omega | decide | (dsimp only; omega) | (exfalso; simp only [M.stdNames, List.mem_cons, List.not_mem_nil, or_false] at r0; rcases r0 with rfl | rfl | rfl | rfl <;> simp_all)) gv_) gvn))))
 refine Js.skip <| Js.blockEnd <| zS <| Qb ?_
 refine zw 0 rfl rfl rfl ?_
 refine Qa rfl <| JL.nil ?_
 exact zro (Up.refl _ _) (g := by exact (gv_tup (gvc (gv_ex (M.Rul.mk 0 0 false false false false false 0 0) (by first | trivial | omega | decide | (dsimp only; omega) | (exfalso; simp only [M.stdNames, List.mem_cons, List.not_mem_nil, or_false] at r0; rcases r0 with rfl | rfl | rfl | rfl <;> simp_all)) gv_) (gvc (gv_ex 3 (by first | trivial | omega | decide | (dsimp only; omega) | (exfalso; simp only [M.stdNames, List.mem_cons, List.not_mem_nil, or_false] at r0; rcases r0 with rfl | rfl | rfl | rfl <;> simp_all)) gv_) gvn))))
theorem c_spec_l02Draw (s_code : Nat) (s_at s_seed : Int) {As_0 : Option Addr} {cs_0 bs : Nat} {w : World} (hb : Bw w [boxO bs [.slice As_0 s_code cs_0, .int .i64 s_at, .int .u64 s_seed] 105]) (hps_0 : (Ty.bytes 5 s_code).ok (offW w (([boxO bs [.slice As_0 s_code cs_0, .int .i64 s_at, .int .u64 s_seed] 105] : List Own).flatMap (·.fp))) (.slice As_0 s_code cs_0)) (r0 : 0 ≤ s_at := by exact om_) (r1 : s_at ≤ 999999960 := by exact om_) (r2 : s_code ≤ 1048576 := by exact om_) : RetB Try.prog 96 [.pointer (some ⟨bs, 0, none⟩)] w [boxO bs [.slice As_0 s_code cs_0, .int .i64 s_at, .int .u64 s_seed] 105] (fun v bs' => ∃ (RX : M.Rul) (AT SD : Int), v = .agg #[.int .i64 RX.pits, .int .i64 RX.seeds, .bool RX.stores, .bool RX.skip, .bool RX.relay, .bool RX.feed, .bool RX.again, .int .i64 RX.capture, .int .i64 RX.slam] ∧ bs' = [boxO bs [.slice As_0 s_code cs_0, .int .i64 AT, .int .u64 SD] 105] ∧ (2 ≤ RX.pits ∧ RX.pits ≤ 8) ∧ (s_at ≤ AT) ∧ (AT ≤ s_at + 40)) := by
 refine enterB hb @Try.func96 @Try.ntmps96 rfl rfl ?_
 refine zent ?_
 refine Js.trashE ?_
 refine zn ?_
 refine zS <| za zeh fun b1 => zJ <| zS <| Qm rfl ?_
 refine zhl [1] ?_
 refine zBB 1 sp_ rfl (fun w hb _ hw => c_spec_l00Src_one s_code s_at s_seed 3 hb (ok_ hw)) ?_
 rintro _ _ G2 ⟨X2BX, X2AT, X2SD, rfl, rfl, hX2_0, hX2_1⟩
 refine znl ?_
 refine JL.nil ?_
 refine zf [0, 1] fun GG3 => ?_
 refine zn ?_
 refine zi (fun h4 h4' => ?_) fun h4 h4' => ?_
 ·
  refine zS <| Qm rfl <| zp rfl (fun w hw => c_spec_StandardNames) ?_
  intro u5 x5 A6 c6 h6 bl6 bh6
  refine zBB 1 sp_ rfl (fun w hb _ hw => c_spec_l00Src_text s_code X2AT X2SD M.stdNames hb (ok_ hw) (ok_ hw) (r3 := (by decide)) (r4 := (by decide))) ?_
  rintro _ _ G7 ⟨X7TX, X7AT, X7SD, rfl, rfl, hX7_0, hX7_1, hX7_2⟩
  refine znl ?_
  refine zp rfl (fun w hw => c_spec_StandardRules X7TX (r0 := (by assumption))) ?_
  intro u8 x8 X9 hX9 X10 hX10
  refine Qm rfl <| Qx rfl rfl <| Qx rfl rfl <| za zeh fun b11 => zw 0 rfl rfl rfl ?_
  refine Qa rfl <| JL.nil ?_
  refine zf [0, 0, 1] fun GG12 => ?_
  refine zn ?_
  refine zS <| Q9 0 rfl rfl ?_
  refine zw 2 rfl rfl rfl ?_
  refine JL.nil ?_
  refine zf [1, 1] fun GG13 => ?_
  refine zn ?_
  refine zrb [0] hb (x5.trans x8) ?_
  refine ⟨(X9), (X7AT), (X7SD), rfl, ?_, by first | trivial | omega | decide | (dsimp only; omega), by first | trivial | omega | decide | (dsimp only; omega), by first | trivial | omega | decide | (dsimp only; omega)⟩
  · rfl
 refine Js.skip <| zS <| Qm rfl <| zBB 1 sp_ rfl (fun w hb _ hw => c_spec_l00Src_pick s_code X2AT X2SD 4 hb (ok_ hw)) ?_
 rintro _ _ G14 ⟨X14KX, X14AT, X14SD, rfl, rfl, hX14_0, hX14_1, hX14_2, hX14_3⟩
 refine znl ?_
 refine Qp rfl rfl <| Qm rfl <| zBB 1 sp_ rfl (fun w hb _ hw => c_spec_l00Src_pick s_code X14AT X14SD 4 hb (ok_ hw)) ?_
 rintro _ _ G15 ⟨X15KX, X15AT, X15SD, rfl, rfl, hX15_0, hX15_1, hX15_2, hX15_3⟩
 refine znl ?_
 refine Qp rfl rfl <| Qb ?_
 refine za zeh fun b16 => zw 0 rfl rfl rfl ?_
 refine JL.nil ?_
 refine zf [0, 0, 2] fun GG17 => ?_
 refine zn ?_
 refine zS <| Qm rfl ?_
 refine zhl [1] ?_
 refine zBB 1 sp_ rfl (fun w hb _ hw => c_spec_l00Src_one s_code X15AT X15SD 2 hb (ok_ hw)) ?_
 rintro _ _ G18 ⟨X18BX, X18AT, X18SD, rfl, rfl, hX18_0, hX18_1⟩
 refine znl ?_
 refine Qf fh rfl <| zw 2 rfl rfl rfl ?_
 refine JL.nil ?_
 refine zf [0, 1, 1] fun GG19 => ?_
 refine zn ?_
 refine zS <| Qm rfl <| zBB 1 sp_ rfl (fun w hb _ hw => c_spec_l00Src_one s_code X18AT X18SD 2 hb (ok_ hw)) ?_
 rintro _ _ G20 ⟨X20BX, X20AT, X20SD, rfl, rfl, hX20_0, hX20_1⟩
 refine znl ?_
 refine Qf fh rfl <| zw 2 rfl rfl rfl ?_
 refine JL.nil ?_
 refine zf [0, 1, 1] fun GG21 => ?_
 refine zn ?_
 refine zS <| Qm rfl <| zBB 1 sp_ rfl (fun w hb _ hw => c_spec_l00Src_one s_code X20AT X20SD 4 hb (ok_ hw)) ?_
 rintro _ _ G22 ⟨X22BX, X22AT, X22SD, rfl, rfl, hX22_0, hX22_1⟩
 refine znl ?_
 refine Qf fh rfl <| zw 2 rfl rfl rfl ?_
 refine JL.nil ?_
 refine zf [0, 1, 1] fun GG23 => ?_
 refine zn ?_
 refine zS <| Qm rfl <| zBB 1 sp_ rfl (fun w hb _ hw => c_spec_l00Src_one s_code X22AT X22SD 2 hb (ok_ hw)) ?_
 rintro _ _ G24 ⟨X24BX, X24AT, X24SD, rfl, rfl, hX24_0, hX24_1⟩
 refine znl ?_
 refine Qf fh rfl <| zw 2 rfl rfl rfl ?_
 refine JL.nil ?_
 refine zf [0, 1, 1] fun GG25 => ?_
 refine zn ?_
 refine Js.seq ?_
 rcases Bool.eq_false_or_eq_true (X18BX) with h26 | h26
 ·
  refine Js.region <| Qf fh rfl <| Q0 1 rfl rfl rfl <| Qm rfl <| zT (Gd.t1 rfl rfl rfl) (show X18BX = true by first | exact h26 | (rw [h26]; rfl) | simp [h26]) <| Qm rfl <| zT (Gd.t1 rfl rfl rfl) (show X18BX = true by first | exact h26 | (rw [h26]; rfl) | simp [h26]) <| zBB 1 sp_ rfl (fun w hb _ hw => c_spec_l00Src_one s_code X24AT X24SD 2 hb (ok_ hw)) ?_
  rintro _ _ G27 ⟨X27BX, X27AT, X27SD, rfl, rfl, hX27_0, hX27_1⟩
  refine znl ?_
  refine Qq (p_pickAnd2 rfl rfl rfl) <| Qf fh rfl <| zw 2 rfl rfl rfl ?_
  refine JL.nil ?_
  refine zf [0, 1, 1] fun GG28 => ?_
  refine zn ?_
  refine zS <| Qm rfl <| zBB 1 sp_ rfl (fun w hb _ hw => c_spec_l00Src_pick s_code X27AT X27SD 4 hb (ok_ hw)) ?_
  rintro _ _ G29 ⟨X29KX, X29AT, X29SD, rfl, rfl, hX29_0, hX29_1, hX29_2, hX29_3⟩
  refine znl ?_
  refine Qf fh rfl <| zw 2 rfl rfl rfl ?_
  refine JL.nil ?_
  refine zf [0, 1, 1] fun GG30 => ?_
  refine zn ?_
  refine zS <| Qm rfl <| zBB 1 sp_ rfl (fun w hb _ hw => c_spec_l00Src_pick s_code X29AT X29SD 3 hb (ok_ hw)) ?_
  rintro _ _ G31 ⟨X31KX, X31AT, X31SD, rfl, rfl, hX31_0, hX31_1, hX31_2, hX31_3⟩
  refine znl ?_
  refine Qf fh rfl <| zw 2 rfl rfl rfl ?_
  refine JL.nil ?_
  refine zf [0, 1, 1] fun GG32 => ?_
  refine zn ?_
  refine zS <| Q9 1 rfl rfl ?_
  refine zw 2 rfl rfl rfl ?_
  refine JL.nil ?_
  refine zf [0, 1] fun GG33 => ?_
  refine zn ?_
  refine zrb [0] hb (Up.refl _ _) ?_
  refine ⟨((M.Rul.mk (2 + X14KX) (1 + X15KX) X18BX X20BX X22BX X24BX (X18BX && X27BX) X29KX X31KX)), (X31AT), (X31SD), rfl, ?_, by first | trivial | omega | decide | (dsimp only; omega), by first | trivial | omega | decide | (dsimp only; omega), by first | trivial | omega | decide | (dsimp only; omega)⟩
  · rfl
 refine Js.region <| Qf fh rfl <| Q0 1 rfl rfl rfl <| Qm rfl ?_
 refine JL.g (v := undef) (Gd.t1 rfl rfl rfl) (fun hc => absurd hc (by first | (rw [h26]; simp; done) | simp [h26])) ?_
 refine JL.g (v := .bool false) (Gd.t1 rfl rfl rfl) (fun hc => absurd hc (by first | (rw [h26]; simp; done) | simp [h26])) ?_
 refine Qq (p_pickAnd rfl rfl rfl) <| Qf fh rfl <| zw 1 rfl rfl rfl ?_
 refine zN <| Qm rfl <| zBB 1 sp_ rfl (fun w hb _ hw => c_spec_l00Src_pick s_code X24AT X24SD 4 hb (ok_ hw)) ?_
 rintro _ _ G34 ⟨X34KX, X34AT, X34SD, rfl, rfl, hX34_0, hX34_1, hX34_2, hX34_3⟩
 refine znl ?_
 refine Qf fh rfl <| zw 2 rfl rfl rfl ?_
 refine JL.nil ?_
 refine zf [0, 1, 1] fun GG35 => ?_
 refine zn ?_
 refine zS <| Qm rfl <| zBB 1 sp_ rfl (fun w hb _ hw => c_spec_l00Src_pick s_code X34AT X34SD 3 hb (ok_ hw)) ?_
 rintro _ _ G36 ⟨X36KX, X36AT, X36SD, rfl, rfl, hX36_0, hX36_1, hX36_2, hX36_3⟩
 refine znl ?_
 refine Qf fh rfl <| zw 2 rfl rfl rfl ?_
 refine JL.nil ?_
 refine zf [0, 1, 1] fun GG37 => ?_
 refine zn ?_
 refine zS <| Q9 1 rfl rfl ?_
 refine zw 2 rfl rfl rfl ?_
 refine JL.nil ?_
 refine zf [0, 1] fun GG38 => ?_
 refine zn ?_
 refine zrb [0] hb (Up.refl _ _) ?_
 refine ⟨((M.Rul.mk (2 + X14KX) (1 + X15KX) X18BX X20BX X22BX X24BX (X18BX && false) X34KX X36KX)), (X36AT), (X36SD), rfl, ?_, by first | trivial | omega | decide | (dsimp only; omega), by first | trivial | omega | decide | (dsimp only; omega), by first | trivial | omega | decide | (dsimp only; omega)⟩
 · rfl
theorem c_spec_l04Start (r : M.Rul) {v_r : Value} {w : World} (h_r : (Ty.ref (cRules r)).ok w v_r) (r0 : 0 ≤ r.pits := by exact om_) (r1 : r.pits ≤ 8 := by exact om_) : Ret Try.prog 77 [v_r] w (Ty.agg (cPosition (M.startP r))) := by
 revert v_r; apply opn
 intro b1 o1 hr1
 refine enter @Try.func77 @Try.ntmps77 rfl rfl ?_
 refine zent ?_
 refine zS <| za zeh fun b2 => zN <| zbs fun b3 => ?_
 refine Qb ?_
 refine za zeh fun b5 => zw 0 rfl rfl rfl ?_
 refine zJ <| zS <| Qa rfl <| JL.nil <| Js.block ?_
 refine Js.conv (fun w hw => St.nilRow 2 hw) ?_
 refine zl [0, 2, 3] (fun F U l os u m => ∃ (k : Nat) (xs : List Int) (A6_3_0 : Option Addr) (c6_3_0 : Nat) (g6_3_0 : List Nat), l = F [(4, .int .i64 (k : Int))] ∧ os = U [some (rowO 2 1 (.slice A6_3_0 xs.length c6_3_0) xs.length (ints_ xs) g6_3_0), some (boxO b5 [.slice A6_3_0 xs.length c6_3_0, .slice (some ⟨b3, 0, none⟩) 2 2, .int .i64 0] 28)] ∧ (xs = List.replicate k r.seeds) ∧ ((k : Int) ≤ 2 * r.pits) ∧ (xs.length = k) ∧ (xs.length ≤ c6_3_0) ∧ (c6_3_0 ≤ 9223372036854775807) ∧ m = (2 * r.pits - k).toNat) ⟨0, [], _, _, _, rfl, rfl, by rfl, zt, by rfl, zu, zu, rfl⟩ ?_
 rintro _ _ u6 _ ⟨k, xs, A6_3_0, c6_3_0, g6_3_0, rfl, rfl, hX, hk, hl, f6_3, f6_4, rfl⟩ x6
 refine zn ?_
 refine Js.seq <| zS <| Qm rfl <| Qm rfl <| Qc rfl <| Qf fh rfl <| QC ((hr1.vis x6.vis) 0 _ rfl) rfl <| Qu rfl rfl <| Ql rfl rfl <| JL.nil ?_
 refine zi (fun h7 h7' => ?_) fun h7 h7' => ?_
 ·
  refine Js.skip <| Js.seq <| Js.block ?_
  refine zdr [7, 9] ?_
  refine jF 0 fld_28_0 rfl rfl ?_
  refine jB 1 1 ty_26 rfl rfl rfl rfl ?_
  refine jM 2 rfl rfl ?_
  refine jN 3 rfl rfl ?_
  refine jF 4 fld_25_1 rfl rfl ?_
  refine jW 5 ty_2 rfl rfl (fun hv => (hr1.vis (x6.vis.trans hv)) 1 _ rfl) ?_
  refine y1 6 ?_
  refine ybs rfl fun b8 => ?_
  refine y1 7 ?_
  refine JHo.e rfl (e_append (i := 1) (n' := (xs ++ [r.seeds]).length) (vs' := ints_ (xs ++ [r.seeds])) el_26 rfl rfl rfl rfl (src_row (i := 0) und_26 rfl rfl) (by omega) (by omega) ln2_ (by simp [ints_])) (.inr rfl) ?_
  rintro v10 _ _ ⟨⟨g11, rfl⟩, rfl⟩ _
  refine JH.fact (row_form' (i := 1) rfl) (fun hf12 => ?_)
  obtain ⟨A12, c12, rfl, bl12, bh12⟩ := hf12
  refine znh ?_
  refine jF 8 fld_28_0 rfl rfl ?_
  refine y1 9 ?_
  refine yst rfl rfl rfl ?_
  refine yd ?_
  refine Js.blockEnd <| Js.region <| Qm rfl <| Qp rfl rfl <| Qa rfl <| JL.nil ?_
  refine zd [1, 1, 1, 1] rfl fun u13 x13 => ?_
  exact zag ⟨k + 1, xs ++ [r.seeds], _, _, _, rfl, rfl, by rw [hX]; exact List.replicate_succ'.symm, zt, by simp [hl], zu, zu, rfl⟩ (x6.trans x13)
 have hE : xs = List.replicate (2 * r.pits).toNat r.seeds := by rw [hX]; congr 1; have := h7'; omega
 refine zx ?_
 have hq0 : xs = (M.startP r).pits := by first | rfl | exact hE
 have hq1 : [0, 0] = (M.startP r).stores := by first | rfl | exact hE
 have hq2 : 0 = (M.startP r).player := by first | rfl | exact hE
 refine zS <| Q9 1 rfl rfl ?_
 refine zw 3 rfl rfl rfl ?_
 refine JL.nil ?_
 exact zro x6
theorem c_spec_l04Draw (s_code : Nat) (s_at s_seed : Int) {As_0 : Option Addr} {cs_0 : Nat} (r : M.Rul) {v_r : Value} {bs : Nat} {w : World} (hb : Bw w [boxO bs [.slice As_0 s_code cs_0, .int .i64 s_at, .int .u64 s_seed] 105]) (hps_0 : (Ty.bytes 5 s_code).ok (offW w (([boxO bs [.slice As_0 s_code cs_0, .int .i64 s_at, .int .u64 s_seed] 105] : List Own).flatMap (·.fp))) (.slice As_0 s_code cs_0)) (h_r : (Ty.ref (cRules r)).ok (offW w (([boxO bs [.slice As_0 s_code cs_0, .int .i64 s_at, .int .u64 s_seed] 105] : List Own).flatMap (·.fp))) v_r) (r0 : 0 ≤ s_at := by exact om_) (r1 : s_at ≤ 999999800 := by exact om_) (r2 : s_code ≤ 1048576 := by exact om_) (r3 : 0 ≤ r.pits := by exact om_) (r4 : r.pits ≤ 8 := by exact om_) : RetB Try.prog 76 [.pointer (some ⟨bs, 0, none⟩), v_r] w [boxO bs [.slice As_0 s_code cs_0, .int .i64 s_at, .int .u64 s_seed] 105] (fun v bs' => ∃ (PX : M.Pos) (AT SD : Int) (Axr_0 : Option Addr) (cxr_0 : Nat) (gxr_0 : List Nat) (Axr_1 : Option Addr) (cxr_1 : Nat) (gxr_1 : List Nat), v = .agg #[.slice Axr_0 PX.pits.length cxr_0, .slice Axr_1 PX.stores.length cxr_1, .int .i64 PX.player] ∧ bs' = [boxO bs [.slice As_0 s_code cs_0, .int .i64 AT, .int .u64 SD] 105, rowO 2 1 (.slice Axr_0 PX.pits.length cxr_0) PX.pits.length (ints_ PX.pits) gxr_0, rowO 2 1 (.slice Axr_1 PX.stores.length cxr_1) PX.stores.length (ints_ PX.stores) gxr_1] ∧ PX.pits.length ≤ cxr_0 ∧ cxr_0 ≤ 9223372036854775807 ∧ PX.stores.length ≤ cxr_1 ∧ cxr_1 ≤ 9223372036854775807 ∧ (PX.pits.length = (2 * r.pits).toNat ∧ PX.stores.length = 2) ∧ (s_at ≤ AT) ∧ (AT ≤ s_at + 200)) := by
 have hl0 : (M.startP r).pits.length = (2 * r.pits).toNat := by simp [M.startP]
 have hl1 : (M.startP r).stores.length = 2 := rfl
 revert v_r; apply opn
 intro b1 o1 hr1
 refine enterB hb @Try.func76 @Try.ntmps76 rfl rfl ?_
 refine zent ?_
 refine Js.trashE ?_
 refine zn ?_
 refine zS <| za zeh fun b2 => zN <| Qm rfl <| zc rfl (fun w hw => c_spec_l04Start r (ok_ hw)) ?_
 intro A4 c4 bl4 bh4 A5 c5 bl5 bh5
 refine za zeh fun b6 => zw 0 rfl rfl rfl ?_
 refine zN <| Qm rfl ?_
 refine zhl [4] ?_
 refine zBB 1 sp_ rfl (fun w hb _ hw => c_spec_l00Src_one s_code s_at s_seed 2 hb (ok_ hw)) ?_
 rintro _ _ G7 ⟨X7BX, X7AT, X7SD, rfl, rfl, hX7_0, hX7_1⟩
 refine znl ?_
 refine Qa rfl <| JL.nil ?_
 refine zf [0, 1, 1, 1, 1] fun GG8 => ?_
 refine zn ?_
 refine Js.seq <| zS <| Qa rfl <| JL.nil <| Js.block ?_
 refine zl [0, 1, 4, 5, 6] (fun F U l os u m => ∃ (k : Nat) (at1 sd1 : Int) (xs : List Int) (G9_5 : List Nat), l = F [(7, .int .i64 (k : Int))] ∧ os = U [some (boxO bs [.slice As_0 s_code cs_0, .int .i64 at1, .int .u64 sd1] 105), nO, nO, some (rowO 2 1 (.slice A4 (((M.startP r).pits).length) c4) (((M.startP r).pits).length) (ints_ xs) []), nO, some (anyO G9_5)] ∧ (xs.length = (M.startP r).pits.length) ∧ (k ≤ xs.length) ∧ (s_at ≤ at1) ∧ (at1 ≤ s_at + 4 + 4 * k) ∧ m = xs.length - k) ⟨0, X7AT, X7SD, (M.startP r).pits, _, rfl, rfl, by rfl, zt, zt, zt, rfl⟩ ?_
 rintro _ _ u9 _ ⟨k, at1, sd1, xs, G9_5, rfl, rfl, hX, hk, ha0, ha1, rfl⟩ x9
 refine zn ?_
 refine Js.seq <| zS <| Qm rfl <| Qf fh rfl <| Q0 1 rfl rfl rfl <| Qz rfl <| Ql rfl rfl <| JL.nil ?_
 refine zi (fun h10 h10' => ?_) fun h10 h10' => ?_
 ·
  refine Js.skip <| Js.seq <| Js.block <| Js.seq ?_
  refine Js.fact (row_some (i := 3) rfl (by omega)) (fun hf11 => ?_)
  obtain ⟨b11, rfl⟩ := hf11
  refine zk [0, 1, 4, 5, 6, 7] (fun F U l os u => ∃ (G12 : List Nat) (X12AT X12SD X12KX : Int), l = F [] ∧ os = [anyO G12] ++ U [some (boxO bs [.slice As_0 s_code cs_0, .int .i64 X12AT, .int .u64 X12SD] 105), nO, nO, some (rowO 2 1 (.slice (some ⟨b11, 0, none⟩) (((M.startP r).pits).length) c4) (((M.startP r).pits).length) (ints_ (xs.set k X12KX)) [])] ∧ (at1 ≤ X12AT) ∧ (X12AT ≤ at1 + 2) ∧ (0 ≤ X12KX) ∧ (X12KX = 0 ∨ X12KX < 6)) ?_ ?_
  ·
   refine zdr [4, 6] ?_
   refine jF 0 fld_28_0 rfl rfl ?_
   refine jM 2 rfl rfl ?_
   refine jM 3 rfl rfl ?_
   refine y2 1 4 ?_ ?_
   ·
    refine JHo.q rfl (q_load1 ty_26.h rfl (Mem.box (i := 1) rfl rfl)) ?_
    refine y1 4 ?_
    refine yBB 1 sp_ rfl rfl (fun w hb _ hw => c_spec_l00Src_pick s_code at1 sd1 6 hb (ok_ hw)) ?_
    rintro _ _ G17 ⟨X17KX, X17AT, X17SD, rfl, rfl, hX17_0, hX17_1, hX17_2, hX17_3⟩
    refine znh ?_
    refine jI 5 el_26 rfl rfl rfl rfl ?_
    refine y1 6 ?_
    refine JHo.s rfl (e_storeRow (i := 4) (xs' := ints_ (xs.set k X17KX)) ty_2.h rfl rfl rfl rfl rfl rfl (ints_lt (i := k) (by omega)) (ints_setL (i := k) (by omega))) (.inr rfl) ?_
    rintro _ _ _ ⟨rfl, rfl⟩ _
    refine znh ?_
    refine yd ?_
    refine zh [1, 0, 0, 0, 0, 0, 0] ?_
    exact zm ⟨_, _, _, _, rfl, rfl, zt, zt, zt, zt⟩ (Up.refl _ _) ⟨rfl, rfl, rfl, rfl, rfl, rfl, trivial⟩
   refine yBB 1 sp_ rfl rfl (fun w hb _ hw => c_spec_l00Src_pick s_code at1 sd1 6 hb (ok_ hw)) ?_
   rintro _ _ G19 ⟨X19KX, X19AT, X19SD, rfl, rfl, hX19_0, hX19_1, hX19_2, hX19_3⟩
   refine znh ?_
   refine y1 1 ?_
   refine JHo.q rfl (q_load1 ty_26.h rfl (Mem.box (i := 2) rfl rfl)) ?_
   refine jI 5 el_26 rfl rfl rfl rfl ?_
   refine y1 6 ?_
   refine JHo.s rfl (e_storeRow (i := 4) (xs' := ints_ (xs.set k X19KX)) ty_2.h rfl rfl rfl rfl rfl rfl (ints_lt (i := k) (by omega)) (ints_setL (i := k) (by omega))) (.inr rfl) ?_
   rintro _ _ _ ⟨rfl, rfl⟩ _
   refine znh ?_
   refine yd ?_
   refine zh [1, 0, 0, 0, 0, 0, 0] ?_
   exact zm ⟨_, _, _, _, rfl, rfl, zt, zt, zt, zt⟩ (Up.refl _ _) ⟨rfl, rfl, rfl, rfl, rfl, rfl, trivial⟩
  rintro _ _ u16 ⟨G12, X12AT, X12SD, X12KX, rfl, rfl, f16_0, f16_1, f16_2, f16_3⟩ x16
  refine zn ?_
  refine zf [1, 1, 1, 1, 1] fun GG21 => ?_
  refine zn ?_
  refine Js.seq ?_
  rcases Bool.eq_false_or_eq_true (X7BX) with h22 | h22
  ·
   refine Js.region <| Qm rfl <| Qm rfl <| zT (Gd.t1 rfl rfl rfl) (show X7BX = true by first | exact h22 | (rw [h22]; rfl) | simp [h22]) <| Qm rfl <| zT (Gd.t1 rfl rfl rfl) (show X7BX = true by first | exact h22 | (rw [h22]; rfl) | simp [h22]) <| zBB 1 sp_ rfl (fun w hb _ hw => c_spec_l00Src_one s_code X12AT X12SD 3 hb (ok_ hw)) ?_
   rintro _ _ G23 ⟨X23BX, X23AT, X23SD, rfl, rfl, hX23_0, hX23_1⟩
   refine znl ?_
   refine zT (Gd.t1 rfl rfl rfl) (show X7BX = true by first | exact h22 | (rw [h22]; rfl) | simp [h22]) <| Qt rfl <| Qq (p_pickAnd2 rfl rfl rfl) <| JL.nil ?_
   refine zf [0, 1, 1, 1, 1] fun GG24 => ?_
   refine zn ?_
   refine zi (fun h25 h25' => ?_) fun h25 h25' => ?_
   ·
    refine Js.region <| Qf fh rfl <| Q0 1 rfl rfl rfl <| Qm rfl <| Qq (p_indexAddr el_26 rfl rfl (by omega) (by omega) rfl) ?_
    refine JL.s (e_storeRow (i := 3) (xs' := ints_ ((xs.set k X12KX).set k 0)) ty_2.h rfl rfl rfl rfl rfl rfl (ints_lt (i := k) (by simp only [List.length_set]; omega)) (ints_setL (i := k) (by simp only [List.length_set]; omega))) ?_
    rintro _ _ _ ⟨rfl, rfl⟩ _
    refine znl ?_
    refine JL.nil <| Js.blockEnd <| Js.region <| Qm rfl <| Qp rfl rfl <| Qa rfl <| JL.nil ?_
    exact zag ⟨k + 1, X23AT, X23SD, (xs.set k X12KX).set k 0, _, rfl, rfl, by simp only [List.length_set]; exact hX, by simp only [List.length_set]; omega, zt, zt, rfl⟩ (x9.trans x16) (by simp only [List.length_set]; omega)
   refine Js.skip <| Js.blockEnd <| Js.region <| Qm rfl <| Qp rfl rfl <| Qa rfl <| JL.nil ?_
   exact zag ⟨k + 1, X23AT, X23SD, xs.set k X12KX, _, rfl, rfl, by simp only [List.length_set]; exact hX, by simp only [List.length_set]; omega, zt, zt, rfl⟩ (x9.trans x16) (by simp only [List.length_set]; omega)
  refine Js.region <| Qm rfl <| Qm rfl ?_
  refine JL.g (v := undef) (Gd.t1 rfl rfl rfl) (fun hc => absurd hc (by first | (rw [h22]; simp; done) | simp [h22])) ?_
  refine JL.g (v := .bool false) (Gd.t1 rfl rfl rfl) (fun hc => absurd hc (by first | (rw [h22]; simp; done) | simp [h22])) ?_
  refine JL.g (v := .bool false) (Gd.t1 rfl rfl rfl) (fun hc => absurd hc (by first | (rw [h22]; simp; done) | simp [h22])) ?_
  refine Qq (p_pickAnd rfl rfl rfl) <| JL.nil ?_
  refine zi (fun h27 h27' => ?_) fun h27 h27' => ?_
  ·
   refine Js.region <| Qf fh rfl <| Q0 1 rfl rfl rfl <| Qm rfl <| Qq (p_indexAddr el_26 rfl rfl (by omega) (by omega) rfl) ?_
   refine JL.s (e_storeRow (i := 3) (xs' := ints_ ((xs.set k X12KX).set k 0)) ty_2.h rfl rfl rfl rfl rfl rfl (ints_lt (i := k) (by simp only [List.length_set]; omega)) (ints_setL (i := k) (by simp only [List.length_set]; omega))) ?_
   rintro _ _ _ ⟨rfl, rfl⟩ _
   refine znl ?_
   refine JL.nil <| Js.blockEnd <| Js.region <| Qm rfl <| Qp rfl rfl <| Qa rfl <| JL.nil ?_
   exact zag ⟨k + 1, X12AT, X12SD, (xs.set k X12KX).set k 0, _, rfl, rfl, by simp only [List.length_set]; exact hX, by simp only [List.length_set]; omega, zt, zt, rfl⟩ (x9.trans x16) (by simp only [List.length_set]; omega)
  refine Js.skip <| Js.blockEnd <| Js.region <| Qm rfl <| Qp rfl rfl <| Qa rfl <| JL.nil ?_
  exact zag ⟨k + 1, X12AT, X12SD, xs.set k X12KX, _, rfl, rfl, by simp only [List.length_set]; exact hX, by simp only [List.length_set]; omega, zt, zt, rfl⟩ (x9.trans x16) (by simp only [List.length_set]; omega)
 refine zx ?_
 refine Js.seq <| zS <| Qm rfl <| zBB 1 sp_ rfl (fun w hb _ hw => c_spec_l00Src_one s_code at1 sd1 8 hb (ok_ hw)) ?_
 rintro _ _ G29 ⟨X29BX, X29AT, X29SD, rfl, rfl, hX29_0, hX29_1⟩
 refine znl ?_
 refine JL.nil ?_
 refine zf [0, 1, 1, 1, 1] fun GG30 => ?_
 refine zn ?_
 refine zi (fun h31 h31' => ?_) fun h31 h31' => ?_
 ·
  refine zS <| Qm rfl <| zBB 1 sp_ rfl (fun w hb _ hw => c_spec_l00Src_pick s_code X29AT X29SD 2 hb (ok_ hw)) ?_
  rintro _ _ G32 ⟨X32KX, X32AT, X32SD, rfl, rfl, hX32_0, hX32_1, hX32_2, hX32_3⟩
  refine znl ?_
  refine Qa rfl <| JL.nil ?_
  refine zf [0, 1, 1, 1, 1] fun GG33 => ?_
  refine zn ?_
  have hm9 := M.mul01 (a := X32KX) (n := r.pits) (by omega) (by omega) r3 r4
  obtain ⟨sd9, hsd9⟩ : ∃ x : Int, x = X32KX * r.pits := ⟨_, rfl⟩
  refine zS <| Qm rfl <| Qm rfl <| Qc rfl <| Qf fh rfl <| QC ((hr1.vis x9.vis) 0 _ rfl) rfl <| Qu rfl rfl <| Qa rfl <| JL.nil <| Js.block ?_
  refine zl [0, 1, 4, 5, 8] (fun F U l os u m => ∃ (j : Int) (ys : List Int) (G34_5 : List Nat), l = F [(9, .int .i64 j)] ∧ os = U [nO, nO, nO, some (rowO 2 1 (.slice A4 (((M.startP r).pits).length) c4) (((M.startP r).pits).length) (ints_ ys) []), nO, some (anyO G34_5)] ∧ (ys.length = (M.startP r).pits.length) ∧ (sd9 ≤ j) ∧ (j ≤ sd9 + r.pits) ∧ m = (sd9 + r.pits - j).toNat) ⟨X32KX * r.pits, xs, _, rfl, rfl, zt, zt, zt, rfl⟩ ?_
  rintro _ _ u34 _ ⟨j, ys, G34_5, rfl, rfl, hY, hj0, hj1, rfl⟩ x34
  refine zn ?_
  refine Js.seq <| zS <| Qm rfl <| Qm rfl <| Qp rfl rfl <| Qm rfl <| Qc rfl <| Qf fh rfl <| QC ((hr1.vis (x9.vis.trans x34.vis)) 0 _ rfl) rfl <| Qu rfl rfl <| Ql rfl rfl <| JL.nil ?_
  refine zi (fun h35 h35' => ?_) fun h35 h35' => ?_
  ·
   refine Js.skip <| Js.seq <| Js.block ?_
   refine Js.fact (row_some (i := 3) rfl (by omega)) (fun hf36 => ?_)
   obtain ⟨b36, rfl⟩ := hf36
   refine Js.region <| Qf fh rfl <| Q0 1 rfl rfl rfl <| Qm rfl <| Qq (p_indexAddr el_26 rfl rfl (by omega) (by omega) rfl) ?_
   refine JL.s (e_storeRow (i := 3) (xs' := ints_ (M.setI ys j 0)) ty_2.h rfl rfl rfl rfl rfl rfl (ints_lt (i := j.toNat) (by omega)) (ints_setL (i := j.toNat) (by omega))) ?_
   rintro _ _ _ ⟨rfl, rfl⟩ _
   refine znl ?_
   refine JL.nil <| Js.blockEnd <| Js.region <| Qm rfl <| Qp rfl rfl <| Qa rfl <| JL.nil ?_
   exact zag ⟨j + 1, M.setI ys j 0, _, rfl, rfl, by simp only [M.setI_length, List.length_set]; exact hY, zt, zt, rfl⟩ x34
  refine zx ?_
  refine Js.seq ?_
  refine zk [0, 4, 5] (fun F U l os u => ∃ (G38 : List Nat) (X38AT X38SD : Int) (b40 : Nat) (X38KX : Int), l = F [] ∧ os = [anyO G38] ++ U [some (boxO bs [.slice As_0 s_code cs_0, .int .i64 X38AT, .int .u64 X38SD] 105), some (boxO b6 [.slice A4 (((M.startP r).pits).length) c4, .slice (some ⟨b40, 0, none⟩) (((M.startP r).stores).length) c5, .int .i64 ((M.startP r).player)] 28), some (rowO 2 1 (.slice (some ⟨b40, 0, none⟩) (((M.startP r).stores).length) c5) (((M.startP r).stores).length) (ints_ (((M.startP r).stores).set 0 X38KX)) [])] ∧ (X32AT ≤ X38AT) ∧ (X38AT ≤ X32AT + 2) ∧ (0 ≤ X38KX) ∧ (X38KX = 0 ∨ X38KX < 8)) ?_ ?_
  ·
   refine zdr [3, 5] ?_
   refine jF 0 fld_28_1 rfl rfl ?_
   refine jM 2 rfl rfl ?_
   refine y2 1 3 ?_ ?_
   ·
    refine JHo.q rfl (q_load1 ty_26.h rfl (Mem.box (i := 1) rfl rfl)) ?_
    refine y1 3 ?_
    refine yBB 1 sp_ rfl rfl (fun w hb _ hw => c_spec_l00Src_pick s_code X32AT X32SD 8 hb (ok_ hw)) ?_
    rintro _ _ G45 ⟨X45KX, X45AT, X45SD, rfl, rfl, hX45_0, hX45_1, hX45_2, hX45_3⟩
    refine znh ?_
    refine JH.fact (row_some (i := 3) rfl (by omega)) (fun hf47 => ?_)
    obtain ⟨b47, rfl⟩ := hf47
    refine jI 4 el_26 rfl rfl rfl rfl ?_
    refine y1 5 ?_
    refine JHo.s rfl (e_storeRow (i := 3) (xs' := ints_ (((M.startP r).stores).set 0 X45KX)) ty_2.h rfl rfl rfl rfl rfl rfl (ints_lt (i := 0) (by omega)) (ints_setL (i := 0) (by omega))) (.inr rfl) ?_
    rintro _ _ _ ⟨rfl, rfl⟩ _
    refine znh ?_
    refine yd ?_
    refine zh [1, 0, 0, 0, 0, 0, 0] ?_
    exact zm ⟨_, _, _, _, _, rfl, rfl, zt, zt, zt, zt⟩ (Up.refl _ _) ⟨rfl, rfl, rfl, trivial⟩
   refine yBB 1 sp_ rfl rfl (fun w hb _ hw => c_spec_l00Src_pick s_code X32AT X32SD 8 hb (ok_ hw)) ?_
   rintro _ _ G48 ⟨X48KX, X48AT, X48SD, rfl, rfl, hX48_0, hX48_1, hX48_2, hX48_3⟩
   refine znh ?_
   refine y1 1 ?_
   refine JHo.q rfl (q_load1 ty_26.h rfl (Mem.box (i := 2) rfl rfl)) ?_
   refine JH.fact (row_some (i := 3) rfl (by omega)) (fun hf50 => ?_)
   obtain ⟨b50, rfl⟩ := hf50
   refine jI 4 el_26 rfl rfl rfl rfl ?_
   refine y1 5 ?_
   refine JHo.s rfl (e_storeRow (i := 3) (xs' := ints_ (((M.startP r).stores).set 0 X48KX)) ty_2.h rfl rfl rfl rfl rfl rfl (ints_lt (i := 0) (by omega)) (ints_setL (i := 0) (by omega))) (.inr rfl) ?_
   rintro _ _ _ ⟨rfl, rfl⟩ _
   refine znh ?_
   refine yd ?_
   refine zh [1, 0, 0, 0, 0, 0, 0] ?_
   exact zm ⟨_, _, _, _, _, rfl, rfl, zt, zt, zt, zt⟩ (Up.refl _ _) ⟨rfl, rfl, rfl, trivial⟩
  rintro _ _ u44 ⟨G38, X38AT, X38SD, b40, X38KX, rfl, rfl, f44_0, f44_1, f44_2, f44_3⟩ x44
  refine zn ?_
  refine zf [1, 1, 1, 1, 1] fun GG51 => ?_
  refine zn ?_
  refine Js.seq ?_
  refine zk [0, 4, 5] (fun F U l os u => ∃ (G52 : List Nat) (X52AT X52SD X52KX : Int), l = F [] ∧ os = [anyO G52] ++ U [some (boxO bs [.slice As_0 s_code cs_0, .int .i64 X52AT, .int .u64 X52SD] 105), nO, some (rowO 2 1 (.slice (some ⟨b40, 0, none⟩) (((M.startP r).stores).length) c5) (((M.startP r).stores).length) (ints_ ((((M.startP r).stores).set 0 X38KX).set 1 X52KX)) [])] ∧ (X38AT ≤ X52AT) ∧ (X52AT ≤ X38AT + 2) ∧ (0 ≤ X52KX) ∧ (X52KX = 0 ∨ X52KX < 8)) ?_ ?_
  ·
   refine zdr [3, 5] ?_
   refine jF 0 fld_28_1 rfl rfl ?_
   refine jM 2 rfl rfl ?_
   refine y2 1 3 ?_ ?_
   ·
    refine JHo.q rfl (q_load1 ty_26.h rfl (Mem.box (i := 1) rfl rfl)) ?_
    refine y1 3 ?_
    refine yBB 1 sp_ rfl rfl (fun w hb _ hw => c_spec_l00Src_pick s_code X38AT X38SD 8 hb (ok_ hw)) ?_
    rintro _ _ G57 ⟨X57KX, X57AT, X57SD, rfl, rfl, hX57_0, hX57_1, hX57_2, hX57_3⟩
    refine znh ?_
    refine jI 4 el_26 rfl rfl rfl rfl ?_
    refine y1 5 ?_
    refine JHo.s rfl (e_storeRow (i := 3) (xs' := ints_ ((((M.startP r).stores).set 0 X38KX).set 1 X57KX)) ty_2.h rfl rfl rfl rfl rfl rfl (ints_lt (i := 1) (by first | omega | (simp only [List.length_set, M.setI_length]; omega))) (ints_setL (i := 1) (by first | omega | (simp only [List.length_set, M.setI_length]; omega)))) (.inr rfl) ?_
    rintro _ _ _ ⟨rfl, rfl⟩ _
    refine znh ?_
    refine yd ?_
    refine zh [1, 0, 0, 0, 0, 0, 0] ?_
    exact zm ⟨_, _, _, _, rfl, rfl, zt, zt, zt, zt⟩ (Up.refl _ _) ⟨rfl, rfl, rfl, trivial⟩
   refine yBB 1 sp_ rfl rfl (fun w hb _ hw => c_spec_l00Src_pick s_code X38AT X38SD 8 hb (ok_ hw)) ?_
   rintro _ _ G59 ⟨X59KX, X59AT, X59SD, rfl, rfl, hX59_0, hX59_1, hX59_2, hX59_3⟩
   refine znh ?_
   refine y1 1 ?_
   refine JHo.q rfl (q_load1 ty_26.h rfl (Mem.box (i := 2) rfl rfl)) ?_
   refine jI 4 el_26 rfl rfl rfl rfl ?_
   refine y1 5 ?_
   refine JHo.s rfl (e_storeRow (i := 3) (xs' := ints_ ((((M.startP r).stores).set 0 X38KX).set 1 X59KX)) ty_2.h rfl rfl rfl rfl rfl rfl (ints_lt (i := 1) (by first | omega | (simp only [List.length_set, M.setI_length]; omega))) (ints_setL (i := 1) (by first | omega | (simp only [List.length_set, M.setI_length]; omega)))) (.inr rfl) ?_
   rintro _ _ _ ⟨rfl, rfl⟩ _
   refine znh ?_
   refine yd ?_
   refine zh [1, 0, 0, 0, 0, 0, 0] ?_
   exact zm ⟨_, _, _, _, rfl, rfl, zt, zt, zt, zt⟩ (Up.refl _ _) ⟨rfl, rfl, rfl, trivial⟩
  rintro _ _ u56 ⟨G52, X52AT, X52SD, X52KX, rfl, rfl, f56_0, f56_1, f56_2, f56_3⟩ x56
  refine zn ?_
  refine zf [1, 1, 1, 1, 1] fun GG61 => ?_
  refine zn ?_
  refine zS <| Qm rfl <| zBB 1 sp_ rfl (fun w hb _ hw => c_spec_l00Src_pick s_code X52AT X52SD 2 hb (ok_ hw)) ?_
  rintro _ _ G62 ⟨X62KX, X62AT, X62SD, rfl, rfl, hX62_0, hX62_1, hX62_2, hX62_3⟩
  refine znl ?_
  refine Qf fh rfl <| zw 2 rfl rfl rfl ?_
  refine JL.nil ?_
  refine zf [0, 1, 1, 1, 1] fun GG63 => ?_
  refine zn ?_
  refine zS <| Q9 1 rfl rfl ?_
  refine zw 4 rfl rfl rfl ?_
  refine JL.nil ?_
  refine zf [0, 1, 1, 1] fun GG64 => ?_
  refine zn ?_
  refine zrb [0, 1, 0] hb (((x9.trans x34).trans x44).trans x56) ?_
  have hNr0 : ys.length = ((M.startP r).pits).length := by first | rfl | assumption | omega | (simp only [List.length_set, M.setI_length]; done) | (simp only [List.length_set, M.setI_length]; first | rfl | assumption | omega)
  have hNr1 : ((((M.startP r).stores).set 0 X38KX).set 1 X52KX).length = ((M.startP r).stores).length := by first | rfl | assumption | omega | (simp only [List.length_set, M.setI_length]; done) | (simp only [List.length_set, M.setI_length]; first | rfl | assumption | omega)
  refine ⟨((M.Pos.mk ys ((((M.startP r).stores).set 0 X38KX).set 1 X52KX) X62KX)), (X62AT), (X62SD), A4, c4, [], (some ⟨b40, 0, none⟩), c5, [], (show (.agg #[.slice A4 (((M.startP r).pits).length) c4, .slice (some ⟨b40, 0, none⟩) (((M.startP r).stores).length) c5, .int .i64 X62KX] : Value) = .agg #[.slice A4 ys.length c4, .slice (some ⟨b40, 0, none⟩) ((((M.startP r).stores).set 0 X38KX).set 1 X52KX).length c5, .int .i64 X62KX] by rw [hNr0, hNr1]), ?_, ?_, ?_, ?_, ?_, by first | trivial | omega | decide | (dsimp only; omega), by first | trivial | omega | decide | (dsimp only; omega), by first | trivial | omega | decide | (dsimp only; omega)⟩
  · first | rfl | (dsimp only; rw [hNr0, hNr1]; done) | (dsimp only; rw [hNr0, hNr1]; rfl) | (dsimp only; simp only [hNr0, hNr1]) | (rw [hNr0, hNr1]; done) | (rw [hNr0, hNr1]; rfl)
  all_goals (try dsimp only)
  all_goals (first | (rw [hNr0, hNr1]; omega) | omega | (simp only [*]; omega) | (simp; done))
 refine Js.skip <| Js.seq ?_
 refine zk [0, 4, 5] (fun F U l os u => ∃ (G65 : List Nat) (X65AT X65SD : Int) (b67 : Nat) (X65KX : Int), l = F [] ∧ os = [anyO G65] ++ U [some (boxO bs [.slice As_0 s_code cs_0, .int .i64 X65AT, .int .u64 X65SD] 105), some (boxO b6 [.slice A4 (((M.startP r).pits).length) c4, .slice (some ⟨b67, 0, none⟩) (((M.startP r).stores).length) c5, .int .i64 ((M.startP r).player)] 28), some (rowO 2 1 (.slice (some ⟨b67, 0, none⟩) (((M.startP r).stores).length) c5) (((M.startP r).stores).length) (ints_ (((M.startP r).stores).set 0 X65KX)) [])] ∧ (X29AT ≤ X65AT) ∧ (X65AT ≤ X29AT + 2) ∧ (0 ≤ X65KX) ∧ (X65KX = 0 ∨ X65KX < 8)) ?_ ?_
 ·
  refine zdr [3, 5] ?_
  refine jF 0 fld_28_1 rfl rfl ?_
  refine jM 2 rfl rfl ?_
  refine y2 1 3 ?_ ?_
  ·
   refine JHo.q rfl (q_load1 ty_26.h rfl (Mem.box (i := 1) rfl rfl)) ?_
   refine y1 3 ?_
   refine yBB 1 sp_ rfl rfl (fun w hb _ hw => c_spec_l00Src_pick s_code X29AT X29SD 8 hb (ok_ hw)) ?_
   rintro _ _ G72 ⟨X72KX, X72AT, X72SD, rfl, rfl, hX72_0, hX72_1, hX72_2, hX72_3⟩
   refine znh ?_
   refine JH.fact (row_some (i := 3) rfl (by omega)) (fun hf74 => ?_)
   obtain ⟨b74, rfl⟩ := hf74
   refine jI 4 el_26 rfl rfl rfl rfl ?_
   refine y1 5 ?_
   refine JHo.s rfl (e_storeRow (i := 3) (xs' := ints_ (((M.startP r).stores).set 0 X72KX)) ty_2.h rfl rfl rfl rfl rfl rfl (ints_lt (i := 0) (by omega)) (ints_setL (i := 0) (by omega))) (.inr rfl) ?_
   rintro _ _ _ ⟨rfl, rfl⟩ _
   refine znh ?_
   refine yd ?_
   refine zh [1, 0, 0, 0, 0, 0, 0] ?_
   exact zm ⟨_, _, _, _, _, rfl, rfl, zt, zt, zt, zt⟩ (Up.refl _ _) ⟨rfl, rfl, rfl, trivial⟩
  refine yBB 1 sp_ rfl rfl (fun w hb _ hw => c_spec_l00Src_pick s_code X29AT X29SD 8 hb (ok_ hw)) ?_
  rintro _ _ G75 ⟨X75KX, X75AT, X75SD, rfl, rfl, hX75_0, hX75_1, hX75_2, hX75_3⟩
  refine znh ?_
  refine y1 1 ?_
  refine JHo.q rfl (q_load1 ty_26.h rfl (Mem.box (i := 2) rfl rfl)) ?_
  refine JH.fact (row_some (i := 3) rfl (by omega)) (fun hf77 => ?_)
  obtain ⟨b77, rfl⟩ := hf77
  refine jI 4 el_26 rfl rfl rfl rfl ?_
  refine y1 5 ?_
  refine JHo.s rfl (e_storeRow (i := 3) (xs' := ints_ (((M.startP r).stores).set 0 X75KX)) ty_2.h rfl rfl rfl rfl rfl rfl (ints_lt (i := 0) (by omega)) (ints_setL (i := 0) (by omega))) (.inr rfl) ?_
  rintro _ _ _ ⟨rfl, rfl⟩ _
  refine znh ?_
  refine yd ?_
  refine zh [1, 0, 0, 0, 0, 0, 0] ?_
  exact zm ⟨_, _, _, _, _, rfl, rfl, zt, zt, zt, zt⟩ (Up.refl _ _) ⟨rfl, rfl, rfl, trivial⟩
 rintro _ _ u71 ⟨G65, X65AT, X65SD, b67, X65KX, rfl, rfl, f71_0, f71_1, f71_2, f71_3⟩ x71
 refine zn ?_
 refine zf [1, 1, 1, 1, 1] fun GG78 => ?_
 refine zn ?_
 refine Js.seq ?_
 refine zk [0, 4, 5] (fun F U l os u => ∃ (G79 : List Nat) (X79AT X79SD X79KX : Int), l = F [] ∧ os = [anyO G79] ++ U [some (boxO bs [.slice As_0 s_code cs_0, .int .i64 X79AT, .int .u64 X79SD] 105), nO, some (rowO 2 1 (.slice (some ⟨b67, 0, none⟩) (((M.startP r).stores).length) c5) (((M.startP r).stores).length) (ints_ ((((M.startP r).stores).set 0 X65KX).set 1 X79KX)) [])] ∧ (X65AT ≤ X79AT) ∧ (X79AT ≤ X65AT + 2) ∧ (0 ≤ X79KX) ∧ (X79KX = 0 ∨ X79KX < 8)) ?_ ?_
 ·
  refine zdr [3, 5] ?_
  refine jF 0 fld_28_1 rfl rfl ?_
  refine jM 2 rfl rfl ?_
  refine y2 1 3 ?_ ?_
  ·
   refine JHo.q rfl (q_load1 ty_26.h rfl (Mem.box (i := 1) rfl rfl)) ?_
   refine y1 3 ?_
   refine yBB 1 sp_ rfl rfl (fun w hb _ hw => c_spec_l00Src_pick s_code X65AT X65SD 8 hb (ok_ hw)) ?_
   rintro _ _ G84 ⟨X84KX, X84AT, X84SD, rfl, rfl, hX84_0, hX84_1, hX84_2, hX84_3⟩
   refine znh ?_
   refine jI 4 el_26 rfl rfl rfl rfl ?_
   refine y1 5 ?_
   refine JHo.s rfl (e_storeRow (i := 3) (xs' := ints_ ((((M.startP r).stores).set 0 X65KX).set 1 X84KX)) ty_2.h rfl rfl rfl rfl rfl rfl (ints_lt (i := 1) (by first | omega | (simp only [List.length_set, M.setI_length]; omega))) (ints_setL (i := 1) (by first | omega | (simp only [List.length_set, M.setI_length]; omega)))) (.inr rfl) ?_
   rintro _ _ _ ⟨rfl, rfl⟩ _
   refine znh ?_
   refine yd ?_
   refine zh [1, 0, 0, 0, 0, 0, 0] ?_
   exact zm ⟨_, _, _, _, rfl, rfl, zt, zt, zt, zt⟩ (Up.refl _ _) ⟨rfl, rfl, rfl, trivial⟩
  refine yBB 1 sp_ rfl rfl (fun w hb _ hw => c_spec_l00Src_pick s_code X65AT X65SD 8 hb (ok_ hw)) ?_
  rintro _ _ G86 ⟨X86KX, X86AT, X86SD, rfl, rfl, hX86_0, hX86_1, hX86_2, hX86_3⟩
  refine znh ?_
  refine y1 1 ?_
  refine JHo.q rfl (q_load1 ty_26.h rfl (Mem.box (i := 2) rfl rfl)) ?_
  refine jI 4 el_26 rfl rfl rfl rfl ?_
  refine y1 5 ?_
  refine JHo.s rfl (e_storeRow (i := 3) (xs' := ints_ ((((M.startP r).stores).set 0 X65KX).set 1 X86KX)) ty_2.h rfl rfl rfl rfl rfl rfl (ints_lt (i := 1) (by first | omega | (simp only [List.length_set, M.setI_length]; omega))) (ints_setL (i := 1) (by first | omega | (simp only [List.length_set, M.setI_length]; omega)))) (.inr rfl) ?_
  rintro _ _ _ ⟨rfl, rfl⟩ _
  refine znh ?_
  refine yd ?_
  refine zh [1, 0, 0, 0, 0, 0, 0] ?_
  exact zm ⟨_, _, _, _, rfl, rfl, zt, zt, zt, zt⟩ (Up.refl _ _) ⟨rfl, rfl, rfl, trivial⟩
 rintro _ _ u83 ⟨G79, X79AT, X79SD, X79KX, rfl, rfl, f83_0, f83_1, f83_2, f83_3⟩ x83
 refine zn ?_
 refine zf [1, 1, 1, 1, 1] fun GG88 => ?_
 refine zn ?_
 refine zS <| Qm rfl <| zBB 1 sp_ rfl (fun w hb _ hw => c_spec_l00Src_pick s_code X79AT X79SD 2 hb (ok_ hw)) ?_
 rintro _ _ G89 ⟨X89KX, X89AT, X89SD, rfl, rfl, hX89_0, hX89_1, hX89_2, hX89_3⟩
 refine znl ?_
 refine Qf fh rfl <| zw 2 rfl rfl rfl ?_
 refine JL.nil ?_
 refine zf [0, 1, 1, 1, 1] fun GG90 => ?_
 refine zn ?_
 refine zS <| Q9 1 rfl rfl ?_
 refine zw 4 rfl rfl rfl ?_
 refine JL.nil ?_
 refine zf [0, 1, 1, 1] fun GG91 => ?_
 refine zn ?_
 refine zrb [0, 1, 0] hb ((x9.trans x71).trans x83) ?_
 have hNr0 : xs.length = ((M.startP r).pits).length := by first | rfl | assumption | omega | (simp only [List.length_set, M.setI_length]; done) | (simp only [List.length_set, M.setI_length]; first | rfl | assumption | omega)
 have hNr1 : ((((M.startP r).stores).set 0 X65KX).set 1 X79KX).length = ((M.startP r).stores).length := by first | rfl | assumption | omega | (simp only [List.length_set, M.setI_length]; done) | (simp only [List.length_set, M.setI_length]; first | rfl | assumption | omega)
 refine ⟨((M.Pos.mk xs ((((M.startP r).stores).set 0 X65KX).set 1 X79KX) X89KX)), (X89AT), (X89SD), A4, c4, [], (some ⟨b67, 0, none⟩), c5, [], (show (.agg #[.slice A4 (((M.startP r).pits).length) c4, .slice (some ⟨b67, 0, none⟩) (((M.startP r).stores).length) c5, .int .i64 X89KX] : Value) = .agg #[.slice A4 xs.length c4, .slice (some ⟨b67, 0, none⟩) ((((M.startP r).stores).set 0 X65KX).set 1 X79KX).length c5, .int .i64 X89KX] by rw [hNr0, hNr1]), ?_, ?_, ?_, ?_, ?_, by first | trivial | omega | decide | (dsimp only; omega), by first | trivial | omega | decide | (dsimp only; omega), by first | trivial | omega | decide | (dsimp only; omega)⟩
 · first | rfl | (dsimp only; rw [hNr0, hNr1]; done) | (dsimp only; rw [hNr0, hNr1]; rfl) | (dsimp only; simp only [hNr0, hNr1]) | (rw [hNr0, hNr1]; done) | (rw [hNr0, hNr1]; rfl)
 all_goals (try dsimp only)
 all_goals (first | (rw [hNr0, hNr1]; omega) | omega | (simp only [*]; omega) | (simp; done))
theorem c_spec_l02Bent (s_code : Nat) (s_at s_seed : Int) {As_0 : Option Addr} {cs_0 bs : Nat} {w : World} (hb : Bw w [boxO bs [.slice As_0 s_code cs_0, .int .i64 s_at, .int .u64 s_seed] 105]) (hps_0 : (Ty.bytes 5 s_code).ok (offW w (([boxO bs [.slice As_0 s_code cs_0, .int .i64 s_at, .int .u64 s_seed] 105] : List Own).flatMap (·.fp))) (.slice As_0 s_code cs_0)) (r0 : 0 ≤ s_at := by exact om_) (r1 : s_at ≤ 999999940 := by exact om_) (r2 : s_code ≤ 1048576 := by exact om_) : RetB Try.prog 97 [.pointer (some ⟨bs, 0, none⟩)] w [boxO bs [.slice As_0 s_code cs_0, .int .i64 s_at, .int .u64 s_seed] 105] (fun v bs' => ∃ (RX : M.Rul) (AT SD : Int), v = .agg #[.int .i64 RX.pits, .int .i64 RX.seeds, .bool RX.stores, .bool RX.skip, .bool RX.relay, .bool RX.feed, .bool RX.again, .int .i64 RX.capture, .int .i64 RX.slam] ∧ bs' = [boxO bs [.slice As_0 s_code cs_0, .int .i64 AT, .int .u64 SD] 105] ∧ (RX.pits ≤ 9) ∧ (s_at ≤ AT) ∧ (AT ≤ s_at + 60)) := by
 refine enterB hb @Try.func97 @Try.ntmps97 rfl rfl ?_
 refine zent ?_
 refine Js.trashE ?_
 refine zn ?_
 refine zS <| za zeh fun b1 => zN <| Qm rfl ?_
 refine zhl [1] ?_
 refine zBB 1 sp_ rfl (fun w hb _ hw => c_spec_l02Draw s_code s_at s_seed hb (ok_ hw)) ?_
 rintro _ _ G2 ⟨X2RX, X2AT, X2SD, rfl, rfl, hX2_0, hX2_1, hX2_2⟩
 refine znl ?_
 refine za zeh fun b3 => zw 0 rfl rfl rfl ?_
 refine JL.nil ?_
 refine zf [0, 0, 1] fun GG4 => ?_
 refine zn ?_
 refine Js.seq <| zS <| Qm rfl ?_
 refine zhl [1] ?_
 refine zBB 1 sp_ rfl (fun w hb _ hw => c_spec_l00Src_pick s_code X2AT X2SD 24 hb (ok_ hw)) ?_
 rintro _ _ G5 ⟨X5KX, X5AT, X5SD, rfl, rfl, hX5_0, hX5_1, hX5_2, hX5_3⟩
 refine znl ?_
 refine JL.nil ?_
 refine zf [0, 1, 1] fun GG6 => ?_
 refine zn ?_
 refine Js.block <| zS <| Qe rfl rfl <| Qa rfl <| JL.nil ?_
 refine zi (fun h7 h7' => ?_) fun h7 h7' => ?_
 ·
  refine Js.region <| Qm rfl <| zbs fun b8 => ?_
  refine zhl [1] ?_
  refine zBB 1 sp_ rfl (fun w hb _ hw => c_spec_l00Src_among s_code X5AT X5SD [1, 2, 8, 9, (-9223372036854775808)] hb (ok_ hw) (ints_rowok (xs := [1, 2, 8, 9, (-9223372036854775808)]) (hw.pr (i := 0) rfl)) (r3 := (by simp)) (r4 := (by simp))) ?_
  rintro _ _ G10 ⟨X10KX, X10AT, X10SD, rfl, rfl, hX10_0, hX10_1, hX10_2⟩
  refine znl ?_
  refine Qf fh rfl <| zw 3 rfl rfl rfl ?_
  refine JL.nil ?_
  refine zf [0, 2, 2] fun GG11 => ?_
  refine zn ?_
  refine Js.blockEnd <| zS <| Q9 1 rfl rfl ?_
  refine zw 2 rfl rfl rfl ?_
  refine JL.nil ?_
  refine zf [0, 1] fun GG12 => ?_
  refine zn ?_
  refine zrb [0] hb (Up.refl _ _) ?_
  refine ⟨((M.Rul.mk X10KX X2RX.seeds X2RX.stores X2RX.skip X2RX.relay X2RX.feed X2RX.again X2RX.capture X2RX.slam)), (X10AT), (X10SD), rfl, ?_, by first | trivial | omega | (dsimp only; omega) | (have h9 := (by assumption : _ ∈ ([_, _, _, _, _] : List Int)); simp at h9; dsimp only; omega), by first | trivial | omega | (dsimp only; omega) | (have h9 := (by assumption : _ ∈ ([_, _, _, _, _] : List Int)); simp at h9; dsimp only; omega), by first | trivial | omega | (dsimp only; omega) | (have h9 := (by assumption : _ ∈ ([_, _, _, _, _] : List Int)); simp at h9; dsimp only; omega)⟩
  · rfl
 refine zS <| Qe rfl rfl <| Qa rfl <| JL.nil ?_
 refine zi (fun h13 h13' => ?_) fun h13 h13' => ?_
 ·
  refine Js.region <| Qm rfl <| zbs fun b14 => ?_
  refine zhl [1] ?_
  refine zBB 1 sp_ rfl (fun w hb _ hw => c_spec_l00Src_among s_code X5AT X5SD [0, 1, 6, 7] hb (ok_ hw) (ints_rowok (xs := [0, 1, 6, 7]) (hw.pr (i := 0) rfl)) (r3 := (by simp)) (r4 := (by simp))) ?_
  rintro _ _ G16 ⟨X16KX, X16AT, X16SD, rfl, rfl, hX16_0, hX16_1, hX16_2⟩
  refine znl ?_
  refine Qf fh rfl <| zw 3 rfl rfl rfl ?_
  refine JL.nil ?_
  refine zf [0, 2, 2] fun GG17 => ?_
  refine zn ?_
  refine Js.blockEnd <| zS <| Q9 1 rfl rfl ?_
  refine zw 2 rfl rfl rfl ?_
  refine JL.nil ?_
  refine zf [0, 1] fun GG18 => ?_
  refine zn ?_
  refine zrb [0] hb (Up.refl _ _) ?_
  refine ⟨((M.Rul.mk X2RX.pits X16KX X2RX.stores X2RX.skip X2RX.relay X2RX.feed X2RX.again X2RX.capture X2RX.slam)), (X16AT), (X16SD), rfl, ?_, by first | trivial | omega | (dsimp only; omega) | (have h9 := (by assumption : _ ∈ ([_, _, _, _, _] : List Int)); simp at h9; dsimp only; omega), by first | trivial | omega | (dsimp only; omega) | (have h9 := (by assumption : _ ∈ ([_, _, _, _, _] : List Int)); simp at h9; dsimp only; omega), by first | trivial | omega | (dsimp only; omega) | (have h9 := (by assumption : _ ∈ ([_, _, _, _, _] : List Int)); simp at h9; dsimp only; omega)⟩
  · rfl
 refine zS <| Qe rfl rfl <| Qa rfl <| JL.nil ?_
 refine zi (fun h19 h19' => ?_) fun h19 h19' => ?_
 ·
  refine Js.region <| Qm rfl <| zbs fun b20 => ?_
  refine zhl [1] ?_
  refine zBB 1 sp_ rfl (fun w hb _ hw => c_spec_l00Src_among s_code X5AT X5SD [(-1), 4, 0, 3] hb (ok_ hw) (ints_rowok (xs := [(-1), 4, 0, 3]) (hw.pr (i := 0) rfl)) (r3 := (by simp)) (r4 := (by simp))) ?_
  rintro _ _ G22 ⟨X22KX, X22AT, X22SD, rfl, rfl, hX22_0, hX22_1, hX22_2⟩
  refine znl ?_
  refine Qf fh rfl <| zw 3 rfl rfl rfl ?_
  refine JL.nil ?_
  refine zf [0, 2, 2] fun GG23 => ?_
  refine zn ?_
  refine Js.blockEnd <| zS <| Q9 1 rfl rfl ?_
  refine zw 2 rfl rfl rfl ?_
  refine JL.nil ?_
  refine zf [0, 1] fun GG24 => ?_
  refine zn ?_
  refine zrb [0] hb (Up.refl _ _) ?_
  refine ⟨((M.Rul.mk X2RX.pits X2RX.seeds X2RX.stores X2RX.skip X2RX.relay X2RX.feed X2RX.again X22KX X2RX.slam)), (X22AT), (X22SD), rfl, ?_, by first | trivial | omega | (dsimp only; omega) | (have h9 := (by assumption : _ ∈ ([_, _, _, _, _] : List Int)); simp at h9; dsimp only; omega), by first | trivial | omega | (dsimp only; omega) | (have h9 := (by assumption : _ ∈ ([_, _, _, _, _] : List Int)); simp at h9; dsimp only; omega), by first | trivial | omega | (dsimp only; omega) | (have h9 := (by assumption : _ ∈ ([_, _, _, _, _] : List Int)); simp at h9; dsimp only; omega)⟩
  · rfl
 refine zS <| Qe rfl rfl <| Qa rfl <| JL.nil ?_
 refine zi (fun h25 h25' => ?_) fun h25 h25' => ?_
 ·
  refine Js.region <| Qm rfl <| zbs fun b26 => ?_
  refine zhl [1] ?_
  refine zBB 1 sp_ rfl (fun w hb _ hw => c_spec_l00Src_among s_code X5AT X5SD [(-1), 3, 2] hb (ok_ hw) (ints_rowok (xs := [(-1), 3, 2]) (hw.pr (i := 0) rfl)) (r3 := (by simp)) (r4 := (by simp))) ?_
  rintro _ _ G28 ⟨X28KX, X28AT, X28SD, rfl, rfl, hX28_0, hX28_1, hX28_2⟩
  refine znl ?_
  refine Qf fh rfl <| zw 3 rfl rfl rfl ?_
  refine JL.nil ?_
  refine zf [0, 2, 2] fun GG29 => ?_
  refine zn ?_
  refine Js.blockEnd <| zS <| Q9 1 rfl rfl ?_
  refine zw 2 rfl rfl rfl ?_
  refine JL.nil ?_
  refine zf [0, 1] fun GG30 => ?_
  refine zn ?_
  refine zrb [0] hb (Up.refl _ _) ?_
  refine ⟨((M.Rul.mk X2RX.pits X2RX.seeds X2RX.stores X2RX.skip X2RX.relay X2RX.feed X2RX.again X2RX.capture X28KX)), (X28AT), (X28SD), rfl, ?_, by first | trivial | omega | (dsimp only; omega) | (have h9 := (by assumption : _ ∈ ([_, _, _, _, _] : List Int)); simp at h9; dsimp only; omega), by first | trivial | omega | (dsimp only; omega) | (have h9 := (by assumption : _ ∈ ([_, _, _, _, _] : List Int)); simp at h9; dsimp only; omega), by first | trivial | omega | (dsimp only; omega) | (have h9 := (by assumption : _ ∈ ([_, _, _, _, _] : List Int)); simp at h9; dsimp only; omega)⟩
  · rfl
 refine zS <| Qe rfl rfl <| Qa rfl <| JL.nil ?_
 refine zi (fun h31 h31' => ?_) fun h31 h31' => ?_
 ·
  refine zS <| Qf fh rfl <| zw 1 rfl rfl rfl ?_
  refine zG <| Qm rfl <| zBB 1 sp_ rfl (fun w hb _ hw => c_spec_l00Src_one s_code X5AT X5SD 2 hb (ok_ hw)) ?_
  rintro _ _ G32 ⟨X32BX, X32AT, X32SD, rfl, rfl, hX32_0, hX32_1⟩
  refine znl ?_
  refine Qf fh rfl <| zw 2 rfl rfl rfl ?_
  refine JL.nil ?_
  refine zf [0, 1, 1] fun GG33 => ?_
  refine zn ?_
  refine Js.blockEnd <| zS <| Q9 1 rfl rfl ?_
  refine zw 2 rfl rfl rfl ?_
  refine JL.nil ?_
  refine zf [0, 1] fun GG34 => ?_
  refine zn ?_
  refine zrb [0] hb (Up.refl _ _) ?_
  refine ⟨((M.Rul.mk X2RX.pits X2RX.seeds X32BX X2RX.skip X2RX.relay X2RX.feed true X2RX.capture X2RX.slam)), (X32AT), (X32SD), rfl, ?_, by first | trivial | omega | (dsimp only; omega) | (have h9 := (by assumption : _ ∈ ([_, _, _, _, _] : List Int)); simp at h9; dsimp only; omega), by first | trivial | omega | (dsimp only; omega) | (have h9 := (by assumption : _ ∈ ([_, _, _, _, _] : List Int)); simp at h9; dsimp only; omega), by first | trivial | omega | (dsimp only; omega) | (have h9 := (by assumption : _ ∈ ([_, _, _, _, _] : List Int)); simp at h9; dsimp only; omega)⟩
  · rfl
 refine Js.skip <| Js.blockEnd <| zS <| Q9 1 rfl rfl ?_
 refine zw 2 rfl rfl rfl ?_
 refine JL.nil ?_
 refine zf [0, 1] fun GG35 => ?_
 refine zn ?_
 refine zrb [0] hb (Up.refl _ _) ?_
 refine ⟨(X2RX), (X5AT), (X5SD), rfl, ?_, by first | trivial | omega | (dsimp only; omega) | (have h9 := (by assumption : _ ∈ ([_, _, _, _, _] : List Int)); simp at h9; dsimp only; omega), by first | trivial | omega | (dsimp only; omega) | (have h9 := (by assumption : _ ∈ ([_, _, _, _, _] : List Int)); simp at h9; dsimp only; omega), by first | trivial | omega | (dsimp only; omega) | (have h9 := (by assumption : _ ∈ ([_, _, _, _, _] : List Int)); simp at h9; dsimp only; omega)⟩
 · rfl
theorem c_spec_l04Bent (s_code : Nat) (s_at s_seed : Int) {As_0 : Option Addr} {cs_0 bs : Nat} {w : World} (hb : Bw w [boxO bs [.slice As_0 s_code cs_0, .int .i64 s_at, .int .u64 s_seed] 105]) (hps_0 : (Ty.bytes 5 s_code).ok (offW w (([boxO bs [.slice As_0 s_code cs_0, .int .i64 s_at, .int .u64 s_seed] 105] : List Own).flatMap (·.fp))) (.slice As_0 s_code cs_0)) (r0 : 0 ≤ s_at := by exact om_) (r1 : s_at ≤ 999999000 := by exact om_) (r2 : s_code ≤ 1048576 := by exact om_) : RetB Try.prog 91 [.pointer (some ⟨bs, 0, none⟩)] w [boxO bs [.slice As_0 s_code cs_0, .int .i64 s_at, .int .u64 s_seed] 105] (fun v bs' => ∃ (RX : M.Rul) (QX : M.Pos) (AT SD : Int) (Axrb_0 : Option Addr) (cxrb_0 : Nat) (Axrb_1 : Option Addr) (cxrb_1 : Nat) (gxrb_1 : List Nat), v = .tuple #[.agg #[.int .i64 RX.pits, .int .i64 RX.seeds, .bool RX.stores, .bool RX.skip, .bool RX.relay, .bool RX.feed, .bool RX.again, .int .i64 RX.capture, .int .i64 RX.slam], .agg #[.slice Axrb_0 QX.pits.length cxrb_0, .slice Axrb_1 QX.stores.length cxrb_1, .int .i64 QX.player]] ∧ bs' = [boxO bs [.slice As_0 s_code cs_0, .int .i64 AT, .int .u64 SD] 105, rxO 2 (.slice Axrb_0 QX.pits.length cxrb_0) QX.pits.length (ints_ QX.pits), rowO 2 1 (.slice Axrb_1 QX.stores.length cxrb_1) QX.stores.length (ints_ QX.stores) gxrb_1] ∧ QX.pits.length ≤ cxrb_0 ∧ cxrb_0 ≤ 9223372036854775807 ∧ QX.stores.length ≤ cxrb_1 ∧ cxrb_1 ≤ 9223372036854775807 ∧ (RX.pits ≤ 9) ∧ (QX.pits.length ≤ 4194304 ∧ QX.stores.length ≤ 4194304) ∧ (s_at ≤ AT) ∧ (AT ≤ s_at + 1000)) := by
 refine enterB hb @Try.func91 @Try.ntmps91 rfl rfl ?_
 refine zent ?_
 refine Js.trashE ?_
 refine zn ?_
 refine zS <| za zeh fun b1 => za zeh fun b2 => zN <| Qm rfl ?_
 refine zhl [2] ?_
 refine zBB 1 sp_ rfl (fun w hb _ hw => c_spec_l02Draw s_code s_at s_seed hb (ok_ hw)) ?_
 rintro _ _ G3 ⟨X3RX, X3AT, X3SD, rfl, rfl, hX3_0, hX3_1, hX3_2⟩
 refine znl ?_
 refine za zeh fun b4 => zw 0 rfl rfl rfl ?_
 refine JL.nil ?_
 refine zf [0, 0, 1, 1] fun GG5 => ?_
 refine zn ?_
 refine zS <| Qm rfl ?_
 refine zhl [1] ?_
 refine zBB 1 sp_ rfl (fun w hb _ hw => c_spec_l04Draw s_code X3AT X3SD X3RX hb (ok_ hw) (ok_ hw)) ?_
 rintro _ _ G6 ⟨X6PX, X6AT, X6SD, A6r_0, c6r_0, g6r_0, A6r_1, c6r_1, g6r_1, rfl, rfl, bl6_0, bl6_1, bl6_2, bl6_3, hX6_0, hX6_1, hX6_2⟩
 refine znl ?_
 refine za zeh fun b7 => zw 0 rfl rfl rfl ?_
 refine JL.nil ?_
 refine zf [0, 0, 0, 0, 1, 1, 1] fun GG8 => ?_
 refine zn ?_
 refine zS <| Qm rfl <| Qf fh rfl <| Q0 0 rfl rfl rfl <| Qz rfl ?_
 refine zhl [1] ?_
 refine zBB 1 sp_ rfl (fun w hb _ hw => c_spec_l00Src_pick s_code X6AT X6SD (X6PX.pits.length : Int) hb (ok_ hw)) ?_
 rintro _ _ G9 ⟨X9KX, X9AT, X9SD, rfl, rfl, hX9_0, hX9_1, hX9_2, hX9_3⟩
 refine znl ?_
 refine Qa rfl <| JL.nil ?_
 refine zf [0, 1, 1, 1, 1, 1, 1] fun GG10 => ?_
 refine zn ?_
 refine Js.seq <| zS <| Qm rfl <| zBB 1 sp_ rfl (fun w hb _ hw => c_spec_l00Src_pick s_code X9AT X9SD 24 hb (ok_ hw)) ?_
 rintro _ _ G11 ⟨X11KX, X11AT, X11SD, rfl, rfl, hX11_0, hX11_1, hX11_2, hX11_3⟩
 refine znl ?_
 refine JL.nil ?_
 refine zf [0, 1, 1, 1, 1, 1, 1] fun GG12 => ?_
 refine zn ?_
 refine Js.block <| zS <| Qe rfl rfl <| Qa rfl <| JL.nil ?_
 refine zi (fun h13 h13' => ?_) fun h13 h13' => ?_
 ·
  refine zk [2, 3, 4, 5] (fun F U l os u => ∃ (G16 : List Nat) (b14 : Nat) (X16AT X16SD : Int) (b18 : Nat) (X16KX : Int), l = F [] ∧ os = [anyO G16, rowO 2 1 (.slice (some ⟨b14, 0, none⟩) 4 4) 4 [.int .i64 (-1), .int .i64 96, .int .i64 40, .int .i64 9223372036854775807] []] ++ U [some (boxO bs [.slice As_0 s_code cs_0, .int .i64 X16AT, .int .u64 X16SD] 105), some (boxO b7 [.slice (some ⟨b18, 0, none⟩) X6PX.pits.length c6r_0, .slice A6r_1 X6PX.stores.length c6r_1, .int .i64 X6PX.player] 28), some (rowO 2 1 (.slice (some ⟨b18, 0, none⟩) X6PX.pits.length c6r_0) X6PX.pits.length (ints_ (M.setI X6PX.pits X9KX X16KX)) g6r_0)] ∧ (X11AT ≤ X16AT) ∧ (X16AT ≤ X11AT + 2) ∧ (X16KX ∈ [(-1), 96, 40, 9223372036854775807])) ?_ ?_
  ·
   refine zdr [5, 7] ?_
   refine jF 0 fld_28_0 rfl rfl ?_
   refine jM 2 rfl rfl ?_
   refine jM 3 rfl rfl ?_
   refine y2 1 4 ?_ ?_
   ·
    refine JHo.q rfl (q_load1 ty_26.h rfl (Mem.box (i := 1) rfl rfl)) ?_
    refine y1 4 ?_
    refine ybs rfl fun b28 => ?_
    refine y1 5 ?_
    refine zhh [1] ?_
    refine yBB 1 sp_ rfl rfl (fun w hb _ hw => c_spec_l00Src_among s_code X11AT X11SD [(-1), 96, 40, 9223372036854775807] hb (ok_ hw) (ints_rowok (xs := [(-1), 96, 40, 9223372036854775807]) (hw.pr (i := 0) rfl)) (r3 := (by simp)) (r4 := (by simp))) ?_
    rintro _ _ G30 ⟨X30KX, X30AT, X30SD, rfl, rfl, hX30_0, hX30_1, hX30_2⟩
    refine znh ?_
    refine JH.fact (row_some (i := 4) rfl (by omega)) (fun hf32 => ?_)
    obtain ⟨b32, rfl⟩ := hf32
    refine jI 6 el_26 rfl rfl rfl rfl ?_
    refine y1 7 ?_
    refine JHo.s rfl (e_storeRow (i := 4) (xs' := ints_ (M.setI X6PX.pits X9KX X30KX)) ty_2.h rfl rfl rfl rfl rfl rfl (ints_lt (i := X9KX.toNat) (by omega)) (ints_setL (i := X9KX.toNat) (by omega))) (.inr rfl) ?_
    rintro _ _ _ ⟨rfl, rfl⟩ _
    refine znh ?_
    refine yd ?_
    refine zh [1, 1, 0, 0, 0, 0, 0, 0, 0, 0] ?_
    exact zm ⟨_, _, _, _, _, _, rfl, rfl, zt, zt, zt⟩ (Up.refl _ _) ⟨rfl, rfl, rfl, rfl, trivial⟩
   refine ybs rfl fun b33 => ?_
   refine y2 1 5 ?_ ?_
   ·
    refine JHo.q rfl (q_load1 ty_26.h rfl (Mem.box (i := 2) rfl rfl)) ?_
    refine y1 5 ?_
    refine zhh [1] ?_
    refine yBB 1 sp_ rfl rfl (fun w hb _ hw => c_spec_l00Src_among s_code X11AT X11SD [(-1), 96, 40, 9223372036854775807] hb (ok_ hw) (ints_rowok (xs := [(-1), 96, 40, 9223372036854775807]) (hw.pr (i := 0) rfl)) (r3 := (by simp)) (r4 := (by simp))) ?_
    rintro _ _ G35 ⟨X35KX, X35AT, X35SD, rfl, rfl, hX35_0, hX35_1, hX35_2⟩
    refine znh ?_
    refine JH.fact (row_some (i := 4) rfl (by omega)) (fun hf37 => ?_)
    obtain ⟨b37, rfl⟩ := hf37
    refine jI 6 el_26 rfl rfl rfl rfl ?_
    refine y1 7 ?_
    refine JHo.s rfl (e_storeRow (i := 4) (xs' := ints_ (M.setI X6PX.pits X9KX X35KX)) ty_2.h rfl rfl rfl rfl rfl rfl (ints_lt (i := X9KX.toNat) (by omega)) (ints_setL (i := X9KX.toNat) (by omega))) (.inr rfl) ?_
    rintro _ _ _ ⟨rfl, rfl⟩ _
    refine znh ?_
    refine yd ?_
    refine zh [1, 1, 0, 0, 0, 0, 0, 0, 0, 0] ?_
    exact zm ⟨_, _, _, _, _, _, rfl, rfl, zt, zt, zt⟩ (Up.refl _ _) ⟨rfl, rfl, rfl, rfl, trivial⟩
   refine zhh [1] ?_
   refine yBB 1 sp_ rfl rfl (fun w hb _ hw => c_spec_l00Src_among s_code X11AT X11SD [(-1), 96, 40, 9223372036854775807] hb (ok_ hw) (ints_rowok (xs := [(-1), 96, 40, 9223372036854775807]) (hw.pr (i := 0) rfl)) (r3 := (by simp)) (r4 := (by simp))) ?_
   rintro _ _ G38 ⟨X38KX, X38AT, X38SD, rfl, rfl, hX38_0, hX38_1, hX38_2⟩
   refine znh ?_
   refine y1 1 ?_
   refine JHo.q rfl (q_load1 ty_26.h rfl (Mem.box (i := 3) rfl rfl)) ?_
   refine JH.fact (row_some (i := 4) rfl (by omega)) (fun hf40 => ?_)
   obtain ⟨b40, rfl⟩ := hf40
   refine jI 6 el_26 rfl rfl rfl rfl ?_
   refine y1 7 ?_
   refine JHo.s rfl (e_storeRow (i := 4) (xs' := ints_ (M.setI X6PX.pits X9KX X38KX)) ty_2.h rfl rfl rfl rfl rfl rfl (ints_lt (i := X9KX.toNat) (by omega)) (ints_setL (i := X9KX.toNat) (by omega))) (.inr rfl) ?_
   rintro _ _ _ ⟨rfl, rfl⟩ _
   refine znh ?_
   refine yd ?_
   refine zh [1, 1, 0, 0, 0, 0, 0, 0, 0, 0] ?_
   exact zm ⟨_, _, _, _, _, _, rfl, rfl, zt, zt, zt⟩ (Up.refl _ _) ⟨rfl, rfl, rfl, rfl, trivial⟩
  rintro _ _ u27 ⟨G16, b14, X16AT, X16SD, b18, X16KX, rfl, rfl, f27_0, f27_1, f27_2⟩ x27
  refine zn ?_
  refine zf [2, 2, 2, 2, 2, 2, 2] fun GG41 => ?_
  refine zn ?_
  refine Js.blockEnd <| Js.seq ?_
  refine zk [2, 3] (fun F U l os u => l = F [] ∧ os = U [nO, nO, nO, nO, nO, some (boxO b2 [.slice (some ⟨b18, 0, none⟩) X6PX.pits.length c6r_0, .slice A6r_1 X6PX.stores.length c6r_1, .int .i64 X6PX.player] 28), some (boxO b1 [.int .i64 X3RX.pits, .int .i64 X3RX.seeds, .bool X3RX.stores, .bool X3RX.skip, .bool X3RX.relay, .bool X3RX.feed, .bool X3RX.again, .int .i64 X3RX.capture, .int .i64 X3RX.slam] 25)]) ?_ ?_
  ·
   refine zdr [2, 3] ?_
   refine JH.q 0 rfl (L9 4 rfl rfl) ?_
   refine y2 1 2 ?_ ?_
   ·
    refine JHo.q rfl (L9 1 rfl rfl) ?_
    refine y1 2 ?_
    refine yst rfl rfl rfl ?_
    refine y1 3 ?_
    refine yst rfl rfl rfl ?_
    refine yd ?_
    exact zm ⟨rfl, rfl⟩ (Up.refl _ _)
   refine yst rfl rfl rfl ?_
   refine y1 1 ?_
   refine JHo.q rfl (L9 1 rfl rfl) ?_
   refine y1 3 ?_
   refine yst rfl rfl rfl ?_
   refine yd ?_
   exact zm ⟨rfl, rfl⟩ (Up.refl _ _)
  rintro _ _ u42 ⟨rfl, rfl⟩ x42
  refine zn ?_
  refine zf [0, 1, 1, 2, 2] fun GG43 => ?_
  refine zn ?_
  refine Js.conv (fun w hw => St.toRx (i := 1) rfl hw) ?_
  refine zn ?_
  refine zrb [2, 0, 1] hb (x27.trans x42) ?_
  have hNr1_0 : (M.setI X6PX.pits X9KX X16KX).length = X6PX.pits.length := by first | rfl | assumption | omega | (simp only [List.length_set, M.setI_length]; done) | (simp only [List.length_set, M.setI_length]; first | rfl | assumption | omega) | (simp only [List.length_drop]; first | done | rfl | omega) | (simp; done) | (simp; omega)
  refine ⟨(X3RX), ((M.Pos.mk (M.setI X6PX.pits X9KX X16KX) X6PX.stores X6PX.player)), (X16AT), (X16SD), (some ⟨b18, 0, none⟩), c6r_0, A6r_1, c6r_1, g6r_1, (show (.tuple #[.agg #[.int .i64 X3RX.pits, .int .i64 X3RX.seeds, .bool X3RX.stores, .bool X3RX.skip, .bool X3RX.relay, .bool X3RX.feed, .bool X3RX.again, .int .i64 X3RX.capture, .int .i64 X3RX.slam], .agg #[.slice (some ⟨b18, 0, none⟩) X6PX.pits.length c6r_0, .slice A6r_1 X6PX.stores.length c6r_1, .int .i64 X6PX.player]] : Value) = .tuple #[.agg #[.int .i64 X3RX.pits, .int .i64 X3RX.seeds, .bool X3RX.stores, .bool X3RX.skip, .bool X3RX.relay, .bool X3RX.feed, .bool X3RX.again, .int .i64 X3RX.capture, .int .i64 X3RX.slam], .agg #[.slice (some ⟨b18, 0, none⟩) (M.setI X6PX.pits X9KX X16KX).length c6r_0, .slice A6r_1 X6PX.stores.length c6r_1, .int .i64 X6PX.player]] by rw [hNr1_0]), ?_, ?_, ?_, ?_, ?_, by first | trivial | omega | (refine ⟨?_, ?_⟩ <;> dsimp only <;> first | omega | (simp only [List.length_append, List.length_cons, List.length_nil, List.length_set]; omega)), by first | trivial | omega | (refine ⟨?_, ?_⟩ <;> dsimp only <;> first | omega | (simp only [List.length_append, List.length_cons, List.length_nil, List.length_set]; omega)), by first | trivial | omega | (refine ⟨?_, ?_⟩ <;> dsimp only <;> first | omega | (simp only [List.length_append, List.length_cons, List.length_nil, List.length_set]; omega)), by first | trivial | omega | (refine ⟨?_, ?_⟩ <;> dsimp only <;> first | omega | (simp only [List.length_append, List.length_cons, List.length_nil, List.length_set]; omega))⟩
  · exact r5_ hNr1_0
  all_goals (try dsimp only)
  all_goals (first | (rw [hNr1_0]; omega) | omega | (simp only [*]; omega) | (simp; done))
 refine zS <| Qe rfl rfl <| Qa rfl <| JL.nil ?_
 refine zi (fun h44 h44' => ?_) fun h44 h44' => ?_
 ·
  refine Js.region <| Qm rfl <| zbs fun b45 => ?_
  refine zhl [1] ?_
  refine zBB 1 sp_ rfl (fun w hb _ hw => c_spec_l00Src_among s_code X11AT X11SD [(-1), 2] hb (ok_ hw) (ints_rowok (xs := [(-1), 2]) (hw.pr (i := 0) rfl)) (r3 := (by simp)) (r4 := (by simp))) ?_
  rintro _ _ G47 ⟨X47KX, X47AT, X47SD, rfl, rfl, hX47_0, hX47_1, hX47_2⟩
  refine znl ?_
  refine Qf fh rfl <| zw 3 rfl rfl rfl ?_
  refine JL.nil ?_
  refine zf [0, 2, 2, 2, 2, 2, 2] fun GG48 => ?_
  refine zn ?_
  refine Js.blockEnd <| Js.seq ?_
  refine zk [2, 3] (fun F U l os u => l = F [] ∧ os = U [nO, nO, nO, nO, nO, some (boxO b2 [.slice A6r_0 X6PX.pits.length c6r_0, .slice A6r_1 X6PX.stores.length c6r_1, .int .i64 X47KX] 28), some (boxO b1 [.int .i64 X3RX.pits, .int .i64 X3RX.seeds, .bool X3RX.stores, .bool X3RX.skip, .bool X3RX.relay, .bool X3RX.feed, .bool X3RX.again, .int .i64 X3RX.capture, .int .i64 X3RX.slam] 25)]) ?_ ?_
  ·
   refine zdr [2, 3] ?_
   refine JH.q 0 rfl (L9 4 rfl rfl) ?_
   refine y2 1 2 ?_ ?_
   ·
    refine JHo.q rfl (L9 1 rfl rfl) ?_
    refine y1 2 ?_
    refine yst rfl rfl rfl ?_
    refine y1 3 ?_
    refine yst rfl rfl rfl ?_
    refine yd ?_
    exact zm ⟨rfl, rfl⟩ (Up.refl _ _)
   refine yst rfl rfl rfl ?_
   refine y1 1 ?_
   refine JHo.q rfl (L9 1 rfl rfl) ?_
   refine y1 3 ?_
   refine yst rfl rfl rfl ?_
   refine yd ?_
   exact zm ⟨rfl, rfl⟩ (Up.refl _ _)
  rintro _ _ u49 ⟨rfl, rfl⟩ x49
  refine zn ?_
  refine zf [0, 1, 1, 2, 2] fun GG50 => ?_
  refine zn ?_
  refine Js.conv (fun w hw => St.toRx (i := 1) rfl hw) ?_
  refine zn ?_
  refine zrb [2, 0, 1] hb x49 ?_
  refine ⟨(X3RX), ((M.Pos.mk X6PX.pits X6PX.stores X47KX)), (X47AT), (X47SD), A6r_0, c6r_0, A6r_1, c6r_1, g6r_1, rfl, ?_, ?_, ?_, ?_, ?_, by first | trivial | omega | (refine ⟨?_, ?_⟩ <;> dsimp only <;> first | omega | (simp only [List.length_append, List.length_cons, List.length_nil, List.length_set]; omega)), by first | trivial | omega | (refine ⟨?_, ?_⟩ <;> dsimp only <;> first | omega | (simp only [List.length_append, List.length_cons, List.length_nil, List.length_set]; omega)), by first | trivial | omega | (refine ⟨?_, ?_⟩ <;> dsimp only <;> first | omega | (simp only [List.length_append, List.length_cons, List.length_nil, List.length_set]; omega)), by first | trivial | omega | (refine ⟨?_, ?_⟩ <;> dsimp only <;> first | omega | (simp only [List.length_append, List.length_cons, List.length_nil, List.length_set]; omega))⟩
  · rfl
  all_goals (try dsimp only)
  all_goals (first | (omega) | omega | (simp only [*]; omega) | (simp; done))
 refine zS <| Qe rfl rfl <| Qa rfl <| JL.nil ?_
 refine zi (fun h51 h51' => ?_) fun h51 h51' => ?_
 ·
  refine Js.region <| Qf fh rfl <| Q0 1 rfl rfl rfl ?_
  refine JL.conv (fun w hw => St.cutRx (i := 2) (k := 1) rfl (by first | omega | (simp only [List.length_set, M.setI_length]; omega)) hw) ?_
  refine znl ?_
  refine Qq (p_slice (lo' := 1) (hi' := X6PX.pits.length) (mx' := c6r_0) el_26 rfl rfl ⟨rfl, rfl⟩ ⟨_, rfl, by omega⟩) <| Qf fh rfl <| zw 3 rfl rfl rfl ?_
  refine JL.nil ?_
  refine zf [0, 1, 1, 1, 1, 1, 1] fun GG52 => ?_
  refine zn ?_
  refine Js.blockEnd <| Js.seq ?_
  refine zk [2, 3] (fun F U l os u => l = F [] ∧ os = U [nO, nO, nO, nO, nO, some (boxO b2 [.slice (cutA 1 A6r_0 1 c6r_0) (X6PX.pits.length - 1) (c6r_0 - 1), .slice A6r_1 X6PX.stores.length c6r_1, .int .i64 X6PX.player] 28), some (boxO b1 [.int .i64 X3RX.pits, .int .i64 X3RX.seeds, .bool X3RX.stores, .bool X3RX.skip, .bool X3RX.relay, .bool X3RX.feed, .bool X3RX.again, .int .i64 X3RX.capture, .int .i64 X3RX.slam] 25)]) ?_ ?_
  ·
   refine zdr [2, 3] ?_
   refine JH.q 0 rfl (L9 4 rfl rfl) ?_
   refine y2 1 2 ?_ ?_
   ·
    refine JHo.q rfl (L9 2 rfl rfl) ?_
    refine y1 2 ?_
    refine yst rfl rfl rfl ?_
    refine y1 3 ?_
    refine yst rfl rfl rfl ?_
    refine yd ?_
    exact zm ⟨rfl, rfl⟩ (Up.refl _ _)
   refine yst rfl rfl rfl ?_
   refine y1 1 ?_
   refine JHo.q rfl (L9 2 rfl rfl) ?_
   refine y1 3 ?_
   refine yst rfl rfl rfl ?_
   refine yd ?_
   exact zm ⟨rfl, rfl⟩ (Up.refl _ _)
  rintro _ _ u53 ⟨rfl, rfl⟩ x53
  refine zn ?_
  refine zf [0, 0, 1, 2, 2] fun GG54 => ?_
  refine zn ?_
  refine zrb [1, 0, 0] hb x53 ?_
  have hNr1_0 : (X6PX.pits.drop 1).length = X6PX.pits.length - 1 := by first | rfl | assumption | omega | (simp only [List.length_set, M.setI_length]; done) | (simp only [List.length_set, M.setI_length]; first | rfl | assumption | omega) | (simp only [List.length_drop]; first | done | rfl | omega) | (simp; done) | (simp; omega)
  refine ⟨(X3RX), ((M.Pos.mk (X6PX.pits.drop 1) X6PX.stores X6PX.player)), (X11AT), (X11SD), (cutA 1 A6r_0 1 c6r_0), (c6r_0 - 1), A6r_1, c6r_1, g6r_1, (show (.tuple #[.agg #[.int .i64 X3RX.pits, .int .i64 X3RX.seeds, .bool X3RX.stores, .bool X3RX.skip, .bool X3RX.relay, .bool X3RX.feed, .bool X3RX.again, .int .i64 X3RX.capture, .int .i64 X3RX.slam], .agg #[.slice (cutA 1 A6r_0 1 c6r_0) (X6PX.pits.length - 1) (c6r_0 - 1), .slice A6r_1 X6PX.stores.length c6r_1, .int .i64 X6PX.player]] : Value) = .tuple #[.agg #[.int .i64 X3RX.pits, .int .i64 X3RX.seeds, .bool X3RX.stores, .bool X3RX.skip, .bool X3RX.relay, .bool X3RX.feed, .bool X3RX.again, .int .i64 X3RX.capture, .int .i64 X3RX.slam], .agg #[.slice (cutA 1 A6r_0 1 c6r_0) (X6PX.pits.drop 1).length (c6r_0 - 1), .slice A6r_1 X6PX.stores.length c6r_1, .int .i64 X6PX.player]] by rw [hNr1_0]), ?_, ?_, ?_, ?_, ?_, by first | trivial | omega | (refine ⟨?_, ?_⟩ <;> dsimp only <;> first | omega | (simp only [List.length_append, List.length_cons, List.length_nil, List.length_set]; omega)), by first | trivial | omega | (refine ⟨?_, ?_⟩ <;> dsimp only <;> first | omega | (simp only [List.length_append, List.length_cons, List.length_nil, List.length_set]; omega)), by first | trivial | omega | (refine ⟨?_, ?_⟩ <;> dsimp only <;> first | omega | (simp only [List.length_append, List.length_cons, List.length_nil, List.length_set]; omega)), by first | trivial | omega | (refine ⟨?_, ?_⟩ <;> dsimp only <;> first | omega | (simp only [List.length_append, List.length_cons, List.length_nil, List.length_set]; omega))⟩
  · exact r5_ hNr1_0
  all_goals (try dsimp only)
  all_goals (first | (rw [hNr1_0]; omega) | omega | (simp only [*]; omega) | (simp; done))
 refine zS <| Qe rfl rfl <| Qa rfl <| JL.nil ?_
 refine zi (fun h55 h55' => ?_) fun h55 h55' => ?_
 ·
  refine Js.region <| Qf fh rfl <| Q0 1 rfl rfl rfl <| zbs fun b56 => ?_
  refine JL.e (e_append (i := 4) (n' := (X6PX.stores ++ [0]).length) (vs' := ints_ (X6PX.stores ++ [0])) el_26 rfl rfl rfl rfl (src_row (i := 0) und_26 rfl rfl) (by omega) (by omega) ln2_ (by simp [ints_])) ?_
  rintro v58 _ _ ⟨⟨g59, rfl⟩, rfl⟩ _
  refine JL.fact (row_form' (i := 4) rfl) (fun hf60 => ?_)
  obtain ⟨A60, c60, rfl, bl60, bh60⟩ := hf60
  refine znl ?_
  refine Qf fh rfl <| zw 2 rfl rfl rfl ?_
  refine JL.nil ?_
  refine zf [1, 1, 1, 1, 1, 1, 1] fun GG61 => ?_
  refine zn ?_
  refine Js.blockEnd <| Js.seq ?_
  refine zk [2, 3] (fun F U l os u => l = F [] ∧ os = U [nO, nO, nO, nO, nO, some (boxO b2 [.slice A6r_0 X6PX.pits.length c6r_0, .slice A60 ((X6PX.stores ++ [0]).length) c60, .int .i64 X6PX.player] 28), some (boxO b1 [.int .i64 X3RX.pits, .int .i64 X3RX.seeds, .bool X3RX.stores, .bool X3RX.skip, .bool X3RX.relay, .bool X3RX.feed, .bool X3RX.again, .int .i64 X3RX.capture, .int .i64 X3RX.slam] 25)]) ?_ ?_
  ·
   refine zdr [2, 3] ?_
   refine JH.q 0 rfl (L9 4 rfl rfl) ?_
   refine y2 1 2 ?_ ?_
   ·
    refine JHo.q rfl (L9 1 rfl rfl) ?_
    refine y1 2 ?_
    refine yst rfl rfl rfl ?_
    refine y1 3 ?_
    refine yst rfl rfl rfl ?_
    refine yd ?_
    exact zm ⟨rfl, rfl⟩ (Up.refl _ _)
   refine yst rfl rfl rfl ?_
   refine y1 1 ?_
   refine JHo.q rfl (L9 1 rfl rfl) ?_
   refine y1 3 ?_
   refine yst rfl rfl rfl ?_
   refine yd ?_
   exact zm ⟨rfl, rfl⟩ (Up.refl _ _)
  rintro _ _ u62 ⟨rfl, rfl⟩ x62
  refine zn ?_
  refine zf [0, 1, 1, 2, 2] fun GG63 => ?_
  refine zn ?_
  refine Js.conv (fun w hw => St.toRx (i := 1) rfl hw) ?_
  refine zn ?_
  refine zrb [2, 0, 1] hb x62 ?_
  refine ⟨(X3RX), ((M.Pos.mk X6PX.pits (X6PX.stores ++ [0]) X6PX.player)), (X11AT), (X11SD), A6r_0, c6r_0, A60, c60, g59, rfl, ?_, ?_, ?_, ?_, ?_, by first | trivial | omega | (refine ⟨?_, ?_⟩ <;> dsimp only <;> first | omega | (simp only [List.length_append, List.length_cons, List.length_nil, List.length_set]; omega)), by first | trivial | omega | (refine ⟨?_, ?_⟩ <;> dsimp only <;> first | omega | (simp only [List.length_append, List.length_cons, List.length_nil, List.length_set]; omega)), by first | trivial | omega | (refine ⟨?_, ?_⟩ <;> dsimp only <;> first | omega | (simp only [List.length_append, List.length_cons, List.length_nil, List.length_set]; omega)), by first | trivial | omega | (refine ⟨?_, ?_⟩ <;> dsimp only <;> first | omega | (simp only [List.length_append, List.length_cons, List.length_nil, List.length_set]; omega))⟩
  · rfl
  all_goals (try dsimp only)
  all_goals (first | (omega) | omega | (simp only [*]; omega) | (simp; done))
 refine zS <| Qe rfl rfl <| Qa rfl <| JL.nil ?_
 refine zi (fun h64 h64' => ?_) fun h64 h64' => ?_
 ·
  refine zk [2, 3, 4, 5] (fun F U l os u => ∃ (G69 : List Nat) (b67 : Nat) (X69AT X69SD : Int) (b66 : Nat) (X69KX : Int), l = F [] ∧ os = [anyO G69, rowO 2 1 (.slice (some ⟨b67, 0, none⟩) 3 3) 3 [.int .i64 (-1), .int .i64 (IntKind.i64.wrap ((IntKind.i64.wrap (96 - (if 0 < (M.sum4 X6PX.pits) then (M.sum4 X6PX.pits) else 0))) - (M.nth X6PX.stores 1))), .int .i64 96] []] ++ U [some (boxO bs [.slice As_0 s_code cs_0, .int .i64 X69AT, .int .u64 X69SD] 105), some (boxO b7 [.slice A6r_0 X6PX.pits.length c6r_0, .slice (some ⟨b66, 0, none⟩) X6PX.stores.length c6r_1, .int .i64 X6PX.player] 28), nO, some (rowO 2 1 (.slice (some ⟨b66, 0, none⟩) X6PX.stores.length c6r_1) X6PX.stores.length (ints_ (X6PX.stores.set 0 X69KX)) g6r_1)] ∧ (X11AT ≤ X69AT) ∧ (X69AT ≤ X11AT + 2) ∧ (X69KX ∈ [(-1), (IntKind.i64.wrap ((IntKind.i64.wrap (96 - (if 0 < (M.sum4 X6PX.pits) then (M.sum4 X6PX.pits) else 0))) - (M.nth X6PX.stores 1))), 96])) ?_ ?_
  ·
   refine zdr [14, 16] ?_
   refine jF 0 fld_28_1 rfl rfl ?_
   refine jM 2 rfl rfl ?_
   refine jF 3 fld_28_0 rfl rfl ?_
   refine jB 4 1 ty_26 rfl rfl rfl rfl ?_
   refine jF 8 fld_28_1 rfl rfl ?_
   refine jB 9 1 ty_26 rfl rfl rfl rfl ?_
   refine JH.fact (row_some (i := 3) rfl (by omega)) (fun hf87 => ?_)
   obtain ⟨b87, rfl⟩ := hf87
   refine jI 10 el_26 rfl rfl rfl rfl ?_
   refine JH.q 11 rfl (q_load1 ty_2.h rfl (Mem.row (i := 3) rfl (ints_get (i := 1) (by omega)))) ?_
   refine y2 1 5 ?_ ?_
   ·
    refine JHo.q rfl (q_load1 ty_26.h rfl (Mem.box (i := 1) rfl rfl)) ?_
    refine y1 5 ?_
    refine yv rfl rfl (fun w hw => c_spec_l04Sum X6PX.pits (ok_ hw)) ?_
    refine y1 6 ?_
    refine yv rfl rfl (fun w hw => c_spec_l00Max 0 (M.sum4 X6PX.pits)) ?_
    refine JH.p 7 rfl (p_sub rfl rfl rfl) ?_
    refine JH.p 12 rfl (p_sub rfl rfl rfl) ?_
    refine y1 13 ?_
    refine ybs rfl fun b88 => ?_
    refine y1 14 ?_
    refine zhh [1] ?_
    refine yBB 1 sp_ rfl rfl (fun w hb _ hw => c_spec_l00Src_among s_code X11AT X11SD [(-1), (IntKind.i64.wrap ((IntKind.i64.wrap (96 - (if 0 < (M.sum4 X6PX.pits) then (M.sum4 X6PX.pits) else 0))) - (M.nth X6PX.stores 1))), 96] hb (ok_ hw) (ints_rowok (xs := [(-1), (IntKind.i64.wrap ((IntKind.i64.wrap (96 - (if 0 < (M.sum4 X6PX.pits) then (M.sum4 X6PX.pits) else 0))) - (M.nth X6PX.stores 1))), 96]) (hw.pr (i := 0) rfl)) (r3 := (by simp)) (r4 := (by simp))) ?_
    rintro _ _ G90 ⟨X90KX, X90AT, X90SD, rfl, rfl, hX90_0, hX90_1, hX90_2⟩
    refine znh ?_
    refine jI 15 el_26 rfl rfl rfl rfl ?_
    refine y1 16 ?_
    refine JHo.s rfl (e_storeRow (i := 5) (xs' := ints_ (X6PX.stores.set 0 X90KX)) ty_2.h rfl rfl rfl rfl rfl rfl (ints_lt (i := 0) (by omega)) (ints_setL (i := 0) (by omega))) (.inr rfl) ?_
    rintro _ _ _ ⟨rfl, rfl⟩ _
    refine znh ?_
    refine yd ?_
    refine zh [1, 1, 0, 0, 0, 0, 0, 0, 0, 0] ?_
    exact zm ⟨_, _, _, _, _, _, rfl, rfl, zt, zt, zt⟩ (Up.refl _ _) ⟨rfl, rfl, rfl, rfl, trivial⟩
   refine yv rfl rfl (fun w hw => c_spec_l04Sum X6PX.pits (ok_ hw)) ?_
   refine y2 1 6 ?_ ?_
   ·
    refine JHo.q rfl (q_load1 ty_26.h rfl (Mem.box (i := 1) rfl rfl)) ?_
    refine y1 6 ?_
    refine yv rfl rfl (fun w hw => c_spec_l00Max 0 (M.sum4 X6PX.pits)) ?_
    refine JH.p 7 rfl (p_sub rfl rfl rfl) ?_
    refine JH.p 12 rfl (p_sub rfl rfl rfl) ?_
    refine y1 13 ?_
    refine ybs rfl fun b92 => ?_
    refine y1 14 ?_
    refine zhh [1] ?_
    refine yBB 1 sp_ rfl rfl (fun w hb _ hw => c_spec_l00Src_among s_code X11AT X11SD [(-1), (IntKind.i64.wrap ((IntKind.i64.wrap (96 - (if 0 < (M.sum4 X6PX.pits) then (M.sum4 X6PX.pits) else 0))) - (M.nth X6PX.stores 1))), 96] hb (ok_ hw) (ints_rowok (xs := [(-1), (IntKind.i64.wrap ((IntKind.i64.wrap (96 - (if 0 < (M.sum4 X6PX.pits) then (M.sum4 X6PX.pits) else 0))) - (M.nth X6PX.stores 1))), 96]) (hw.pr (i := 0) rfl)) (r3 := (by simp)) (r4 := (by simp))) ?_
    rintro _ _ G94 ⟨X94KX, X94AT, X94SD, rfl, rfl, hX94_0, hX94_1, hX94_2⟩
    refine znh ?_
    refine jI 15 el_26 rfl rfl rfl rfl ?_
    refine y1 16 ?_
    refine JHo.s rfl (e_storeRow (i := 5) (xs' := ints_ (X6PX.stores.set 0 X94KX)) ty_2.h rfl rfl rfl rfl rfl rfl (ints_lt (i := 0) (by omega)) (ints_setL (i := 0) (by omega))) (.inr rfl) ?_
    rintro _ _ _ ⟨rfl, rfl⟩ _
    refine znh ?_
    refine yd ?_
    refine zh [1, 1, 0, 0, 0, 0, 0, 0, 0, 0] ?_
    exact zm ⟨_, _, _, _, _, _, rfl, rfl, zt, zt, zt⟩ (Up.refl _ _) ⟨rfl, rfl, rfl, rfl, trivial⟩
   refine yv rfl rfl (fun w hw => c_spec_l00Max 0 (M.sum4 X6PX.pits)) ?_
   refine JH.p 7 rfl (p_sub rfl rfl rfl) ?_
   refine JH.p 12 rfl (p_sub rfl rfl rfl) ?_
   refine y2 1 13 ?_ ?_
   ·
    refine JHo.q rfl (q_load1 ty_26.h rfl (Mem.box (i := 1) rfl rfl)) ?_
    refine y1 13 ?_
    refine ybs rfl fun b96 => ?_
    refine y1 14 ?_
    refine zhh [1] ?_
    refine yBB 1 sp_ rfl rfl (fun w hb _ hw => c_spec_l00Src_among s_code X11AT X11SD [(-1), (IntKind.i64.wrap ((IntKind.i64.wrap (96 - (if 0 < (M.sum4 X6PX.pits) then (M.sum4 X6PX.pits) else 0))) - (M.nth X6PX.stores 1))), 96] hb (ok_ hw) (ints_rowok (xs := [(-1), (IntKind.i64.wrap ((IntKind.i64.wrap (96 - (if 0 < (M.sum4 X6PX.pits) then (M.sum4 X6PX.pits) else 0))) - (M.nth X6PX.stores 1))), 96]) (hw.pr (i := 0) rfl)) (r3 := (by simp)) (r4 := (by simp))) ?_
    rintro _ _ G98 ⟨X98KX, X98AT, X98SD, rfl, rfl, hX98_0, hX98_1, hX98_2⟩
    refine znh ?_
    refine jI 15 el_26 rfl rfl rfl rfl ?_
    refine y1 16 ?_
    refine JHo.s rfl (e_storeRow (i := 5) (xs' := ints_ (X6PX.stores.set 0 X98KX)) ty_2.h rfl rfl rfl rfl rfl rfl (ints_lt (i := 0) (by omega)) (ints_setL (i := 0) (by omega))) (.inr rfl) ?_
    rintro _ _ _ ⟨rfl, rfl⟩ _
    refine znh ?_
    refine yd ?_
    refine zh [1, 1, 0, 0, 0, 0, 0, 0, 0, 0] ?_
    exact zm ⟨_, _, _, _, _, _, rfl, rfl, zt, zt, zt⟩ (Up.refl _ _) ⟨rfl, rfl, rfl, rfl, trivial⟩
   refine ybs rfl fun b100 => ?_
   refine y2 1 14 ?_ ?_
   ·
    refine JHo.q rfl (q_load1 ty_26.h rfl (Mem.box (i := 2) rfl rfl)) ?_
    refine y1 14 ?_
    refine zhh [1] ?_
    refine yBB 1 sp_ rfl rfl (fun w hb _ hw => c_spec_l00Src_among s_code X11AT X11SD [(-1), (IntKind.i64.wrap ((IntKind.i64.wrap (96 - (if 0 < (M.sum4 X6PX.pits) then (M.sum4 X6PX.pits) else 0))) - (M.nth X6PX.stores 1))), 96] hb (ok_ hw) (ints_rowok (xs := [(-1), (IntKind.i64.wrap ((IntKind.i64.wrap (96 - (if 0 < (M.sum4 X6PX.pits) then (M.sum4 X6PX.pits) else 0))) - (M.nth X6PX.stores 1))), 96]) (hw.pr (i := 0) rfl)) (r3 := (by simp)) (r4 := (by simp))) ?_
    rintro _ _ G102 ⟨X102KX, X102AT, X102SD, rfl, rfl, hX102_0, hX102_1, hX102_2⟩
    refine znh ?_
    refine jI 15 el_26 rfl rfl rfl rfl ?_
    refine y1 16 ?_
    refine JHo.s rfl (e_storeRow (i := 5) (xs' := ints_ (X6PX.stores.set 0 X102KX)) ty_2.h rfl rfl rfl rfl rfl rfl (ints_lt (i := 0) (by omega)) (ints_setL (i := 0) (by omega))) (.inr rfl) ?_
    rintro _ _ _ ⟨rfl, rfl⟩ _
    refine znh ?_
    refine yd ?_
    refine zh [1, 1, 0, 0, 0, 0, 0, 0, 0, 0] ?_
    exact zm ⟨_, _, _, _, _, _, rfl, rfl, zt, zt, zt⟩ (Up.refl _ _) ⟨rfl, rfl, rfl, rfl, trivial⟩
   refine zhh [1] ?_
   refine yBB 1 sp_ rfl rfl (fun w hb _ hw => c_spec_l00Src_among s_code X11AT X11SD [(-1), (IntKind.i64.wrap ((IntKind.i64.wrap (96 - (if 0 < (M.sum4 X6PX.pits) then (M.sum4 X6PX.pits) else 0))) - (M.nth X6PX.stores 1))), 96] hb (ok_ hw) (ints_rowok (xs := [(-1), (IntKind.i64.wrap ((IntKind.i64.wrap (96 - (if 0 < (M.sum4 X6PX.pits) then (M.sum4 X6PX.pits) else 0))) - (M.nth X6PX.stores 1))), 96]) (hw.pr (i := 0) rfl)) (r3 := (by simp)) (r4 := (by simp))) ?_
   rintro _ _ G104 ⟨X104KX, X104AT, X104SD, rfl, rfl, hX104_0, hX104_1, hX104_2⟩
   refine znh ?_
   refine y1 1 ?_
   refine JHo.q rfl (q_load1 ty_26.h rfl (Mem.box (i := 3) rfl rfl)) ?_
   refine jI 15 el_26 rfl rfl rfl rfl ?_
   refine y1 16 ?_
   refine JHo.s rfl (e_storeRow (i := 5) (xs' := ints_ (X6PX.stores.set 0 X104KX)) ty_2.h rfl rfl rfl rfl rfl rfl (ints_lt (i := 0) (by omega)) (ints_setL (i := 0) (by omega))) (.inr rfl) ?_
   rintro _ _ _ ⟨rfl, rfl⟩ _
   refine znh ?_
   refine yd ?_
   refine zh [1, 1, 0, 0, 0, 0, 0, 0, 0, 0] ?_
   exact zm ⟨_, _, _, _, _, _, rfl, rfl, zt, zt, zt⟩ (Up.refl _ _) ⟨rfl, rfl, rfl, rfl, trivial⟩
  rintro _ _ u85 ⟨G69, b67, X69AT, X69SD, b66, X69KX, rfl, rfl, f85_0, f85_1, f85_2⟩ x85
  refine zn ?_
  refine zf [2, 2, 2, 2, 2, 2, 2] fun GG106 => ?_
  refine zn ?_
  refine Js.blockEnd <| Js.seq ?_
  refine zk [2, 3] (fun F U l os u => l = F [] ∧ os = U [nO, nO, nO, nO, nO, some (boxO b2 [.slice A6r_0 X6PX.pits.length c6r_0, .slice (some ⟨b66, 0, none⟩) X6PX.stores.length c6r_1, .int .i64 X6PX.player] 28), some (boxO b1 [.int .i64 X3RX.pits, .int .i64 X3RX.seeds, .bool X3RX.stores, .bool X3RX.skip, .bool X3RX.relay, .bool X3RX.feed, .bool X3RX.again, .int .i64 X3RX.capture, .int .i64 X3RX.slam] 25)]) ?_ ?_
  ·
   refine zdr [2, 3] ?_
   refine JH.q 0 rfl (L9 4 rfl rfl) ?_
   refine y2 1 2 ?_ ?_
   ·
    refine JHo.q rfl (L9 1 rfl rfl) ?_
    refine y1 2 ?_
    refine yst rfl rfl rfl ?_
    refine y1 3 ?_
    refine yst rfl rfl rfl ?_
    refine yd ?_
    exact zm ⟨rfl, rfl⟩ (Up.refl _ _)
   refine yst rfl rfl rfl ?_
   refine y1 1 ?_
   refine JHo.q rfl (L9 1 rfl rfl) ?_
   refine y1 3 ?_
   refine yst rfl rfl rfl ?_
   refine yd ?_
   exact zm ⟨rfl, rfl⟩ (Up.refl _ _)
  rintro _ _ u107 ⟨rfl, rfl⟩ x107
  refine zn ?_
  refine zf [0, 1, 1, 2, 2] fun GG108 => ?_
  refine zn ?_
  refine Js.conv (fun w hw => St.toRx (i := 1) rfl hw) ?_
  refine zn ?_
  refine zrb [2, 0, 1] hb (x85.trans x107) ?_
  have hNr1_1 : (X6PX.stores.set 0 X69KX).length = X6PX.stores.length := by first | rfl | assumption | omega | (simp only [List.length_set, M.setI_length]; done) | (simp only [List.length_set, M.setI_length]; first | rfl | assumption | omega) | (simp only [List.length_drop]; first | done | rfl | omega) | (simp; done) | (simp; omega)
  refine ⟨(X3RX), ((M.Pos.mk X6PX.pits (X6PX.stores.set 0 X69KX) X6PX.player)), (X69AT), (X69SD), A6r_0, c6r_0, (some ⟨b66, 0, none⟩), c6r_1, g6r_1, (show (.tuple #[.agg #[.int .i64 X3RX.pits, .int .i64 X3RX.seeds, .bool X3RX.stores, .bool X3RX.skip, .bool X3RX.relay, .bool X3RX.feed, .bool X3RX.again, .int .i64 X3RX.capture, .int .i64 X3RX.slam], .agg #[.slice A6r_0 X6PX.pits.length c6r_0, .slice (some ⟨b66, 0, none⟩) X6PX.stores.length c6r_1, .int .i64 X6PX.player]] : Value) = .tuple #[.agg #[.int .i64 X3RX.pits, .int .i64 X3RX.seeds, .bool X3RX.stores, .bool X3RX.skip, .bool X3RX.relay, .bool X3RX.feed, .bool X3RX.again, .int .i64 X3RX.capture, .int .i64 X3RX.slam], .agg #[.slice A6r_0 X6PX.pits.length c6r_0, .slice (some ⟨b66, 0, none⟩) (X6PX.stores.set 0 X69KX).length c6r_1, .int .i64 X6PX.player]] by rw [hNr1_1]), ?_, ?_, ?_, ?_, ?_, by first | trivial | omega | (refine ⟨?_, ?_⟩ <;> dsimp only <;> first | omega | (simp only [List.length_append, List.length_cons, List.length_nil, List.length_set]; omega)), by first | trivial | omega | (refine ⟨?_, ?_⟩ <;> dsimp only <;> first | omega | (simp only [List.length_append, List.length_cons, List.length_nil, List.length_set]; omega)), by first | trivial | omega | (refine ⟨?_, ?_⟩ <;> dsimp only <;> first | omega | (simp only [List.length_append, List.length_cons, List.length_nil, List.length_set]; omega)), by first | trivial | omega | (refine ⟨?_, ?_⟩ <;> dsimp only <;> first | omega | (simp only [List.length_append, List.length_cons, List.length_nil, List.length_set]; omega))⟩
  · exact r5_ hNr1_1
  all_goals (try dsimp only)
  all_goals (first | (rw [hNr1_1]; omega) | omega | (simp only [*]; omega) | (simp; done))
 refine zS <| Qe rfl rfl <| Qa rfl <| JL.nil ?_
 refine zi (fun h109 h109' => ?_) fun h109 h109' => ?_
 ·
  refine Js.region <| Qm rfl <| zBB 1 sp_ rfl (fun w hb _ hw => c_spec_l02Bent s_code X11AT X11SD hb (ok_ hw)) ?_
  rintro _ _ G110 ⟨X110RX, X110AT, X110SD, rfl, rfl, hX110_0, hX110_1, hX110_2⟩
  refine znl ?_
  refine zw 5 rfl rfl rfl ?_
  refine JL.nil ?_
  refine zf [0, 1, 1, 1, 1, 1, 1] fun GG111 => ?_
  refine zn ?_
  refine Js.blockEnd <| Js.seq ?_
  refine zk [2, 3] (fun F U l os u => l = F [] ∧ os = U [nO, nO, nO, nO, nO, some (boxO b2 [.slice A6r_0 X6PX.pits.length c6r_0, .slice A6r_1 X6PX.stores.length c6r_1, .int .i64 X6PX.player] 28), some (boxO b1 [.int .i64 X110RX.pits, .int .i64 X110RX.seeds, .bool X110RX.stores, .bool X110RX.skip, .bool X110RX.relay, .bool X110RX.feed, .bool X110RX.again, .int .i64 X110RX.capture, .int .i64 X110RX.slam] 25)]) ?_ ?_
  ·
   refine zdr [2, 3] ?_
   refine JH.q 0 rfl (L9 4 rfl rfl) ?_
   refine y2 1 2 ?_ ?_
   ·
    refine JHo.q rfl (L9 1 rfl rfl) ?_
    refine y1 2 ?_
    refine yst rfl rfl rfl ?_
    refine y1 3 ?_
    refine yst rfl rfl rfl ?_
    refine yd ?_
    exact zm ⟨rfl, rfl⟩ (Up.refl _ _)
   refine yst rfl rfl rfl ?_
   refine y1 1 ?_
   refine JHo.q rfl (L9 1 rfl rfl) ?_
   refine y1 3 ?_
   refine yst rfl rfl rfl ?_
   refine yd ?_
   exact zm ⟨rfl, rfl⟩ (Up.refl _ _)
  rintro _ _ u112 ⟨rfl, rfl⟩ x112
  refine zn ?_
  refine zf [0, 1, 1, 2, 2] fun GG113 => ?_
  refine zn ?_
  refine Js.conv (fun w hw => St.toRx (i := 1) rfl hw) ?_
  refine zn ?_
  refine zrb [2, 0, 1] hb x112 ?_
  refine ⟨(X110RX), (X6PX), (X110AT), (X110SD), A6r_0, c6r_0, A6r_1, c6r_1, g6r_1, rfl, ?_, ?_, ?_, ?_, ?_, by first | trivial | omega | (refine ⟨?_, ?_⟩ <;> dsimp only <;> first | omega | (simp only [List.length_append, List.length_cons, List.length_nil, List.length_set]; omega)), by first | trivial | omega | (refine ⟨?_, ?_⟩ <;> dsimp only <;> first | omega | (simp only [List.length_append, List.length_cons, List.length_nil, List.length_set]; omega)), by first | trivial | omega | (refine ⟨?_, ?_⟩ <;> dsimp only <;> first | omega | (simp only [List.length_append, List.length_cons, List.length_nil, List.length_set]; omega)), by first | trivial | omega | (refine ⟨?_, ?_⟩ <;> dsimp only <;> first | omega | (simp only [List.length_append, List.length_cons, List.length_nil, List.length_set]; omega))⟩
  · rfl
  all_goals (try dsimp only)
  all_goals (first | (omega) | omega | (simp only [*]; omega) | (simp; done))
 refine Js.skip <| Js.blockEnd <| Js.seq ?_
 refine zk [2, 3] (fun F U l os u => l = F [] ∧ os = U [nO, nO, nO, nO, nO, some (boxO b2 [.slice A6r_0 X6PX.pits.length c6r_0, .slice A6r_1 X6PX.stores.length c6r_1, .int .i64 X6PX.player] 28), some (boxO b1 [.int .i64 X3RX.pits, .int .i64 X3RX.seeds, .bool X3RX.stores, .bool X3RX.skip, .bool X3RX.relay, .bool X3RX.feed, .bool X3RX.again, .int .i64 X3RX.capture, .int .i64 X3RX.slam] 25)]) ?_ ?_
 ·
  refine zdr [2, 3] ?_
  refine JH.q 0 rfl (L9 4 rfl rfl) ?_
  refine y2 1 2 ?_ ?_
  ·
   refine JHo.q rfl (L9 1 rfl rfl) ?_
   refine y1 2 ?_
   refine yst rfl rfl rfl ?_
   refine y1 3 ?_
   refine yst rfl rfl rfl ?_
   refine yd ?_
   exact zm ⟨rfl, rfl⟩ (Up.refl _ _)
  refine yst rfl rfl rfl ?_
  refine y1 1 ?_
  refine JHo.q rfl (L9 1 rfl rfl) ?_
  refine y1 3 ?_
  refine yst rfl rfl rfl ?_
  refine yd ?_
  exact zm ⟨rfl, rfl⟩ (Up.refl _ _)
 rintro _ _ u114 ⟨rfl, rfl⟩ x114
 refine zn ?_
 refine zf [0, 1, 1, 2, 2] fun GG115 => ?_
 refine zn ?_
 refine Js.conv (fun w hw => St.toRx (i := 1) rfl hw) ?_
 refine zn ?_
 refine zrb [2, 0, 1] hb x114 ?_
 refine ⟨(X3RX), (X6PX), (X11AT), (X11SD), A6r_0, c6r_0, A6r_1, c6r_1, g6r_1, rfl, ?_, ?_, ?_, ?_, ?_, by first | trivial | omega | (refine ⟨?_, ?_⟩ <;> dsimp only <;> first | omega | (simp only [List.length_append, List.length_cons, List.length_nil, List.length_set]; omega)), by first | trivial | omega | (refine ⟨?_, ?_⟩ <;> dsimp only <;> first | omega | (simp only [List.length_append, List.length_cons, List.length_nil, List.length_set]; omega)), by first | trivial | omega | (refine ⟨?_, ?_⟩ <;> dsimp only <;> first | omega | (simp only [List.length_append, List.length_cons, List.length_nil, List.length_set]; omega)), by first | trivial | omega | (refine ⟨?_, ?_⟩ <;> dsimp only <;> first | omega | (simp only [List.length_append, List.length_cons, List.length_nil, List.length_set]; omega))⟩
 · rfl
 all_goals (try dsimp only)
 all_goals (first | (omega) | omega | (simp only [*]; omega) | (simp; done))
end Go.Proofs.Ytjgohnaobbphpaa

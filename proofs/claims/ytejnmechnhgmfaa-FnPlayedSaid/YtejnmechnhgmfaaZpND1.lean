/- Walks: D1. -/
import Derived.Test.YtejnmechnhgmfaaZpTn
import Derived.Test.YtejnmechnhgmfaaZpNK5
import Derived.Test.YtejnmechnhgmfaaZpNK6
import Derived.Test.YtejnmechnhgmfaaZpF14
import Derived.Test.YtejnmechnhgmfaaZpM8
set_option linter.unusedSimpArgs false
set_option linter.unusedVariables false
set_option maxRecDepth 100000
attribute [local irreducible] Go.Proofs.Ytejnmechnhgmfaa.gv
namespace Go.Proofs.Ytejnmechnhgmfaa
open Go.RowKit

set_option maxHeartbeats 1000000 in
theorem c_spec_l00From (code : Nat) {v_code : Value} {w : World} (h_code : (Ty.bytes 5 code).ok w v_code) : Ret Try.prog 92 [v_code] w (Ty.box 118 [Ty.val v_code, Ty.int 0, Ty.val (.int .u64 0)]) := by
 revert v_code; apply opn
 intro A1 c1 h1 bl1 bh1
 have h_code := h1
 refine enter @Try.func92 @Try.ntmps92 rfl rfl ?_
 refine zent ?_
 refine zS <| Qa rfl <| zN <| Qm rfl <| Qb ?_
 refine zb rfl fun b2 => Qa rfl <| JL.nil ?_
 exact zro (Up.refl _ _)

set_option maxHeartbeats 1000000 in
theorem c_spec_l00Src_next (s_code : Nat) (s_at s_seed : Int) {As_0 : Option Addr} {cs_0 bs : Nat} {w : World} (hb : Bw w [boxO bs [.slice As_0 s_code cs_0, .int .i64 s_at, .int .u64 s_seed] 118]) (hps_0 : (Ty.bytes 5 s_code).ok (offW w (([boxO bs [.slice As_0 s_code cs_0, .int .i64 s_at, .int .u64 s_seed] 118] : List Own).flatMap (·.fp))) (.slice As_0 s_code cs_0)) (r0 : 0 ≤ s_at := by exact om_) (r1 : s_at ≤ 999999999 := by exact om_) (r2 : s_code ≤ 1048576 := by exact om_) : RetB Try.prog 119 [.pointer (some ⟨bs, 0, none⟩)] w [boxO bs [.slice As_0 s_code cs_0, .int .i64 s_at, .int .u64 s_seed] 118] (fun v bs' => ∃ (KX AT SD : Int), v = .int .i64 KX ∧ bs' = [boxO bs [.slice As_0 s_code cs_0, .int .i64 AT, .int .u64 SD] 118] ∧ (0 ≤ KX) ∧ (KX ≤ 255) ∧ (s_at ≤ AT) ∧ (AT ≤ s_at + 1)) := by
 refine enterB hb @Try.func119 @Try.ntmps119 rfl rfl ?_
 refine zent ?_
 refine Js.trashE ?_
 refine zn ?_
 refine zS <| Qa rfl <| zN <| Qa rfl <| zJ <| Js.seq ?_
 refine zdr [] ?_
 refine JH.p 0 rfl (p_move rfl) ?_
 refine JH.p 1 rfl (p_nilCheck rfl) ?_
 refine JH.p 2 rfl (p_fieldAddr fld_118_1.h rfl) ?_
 refine JH.q 3 rfl (q_load1 ty_3.h rfl (Mem.box (i := 0) rfl rfl)) ?_
 refine JH.p 4 rfl (p_move rfl) ?_
 refine JH.p 5 rfl (p_nilCheck rfl) ?_
 refine JH.p 6 rfl (p_fieldAddr fld_118_0.h rfl) ?_
 refine JH.q 7 rfl (q_load1 ty_61.h rfl (Mem.box (i := 0) rfl rfl)) ?_
 refine JH.p 8 rfl (p_len el_61 rfl) ?_
 refine JH.p 9 rfl (p_lss rfl rfl) ?_
 refine yd ?_
 refine zi (fun h1 h1' => ?_) fun h1 h1' => ?_
 ·
  refine zdr [] ?_
  refine JH.p 0 rfl (p_move rfl) ?_
  refine JH.p 1 rfl (p_nilCheck rfl) ?_
  refine JH.p 2 rfl (p_fieldAddr fld_118_0.h rfl) ?_
  refine JH.q 3 rfl (q_load1 ty_61.h rfl (Mem.box (i := 0) rfl rfl)) ?_
  refine JH.p 4 rfl (p_move rfl) ?_
  refine JH.p 5 rfl (p_nilCheck rfl) ?_
  refine JH.p 6 rfl (p_fieldAddr fld_118_1.h rfl) ?_
  refine JH.q 7 rfl (q_load1 ty_3.h rfl (Mem.box (i := 0) rfl rfl)) ?_
  obtain ⟨b2, o2, z2, he2, hc2, hz2⟩ := bytes_elem hps_0 (i := s_at.toNat) (by omega)
  refine JH.p 8 rfl (p_indexAddr el_61 rfl rfl (by omega) (by omega) he2) ?_
  refine JH.w 9 rfl (fun os' u' hv => q_load1 ty_5.h rfl (Mem.pub (hc2.vis hv))) ?_
  refine y1 10 ?_
  refine JHo.q rfl (OpP.q (p_conv @Try.underlying5 @Try.underlying3 rfl (IntWalk.i64_in _ (by omega)))) ?_
  refine JH.p 11 rfl (p_assign rfl) ?_
  refine yd ?_
  refine zS <| Qm rfl <| Qc rfl <| Qf fh rfl <| Q0 0 rfl rfl rfl <| Qp rfl rfl <| Qc rfl <| Qf fh rfl <| zw 0 rfl rfl rfl ?_
  refine zN <| Qm rfl <| Qm rfl <| Qc rfl <| Qf fh rfl <| Q0 0 rfl rfl rfl <| Qq (p_mul rfl rfl rfl) <| Qm rfl <| Qq (p_conv @Try.underlying3 @Try.underlying116 rfl rfl) <| Qq (p_add rfl rfl rfl) <| Qq (p_add rfl rfl rfl) <| Qc rfl <| Qf fh rfl <| zw 0 rfl rfl rfl ?_
  refine zJ <| Js.seq ?_
  refine zdr [] ?_
  refine JH.p 0 rfl (p_move rfl) ?_
  refine JH.p 1 rfl (p_nilCheck rfl) ?_
  refine JH.p 2 rfl (p_fieldAddr fld_118_1.h rfl) ?_
  refine JH.q 3 rfl (q_load1 ty_3.h rfl (Mem.box (i := 0) rfl rfl)) ?_
  refine JH.p 4 rfl (p_move rfl) ?_
  refine JH.p 5 rfl (p_nilCheck rfl) ?_
  refine JH.p 6 rfl (p_fieldAddr fld_118_0.h rfl) ?_
  refine JH.q 7 rfl (q_load1 ty_61.h rfl (Mem.box (i := 0) rfl rfl)) ?_
  refine JH.p 8 rfl (p_len el_61 rfl) ?_
  refine JH.p 9 rfl (p_leq rfl rfl) ?_
  refine yd ?_
  refine zi (fun h3 h3' => ?_) fun h3 h3' => ?_
  ·
   refine zS <| Qm rfl <| Qa rfl <| JL.nil ?_
   refine zrb [0] hb (Up.refl _ _) ?_
   exact ⟨(z2), ((s_at + 1)), ((IntKind.u64.wrap ((IntKind.u64.wrap ((IntKind.u64.wrap (s_seed * 6364136223846793005)) + (IntKind.u64.wrap z2))) + 1442695040888963407))), rfl, rfl, zt, zt, zt, zt⟩
  have had4 := andI_255 ((IntKind.u64.wrap ((IntKind.u64.wrap ((IntKind.u64.wrap (s_seed * 6364136223846793005)) + (IntKind.u64.wrap z2))) + 1442695040888963407)).fdiv (2 ^ (min (40 : Int).toNat IntKind.u64.bits)))
  refine Js.skip <| zS <| Qm rfl <| Qc rfl <| Qf fh rfl <| Q0 0 rfl rfl rfl <| Qq (p_shr rfl rfl (by decide)) <| Qq (p_and rfl rfl) <| Qq (p_conv @Try.underlying116 @Try.underlying2 rfl (IntWalk.i64_in _ (by omega))) <| Qa rfl <| JL.nil ?_
  refine zrb [0] hb (Up.refl _ _) ?_
  exact ⟨(andI .u64 ((IntKind.u64.wrap ((IntKind.u64.wrap ((IntKind.u64.wrap (s_seed * 6364136223846793005)) + (IntKind.u64.wrap z2))) + 1442695040888963407)).fdiv (2 ^ (min (40 : Int).toNat IntKind.u64.bits))) 255), ((s_at + 1)), ((IntKind.u64.wrap ((IntKind.u64.wrap ((IntKind.u64.wrap (s_seed * 6364136223846793005)) + (IntKind.u64.wrap z2))) + 1442695040888963407))), rfl, rfl, zt, zt, zt, zt⟩
 refine Js.skip <| zS <| Qm rfl <| Qc rfl <| Qf fh rfl <| Q0 0 rfl rfl rfl <| Qp rfl rfl <| Qc rfl <| Qf fh rfl <| zw 0 rfl rfl rfl ?_
 refine zN <| Qm rfl <| Qm rfl <| Qc rfl <| Qf fh rfl <| Q0 0 rfl rfl rfl <| Qq (p_mul rfl rfl rfl) <| Qm rfl <| Qq (p_conv @Try.underlying3 @Try.underlying116 rfl rfl) <| Qq (p_add rfl rfl rfl) <| Qq (p_add rfl rfl rfl) <| Qc rfl <| Qf fh rfl <| zw 0 rfl rfl rfl ?_
 refine zJ <| Js.seq ?_
 refine zdr [] ?_
 refine JH.p 0 rfl (p_move rfl) ?_
 refine JH.p 1 rfl (p_nilCheck rfl) ?_
 refine JH.p 2 rfl (p_fieldAddr fld_118_1.h rfl) ?_
 refine JH.q 3 rfl (q_load1 ty_3.h rfl (Mem.box (i := 0) rfl rfl)) ?_
 refine JH.p 4 rfl (p_move rfl) ?_
 refine JH.p 5 rfl (p_nilCheck rfl) ?_
 refine JH.p 6 rfl (p_fieldAddr fld_118_0.h rfl) ?_
 refine JH.q 7 rfl (q_load1 ty_61.h rfl (Mem.box (i := 0) rfl rfl)) ?_
 refine JH.p 8 rfl (p_len el_61 rfl) ?_
 refine JH.p 9 rfl (p_leq rfl rfl) ?_
 refine yd ?_
 refine zi (fun h5 h5' => ?_) fun h5 h5' => ?_
 ·
  refine zS <| Qm rfl <| Qa rfl <| JL.nil ?_
  refine zrb [0] hb (Up.refl _ _) ?_
  exact ⟨(0), ((s_at + 1)), ((IntKind.u64.wrap ((IntKind.u64.wrap ((IntKind.u64.wrap (s_seed * 6364136223846793005)) + (IntKind.u64.wrap 0))) + 1442695040888963407))), rfl, rfl, zt, zt, zt, zt⟩
 have had6 := andI_255 ((IntKind.u64.wrap ((IntKind.u64.wrap ((IntKind.u64.wrap (s_seed * 6364136223846793005)) + (IntKind.u64.wrap 0))) + 1442695040888963407)).fdiv (2 ^ (min (40 : Int).toNat IntKind.u64.bits)))
 refine Js.skip <| zS <| Qm rfl <| Qc rfl <| Qf fh rfl <| Q0 0 rfl rfl rfl <| Qq (p_shr rfl rfl (by decide)) <| Qq (p_and rfl rfl) <| Qq (p_conv @Try.underlying116 @Try.underlying2 rfl (IntWalk.i64_in _ (by omega))) <| Qa rfl <| JL.nil ?_
 refine zrb [0] hb (Up.refl _ _) ?_
 exact ⟨(andI .u64 ((IntKind.u64.wrap ((IntKind.u64.wrap ((IntKind.u64.wrap (s_seed * 6364136223846793005)) + (IntKind.u64.wrap 0))) + 1442695040888963407)).fdiv (2 ^ (min (40 : Int).toNat IntKind.u64.bits))) 255), ((s_at + 1)), ((IntKind.u64.wrap ((IntKind.u64.wrap ((IntKind.u64.wrap (s_seed * 6364136223846793005)) + (IntKind.u64.wrap 0))) + 1442695040888963407))), rfl, rfl, zt, zt, zt, zt⟩

set_option maxHeartbeats 1000000 in
theorem c_spec_l00Src_pick (s_code : Nat) (s_at s_seed : Int) {As_0 : Option Addr} {cs_0 : Nat} (n : Int) {bs : Nat} {w : World} (hb : Bw w [boxO bs [.slice As_0 s_code cs_0, .int .i64 s_at, .int .u64 s_seed] 118]) (hps_0 : (Ty.bytes 5 s_code).ok (offW w (([boxO bs [.slice As_0 s_code cs_0, .int .i64 s_at, .int .u64 s_seed] 118] : List Own).flatMap (·.fp))) (.slice As_0 s_code cs_0)) (r0 : 0 ≤ s_at := by exact om_) (r1 : s_at ≤ 999999998 := by exact om_) (r2 : s_code ≤ 1048576 := by exact om_) (r3 : n ≤ 1000000 := by exact om_) : RetB Try.prog 96 [.pointer (some ⟨bs, 0, none⟩), .int .i64 n] w [boxO bs [.slice As_0 s_code cs_0, .int .i64 s_at, .int .u64 s_seed] 118] (fun v bs' => ∃ (KX AT SD : Int), v = .int .i64 KX ∧ bs' = [boxO bs [.slice As_0 s_code cs_0, .int .i64 AT, .int .u64 SD] 118] ∧ (0 ≤ KX) ∧ (KX = 0 ∨ KX < n) ∧ (s_at ≤ AT) ∧ (AT ≤ s_at + 2)) := by
 refine enterB hb @Try.func96 @Try.ntmps96 rfl rfl ?_
 refine zent ?_
 refine Js.trashE ?_
 refine zn ?_
 refine zS <| Qa rfl <| zJ <| zS <| Qm rfl <| Qk rfl rfl <| JL.nil ?_
 refine zi (fun h1 h1' => ?_) fun h1 h1' => ?_
 ·
  refine zS <| Qa rfl <| JL.nil ?_
  refine zrb [0] hb (Up.refl _ _) ?_
  exact ⟨(0), (s_at), (s_seed), rfl, rfl, zt, zt, zt, zt⟩
 refine Js.skip <| zS <| Qm rfl <| zBB 1 sp_ rfl (fun w hb _ hw => c_spec_l00Src_next s_code s_at s_seed hb (ok_ hw)) ?_
 rintro _ _ G2 ⟨X2KX, X2AT, X2SD, rfl, rfl, hX2_0, hX2_1, hX2_2, hX2_3⟩
 refine znl ?_
 refine Qa rfl <| zJ <| zS <| Qm rfl <| Qg rfl rfl <| JL.nil ?_
 refine zi (fun h3 h3' => ?_) fun h3 h3' => ?_
 ·
  refine Js.region <| Qm rfl <| Qu rfl rfl <| Qm rfl <| zBB 1 sp_ rfl (fun w hb _ hw => c_spec_l00Src_next s_code X2AT X2SD hb (ok_ hw)) ?_
  rintro _ _ G4 ⟨X4KX, X4AT, X4SD, rfl, rfl, hX4_0, hX4_1, hX4_2, hX4_3⟩
  refine znl ?_
  have hrn5 := Int.emod_nonneg ((X2KX * 256) + X4KX) (b := n) (by omega)
  have hrl5 := Int.emod_lt_of_pos ((X2KX * 256) + X4KX) (show 0 < n by omega)
  refine Qp rfl rfl <| Qa rfl <| zN <| Qm rfl <| Qm rfl <| Qq (p_rem rfl rfl (by omega) (Int.tmod_eq_emod_of_nonneg (by omega))) <| Qa rfl <| JL.nil ?_
  refine zrb [0] hb (Up.refl _ _) ?_
  exact ⟨(((X2KX * 256) + X4KX) % n), (X4AT), (X4SD), rfl, rfl, zt, zt, zt, zt⟩
 have hrn6 := Int.emod_nonneg X2KX (b := n) (by omega)
 have hrl6 := Int.emod_lt_of_pos X2KX (show 0 < n by omega)
 refine Js.skip <| zS <| Qm rfl <| Qm rfl <| Qq (p_rem rfl rfl (by omega) (Int.tmod_eq_emod_of_nonneg (by omega))) <| Qa rfl <| JL.nil ?_
 refine zrb [0] hb (Up.refl _ _) ?_
 exact ⟨(X2KX % n), (X2AT), (X2SD), rfl, rfl, zt, zt, zt, zt⟩

set_option maxHeartbeats 1000000 in
theorem c_spec_l00Src_one (s_code : Nat) (s_at s_seed : Int) {As_0 : Option Addr} {cs_0 : Nat} (n : Int) {bs : Nat} {w : World} (hb : Bw w [boxO bs [.slice As_0 s_code cs_0, .int .i64 s_at, .int .u64 s_seed] 118]) (hps_0 : (Ty.bytes 5 s_code).ok (offW w (([boxO bs [.slice As_0 s_code cs_0, .int .i64 s_at, .int .u64 s_seed] 118] : List Own).flatMap (·.fp))) (.slice As_0 s_code cs_0)) (r0 : 0 ≤ s_at := by exact om_) (r1 : s_at ≤ 999999998 := by exact om_) (r2 : s_code ≤ 1048576 := by exact om_) (r3 : n ≤ 1000000 := by exact om_) : RetB Try.prog 94 [.pointer (some ⟨bs, 0, none⟩), .int .i64 n] w [boxO bs [.slice As_0 s_code cs_0, .int .i64 s_at, .int .u64 s_seed] 118] (fun v bs' => ∃ (BX : Bool) (AT SD : Int), v = .bool BX ∧ bs' = [boxO bs [.slice As_0 s_code cs_0, .int .i64 AT, .int .u64 SD] 118] ∧ (s_at ≤ AT) ∧ (AT ≤ s_at + 2)) := by
 refine enterB hb @Try.func94 @Try.ntmps94 rfl rfl ?_
 refine zent ?_
 refine Js.trashE ?_
 refine zn ?_
 refine zS <| Qa rfl <| zN <| Qm rfl <| Qm rfl <| zBB 1 sp_ rfl (fun w hb _ hw => c_spec_l00Src_pick s_code s_at s_seed n hb (ok_ hw)) ?_
 rintro _ _ G1 ⟨X1KX, X1AT, X1SD, rfl, rfl, hX1_0, hX1_1, hX1_2, hX1_3⟩
 refine znl ?_
 refine Qe rfl rfl <| Qa rfl <| JL.nil ?_
 refine zrb [0] hb (Up.refl _ _) ?_
 exact ⟨(decide (X1KX = 0)), (X1AT), (X1SD), rfl, rfl, zt, zt⟩

set_option maxHeartbeats 1000000 in
theorem c_spec_l00Src_among (s_code : Nat) (s_at s_seed : Int) {As_0 : Option Addr} {cs_0 : Nat} (list : List Int) {v_list : Value} {bs : Nat} {w : World} (hb : Bw w [boxO bs [.slice As_0 s_code cs_0, .int .i64 s_at, .int .u64 s_seed] 118]) (hps_0 : (Ty.bytes 5 s_code).ok (offW w (([boxO bs [.slice As_0 s_code cs_0, .int .i64 s_at, .int .u64 s_seed] 118] : List Own).flatMap (·.fp))) (.slice As_0 s_code cs_0)) (h_list : (Ty.ints 2 list).ok (offW w (([boxO bs [.slice As_0 s_code cs_0, .int .i64 s_at, .int .u64 s_seed] 118] : List Own).flatMap (·.fp))) v_list) (r0 : 0 ≤ s_at := by exact om_) (r1 : s_at ≤ 999999998 := by exact om_) (r2 : s_code ≤ 1048576 := by exact om_) (r3 : 1 ≤ list.length := by exact om_) (r4 : list.length ≤ 1000 := by exact om_) : RetB Try.prog 117 [.pointer (some ⟨bs, 0, none⟩), v_list] w [boxO bs [.slice As_0 s_code cs_0, .int .i64 s_at, .int .u64 s_seed] 118] (fun v bs' => ∃ (KX AT SD : Int), v = .int .i64 KX ∧ bs' = [boxO bs [.slice As_0 s_code cs_0, .int .i64 AT, .int .u64 SD] 118] ∧ (KX ∈ list) ∧ (s_at ≤ AT) ∧ (AT ≤ s_at + 2)) := by
 revert v_list; apply opn
 intro A1 c1 h1 bl1 bh1
 have h_list := h1
 refine enterB hb @Try.func117 @Try.ntmps117 rfl rfl ?_
 refine zent ?_
 refine Js.trashE ?_
 refine zn ?_
 refine zS <| Qa rfl <| zN <| Qm rfl <| Qm rfl <| Qm rfl <| Qz rfl <| zBB 1 sp_ rfl (fun w hb _ hw => c_spec_l00Src_pick s_code s_at s_seed (list.length : Int) hb (ok_ hw)) ?_
 rintro _ _ G2 ⟨X2KX, X2AT, X2SD, rfl, rfl, hX2_0, hX2_1, hX2_2, hX2_3⟩
 refine znl ?_
 obtain ⟨b3, o3, he3, hc3⟩ := ints_elem h1 (i := X2KX.toNat) (by omega)
 refine Qq (p_indexAddr el_24 rfl rfl (by omega) (by omega) he3) <| QC hc3 rfl <| Qa rfl <| JL.nil ?_
 refine zrb [0] hb (Up.refl _ _) ?_
 refine ⟨(M.nth list X2KX.toNat), (X2AT), (X2SD), rfl, ?_, by first | trivial | omega | exact M.nth_mem (by omega), by first | trivial | omega | exact M.nth_mem (by omega), by first | trivial | omega | exact M.nth_mem (by omega)⟩
 · rfl

set_option maxHeartbeats 1000000 in
theorem c_spec_l00Src_text (s_code : Nat) (s_at s_seed : Int) {As_0 : Option Addr} {cs_0 : Nat} (list : Nat) {v_list : Value} {bs : Nat} {w : World} (hb : Bw w [boxO bs [.slice As_0 s_code cs_0, .int .i64 s_at, .int .u64 s_seed] 118]) (hps_0 : (Ty.bytes 5 s_code).ok (offW w (([boxO bs [.slice As_0 s_code cs_0, .int .i64 s_at, .int .u64 s_seed] 118] : List Own).flatMap (·.fp))) (.slice As_0 s_code cs_0)) (h_list : (Ty.strs 9 list).ok (offW w (([boxO bs [.slice As_0 s_code cs_0, .int .i64 s_at, .int .u64 s_seed] 118] : List Own).flatMap (·.fp))) v_list) (r0 : 0 ≤ s_at := by exact om_) (r1 : s_at ≤ 999999998 := by exact om_) (r2 : s_code ≤ 1048576 := by exact om_) (r3 : 1 ≤ list := by exact om_) (r4 : list ≤ 1000 := by exact om_) : RetB Try.prog 138 [.pointer (some ⟨bs, 0, none⟩), v_list] w [boxO bs [.slice As_0 s_code cs_0, .int .i64 s_at, .int .u64 s_seed] 118] (fun v bs' => ∃ (TX : ByteArray) (AT SD : Int), v = .string TX ∧ bs' = [boxO bs [.slice As_0 s_code cs_0, .int .i64 AT, .int .u64 SD] 118] ∧ (s_at ≤ AT) ∧ (AT ≤ s_at + 2)) := by
 revert v_list; apply opn
 intro A1 c1 h1 bl1 bh1
 have h_list := h1
 refine enterB hb @Try.func138 @Try.ntmps138 rfl rfl ?_
 refine zent ?_
 refine Js.trashE ?_
 refine zn ?_
 refine zS <| Qa rfl <| zN <| Qm rfl <| Qm rfl <| Qm rfl <| Qz rfl <| zBB 1 sp_ rfl (fun w hb _ hw => c_spec_l00Src_pick s_code s_at s_seed (list : Int) hb (ok_ hw)) ?_
 rintro _ _ G2 ⟨X2KX, X2AT, X2SD, rfl, rfl, hX2_0, hX2_1, hX2_2, hX2_3⟩
 refine znl ?_
 obtain ⟨b3, o3, z3, he3, hc3⟩ := strs_elem h1 (i := X2KX.toNat) (by omega)
 refine Qq (p_indexAddr el_144 rfl rfl (by omega) (by omega) he3) <| QC hc3 rfl <| Qa rfl <| JL.nil ?_
 refine zrb [0] hb (Up.refl _ _) ?_
 exact ⟨(z3), (X2AT), (X2SD), rfl, rfl, zt, zt⟩

set_option maxHeartbeats 1000000 in
theorem c_spec_StandardNames  {w : World}  : Ret Try.prog 139 [] w (Ty.strs 9 4) := by
 refine enter @Try.func139 @Try.ntmps139 rfl rfl ?_
 refine zent ?_
 refine zS <| Qa rfl <| zN <| zbs fun b1 => ?_
 refine Qa rfl <| JL.nil ?_
 exact zro (Up.refl _ _) (g := by exact (gv_strs (by repeat (first | exact PickO.z | apply PickO.s)) (strs_own [(ByteArray.mk #[107, 97, 108, 97, 104]), (ByteArray.mk #[109, 105, 110, 105]), (ByteArray.mk #[111, 119, 97, 114, 101]), (ByteArray.mk #[114, 101, 108, 97, 121])])))

set_option maxHeartbeats 1000000 in
theorem c_spec_StandardRules (name : ByteArray) {w : World}  : Ret Try.prog 137 [.string name] w (Ty.tup [Ty.ex (fun (RX : M.Rul) => (0 ≤ RX.pits ∧ RX.pits ≤ 8)) (fun RX => Ty.agg (cRules RX)), Ty.ex (fun (CX : Int) => True) (fun CX => Ty.int CX)]) := by
 refine enter @Try.func137 @Try.ntmps137 rfl rfl ?_
 refine zent ?_
 refine zS <| za zeh fun b1 => Qa rfl <| zJ <| zS <| Qm rfl <| JL.nil <| Js.block <| zS <| Qq (p_eqlT und_9 rfl rfl) <| Qa rfl <| JL.nil ?_
 refine zi (fun h2 h2' => ?_) fun h2 h2' => ?_
 ·
  refine zS <| Qb ?_
  refine zw 0 rfl rfl rfl ?_
  refine Qa rfl <| JL.nil ?_
  exact zro (Up.refl _ _) (g := by exact (gv_tup (gvc (gv_ex (M.Rul.mk 6 4 true false false false true 2 0) (by first | trivial | omega | decide | (dsimp only; omega)) gv_) (gvc (gv_ex 0 (by first | trivial | omega | decide | (dsimp only; omega)) gv_) gvn))))
 refine zS <| Qq (p_eqlT und_9 rfl rfl) <| Qa rfl <| JL.nil ?_
 refine zi (fun h3 h3' => ?_) fun h3 h3' => ?_
 ·
  refine zS <| Qb ?_
  refine zw 0 rfl rfl rfl ?_
  refine Qa rfl <| JL.nil ?_
  exact zro (Up.refl _ _) (g := by exact (gv_tup (gvc (gv_ex (M.Rul.mk 3 2 false false false true false 1 0) (by first | trivial | omega | decide | (dsimp only; omega)) gv_) (gvc (gv_ex 0 (by first | trivial | omega | decide | (dsimp only; omega)) gv_) gvn))))
 refine zS <| Qq (p_eqlT und_9 rfl rfl) <| Qa rfl <| JL.nil ?_
 refine zi (fun h4 h4' => ?_) fun h4 h4' => ?_
 ·
  refine zS <| Qb ?_
  refine zw 0 rfl rfl rfl ?_
  refine Qa rfl <| JL.nil ?_
  exact zro (Up.refl _ _) (g := by exact (gv_tup (gvc (gv_ex (M.Rul.mk 6 4 false true false true false 1 2) (by first | trivial | omega | decide | (dsimp only; omega)) gv_) (gvc (gv_ex 0 (by first | trivial | omega | decide | (dsimp only; omega)) gv_) gvn))))
 refine zS <| Qq (p_eqlT und_9 rfl rfl) <| Qa rfl <| JL.nil ?_
 refine zi (fun h5 h5' => ?_) fun h5 h5' => ?_
 ·
  refine zS <| Qb ?_
  refine zw 0 rfl rfl rfl ?_
  refine Qa rfl <| JL.nil ?_
  exact zro (Up.refl _ _) (g := by exact (gv_tup (gvc (gv_ex (M.Rul.mk 4 2 false false true false false 2 0) (by first | trivial | omega | decide | (dsimp only; omega)) gv_) (gvc (gv_ex 0 (by first | trivial | omega | decide | (dsimp only; omega)) gv_) gvn))))
 refine Js.skip <| Js.blockEnd <| zS <| Qb ?_
 refine zw 0 rfl rfl rfl ?_
 refine Qa rfl <| JL.nil ?_
 exact zro (Up.refl _ _) (g := by exact (gv_tup (gvc (gv_ex (M.Rul.mk 0 0 false false false false false 0 0) (by first | trivial | omega | decide | (dsimp only; omega)) gv_) (gvc (gv_ex 3 (by first | trivial | omega | decide | (dsimp only; omega)) gv_) gvn))))

end Go.Proofs.Ytejnmechnhgmfaa

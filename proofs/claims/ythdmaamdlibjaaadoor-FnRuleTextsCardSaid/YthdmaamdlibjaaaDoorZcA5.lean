/- Walks: K39. -/
import Derived.Test.YthdmaamdlibjaaaDoorZcA3
import Derived.Test.YthdmaamdlibjaaaDoorZcA1
import Derived.Test.YthdmaamdlibjaaaDoorZcA2
set_option linter.unusedSimpArgs false
set_option linter.unusedVariables false
set_option maxRecDepth 100000
attribute [local irreducible] Go.Proofs.YthdmaamdlibjaaaDoor.gv
set_option maxHeartbeats 16000000
namespace Go.Proofs.YthdmaamdlibjaaaDoor
open Go.RowKit
theorem c_impl_between (n low high : Int) {w : World}  : RetV Tryd.prog 51 [.int .i64 n, .int .i64 low, .int .i64 high] w (.bool (M.betw n low high)) := by
 refine enter @Tryd.func51 @Tryd.ntmps51 rfl rfl ?_
 refine zent ?_
 refine zS <| Qa rfl <| zN <| Qm rfl <| Qm rfl <| Qh rfl rfl <| Qm rfl <| zg (Gd.t1 rfl rfl rfl) (fun hc => p_move rfl) <| zg (Gd.t1 rfl rfl rfl) (fun hc => p_move rfl) <| zg (Gd.t1 rfl rfl rfl) (fun hc => p_leq (gh hc rfl) (gh hc rfl)) <| Qq (p_pickAnd rfl rfl rfl) <| Qa rfl <| JL.nil ?_
 refine zR (Up.refl _ _) ?_
 simp [outV, M.betw, Bool.and_comm]
theorem c_impl_ValidRules (r : M.Rul) {v_r : Value} {w : World} (h_r : (Ty.agg (cRules r)).ok w v_r) : RetV Tryd.prog 43 [v_r] w (.bool (M.okR r)) := by
 revert v_r; apply opn
 refine enter @Tryd.func43 @Tryd.ntmps43 rfl rfl ?_
 refine zent ?_
 refine zS <| zb rfl fun b1 => Qa rfl <| zN <| Qf fh rfl <| Q0 0 rfl rfl rfl <| zv rfl (fun w hw => c_impl_between r.pits 2 8) <| Qm rfl <| zg (Gd.t1 rfl rfl rfl) (fun hc => p_fieldAddr fld_30_1.h rfl) <| zgq (Gd.t1 rfl rfl rfl) (fun hc => q_load1 ty_2.h (gh hc rfl) (Mem.box (i := 0) rfl rfl)) <| zgv (Gd.t1 rfl rfl rfl) (fun hc => (opds_3 (gh hc rfl) rfl rfl)) (fun hc => (fun w hw => c_impl_between r.seeds 1 6)) ?_
 refine Qq (p_pickAnd rfl rfl rfl) <| Qm rfl <| zg (Gd.t1 rfl rfl rfl) (fun hc => p_fieldAddr fld_30_7.h rfl) <| zgq (Gd.t1 rfl rfl rfl) (fun hc => q_load1 ty_2.h (gh hc rfl) (Mem.box (i := 0) rfl rfl)) <| zgv (Gd.t1 rfl rfl rfl) (fun hc => (opds_3 (gh hc rfl) rfl rfl)) (fun hc => (fun w hw => c_impl_between r.capture 0 3)) ?_
 refine Qq (p_pickAnd rfl rfl rfl) <| Qm rfl <| zg (Gd.t1 rfl rfl rfl) (fun hc => p_fieldAddr fld_30_8.h rfl) <| zgq (Gd.t1 rfl rfl rfl) (fun hc => q_load1 ty_2.h (gh hc rfl) (Mem.box (i := 0) rfl rfl)) <| zgv (Gd.t1 rfl rfl rfl) (fun hc => (opds_3 (gh hc rfl) rfl rfl)) (fun hc => (fun w hw => c_impl_between r.slam 0 2)) ?_
 refine Qq (p_pickAnd rfl rfl rfl) <| Qm rfl <| zg (Gd.t1 rfl rfl rfl) (fun hc => p_fieldAddr fld_30_2.h rfl) <| zgq (Gd.t1 rfl rfl rfl) (fun hc => q_load1 ty_4.h (gh hc rfl) (Mem.box (i := 0) rfl rfl)) <| zg (Gd.t1 rfl rfl rfl) (fun hc => p_move (gh hc rfl)) <| zg (Gd.f2 rfl rfl rfl) (fun hc => p_fieldAddr fld_30_6.h rfl) <| zgq (Gd.f2 rfl rfl rfl) (fun hc => q_load1 ty_4.h (gh hc rfl) (Mem.box (i := 0) rfl rfl)) <| zg (Gd.f2 rfl rfl rfl) (fun hc => p_not (gh hc rfl)) <| zg (Gd.t1 rfl rfl rfl) (fun hc => p_pickOr (gh hc rfl) rfl (gvl rfl hc)) <| Qq (p_pickAnd rfl rfl rfl) <| Qa rfl <| JL.nil ?_
 refine zR (Up.refl _ _) ?_
 simp [outV, M.okR, Bool.and_assoc]
theorem c_spec_l00In (n low high : Int) {w : World}  : RetV Tryd.prog 50 [.int .i64 n, .int .i64 low, .int .i64 high] w (.bool (M.betw n low high)) := by
 refine enter @Tryd.func50 @Tryd.ntmps50 rfl rfl ?_
 refine zent ?_
 refine zS <| Qa rfl <| zN <| Qm rfl <| Qm rfl <| Qh rfl rfl <| Qm rfl <| zg (Gd.t1 rfl rfl rfl) (fun hc => p_move rfl) <| zg (Gd.t1 rfl rfl rfl) (fun hc => p_move rfl) <| zg (Gd.t1 rfl rfl rfl) (fun hc => p_leq (gh hc rfl) (gh hc rfl)) <| Qq (p_pickAnd rfl rfl rfl) <| Qa rfl <| JL.nil ?_
 refine zR (Up.refl _ _) ?_
 simp [outV, M.betw]
theorem c_spec_l02Ok (r : M.Rul) {v_r : Value} {w : World} (h_r : (Ty.ref (cRules r)).ok w v_r) : RetV Tryd.prog 45 [v_r] w (.bool (M.okR r)) := by
 revert v_r; apply opn
 intro b1 o1 hr1
 refine enter @Tryd.func45 @Tryd.ntmps45 rfl rfl ?_
 refine zent ?_
 refine zS <| Qa rfl <| zN <| Qm rfl <| Qc rfl <| Qf fh rfl <| QC (hr1 0 _ rfl) rfl <| zv rfl (fun w hw => c_spec_l00In r.pits 2 8) <| Qm rfl <| zg (Gd.t1 rfl rfl rfl) (fun hc => p_move rfl) <| zg (Gd.t1 rfl rfl rfl) (fun hc => p_nilCheck (gh hc rfl)) <| zg (Gd.t1 rfl rfl rfl) (fun hc => p_fieldAddr fld_30_1.h (gh hc rfl)) <| zgq (Gd.t1 rfl rfl rfl) (fun hc => q_load1 ty_2.h (gh hc rfl) (Mem.pub (hr1 1 _ rfl))) <| zgv (Gd.t1 rfl rfl rfl) (fun hc => (opds_3 (gh hc rfl) rfl rfl)) (fun hc => (fun w hw => c_spec_l00In r.seeds 1 6)) ?_
 refine Qq (p_pickAnd rfl rfl rfl) <| Qm rfl <| zg (Gd.t1 rfl rfl rfl) (fun hc => p_move rfl) <| zg (Gd.t1 rfl rfl rfl) (fun hc => p_nilCheck (gh hc rfl)) <| zg (Gd.t1 rfl rfl rfl) (fun hc => p_fieldAddr fld_30_7.h (gh hc rfl)) <| zgq (Gd.t1 rfl rfl rfl) (fun hc => q_load1 ty_2.h (gh hc rfl) (Mem.pub (hr1 7 _ rfl))) <| zgv (Gd.t1 rfl rfl rfl) (fun hc => (opds_3 (gh hc rfl) rfl rfl)) (fun hc => (fun w hw => c_spec_l00In r.capture 0 3)) ?_
 refine Qq (p_pickAnd rfl rfl rfl) <| Qm rfl <| zg (Gd.t1 rfl rfl rfl) (fun hc => p_move rfl) <| zg (Gd.t1 rfl rfl rfl) (fun hc => p_nilCheck (gh hc rfl)) <| zg (Gd.t1 rfl rfl rfl) (fun hc => p_fieldAddr fld_30_8.h (gh hc rfl)) <| zgq (Gd.t1 rfl rfl rfl) (fun hc => q_load1 ty_2.h (gh hc rfl) (Mem.pub (hr1 8 _ rfl))) <| zgv (Gd.t1 rfl rfl rfl) (fun hc => (opds_3 (gh hc rfl) rfl rfl)) (fun hc => (fun w hw => c_spec_l00In r.slam 0 2)) ?_
 refine Qq (p_pickAnd rfl rfl rfl) <| Qm rfl <| zg (Gd.t1 rfl rfl rfl) (fun hc => p_move rfl) <| zg (Gd.t1 rfl rfl rfl) (fun hc => p_nilCheck (gh hc rfl)) <| zg (Gd.t1 rfl rfl rfl) (fun hc => p_fieldAddr fld_30_2.h (gh hc rfl)) <| zgq (Gd.t1 rfl rfl rfl) (fun hc => q_load1 ty_4.h (gh hc rfl) (Mem.pub (hr1 2 _ rfl))) <| zg (Gd.t1 rfl rfl rfl) (fun hc => p_move (gh hc rfl)) <| zg (Gd.f2 rfl rfl rfl) (fun hc => p_move rfl) <| zg (Gd.f2 rfl rfl rfl) (fun hc => p_nilCheck (gh hc rfl)) <| zg (Gd.f2 rfl rfl rfl) (fun hc => p_fieldAddr fld_30_6.h (gh hc rfl)) <| zgq (Gd.f2 rfl rfl rfl) (fun hc => q_load1 ty_4.h (gh hc rfl) (Mem.pub (hr1 6 _ rfl))) <| zg (Gd.f2 rfl rfl rfl) (fun hc => p_not (gh hc rfl)) <| zg (Gd.t1 rfl rfl rfl) (fun hc => p_pickOr (gh hc rfl) rfl (gvl rfl hc)) <| Qq (p_pickAnd rfl rfl rfl) ?_
 refine Qa rfl <| JL.nil ?_
 refine zR (Up.refl _ _) ?_
 simp [outV, M.okR, Bool.and_assoc]
theorem c_spec_l00From (code : Nat) {v_code : Value} {w : World} (h_code : (Ty.bytes 5 code).ok w v_code) : Ret Tryd.prog 36 [v_code] w (Ty.box 87 [Ty.val v_code, Ty.int 0, Ty.val (.int .u64 0)]) := by
 revert v_code; apply opn
 intro A1 c1 h1 bl1 bh1
 have h_code := h1
 refine enter @Tryd.func36 @Tryd.ntmps36 rfl rfl ?_
 refine zent ?_
 refine zS <| Qa rfl <| zN <| Qm rfl <| Qb ?_
 refine zb rfl fun b2 => Qa rfl <| JL.nil ?_
 exact zro (Up.refl _ _)
theorem c_spec_l00Src_next (s_code : Nat) (s_at s_seed : Int) {As_0 : Option Addr} {cs_0 bs : Nat} {w : World} (hb : Bw w [boxO bs [.slice As_0 s_code cs_0, .int .i64 s_at, .int .u64 s_seed] 87]) (hps_0 : (Ty.bytes 5 s_code).ok (offW w (([boxO bs [.slice As_0 s_code cs_0, .int .i64 s_at, .int .u64 s_seed] 87] : List Own).flatMap (·.fp))) (.slice As_0 s_code cs_0)) (r0 : 0 ≤ s_at := by exact om_) (r1 : s_at ≤ 999999999 := by exact om_) (r2 : s_code ≤ 1048576 := by exact om_) : RetB Tryd.prog 64 [.pointer (some ⟨bs, 0, none⟩)] w [boxO bs [.slice As_0 s_code cs_0, .int .i64 s_at, .int .u64 s_seed] 87] (fun v bs' => ∃ (KX AT SD : Int), v = .int .i64 KX ∧ bs' = [boxO bs [.slice As_0 s_code cs_0, .int .i64 AT, .int .u64 SD] 87] ∧ (0 ≤ KX) ∧ (KX ≤ 255) ∧ (s_at ≤ AT) ∧ (AT ≤ s_at + 1)) := by
 refine enterB hb @Tryd.func64 @Tryd.ntmps64 rfl rfl ?_
 refine zent ?_
 refine Js.trashE ?_
 refine zn ?_
 refine zS <| Qa rfl <| zN <| Qa rfl <| zJ <| Js.seq ?_
 refine zdr [] ?_
 refine jM 0 rfl rfl ?_
 refine jN 1 rfl rfl ?_
 refine jF 2 fld_87_1 rfl rfl ?_
 refine jB 3 0 ty_3 rfl rfl rfl rfl ?_
 refine jM 4 rfl rfl ?_
 refine jN 5 rfl rfl ?_
 refine jF 6 fld_87_0 rfl rfl ?_
 refine jB 7 0 ty_22 rfl rfl rfl rfl ?_
 refine JH.p 8 rfl (p_len el_22 rfl) ?_
 refine JH.p 9 rfl (p_lss rfl rfl) ?_
 refine yd ?_
 refine zi (fun h1 h1' => ?_) fun h1 h1' => ?_
 ·
  refine zdr [] ?_
  refine jM 0 rfl rfl ?_
  refine jN 1 rfl rfl ?_
  refine jF 2 fld_87_0 rfl rfl ?_
  refine jB 3 0 ty_22 rfl rfl rfl rfl ?_
  refine jM 4 rfl rfl ?_
  refine jN 5 rfl rfl ?_
  refine jF 6 fld_87_1 rfl rfl ?_
  refine jB 7 0 ty_3 rfl rfl rfl rfl ?_
  obtain ⟨b2, o2, z2, he2, hc2, hz2⟩ := bytes_elem hps_0 (i := s_at.toNat) (by omega)
  refine jI 8 el_22 rfl rfl rfl he2 ?_
  refine jW 9 ty_5 rfl rfl hc2.vis ?_
  refine y1 10 ?_
  refine JHo.q rfl (OpP.q (p_conv @Tryd.underlying5 @Tryd.underlying3 rfl (IntWalk.i64_in _ (by omega)))) ?_
  refine jA 11 rfl rfl ?_
  refine yd ?_
  refine zS <| Qm rfl <| Qc rfl <| Qf fh rfl <| Q0 0 rfl rfl rfl <| Qp rfl rfl <| Qc rfl <| Qf fh rfl <| zw 0 rfl rfl rfl ?_
  refine zN <| Qm rfl <| Qm rfl <| Qc rfl <| Qf fh rfl <| Q0 0 rfl rfl rfl <| Qq (p_mul rfl rfl rfl) <| Qm rfl <| Qq (p_conv @Tryd.underlying3 @Tryd.underlying85 rfl rfl) <| Qq (p_add rfl rfl rfl) <| Qq (p_add rfl rfl rfl) <| Qc rfl <| Qf fh rfl <| zw 0 rfl rfl rfl ?_
  refine zJ <| Js.seq ?_
  refine zdr [] ?_
  refine jM 0 rfl rfl ?_
  refine jN 1 rfl rfl ?_
  refine jF 2 fld_87_1 rfl rfl ?_
  refine jB 3 0 ty_3 rfl rfl rfl rfl ?_
  refine jM 4 rfl rfl ?_
  refine jN 5 rfl rfl ?_
  refine jF 6 fld_87_0 rfl rfl ?_
  refine jB 7 0 ty_22 rfl rfl rfl rfl ?_
  refine JH.p 8 rfl (p_len el_22 rfl) ?_
  refine JH.p 9 rfl (p_leq rfl rfl) ?_
  refine yd ?_
  refine zi (fun h3 h3' => ?_) fun h3 h3' => ?_
  ·
   refine zS <| Qm rfl <| Qa rfl <| JL.nil ?_
   refine zrb [0] hb (Up.refl _ _) ?_
   exact ⟨(z2), ((s_at + 1)), ((IntKind.u64.wrap ((IntKind.u64.wrap ((IntKind.u64.wrap (s_seed * 6364136223846793005)) + (IntKind.u64.wrap z2))) + 1442695040888963407))), rfl, rfl, zt, zt, zt, zt⟩
  have had4 := andI_255 ((IntKind.u64.wrap ((IntKind.u64.wrap ((IntKind.u64.wrap (s_seed * 6364136223846793005)) + (IntKind.u64.wrap z2))) + 1442695040888963407)).fdiv (2 ^ (min (40 : Int).toNat IntKind.u64.bits)))
  refine Js.skip <| zS <| Qm rfl <| Qc rfl <| Qf fh rfl <| Q0 0 rfl rfl rfl <| Qq (p_shr rfl rfl (by decide)) <| Qq (p_and rfl rfl) <| Qq (p_conv @Tryd.underlying85 @Tryd.underlying2 rfl (IntWalk.i64_in _ (by omega))) <| Qa rfl <| JL.nil ?_
  refine zrb [0] hb (Up.refl _ _) ?_
  exact ⟨(andI .u64 ((IntKind.u64.wrap ((IntKind.u64.wrap ((IntKind.u64.wrap (s_seed * 6364136223846793005)) + (IntKind.u64.wrap z2))) + 1442695040888963407)).fdiv (2 ^ (min (40 : Int).toNat IntKind.u64.bits))) 255), ((s_at + 1)), ((IntKind.u64.wrap ((IntKind.u64.wrap ((IntKind.u64.wrap (s_seed * 6364136223846793005)) + (IntKind.u64.wrap z2))) + 1442695040888963407))), rfl, rfl, zt, zt, zt, zt⟩
 refine Js.skip <| zS <| Qm rfl <| Qc rfl <| Qf fh rfl <| Q0 0 rfl rfl rfl <| Qp rfl rfl <| Qc rfl <| Qf fh rfl <| zw 0 rfl rfl rfl ?_
 refine zN <| Qm rfl <| Qm rfl <| Qc rfl <| Qf fh rfl <| Q0 0 rfl rfl rfl <| Qq (p_mul rfl rfl rfl) <| Qm rfl <| Qq (p_conv @Tryd.underlying3 @Tryd.underlying85 rfl rfl) <| Qq (p_add rfl rfl rfl) <| Qq (p_add rfl rfl rfl) <| Qc rfl <| Qf fh rfl <| zw 0 rfl rfl rfl ?_
 refine zJ <| Js.seq ?_
 refine zdr [] ?_
 refine jM 0 rfl rfl ?_
 refine jN 1 rfl rfl ?_
 refine jF 2 fld_87_1 rfl rfl ?_
 refine jB 3 0 ty_3 rfl rfl rfl rfl ?_
 refine jM 4 rfl rfl ?_
 refine jN 5 rfl rfl ?_
 refine jF 6 fld_87_0 rfl rfl ?_
 refine jB 7 0 ty_22 rfl rfl rfl rfl ?_
 refine JH.p 8 rfl (p_len el_22 rfl) ?_
 refine JH.p 9 rfl (p_leq rfl rfl) ?_
 refine yd ?_
 refine zi (fun h5 h5' => ?_) fun h5 h5' => ?_
 ·
  refine zS <| Qm rfl <| Qa rfl <| JL.nil ?_
  refine zrb [0] hb (Up.refl _ _) ?_
  exact ⟨(0), ((s_at + 1)), ((IntKind.u64.wrap ((IntKind.u64.wrap ((IntKind.u64.wrap (s_seed * 6364136223846793005)) + (IntKind.u64.wrap 0))) + 1442695040888963407))), rfl, rfl, zt, zt, zt, zt⟩
 have had6 := andI_255 ((IntKind.u64.wrap ((IntKind.u64.wrap ((IntKind.u64.wrap (s_seed * 6364136223846793005)) + (IntKind.u64.wrap 0))) + 1442695040888963407)).fdiv (2 ^ (min (40 : Int).toNat IntKind.u64.bits)))
 refine Js.skip <| zS <| Qm rfl <| Qc rfl <| Qf fh rfl <| Q0 0 rfl rfl rfl <| Qq (p_shr rfl rfl (by decide)) <| Qq (p_and rfl rfl) <| Qq (p_conv @Tryd.underlying85 @Tryd.underlying2 rfl (IntWalk.i64_in _ (by omega))) <| Qa rfl <| JL.nil ?_
 refine zrb [0] hb (Up.refl _ _) ?_
 exact ⟨(andI .u64 ((IntKind.u64.wrap ((IntKind.u64.wrap ((IntKind.u64.wrap (s_seed * 6364136223846793005)) + (IntKind.u64.wrap 0))) + 1442695040888963407)).fdiv (2 ^ (min (40 : Int).toNat IntKind.u64.bits))) 255), ((s_at + 1)), ((IntKind.u64.wrap ((IntKind.u64.wrap ((IntKind.u64.wrap (s_seed * 6364136223846793005)) + (IntKind.u64.wrap 0))) + 1442695040888963407))), rfl, rfl, zt, zt, zt, zt⟩
theorem c_spec_l00Src_pick (s_code : Nat) (s_at s_seed : Int) {As_0 : Option Addr} {cs_0 : Nat} (n : Int) {bs : Nat} {w : World} (hb : Bw w [boxO bs [.slice As_0 s_code cs_0, .int .i64 s_at, .int .u64 s_seed] 87]) (hps_0 : (Ty.bytes 5 s_code).ok (offW w (([boxO bs [.slice As_0 s_code cs_0, .int .i64 s_at, .int .u64 s_seed] 87] : List Own).flatMap (·.fp))) (.slice As_0 s_code cs_0)) (r0 : 0 ≤ s_at := by exact om_) (r1 : s_at ≤ 999999998 := by exact om_) (r2 : s_code ≤ 1048576 := by exact om_) (r3 : n ≤ 1000000 := by exact om_) : RetB Tryd.prog 37 [.pointer (some ⟨bs, 0, none⟩), .int .i64 n] w [boxO bs [.slice As_0 s_code cs_0, .int .i64 s_at, .int .u64 s_seed] 87] (fun v bs' => ∃ (KX AT SD : Int), v = .int .i64 KX ∧ bs' = [boxO bs [.slice As_0 s_code cs_0, .int .i64 AT, .int .u64 SD] 87] ∧ (0 ≤ KX) ∧ (KX = 0 ∨ KX < n) ∧ (s_at ≤ AT) ∧ (AT ≤ s_at + 2)) := by
 refine enterB hb @Tryd.func37 @Tryd.ntmps37 rfl rfl ?_
 refine zent ?_
 refine Js.trashE ?_
 refine zn ?_
 refine zS <| Qa rfl <| zJ <| zS <| Qm rfl <| Qk rfl rfl <| JL.nil ?_
 refine zi (fun h1 h1' => ?_) fun h1 h1' => ?_
 ·
  refine zS <| Qa rfl <| JL.nil ?_
  refine zrb [0] hb (Up.refl _ _) ?_
  exact ⟨(0), (s_at), (s_seed), rfl, rfl, zt, zt, zt, zt⟩
 refine Js.skip <| zS <| Qm rfl <| zBB 1 sp_ rfl (fun w hb _ hw => c_spec_l00Src_next s_code s_at s_seed hb (ok_ hw)) ?_
 rintro _ _ G2 ⟨X2KX, X2AT, X2SD, rfl, rfl, hX2_0, hX2_1, hX2_2, hX2_3⟩
 refine znl ?_
 refine Qa rfl <| zJ <| zS <| Qm rfl <| Qg rfl rfl <| JL.nil ?_
 refine zi (fun h3 h3' => ?_) fun h3 h3' => ?_
 ·
  refine Js.region <| Qm rfl <| Qu rfl rfl <| Qm rfl <| zBB 1 sp_ rfl (fun w hb _ hw => c_spec_l00Src_next s_code X2AT X2SD hb (ok_ hw)) ?_
  rintro _ _ G4 ⟨X4KX, X4AT, X4SD, rfl, rfl, hX4_0, hX4_1, hX4_2, hX4_3⟩
  refine znl ?_
  have hrn5 := Int.emod_nonneg ((X2KX * 256) + X4KX) (b := n) (by omega)
  have hrl5 := Int.emod_lt_of_pos ((X2KX * 256) + X4KX) (show 0 < n by omega)
  refine Qp rfl rfl <| Qa rfl <| zN <| Qm rfl <| Qm rfl <| Qq (p_rem rfl rfl (by omega) (Int.tmod_eq_emod_of_nonneg (by omega))) <| Qa rfl <| JL.nil ?_
  refine zrb [0] hb (Up.refl _ _) ?_
  exact ⟨(((X2KX * 256) + X4KX) % n), (X4AT), (X4SD), rfl, rfl, zt, zt, zt, zt⟩
 have hrn6 := Int.emod_nonneg X2KX (b := n) (by omega)
 have hrl6 := Int.emod_lt_of_pos X2KX (show 0 < n by omega)
 refine Js.skip <| zS <| Qm rfl <| Qm rfl <| Qq (p_rem rfl rfl (by omega) (Int.tmod_eq_emod_of_nonneg (by omega))) <| Qa rfl <| JL.nil ?_
 refine zrb [0] hb (Up.refl _ _) ?_
 exact ⟨(X2KX % n), (X2AT), (X2SD), rfl, rfl, zt, zt, zt, zt⟩
theorem c_spec_l00Src_one (s_code : Nat) (s_at s_seed : Int) {As_0 : Option Addr} {cs_0 : Nat} (n : Int) {bs : Nat} {w : World} (hb : Bw w [boxO bs [.slice As_0 s_code cs_0, .int .i64 s_at, .int .u64 s_seed] 87]) (hps_0 : (Ty.bytes 5 s_code).ok (offW w (([boxO bs [.slice As_0 s_code cs_0, .int .i64 s_at, .int .u64 s_seed] 87] : List Own).flatMap (·.fp))) (.slice As_0 s_code cs_0)) (r0 : 0 ≤ s_at := by exact om_) (r1 : s_at ≤ 999999998 := by exact om_) (r2 : s_code ≤ 1048576 := by exact om_) (r3 : n ≤ 1000000 := by exact om_) : RetB Tryd.prog 49 [.pointer (some ⟨bs, 0, none⟩), .int .i64 n] w [boxO bs [.slice As_0 s_code cs_0, .int .i64 s_at, .int .u64 s_seed] 87] (fun v bs' => ∃ (BX : Bool) (AT SD : Int), v = .bool BX ∧ bs' = [boxO bs [.slice As_0 s_code cs_0, .int .i64 AT, .int .u64 SD] 87] ∧ (s_at ≤ AT) ∧ (AT ≤ s_at + 2)) := by
 refine enterB hb @Tryd.func49 @Tryd.ntmps49 rfl rfl ?_
 refine zent ?_
 refine Js.trashE ?_
 refine zn ?_
 refine zS <| Qa rfl <| zN <| Qm rfl <| Qm rfl <| zBB 1 sp_ rfl (fun w hb _ hw => c_spec_l00Src_pick s_code s_at s_seed n hb (ok_ hw)) ?_
 rintro _ _ G1 ⟨X1KX, X1AT, X1SD, rfl, rfl, hX1_0, hX1_1, hX1_2, hX1_3⟩
 refine znl ?_
 refine Qe rfl rfl <| Qa rfl <| JL.nil ?_
 refine zrb [0] hb (Up.refl _ _) ?_
 exact ⟨(decide (X1KX = 0)), (X1AT), (X1SD), rfl, rfl, zt, zt⟩
theorem c_spec_l00Src_among (s_code : Nat) (s_at s_seed : Int) {As_0 : Option Addr} {cs_0 : Nat} (list : List Int) {v_list : Value} {bs : Nat} {w : World} (hb : Bw w [boxO bs [.slice As_0 s_code cs_0, .int .i64 s_at, .int .u64 s_seed] 87]) (hps_0 : (Ty.bytes 5 s_code).ok (offW w (([boxO bs [.slice As_0 s_code cs_0, .int .i64 s_at, .int .u64 s_seed] 87] : List Own).flatMap (·.fp))) (.slice As_0 s_code cs_0)) (h_list : (Ty.ints 2 list).ok (offW w (([boxO bs [.slice As_0 s_code cs_0, .int .i64 s_at, .int .u64 s_seed] 87] : List Own).flatMap (·.fp))) v_list) (r0 : 0 ≤ s_at := by exact om_) (r1 : s_at ≤ 999999998 := by exact om_) (r2 : s_code ≤ 1048576 := by exact om_) (r3 : 1 ≤ list.length := by exact om_) (r4 : list.length ≤ 1000 := by exact om_) : RetB Tryd.prog 66 [.pointer (some ⟨bs, 0, none⟩), v_list] w [boxO bs [.slice As_0 s_code cs_0, .int .i64 s_at, .int .u64 s_seed] 87] (fun v bs' => ∃ (KX AT SD : Int), v = .int .i64 KX ∧ bs' = [boxO bs [.slice As_0 s_code cs_0, .int .i64 AT, .int .u64 SD] 87] ∧ (KX ∈ list) ∧ (s_at ≤ AT) ∧ (AT ≤ s_at + 2)) := by
 revert v_list; apply opn
 intro A1 c1 h1 bl1 bh1
 have h_list := h1
 refine enterB hb @Tryd.func66 @Tryd.ntmps66 rfl rfl ?_
 refine zent ?_
 refine Js.trashE ?_
 refine zn ?_
 refine zS <| Qa rfl <| zN <| Qm rfl <| Qm rfl <| Qm rfl <| Qz rfl <| zBB 1 sp_ rfl (fun w hb _ hw => c_spec_l00Src_pick s_code s_at s_seed (list.length : Int) hb (ok_ hw)) ?_
 rintro _ _ G2 ⟨X2KX, X2AT, X2SD, rfl, rfl, hX2_0, hX2_1, hX2_2, hX2_3⟩
 refine znl ?_
 obtain ⟨b3, o3, he3, hc3⟩ := ints_elem h1 (i := X2KX.toNat) (by omega)
 refine Qq (p_indexAddr el_65 rfl rfl (by omega) (by omega) he3) <| QC hc3 rfl <| Qa rfl <| JL.nil ?_
 refine zrb [0] hb (Up.refl _ _) ?_
 refine ⟨(M.nth list X2KX.toNat), (X2AT), (X2SD), rfl, ?_, by first | trivial | omega | exact M.nth_mem (by omega), by first | trivial | omega | exact M.nth_mem (by omega), by first | trivial | omega | exact M.nth_mem (by omega)⟩
 · rfl
theorem c_spec_l00Src_text (s_code : Nat) (s_at s_seed : Int) {As_0 : Option Addr} {cs_0 : Nat} (list : List (List UInt8)) {v_list : Value} {bs : Nat} {w : World} (hb : Bw w [boxO bs [.slice As_0 s_code cs_0, .int .i64 s_at, .int .u64 s_seed] 87]) (hps_0 : (Ty.bytes 5 s_code).ok (offW w (([boxO bs [.slice As_0 s_code cs_0, .int .i64 s_at, .int .u64 s_seed] 87] : List Own).flatMap (·.fp))) (.slice As_0 s_code cs_0)) (h_list : (Ty.strs 9 list).ok (offW w (([boxO bs [.slice As_0 s_code cs_0, .int .i64 s_at, .int .u64 s_seed] 87] : List Own).flatMap (·.fp))) v_list) (r0 : 0 ≤ s_at := by exact om_) (r1 : s_at ≤ 999999998 := by exact om_) (r2 : s_code ≤ 1048576 := by exact om_) (r3 : 1 ≤ list.length := by exact om_) (r4 : list.length ≤ 1000 := by exact om_) : RetB Tryd.prog 39 [.pointer (some ⟨bs, 0, none⟩), v_list] w [boxO bs [.slice As_0 s_code cs_0, .int .i64 s_at, .int .u64 s_seed] 87] (fun v bs' => ∃ (TX : List UInt8) (AT SD : Int), v = .string (sB TX) ∧ bs' = [boxO bs [.slice As_0 s_code cs_0, .int .i64 AT, .int .u64 SD] 87] ∧ (TX ∈ list) ∧ (s_at ≤ AT) ∧ (AT ≤ s_at + 2)) := by
 revert v_list; apply opn
 intro A1 c1 h1 bl1 bh1
 have h_list := h1
 refine enterB hb @Tryd.func39 @Tryd.ntmps39 rfl rfl ?_
 refine zent ?_
 refine Js.trashE ?_
 refine zn ?_
 refine zS <| Qa rfl <| zN <| Qm rfl <| Qm rfl <| Qm rfl <| Qz rfl <| zBB 1 sp_ rfl (fun w hb _ hw => c_spec_l00Src_pick s_code s_at s_seed (list.length : Int) hb (ok_ hw)) ?_
 rintro _ _ G2 ⟨X2KX, X2AT, X2SD, rfl, rfl, hX2_0, hX2_1, hX2_2, hX2_3⟩
 refine znl ?_
 obtain ⟨y3, hy3⟩ : ∃ x, list[X2KX.toNat]? = some x := ⟨_, List.getElem?_eq_getElem (by omega)⟩
 obtain ⟨b3, o3, he3, hc3⟩ := strs_elem h1 hy3
 refine Qq (p_indexAddr el_38 rfl rfl (by omega) (by omega) he3) <| QC hc3 rfl <| Qa rfl <| JL.nil ?_
 refine zrb [0] hb (Up.refl _ _) ?_
 refine ⟨(y3), (X2AT), (X2SD), rfl, ?_, by first | trivial | omega | exact List.mem_of_getElem? (by assumption), by first | trivial | omega | exact List.mem_of_getElem? (by assumption), by first | trivial | omega | exact List.mem_of_getElem? (by assumption)⟩
 · rfl
theorem c_spec_StandardNames  {w : World}  : Ret Tryd.prog 77 [] w (Ty.strs 9 M.stdNames) := by
 refine enter @Tryd.func77 @Tryd.ntmps77 rfl rfl ?_
 refine zent ?_
 refine zS <| Qa rfl <| zN <| zbs fun b1 => ?_
 refine Qa rfl <| JL.nil ?_
 exact zro (Up.refl _ _) (g := by exact (gv_strs po_ (by rfl) (by rfl)))
theorem c_spec_StandardRules (name : List UInt8) {w : World} (r0 : name ∈ M.stdNames := by exact om_) : Ret Tryd.prog 76 [.string (sB name)] w (Ty.tup [Ty.ex (fun (RX : M.Rul) => (2 ≤ RX.pits ∧ RX.pits ≤ 8)) (fun RX => Ty.agg (cRules RX)), Ty.ex (fun (CX : Int) => True) (fun CX => Ty.int CX)]) := by
 refine enter @Tryd.func76 @Tryd.ntmps76 rfl rfl ?_
 refine zent ?_
 refine zS <| za zeh fun b1 => Qa rfl <| zJ <| zS <| Qm rfl <| JL.nil <| Js.block <| zS <| Qq (p_eqlT und_9 rfl rfl) <| Qa rfl <| JL.nil ?_
 refine zi (fun h2 h2' => ?_) fun h2 h2' => ?_
 ·
  refine zS <| Qb ?_
  refine zw 0 rfl rfl rfl ?_
  refine Qa rfl <| JL.nil ?_
  exact zro (Up.refl _ _) (g := by exact (gv_tup (gvc (gv_ex (M.Rul.mk 6 4 true false false false true 2 0) (by first | trivial | omega | decide | (dsimp only; omega) | (exfalso; simp only [M.stdNames, List.mem_cons, List.not_mem_nil, or_false] at r0; rcases r0 with rfl | rfl | rfl | rfl <;> simp_all)) gv_) (gvc (gv_ex 0 (by first | trivial | omega | decide | (dsimp only; omega) | (exfalso; simp only [M.stdNames, List.mem_cons, List.not_mem_nil, or_false] at r0; rcases r0 with rfl | rfl | rfl | rfl <;> simp_all)) gv_) gvn))))
 refine zS <| Qq (p_eqlT und_9 rfl rfl) <| Qa rfl <| JL.nil ?_
 refine zi (fun h3 h3' => ?_) fun h3 h3' => ?_
 ·
  refine zS <| Qb ?_
  refine zw 0 rfl rfl rfl ?_
  refine Qa rfl <| JL.nil ?_
  exact zro (Up.refl _ _) (g := by exact (gv_tup (gvc (gv_ex (M.Rul.mk 3 2 false false false true false 1 0) (by first | trivial | omega | decide | (dsimp only; omega) | (exfalso; simp only [M.stdNames, List.mem_cons, List.not_mem_nil, or_false] at r0; rcases r0 with rfl | rfl | rfl | rfl <;> simp_all)) gv_) (gvc (gv_ex 0 (by first | trivial | omega | decide | (dsimp only; omega) | (exfalso; simp only [M.stdNames, List.mem_cons, List.not_mem_nil, or_false] at r0; rcases r0 with rfl | rfl | rfl | rfl <;> simp_all)) gv_) gvn))))
 refine zS <| Qq (p_eqlT und_9 rfl rfl) <| Qa rfl <| JL.nil ?_
 refine zi (fun h4 h4' => ?_) fun h4 h4' => ?_
 ·
  refine zS <| Qb ?_
  refine zw 0 rfl rfl rfl ?_
  refine Qa rfl <| JL.nil ?_
  exact zro (Up.refl _ _) (g := by exact (gv_tup (gvc (gv_ex (M.Rul.mk 6 4 false true false true false 1 2) (by first | trivial | omega | decide | (dsimp only; omega) | (exfalso; simp only [M.stdNames, List.mem_cons, List.not_mem_nil, or_false] at r0; rcases r0 with rfl | rfl | rfl | rfl <;> simp_all)) gv_) (gvc (gv_ex 0 (by first | trivial | omega | decide | (dsimp only; omega) | (exfalso; simp only [M.stdNames, List.mem_cons, List.not_mem_nil, or_false] at r0; rcases r0 with rfl | rfl | rfl | rfl <;> simp_all)) gv_) gvn))))
 refine zS <| Qq (p_eqlT und_9 rfl rfl) <| Qa rfl <| JL.nil ?_
 refine zi (fun h5 h5' => ?_) fun h5 h5' => ?_
 ·
  refine zS <| Qb ?_
  refine zw 0 rfl rfl rfl ?_
  refine Qa rfl <| JL.nil ?_
  exact zro (Up.refl _ _) (g := by exact (gv_tup (gvc (gv_ex (M.Rul.mk 4 2 false false true false false 2 0) (by first | trivial | omega | decide | (dsimp only; omega) | (exfalso; simp only [M.stdNames, List.mem_cons, List.not_mem_nil, or_false] at r0; rcases r0 with rfl | rfl | rfl | rfl <;> simp_all)) gv_) (gvc (gv_ex 0 (by first | trivial | omega | decide | (dsimp only; omega) | (exfalso; simp only [M.stdNames, List.mem_cons, List.not_mem_nil, or_false] at r0; rcases r0 with rfl | rfl | rfl | rfl <;> simp_all)) gv_) gvn))))
 refine Js.skip <| Js.blockEnd <| zS <| Qb ?_
 refine zw 0 rfl rfl rfl ?_
 refine Qa rfl <| JL.nil ?_
 exact zro (Up.refl _ _) (g := by exact (gv_tup (gvc (gv_ex (M.Rul.mk 0 0 false false false false false 0 0) (by first | trivial | omega | decide | (dsimp only; omega) | (exfalso; simp only [M.stdNames, List.mem_cons, List.not_mem_nil, or_false] at r0; rcases r0 with rfl | rfl | rfl | rfl <;> simp_all)) gv_) (gvc (gv_ex 3 (by first | trivial | omega | decide | (dsimp only; omega) | (exfalso; simp only [M.stdNames, List.mem_cons, List.not_mem_nil, or_false] at r0; rcases r0 with rfl | rfl | rfl | rfl <;> simp_all)) gv_) gvn))))
theorem c_spec_l02Draw (s_code : Nat) (s_at s_seed : Int) {As_0 : Option Addr} {cs_0 bs : Nat} {w : World} (hb : Bw w [boxO bs [.slice As_0 s_code cs_0, .int .i64 s_at, .int .u64 s_seed] 87]) (hps_0 : (Ty.bytes 5 s_code).ok (offW w (([boxO bs [.slice As_0 s_code cs_0, .int .i64 s_at, .int .u64 s_seed] 87] : List Own).flatMap (·.fp))) (.slice As_0 s_code cs_0)) (r0 : 0 ≤ s_at := by exact om_) (r1 : s_at ≤ 999999960 := by exact om_) (r2 : s_code ≤ 1048576 := by exact om_) : RetB Tryd.prog 65 [.pointer (some ⟨bs, 0, none⟩)] w [boxO bs [.slice As_0 s_code cs_0, .int .i64 s_at, .int .u64 s_seed] 87] (fun v bs' => ∃ (RX : M.Rul) (AT SD : Int), v = .agg #[.int .i64 RX.pits, .int .i64 RX.seeds, .bool RX.stores, .bool RX.skip, .bool RX.relay, .bool RX.feed, .bool RX.again, .int .i64 RX.capture, .int .i64 RX.slam] ∧ bs' = [boxO bs [.slice As_0 s_code cs_0, .int .i64 AT, .int .u64 SD] 87] ∧ (2 ≤ RX.pits ∧ RX.pits ≤ 8) ∧ (s_at ≤ AT) ∧ (AT ≤ s_at + 40)) := by
 refine enterB hb @Tryd.func65 @Tryd.ntmps65 rfl rfl ?_
 refine zent ?_
 refine Js.trashE ?_
 refine zn ?_
 refine zS <| za zeh fun b1 => zJ <| zS <| Qm rfl ?_
 refine zhl [1] ?_
 refine zBB 1 sp_ rfl (fun w hb _ hw => c_spec_l00Src_one s_code s_at s_seed 3 hb (ok_ hw)) ?_
 rintro _ _ G2 ⟨X2BX, X2AT, X2SD, rfl, rfl, hX2_0, hX2_1⟩
 refine znl ?_
 refine JL.nil ?_
 refine zf [0, 1] fun GG3 => ?_
 refine zn ?_
 refine zi (fun h4 h4' => ?_) fun h4 h4' => ?_
 ·
  refine zS <| Qm rfl <| zp rfl (fun w hw => c_spec_StandardNames) ?_
  intro u5 x5 A6 c6 h6 bl6 bh6
  refine zBB 1 sp_ rfl (fun w hb _ hw => c_spec_l00Src_text s_code X2AT X2SD M.stdNames hb (ok_ hw) (ok_ hw) (r3 := (by decide)) (r4 := (by decide))) ?_
  rintro _ _ G7 ⟨X7TX, X7AT, X7SD, rfl, rfl, hX7_0, hX7_1, hX7_2⟩
  refine znl ?_
  refine zp rfl (fun w hw => c_spec_StandardRules X7TX (r0 := (by assumption))) ?_
  intro u8 x8 X9 hX9 X10 hX10
  refine Qm rfl <| Qx rfl rfl <| Qx rfl rfl <| za zeh fun b11 => zw 0 rfl rfl rfl ?_
  refine Qa rfl <| JL.nil ?_
  refine zf [0, 0, 1] fun GG12 => ?_
  refine zn ?_
  refine zS <| Q9 0 rfl rfl ?_
  refine zw 2 rfl rfl rfl ?_
  refine JL.nil ?_
  refine zf [1, 1] fun GG13 => ?_
  refine zn ?_
  refine zrb [0] hb (x5.trans x8) ?_
  refine ⟨(X9), (X7AT), (X7SD), rfl, ?_, by first | trivial | omega | decide | (dsimp only; omega), by first | trivial | omega | decide | (dsimp only; omega), by first | trivial | omega | decide | (dsimp only; omega)⟩
  · rfl
 refine Js.skip <| zS <| Qm rfl <| zBB 1 sp_ rfl (fun w hb _ hw => c_spec_l00Src_pick s_code X2AT X2SD 4 hb (ok_ hw)) ?_
 rintro _ _ G14 ⟨X14KX, X14AT, X14SD, rfl, rfl, hX14_0, hX14_1, hX14_2, hX14_3⟩
 refine znl ?_
 refine Qp rfl rfl <| Qm rfl <| zBB 1 sp_ rfl (fun w hb _ hw => c_spec_l00Src_pick s_code X14AT X14SD 4 hb (ok_ hw)) ?_
 rintro _ _ G15 ⟨X15KX, X15AT, X15SD, rfl, rfl, hX15_0, hX15_1, hX15_2, hX15_3⟩
 refine znl ?_
 refine Qp rfl rfl <| Qb ?_
 refine za zeh fun b16 => zw 0 rfl rfl rfl ?_
 refine JL.nil ?_
 refine zf [0, 0, 2] fun GG17 => ?_
 refine zn ?_
 refine zS <| Qm rfl ?_
 refine zhl [1] ?_
 refine zBB 1 sp_ rfl (fun w hb _ hw => c_spec_l00Src_one s_code X15AT X15SD 2 hb (ok_ hw)) ?_
 rintro _ _ G18 ⟨X18BX, X18AT, X18SD, rfl, rfl, hX18_0, hX18_1⟩
 refine znl ?_
 refine Qf fh rfl <| zw 2 rfl rfl rfl ?_
 refine JL.nil ?_
 refine zf [0, 1, 1] fun GG19 => ?_
 refine zn ?_
 refine zS <| Qm rfl <| zBB 1 sp_ rfl (fun w hb _ hw => c_spec_l00Src_one s_code X18AT X18SD 2 hb (ok_ hw)) ?_
 rintro _ _ G20 ⟨X20BX, X20AT, X20SD, rfl, rfl, hX20_0, hX20_1⟩
 refine znl ?_
 refine Qf fh rfl <| zw 2 rfl rfl rfl ?_
 refine JL.nil ?_
 refine zf [0, 1, 1] fun GG21 => ?_
 refine zn ?_
 refine zS <| Qm rfl <| zBB 1 sp_ rfl (fun w hb _ hw => c_spec_l00Src_one s_code X20AT X20SD 4 hb (ok_ hw)) ?_
 rintro _ _ G22 ⟨X22BX, X22AT, X22SD, rfl, rfl, hX22_0, hX22_1⟩
 refine znl ?_
 refine Qf fh rfl <| zw 2 rfl rfl rfl ?_
 refine JL.nil ?_
 refine zf [0, 1, 1] fun GG23 => ?_
 refine zn ?_
 refine zS <| Qm rfl <| zBB 1 sp_ rfl (fun w hb _ hw => c_spec_l00Src_one s_code X22AT X22SD 2 hb (ok_ hw)) ?_
 rintro _ _ G24 ⟨X24BX, X24AT, X24SD, rfl, rfl, hX24_0, hX24_1⟩
 refine znl ?_
 refine Qf fh rfl <| zw 2 rfl rfl rfl ?_
 refine JL.nil ?_
 refine zf [0, 1, 1] fun GG25 => ?_
 refine zn ?_
 refine Js.seq ?_
 rcases Bool.eq_false_or_eq_true (X18BX) with h26 | h26
 ·
  refine Js.region <| Qf fh rfl <| Q0 1 rfl rfl rfl <| Qm rfl <| zT (Gd.t1 rfl rfl rfl) (show X18BX = true by first | exact h26 | (rw [h26]; rfl) | simp [h26]) <| Qm rfl <| zT (Gd.t1 rfl rfl rfl) (show X18BX = true by first | exact h26 | (rw [h26]; rfl) | simp [h26]) <| zBB 1 sp_ rfl (fun w hb _ hw => c_spec_l00Src_one s_code X24AT X24SD 2 hb (ok_ hw)) ?_
  rintro _ _ G27 ⟨X27BX, X27AT, X27SD, rfl, rfl, hX27_0, hX27_1⟩
  refine znl ?_
  refine Qq (p_pickAnd2 rfl rfl rfl) <| Qf fh rfl <| zw 2 rfl rfl rfl ?_
  refine JL.nil ?_
  refine zf [0, 1, 1] fun GG28 => ?_
  refine zn ?_
  refine zS <| Qm rfl <| zBB 1 sp_ rfl (fun w hb _ hw => c_spec_l00Src_pick s_code X27AT X27SD 4 hb (ok_ hw)) ?_
  rintro _ _ G29 ⟨X29KX, X29AT, X29SD, rfl, rfl, hX29_0, hX29_1, hX29_2, hX29_3⟩
  refine znl ?_
  refine Qf fh rfl <| zw 2 rfl rfl rfl ?_
  refine JL.nil ?_
  refine zf [0, 1, 1] fun GG30 => ?_
  refine zn ?_
  refine zS <| Qm rfl <| zBB 1 sp_ rfl (fun w hb _ hw => c_spec_l00Src_pick s_code X29AT X29SD 3 hb (ok_ hw)) ?_
  rintro _ _ G31 ⟨X31KX, X31AT, X31SD, rfl, rfl, hX31_0, hX31_1, hX31_2, hX31_3⟩
  refine znl ?_
  refine Qf fh rfl <| zw 2 rfl rfl rfl ?_
  refine JL.nil ?_
  refine zf [0, 1, 1] fun GG32 => ?_
  refine zn ?_
  refine zS <| Q9 1 rfl rfl ?_
  refine zw 2 rfl rfl rfl ?_
  refine JL.nil ?_
  refine zf [0, 1] fun GG33 => ?_
  refine zn ?_
  refine zrb [0] hb (Up.refl _ _) ?_
  refine ⟨((M.Rul.mk (2 + X14KX) (1 + X15KX) X18BX X20BX X22BX X24BX (X18BX && X27BX) X29KX X31KX)), (X31AT), (X31SD), rfl, ?_, by first | trivial | omega | decide | (dsimp only; omega), by first | trivial | omega | decide | (dsimp only; omega), by first | trivial | omega | decide | (dsimp only; omega)⟩
  · rfl
 refine Js.region <| Qf fh rfl <| Q0 1 rfl rfl rfl <| Qm rfl ?_
 refine JL.g (v := undef) (Gd.t1 rfl rfl rfl) (fun hc => absurd hc (by first | (rw [h26]; simp; done) | simp [h26])) ?_
 refine JL.g (v := .bool false) (Gd.t1 rfl rfl rfl) (fun hc => absurd hc (by first | (rw [h26]; simp; done) | simp [h26])) ?_
 refine Qq (p_pickAnd rfl rfl rfl) <| Qf fh rfl <| zw 1 rfl rfl rfl ?_
 refine zN <| Qm rfl <| zBB 1 sp_ rfl (fun w hb _ hw => c_spec_l00Src_pick s_code X24AT X24SD 4 hb (ok_ hw)) ?_
 rintro _ _ G34 ⟨X34KX, X34AT, X34SD, rfl, rfl, hX34_0, hX34_1, hX34_2, hX34_3⟩
 refine znl ?_
 refine Qf fh rfl <| zw 2 rfl rfl rfl ?_
 refine JL.nil ?_
 refine zf [0, 1, 1] fun GG35 => ?_
 refine zn ?_
 refine zS <| Qm rfl <| zBB 1 sp_ rfl (fun w hb _ hw => c_spec_l00Src_pick s_code X34AT X34SD 3 hb (ok_ hw)) ?_
 rintro _ _ G36 ⟨X36KX, X36AT, X36SD, rfl, rfl, hX36_0, hX36_1, hX36_2, hX36_3⟩
 refine znl ?_
 refine Qf fh rfl <| zw 2 rfl rfl rfl ?_
 refine JL.nil ?_
 refine zf [0, 1, 1] fun GG37 => ?_
 refine zn ?_
 refine zS <| Q9 1 rfl rfl ?_
 refine zw 2 rfl rfl rfl ?_
 refine JL.nil ?_
 refine zf [0, 1] fun GG38 => ?_
 refine zn ?_
 refine zrb [0] hb (Up.refl _ _) ?_
 refine ⟨((M.Rul.mk (2 + X14KX) (1 + X15KX) X18BX X20BX X22BX X24BX (X18BX && false) X34KX X36KX)), (X36AT), (X36SD), rfl, ?_, by first | trivial | omega | decide | (dsimp only; omega), by first | trivial | omega | decide | (dsimp only; omega), by first | trivial | omega | decide | (dsimp only; omega)⟩
 · rfl
theorem c_spec_l02Bent (s_code : Nat) (s_at s_seed : Int) {As_0 : Option Addr} {cs_0 bs : Nat} {w : World} (hb : Bw w [boxO bs [.slice As_0 s_code cs_0, .int .i64 s_at, .int .u64 s_seed] 87]) (hps_0 : (Ty.bytes 5 s_code).ok (offW w (([boxO bs [.slice As_0 s_code cs_0, .int .i64 s_at, .int .u64 s_seed] 87] : List Own).flatMap (·.fp))) (.slice As_0 s_code cs_0)) (r0 : 0 ≤ s_at := by exact om_) (r1 : s_at ≤ 999999940 := by exact om_) (r2 : s_code ≤ 1048576 := by exact om_) : RetB Tryd.prog 42 [.pointer (some ⟨bs, 0, none⟩)] w [boxO bs [.slice As_0 s_code cs_0, .int .i64 s_at, .int .u64 s_seed] 87] (fun v bs' => ∃ (RX : M.Rul) (AT SD : Int), v = .agg #[.int .i64 RX.pits, .int .i64 RX.seeds, .bool RX.stores, .bool RX.skip, .bool RX.relay, .bool RX.feed, .bool RX.again, .int .i64 RX.capture, .int .i64 RX.slam] ∧ bs' = [boxO bs [.slice As_0 s_code cs_0, .int .i64 AT, .int .u64 SD] 87] ∧ (RX.pits ≤ 9) ∧ (s_at ≤ AT) ∧ (AT ≤ s_at + 60)) := by
 refine enterB hb @Tryd.func42 @Tryd.ntmps42 rfl rfl ?_
 refine zent ?_
 refine Js.trashE ?_
 refine zn ?_
 refine zS <| za zeh fun b1 => zN <| Qm rfl ?_
 refine zhl [1] ?_
 refine zBB 1 sp_ rfl (fun w hb _ hw => c_spec_l02Draw s_code s_at s_seed hb (ok_ hw)) ?_
 rintro _ _ G2 ⟨X2RX, X2AT, X2SD, rfl, rfl, hX2_0, hX2_1, hX2_2⟩
 refine znl ?_
 refine za zeh fun b3 => zw 0 rfl rfl rfl ?_
 refine JL.nil ?_
 refine zf [0, 0, 1] fun GG4 => ?_
 refine zn ?_
 refine Js.seq <| zS <| Qm rfl ?_
 refine zhl [1] ?_
 refine zBB 1 sp_ rfl (fun w hb _ hw => c_spec_l00Src_pick s_code X2AT X2SD 24 hb (ok_ hw)) ?_
 rintro _ _ G5 ⟨X5KX, X5AT, X5SD, rfl, rfl, hX5_0, hX5_1, hX5_2, hX5_3⟩
 refine znl ?_
 refine JL.nil ?_
 refine zf [0, 1, 1] fun GG6 => ?_
 refine zn ?_
 refine Js.block <| zS <| Qe rfl rfl <| Qa rfl <| JL.nil ?_
 refine zi (fun h7 h7' => ?_) fun h7 h7' => ?_
 ·
  refine Js.region <| Qm rfl <| zbs fun b8 => ?_
  refine zhl [1] ?_
  refine zBB 1 sp_ rfl (fun w hb _ hw => c_spec_l00Src_among s_code X5AT X5SD [1, 2, 8, 9, (-9223372036854775808)] hb (ok_ hw) (ints_rowok (xs := [1, 2, 8, 9, (-9223372036854775808)]) (hw.pr (i := 0) rfl)) (r3 := (by simp)) (r4 := (by simp))) ?_
  rintro _ _ G10 ⟨X10KX, X10AT, X10SD, rfl, rfl, hX10_0, hX10_1, hX10_2⟩
  refine znl ?_
  refine Qf fh rfl <| zw 3 rfl rfl rfl ?_
  refine JL.nil ?_
  refine zf [0, 2, 2] fun GG11 => ?_
  refine zn ?_
  refine Js.blockEnd <| zS <| Q9 1 rfl rfl ?_
  refine zw 2 rfl rfl rfl ?_
  refine JL.nil ?_
  refine zf [0, 1] fun GG12 => ?_
  refine zn ?_
  refine zrb [0] hb (Up.refl _ _) ?_
  refine ⟨((M.Rul.mk X10KX X2RX.seeds X2RX.stores X2RX.skip X2RX.relay X2RX.feed X2RX.again X2RX.capture X2RX.slam)), (X10AT), (X10SD), rfl, ?_, by first | trivial | omega | (dsimp only; omega) | (have h9 := (by assumption : _ ∈ ([_, _, _, _, _] : List Int)); simp at h9; dsimp only; omega), by first | trivial | omega | (dsimp only; omega) | (have h9 := (by assumption : _ ∈ ([_, _, _, _, _] : List Int)); simp at h9; dsimp only; omega), by first | trivial | omega | (dsimp only; omega) | (have h9 := (by assumption : _ ∈ ([_, _, _, _, _] : List Int)); simp at h9; dsimp only; omega)⟩
  · rfl
 refine zS <| Qe rfl rfl <| Qa rfl <| JL.nil ?_
 refine zi (fun h13 h13' => ?_) fun h13 h13' => ?_
 ·
  refine Js.region <| Qm rfl <| zbs fun b14 => ?_
  refine zhl [1] ?_
  refine zBB 1 sp_ rfl (fun w hb _ hw => c_spec_l00Src_among s_code X5AT X5SD [0, 1, 6, 7] hb (ok_ hw) (ints_rowok (xs := [0, 1, 6, 7]) (hw.pr (i := 0) rfl)) (r3 := (by simp)) (r4 := (by simp))) ?_
  rintro _ _ G16 ⟨X16KX, X16AT, X16SD, rfl, rfl, hX16_0, hX16_1, hX16_2⟩
  refine znl ?_
  refine Qf fh rfl <| zw 3 rfl rfl rfl ?_
  refine JL.nil ?_
  refine zf [0, 2, 2] fun GG17 => ?_
  refine zn ?_
  refine Js.blockEnd <| zS <| Q9 1 rfl rfl ?_
  refine zw 2 rfl rfl rfl ?_
  refine JL.nil ?_
  refine zf [0, 1] fun GG18 => ?_
  refine zn ?_
  refine zrb [0] hb (Up.refl _ _) ?_
  refine ⟨((M.Rul.mk X2RX.pits X16KX X2RX.stores X2RX.skip X2RX.relay X2RX.feed X2RX.again X2RX.capture X2RX.slam)), (X16AT), (X16SD), rfl, ?_, by first | trivial | omega | (dsimp only; omega) | (have h9 := (by assumption : _ ∈ ([_, _, _, _, _] : List Int)); simp at h9; dsimp only; omega), by first | trivial | omega | (dsimp only; omega) | (have h9 := (by assumption : _ ∈ ([_, _, _, _, _] : List Int)); simp at h9; dsimp only; omega), by first | trivial | omega | (dsimp only; omega) | (have h9 := (by assumption : _ ∈ ([_, _, _, _, _] : List Int)); simp at h9; dsimp only; omega)⟩
  · rfl
 refine zS <| Qe rfl rfl <| Qa rfl <| JL.nil ?_
 refine zi (fun h19 h19' => ?_) fun h19 h19' => ?_
 ·
  refine Js.region <| Qm rfl <| zbs fun b20 => ?_
  refine zhl [1] ?_
  refine zBB 1 sp_ rfl (fun w hb _ hw => c_spec_l00Src_among s_code X5AT X5SD [(-1), 4, 0, 3] hb (ok_ hw) (ints_rowok (xs := [(-1), 4, 0, 3]) (hw.pr (i := 0) rfl)) (r3 := (by simp)) (r4 := (by simp))) ?_
  rintro _ _ G22 ⟨X22KX, X22AT, X22SD, rfl, rfl, hX22_0, hX22_1, hX22_2⟩
  refine znl ?_
  refine Qf fh rfl <| zw 3 rfl rfl rfl ?_
  refine JL.nil ?_
  refine zf [0, 2, 2] fun GG23 => ?_
  refine zn ?_
  refine Js.blockEnd <| zS <| Q9 1 rfl rfl ?_
  refine zw 2 rfl rfl rfl ?_
  refine JL.nil ?_
  refine zf [0, 1] fun GG24 => ?_
  refine zn ?_
  refine zrb [0] hb (Up.refl _ _) ?_
  refine ⟨((M.Rul.mk X2RX.pits X2RX.seeds X2RX.stores X2RX.skip X2RX.relay X2RX.feed X2RX.again X22KX X2RX.slam)), (X22AT), (X22SD), rfl, ?_, by first | trivial | omega | (dsimp only; omega) | (have h9 := (by assumption : _ ∈ ([_, _, _, _, _] : List Int)); simp at h9; dsimp only; omega), by first | trivial | omega | (dsimp only; omega) | (have h9 := (by assumption : _ ∈ ([_, _, _, _, _] : List Int)); simp at h9; dsimp only; omega), by first | trivial | omega | (dsimp only; omega) | (have h9 := (by assumption : _ ∈ ([_, _, _, _, _] : List Int)); simp at h9; dsimp only; omega)⟩
  · rfl
 refine zS <| Qe rfl rfl <| Qa rfl <| JL.nil ?_
 refine zi (fun h25 h25' => ?_) fun h25 h25' => ?_
 ·
  refine Js.region <| Qm rfl <| zbs fun b26 => ?_
  refine zhl [1] ?_
  refine zBB 1 sp_ rfl (fun w hb _ hw => c_spec_l00Src_among s_code X5AT X5SD [(-1), 3, 2] hb (ok_ hw) (ints_rowok (xs := [(-1), 3, 2]) (hw.pr (i := 0) rfl)) (r3 := (by simp)) (r4 := (by simp))) ?_
  rintro _ _ G28 ⟨X28KX, X28AT, X28SD, rfl, rfl, hX28_0, hX28_1, hX28_2⟩
  refine znl ?_
  refine Qf fh rfl <| zw 3 rfl rfl rfl ?_
  refine JL.nil ?_
  refine zf [0, 2, 2] fun GG29 => ?_
  refine zn ?_
  refine Js.blockEnd <| zS <| Q9 1 rfl rfl ?_
  refine zw 2 rfl rfl rfl ?_
  refine JL.nil ?_
  refine zf [0, 1] fun GG30 => ?_
  refine zn ?_
  refine zrb [0] hb (Up.refl _ _) ?_
  refine ⟨((M.Rul.mk X2RX.pits X2RX.seeds X2RX.stores X2RX.skip X2RX.relay X2RX.feed X2RX.again X2RX.capture X28KX)), (X28AT), (X28SD), rfl, ?_, by first | trivial | omega | (dsimp only; omega) | (have h9 := (by assumption : _ ∈ ([_, _, _, _, _] : List Int)); simp at h9; dsimp only; omega), by first | trivial | omega | (dsimp only; omega) | (have h9 := (by assumption : _ ∈ ([_, _, _, _, _] : List Int)); simp at h9; dsimp only; omega), by first | trivial | omega | (dsimp only; omega) | (have h9 := (by assumption : _ ∈ ([_, _, _, _, _] : List Int)); simp at h9; dsimp only; omega)⟩
  · rfl
 refine zS <| Qe rfl rfl <| Qa rfl <| JL.nil ?_
 refine zi (fun h31 h31' => ?_) fun h31 h31' => ?_
 ·
  refine zS <| Qf fh rfl <| zw 1 rfl rfl rfl ?_
  refine zG <| Qm rfl <| zBB 1 sp_ rfl (fun w hb _ hw => c_spec_l00Src_one s_code X5AT X5SD 2 hb (ok_ hw)) ?_
  rintro _ _ G32 ⟨X32BX, X32AT, X32SD, rfl, rfl, hX32_0, hX32_1⟩
  refine znl ?_
  refine Qf fh rfl <| zw 2 rfl rfl rfl ?_
  refine JL.nil ?_
  refine zf [0, 1, 1] fun GG33 => ?_
  refine zn ?_
  refine Js.blockEnd <| zS <| Q9 1 rfl rfl ?_
  refine zw 2 rfl rfl rfl ?_
  refine JL.nil ?_
  refine zf [0, 1] fun GG34 => ?_
  refine zn ?_
  refine zrb [0] hb (Up.refl _ _) ?_
  refine ⟨((M.Rul.mk X2RX.pits X2RX.seeds X32BX X2RX.skip X2RX.relay X2RX.feed true X2RX.capture X2RX.slam)), (X32AT), (X32SD), rfl, ?_, by first | trivial | omega | (dsimp only; omega) | (have h9 := (by assumption : _ ∈ ([_, _, _, _, _] : List Int)); simp at h9; dsimp only; omega), by first | trivial | omega | (dsimp only; omega) | (have h9 := (by assumption : _ ∈ ([_, _, _, _, _] : List Int)); simp at h9; dsimp only; omega), by first | trivial | omega | (dsimp only; omega) | (have h9 := (by assumption : _ ∈ ([_, _, _, _, _] : List Int)); simp at h9; dsimp only; omega)⟩
  · rfl
 refine Js.skip <| Js.blockEnd <| zS <| Q9 1 rfl rfl ?_
 refine zw 2 rfl rfl rfl ?_
 refine JL.nil ?_
 refine zf [0, 1] fun GG35 => ?_
 refine zn ?_
 refine zrb [0] hb (Up.refl _ _) ?_
 refine ⟨(X2RX), (X5AT), (X5SD), rfl, ?_, by first | trivial | omega | (dsimp only; omega) | (have h9 := (by assumption : _ ∈ ([_, _, _, _, _] : List Int)); simp at h9; dsimp only; omega), by first | trivial | omega | (dsimp only; omega) | (have h9 := (by assumption : _ ∈ ([_, _, _, _, _] : List Int)); simp at h9; dsimp only; omega), by first | trivial | omega | (dsimp only; omega) | (have h9 := (by assumption : _ ∈ ([_, _, _, _, _] : List Int)); simp at h9; dsimp only; omega)⟩
 · rfl
theorem c_spec_l01Dec (n : Int) {w : World} (r0 : -9223372036854775808 ≤ n := by exact om_) (r1 : n ≤ 9223372036854775807 := by exact om_) : RetV Tryd.prog 53 [.int .i64 n] w (.string (sB (M.dec n))) := by
 refine enter @Tryd.func53 @Tryd.ntmps53 rfl rfl ?_
 refine zent ?_
 refine zS <| Qa rfl <| zN <| zbs fun b1 => ?_
 refine Qa rfl <| zJ <| zS <| Qm rfl <| Qa rfl <| JL.nil <| Js.block ?_
 refine zl [0] (fun F U l os u m => ∃ (k : Int) (out : List UInt8) (A3_3 : Option Addr) (c3_3 : Nat) (g3_3 : List Nat), l = F [(3, .slice A3_3 out.length c3_3), (4, .int .i64 k)] ∧ os = U [some (rowO 5 1 (.slice A3_3 out.length c3_3) out.length (byt_ out) g3_3)] ∧ (M.DecI n k out) ∧ (-9223372036854775808 ≤ k) ∧ (k ≤ 9223372036854775807) ∧ (out.length ≤ c3_3) ∧ (c3_3 ≤ 9223372036854775807) ∧ m = k.natAbs) ⟨n, ([] : List UInt8), _, _, _, rfl, rfl, by exact M.DecI.zero n, zt, zt, zu, zu, rfl⟩ ?_
 rintro _ _ u3 _ ⟨k, out, A3_3, c3_3, g3_3, rfl, rfl, hD, hk0, hk1, f3_3, f3_4, rfl⟩ x3
 refine zn ?_
 obtain ⟨t1, t2, t3, t4⟩ := M.tdiv10_bd hk0 hk1
 have hol := hD.len r0 r1
 obtain ⟨t5, t6⟩ := M.tdiv10 k
 refine Js.seq <| zS <| Qm rfl <| Qd rfl rfl <| JL.nil ?_
 refine zi (fun h4 h4' => ?_) fun h4 h4' => ?_
 ·
  have hkn : k ≠ 0 := by simpa using h4
  refine Js.skip <| Js.seq <| Js.block <| zS <| Qm rfl <| Qq (p_rem rfl rfl (by omega) rfl) <| Qa rfl <| zJ <| zS <| Qm rfl <| Ql rfl rfl <| JL.nil ?_
  refine zi (fun h5 h5' => ?_) fun h5 h5' => ?_
  ·
   have hd9 := h5'
   have hD2 := hD.step (d := -k.tmod 10) hkn (by omega)
   have hu8 : ((M.u8 (48 + (-(k.tmod 10)))).toNat : Int) = 48 + (-(k.tmod 10)) := M.u8_val (by omega) (by omega)
   refine Js.region <| Qm rfl <| Qq (p_neg (r := -(k.tmod 10)) rfl (by rw [Int.zero_sub]; exact IntWalk.i64_in _ (by omega))) <| Qa rfl <| zG <| Qm rfl <| Qp rfl rfl <| Qq (p_conv @Tryd.underlying2 @Tryd.underlying5 rfl (IntWalk.u8_in _ (by omega))) <| zbs fun b6 => ?_
   refine Qm rfl ?_
   refine JL.e (e_append (i := 0) (n' := (([M.u8 (48 + (-(k.tmod 10)))] : List UInt8) ++ out).length) (vs' := byt_ (([M.u8 (48 + (-(k.tmod 10)))] : List UInt8) ++ out)) el_22 rfl rfl rfl rfl (src_rowG (i := 1) und_22 rfl (byt_one _)) (by omega) (by omega) ln2_ (by first | rfl | (simp [byt_, hu8]; done))) ?_
   rintro v9 _ _ ⟨⟨g10, rfl⟩, rfl⟩ _
   refine JL.fact (row_form' (i := 0) rfl) (fun hf11 => ?_)
   obtain ⟨A11, c11, rfl, bl11, bh11⟩ := hf11
   refine znl ?_
   refine Qa rfl <| JL.nil <| Js.blockEnd <| Js.region <| Qm rfl <| Qq (p_quo rfl rfl (by omega) (IntWalk.i64_in _ (by omega))) <| Qa rfl <| JL.nil ?_
   refine zd [0] rfl fun u12 x12 => ?_
   exact zag ⟨k.tdiv 10, ([M.u8 (48 + (-(k.tmod 10)))] : List UInt8) ++ out, _, _, _, rfl, rfl, by exact hD2, zt, zt, zu, zu, rfl⟩ (x3.trans x12)
  have hd9 := h5'
  have hD2 := hD.step (d := k.tmod 10) hkn (by omega)
  have hu15 : ((M.u8 (48 + (k.tmod 10))).toNat : Int) = 48 + (k.tmod 10) := M.u8_val (by omega) (by omega)
  refine Js.skip <| Js.region <| Qm rfl <| Qp rfl rfl <| Qq (p_conv @Tryd.underlying2 @Tryd.underlying5 rfl (IntWalk.u8_in _ (by omega))) <| zbs fun b13 => ?_
  refine Qm rfl ?_
  refine JL.e (e_append (i := 0) (n' := (([M.u8 (48 + (k.tmod 10))] : List UInt8) ++ out).length) (vs' := byt_ (([M.u8 (48 + (k.tmod 10))] : List UInt8) ++ out)) el_22 rfl rfl rfl rfl (src_rowG (i := 1) und_22 rfl (byt_one _)) (by omega) (by omega) ln2_ (by first | rfl | (simp [byt_, hu15]; done))) ?_
  rintro v16 _ _ ⟨⟨g17, rfl⟩, rfl⟩ _
  refine JL.fact (row_form' (i := 0) rfl) (fun hf18 => ?_)
  obtain ⟨A18, c18, rfl, bl18, bh18⟩ := hf18
  refine znl ?_
  refine Qa rfl <| JL.nil <| Js.blockEnd <| Js.region <| Qm rfl <| Qq (p_quo rfl rfl (by omega) (IntWalk.i64_in _ (by omega))) <| Qa rfl <| JL.nil ?_
  refine zd [0] rfl fun u19 x19 => ?_
  exact zag ⟨k.tdiv 10, ([M.u8 (48 + (k.tmod 10))] : List UInt8) ++ out, _, _, _, rfl, rfl, by exact hD2, zt, zt, zu, zu, rfl⟩ (x3.trans x19)
 have hk9 : k = 0 := by simpa using h4
 subst hk9
 refine zx ?_
 refine Js.seq <| zS <| Qm rfl <| Qz rfl <| Qe rfl rfl <| JL.nil ?_
 refine zi (fun h20 h20' => ?_) fun h20 h20' => ?_
 ·
  have hE := hD.done0 (by have := h20'; omega) r0 r1
  refine zS <| Qa rfl <| JL.nil ?_
  refine zR x3 ?_
  rw [hE]; rfl
 have hl9 : out.length ≠ 0 := by have := h20'; omega
 have lb9 : LenB out 20 := ⟨hol⟩
 refine Js.skip <| Js.seq <| zS <| Qm rfl <| Ql rfl rfl <| JL.nil ?_
 refine zi (fun h21 h21' => ?_) fun h21 h21' => ?_
 ·
  have hE := hD.neg hl9 (by simpa using h21) r0 r1
  refine zS <| Qm rfl <| Qw (q_toStr (i := 0) und_22 @Tryd.underlying5 und_9 rfl rfl) <| Qq (q_cat rfl rfl) <| Qa rfl <| JL.nil ?_
  refine zR x3 ?_
  rw [hE]; rfl
 have hE := hD.pos hl9 (by simpa using h21) r0 r1
 refine Js.skip <| zS <| Qm rfl <| Qw (q_toStr (i := 0) und_22 @Tryd.underlying5 und_9 rfl rfl) <| Qa rfl <| JL.nil ?_
 refine zR x3 ?_
 rw [hE]; rfl
theorem c_spec_l00Src_textL (s_code : Nat) (s_at s_seed : Int) {As_0 : Option Addr} {cs_0 : Nat} (list : List (List UInt8)) {v_list : Value} {bs : Nat} {w : World} (hb : Bw w [boxO bs [.slice As_0 s_code cs_0, .int .i64 s_at, .int .u64 s_seed] 87]) (hps_0 : (Ty.bytes 5 s_code).ok (offW w (([boxO bs [.slice As_0 s_code cs_0, .int .i64 s_at, .int .u64 s_seed] 87] : List Own).flatMap (·.fp))) (.slice As_0 s_code cs_0)) (h_list : (Ty.strs 9 list).ok (offW w (([boxO bs [.slice As_0 s_code cs_0, .int .i64 s_at, .int .u64 s_seed] 87] : List Own).flatMap (·.fp))) v_list) (r0 : 0 ≤ s_at := by exact om_) (r1 : s_at ≤ 999999998 := by exact om_) (r2 : s_code ≤ 1048576 := by exact om_) (r3 : 1 ≤ list.length := by exact om_) (r4 : list.length ≤ 1000 := by exact om_) (r5 : ∀ x ∈ list, x.length ≤ 8 := by exact om_) : RetB Tryd.prog 39 [.pointer (some ⟨bs, 0, none⟩), v_list] w [boxO bs [.slice As_0 s_code cs_0, .int .i64 s_at, .int .u64 s_seed] 87] (fun v bs' => ∃ (TX : List UInt8) (AT SD : Int), v = .string (sB TX) ∧ bs' = [boxO bs [.slice As_0 s_code cs_0, .int .i64 AT, .int .u64 SD] 87] ∧ (LenB TX 8) ∧ (s_at ≤ AT) ∧ (AT ≤ s_at + 2)) := by
 revert v_list; apply opn
 intro A1 c1 h1 bl1 bh1
 have h_list := h1
 refine enterB hb @Tryd.func39 @Tryd.ntmps39 rfl rfl ?_
 refine zent ?_
 refine Js.trashE ?_
 refine zn ?_
 refine zS <| Qa rfl <| zN <| Qm rfl <| Qm rfl <| Qm rfl <| Qz rfl <| zBB 1 sp_ rfl (fun w hb _ hw => c_spec_l00Src_pick s_code s_at s_seed (list.length : Int) hb (ok_ hw)) ?_
 rintro _ _ G2 ⟨X2KX, X2AT, X2SD, rfl, rfl, hX2_0, hX2_1, hX2_2, hX2_3⟩
 refine znl ?_
 obtain ⟨y3, hy3⟩ : ∃ x, list[X2KX.toNat]? = some x := ⟨_, List.getElem?_eq_getElem (by omega)⟩
 obtain ⟨b3, o3, he3, hc3⟩ := strs_elem h1 hy3
 refine Qq (p_indexAddr el_38 rfl rfl (by omega) (by omega) he3) <| QC hc3 rfl <| Qa rfl <| JL.nil ?_
 refine zrb [0] hb (Up.refl _ _) ?_
 refine ⟨(y3), (X2AT), (X2SD), rfl, ?_, by first | trivial | omega | exact ⟨r5 _ (List.mem_of_getElem? (by assumption))⟩, by first | trivial | omega | exact ⟨r5 _ (List.mem_of_getElem? (by assumption))⟩, by first | trivial | omega | exact ⟨r5 _ (List.mem_of_getElem? (by assumption))⟩⟩
 · rfl
theorem c_spec_l01Spoil (s_code : Nat) (s_at s_seed : Int) {As_0 : Option Addr} {cs_0 : Nat} (t : List UInt8) {bs : Nat} {w : World} (hb : Bw w [boxO bs [.slice As_0 s_code cs_0, .int .i64 s_at, .int .u64 s_seed] 87]) (hps_0 : (Ty.bytes 5 s_code).ok (offW w (([boxO bs [.slice As_0 s_code cs_0, .int .i64 s_at, .int .u64 s_seed] 87] : List Own).flatMap (·.fp))) (.slice As_0 s_code cs_0)) (r0 : 0 ≤ s_at := by exact om_) (r1 : s_at ≤ 999999992 := by exact om_) (r2 : s_code ≤ 1048576 := by exact om_) (r3 : t.length ≤ 900000 := by exact om_) : RetB Tryd.prog 38 [.pointer (some ⟨bs, 0, none⟩), .string (sB t)] w [boxO bs [.slice As_0 s_code cs_0, .int .i64 s_at, .int .u64 s_seed] 87] (fun v bs' => ∃ (TX : List UInt8) (AT SD : Int), v = .string (sB TX) ∧ bs' = [boxO bs [.slice As_0 s_code cs_0, .int .i64 AT, .int .u64 SD] 87] ∧ (TX.length ≤ t.length + 8) ∧ (s_at ≤ AT) ∧ (AT ≤ s_at + 8)) := by
 have lbt : LenB t 900000 := ⟨by omega⟩
 refine enterB hb @Tryd.func38 @Tryd.ntmps38 rfl rfl ?_
 refine zent ?_
 refine Js.trashE ?_
 refine zn ?_
 refine zS <| Qa rfl <| zJ <| zS <| Qm rfl <| zBB 1 sp_ rfl (fun w hb _ hw => c_spec_l00Src_pick s_code s_at s_seed 5 hb (ok_ hw)) ?_
 rintro _ _ G1 ⟨X1KX, X1AT, X1SD, rfl, rfl, hX1_0, hX1_1, hX1_2, hX1_3⟩
 refine znl ?_
 refine JL.nil ?_
 refine zf [0] fun GG2 => ?_
 refine zn ?_
 refine Js.block <| zS <| Qe rfl rfl <| Qa rfl <| JL.nil ?_
 refine zi (fun h3 h3' => ?_) fun h3 h3' => ?_
 ·
  refine zS <| Qm rfl <| Qm rfl <| Qq (p_lenS und_9 rfl) <| Qp rfl rfl <| zBB 1 sp_ rfl (fun w hb _ hw => c_spec_l00Src_pick s_code X1AT X1SD ((t.length : Int) + 1) hb (ok_ hw)) ?_
  rintro _ _ G4 ⟨X4KX, X4AT, X4SD, rfl, rfl, hX4_0, hX4_1, hX4_2, hX4_3⟩
  refine znl ?_
  refine Qa rfl <| JL.nil ?_
  refine zf [0] fun GG5 => ?_
  refine zn ?_
  refine zdr [5] ?_
  refine jM 0 rfl rfl ?_
  refine jM 1 rfl rfl ?_
  refine JH.p 2 rfl (p_takeS (i := X4KX.toNat) und_9 rfl (by rw [Int.toNat_of_nonneg (by omega)]; exact rfl) (by omega)) ?_
  refine jM 3 rfl rfl ?_
  refine jM 7 rfl rfl ?_
  refine jM 8 rfl rfl ?_
  refine JH.p 9 rfl (p_dropS (i := X4KX.toNat) und_9 rfl (by rw [Int.toNat_of_nonneg (by omega)]; exact rfl) (by omega)) ?_
  refine y1 4 ?_
  refine ybs rfl fun b6 => ?_
  refine y1 5 ?_
  refine zhh [1] ?_
  refine yBB 1 sp_ rfl rfl (fun w hb _ hw => c_spec_l00Src_textL s_code X4AT X4SD ([([32] : List UInt8), ([48] : List UInt8), ([45] : List UInt8), ([120] : List UInt8), ([49] : List UInt8), ([57] : List UInt8), ([46] : List UInt8)]) hb (ok_ hw) (strs_rowok (xs := ([([32] : List UInt8), ([48] : List UInt8), ([45] : List UInt8), ([120] : List UInt8), ([49] : List UInt8), ([57] : List UInt8), ([46] : List UInt8)])) (hw.pr (i := 0) rfl)) (r3 := (by decide)) (r4 := (by decide)) (r5 := (by decide))) ?_
  rintro _ _ G8 ⟨X8TX, X8AT, X8SD, rfl, rfl, hX8_0, hX8_1, hX8_2⟩
  refine znh ?_
  refine JH.p 6 rfl (q_cat rfl rfl) ?_
  refine JH.p 10 rfl (q_cat rfl rfl) ?_
  refine jA 11 rfl rfl ?_
  refine yd ?_
  refine zf [0] fun GG9 => ?_
  refine zn ?_
  refine Js.blockEnd <| zS <| Qm rfl <| Qa rfl <| JL.nil ?_
  refine zrb [0] hb (Up.refl _ _) ?_
  refine ⟨(((t.take X4KX.toNat) ++ X8TX) ++ (t.drop X4KX.toNat)), (X8AT), (X8SD), rfl, ?_, by first | trivial | assumption | omega | (simp only [List.length_append, List.length_take, List.length_drop, List.length_cons, List.length_nil]; omega) | (simp only [List.length_append, List.length_take, List.length_drop]; have h9 := (by assumption : LenB _ 8).h; omega), by first | trivial | assumption | omega | (simp only [List.length_append, List.length_take, List.length_drop, List.length_cons, List.length_nil]; omega) | (simp only [List.length_append, List.length_take, List.length_drop]; have h9 := (by assumption : LenB _ 8).h; omega), by first | trivial | assumption | omega | (simp only [List.length_append, List.length_take, List.length_drop, List.length_cons, List.length_nil]; omega) | (simp only [List.length_append, List.length_take, List.length_drop]; have h9 := (by assumption : LenB _ 8).h; omega)⟩
  · rfl
 refine zS <| Qe rfl rfl <| Qa rfl <| JL.nil ?_
 refine zi (fun h10 h10' => ?_) fun h10 h10' => ?_
 ·
  refine zS <| Qm rfl <| Qq (p_neqT und_9 rfl rfl) <| JL.nil ?_
  refine zi (fun h11 h11' => ?_) fun h11 h11' => ?_
  ·
   have ht0 : 0 < t.length := List.length_pos_iff.2 (by simpa using h11)
   refine zS <| Qm rfl <| Qm rfl <| Qq (p_lenS und_9 rfl) <| zBB 1 sp_ rfl (fun w hb _ hw => c_spec_l00Src_pick s_code X1AT X1SD (t.length : Int) hb (ok_ hw)) ?_
   rintro _ _ G12 ⟨X12KX, X12AT, X12SD, rfl, rfl, hX12_0, hX12_1, hX12_2, hX12_3⟩
   refine znl ?_
   refine Qa rfl <| JL.nil ?_
   refine zf [0] fun GG13 => ?_
   refine zn ?_
   refine zdr [] ?_
   refine jM 0 rfl rfl ?_
   refine jM 1 rfl rfl ?_
   refine JH.p 2 rfl (p_takeS (i := X12KX.toNat) und_9 rfl (by rw [Int.toNat_of_nonneg (by omega)]; exact rfl) (by omega)) ?_
   refine jM 3 rfl rfl ?_
   refine jM 4 rfl rfl ?_
   refine JH.p 5 rfl (p_add rfl rfl (IntWalk.i64_in _ (by omega))) ?_
   refine JH.p 6 rfl (p_dropS (i := (X12KX + 1).toNat) und_9 rfl (by rw [Int.toNat_of_nonneg (by omega)]; exact rfl) (by omega)) ?_
   refine JH.p 7 rfl (q_cat rfl rfl) ?_
   refine jA 8 rfl rfl ?_
   refine yd ?_
   refine Js.blockEnd <| zS <| Qm rfl <| Qa rfl <| JL.nil ?_
   refine zrb [0] hb (Up.refl _ _) ?_
   refine ⟨((t.take X12KX.toNat) ++ (t.drop ((X12KX + 1).toNat))), (X12AT), (X12SD), rfl, ?_, by first | trivial | assumption | omega | (simp only [List.length_append, List.length_take, List.length_drop, List.length_cons, List.length_nil]; omega) | (simp only [List.length_append, List.length_take, List.length_drop]; have h9 := (by assumption : LenB _ 8).h; omega), by first | trivial | assumption | omega | (simp only [List.length_append, List.length_take, List.length_drop, List.length_cons, List.length_nil]; omega) | (simp only [List.length_append, List.length_take, List.length_drop]; have h9 := (by assumption : LenB _ 8).h; omega), by first | trivial | assumption | omega | (simp only [List.length_append, List.length_take, List.length_drop, List.length_cons, List.length_nil]; omega) | (simp only [List.length_append, List.length_take, List.length_drop]; have h9 := (by assumption : LenB _ 8).h; omega)⟩
   · rfl
  refine Js.skip <| Js.blockEnd <| zS <| Qm rfl <| Qa rfl <| JL.nil ?_
  refine zrb [0] hb (Up.refl _ _) ?_
  refine ⟨(t), (X1AT), (X1SD), rfl, ?_, by first | trivial | assumption | omega | (simp only [List.length_append, List.length_take, List.length_drop, List.length_cons, List.length_nil]; omega) | (simp only [List.length_append, List.length_take, List.length_drop]; have h9 := (by assumption : LenB _ 8).h; omega), by first | trivial | assumption | omega | (simp only [List.length_append, List.length_take, List.length_drop, List.length_cons, List.length_nil]; omega) | (simp only [List.length_append, List.length_take, List.length_drop]; have h9 := (by assumption : LenB _ 8).h; omega), by first | trivial | assumption | omega | (simp only [List.length_append, List.length_take, List.length_drop, List.length_cons, List.length_nil]; omega) | (simp only [List.length_append, List.length_take, List.length_drop]; have h9 := (by assumption : LenB _ 8).h; omega)⟩
  · rfl
 refine Js.skip <| Js.blockEnd <| zS <| Qm rfl <| Qa rfl <| JL.nil ?_
 refine zrb [0] hb (Up.refl _ _) ?_
 refine ⟨(t), (X1AT), (X1SD), rfl, ?_, by first | trivial | assumption | omega | (simp only [List.length_append, List.length_take, List.length_drop, List.length_cons, List.length_nil]; omega) | (simp only [List.length_append, List.length_take, List.length_drop]; have h9 := (by assumption : LenB _ 8).h; omega), by first | trivial | assumption | omega | (simp only [List.length_append, List.length_take, List.length_drop, List.length_cons, List.length_nil]; omega) | (simp only [List.length_append, List.length_take, List.length_drop]; have h9 := (by assumption : LenB _ 8).h; omega), by first | trivial | assumption | omega | (simp only [List.length_append, List.length_take, List.length_drop, List.length_cons, List.length_nil]; omega) | (simp only [List.length_append, List.length_take, List.length_drop]; have h9 := (by assumption : LenB _ 8).h; omega)⟩
 · rfl
theorem c_spec_l01Split (t : List UInt8) (b : Int) {w : World} (r0 : t.length ≤ 4194304 := by exact om_) (r1 : 0 ≤ b := by exact om_) (r2 : b ≤ 255 := by exact om_) : Ret Tryd.prog 63 [.string (sB t), .int .u8 b] w (Ty.strs 9 (M.split (M.u8 b) t)) := by
 refine enter @Tryd.func63 @Tryd.ntmps63 rfl rfl ?_
 refine zent ?_
 refine zS <| Qa rfl <| zN <| zbs fun b1 => ?_
 refine Qa rfl <| zN <| Qa rfl <| zJ <| zS <| Qa rfl <| JL.nil <| Js.block ?_
 refine zl [0, 1] (fun F U l os u m => ∃ (k f : Nat) (out : List (List UInt8)) (A3_5 : Option Addr) (c3_5 : Nat) (g3_5 : List Nat), l = F [(5, .slice A3_5 out.length c3_5), (6, .int .i64 (f : Int)), (7, .int .i64 (k : Int))] ∧ os = U [some (rowO 9 1 (.slice A3_5 out.length c3_5) out.length (txs_ out) g3_5)] ∧ (M.SplI (M.u8 b) t f k out) ∧ (k ≤ t.length) ∧ (out.length ≤ c3_5) ∧ (c3_5 ≤ 9223372036854775807) ∧ m = t.length - k) ⟨0, 0, [], _, _, _, rfl, rfl, by exact M.SplI.zero _ _, zt, zu, zu, rfl⟩ ?_
 rintro _ _ u3 _ ⟨k, f, out, A3_5, c3_5, g3_5, rfl, rfl, hS, hk, f3_2, f3_3, rfl⟩ x3
 refine zn ?_
 have hl1 := hS.l
 have hl2 := hS.len
 have hl3 := M.split_len (M.u8 b) t
 refine Js.seq <| zS <| Qm rfl <| Qm rfl <| Qq (p_lenS und_9 rfl) <| Ql rfl rfl <| JL.nil ?_
 refine zi (fun h4 h4' => ?_) fun h4 h4' => ?_
 ·
  have hbt5 := M.bat_bd t k
  refine Js.skip <| Js.seq <| Js.block <| zS <| Qm rfl <| Qm rfl <| Qq (p_byteS (i := k) und_9 rfl rfl (by omega)) <| Qm rfl <| Qe rfl rfl <| JL.nil ?_
  refine zi (fun h6 h6' => ?_) fun h6 h6' => ?_
  ·
   have hS2 := hS.hit (b := b) (by omega) (by simpa using h6)
   refine zS <| Qm rfl <| Qm rfl <| Qm rfl <| Qm rfl <| Qq (p_midS (i := f) (j := k) und_9 rfl rfl rfl (by omega) (by omega)) <| zbs fun b7 => ?_
   refine JL.e (e_append (i := 1) (n' := (out ++ [(t.drop f).take (k - f)]).length) (vs' := txs_ (out ++ [(t.drop f).take (k - f)])) el_38 rfl rfl rfl rfl (src_row (i := 0) und_38 rfl rfl) (by omega) (by omega) ln2_ (by first | rfl | (simp [txs_]; done))) ?_
   rintro v9 _ _ ⟨⟨g10, rfl⟩, rfl⟩ _
   refine JL.fact (row_form' (i := 1) rfl) (fun hf11 => ?_)
   obtain ⟨A11, c11, rfl, bl11, bh11⟩ := hf11
   refine znl ?_
   refine Qa rfl <| zG <| Qm rfl <| Qp rfl rfl <| Qa rfl <| JL.nil <| Js.blockEnd <| Js.region <| Qm rfl <| Qp rfl rfl <| Qa rfl <| JL.nil ?_
   refine zd [1] rfl fun u12 x12 => ?_
   exact zag ⟨k + 1, k + 1, out ++ [(t.drop f).take (k - f)], _, _, _, rfl, rfl, by exact hS2, zt, zu, zu, rfl⟩ (x3.trans x12)
  have hS2 := hS.miss (b := b) (by omega) r1 r2 (by simpa using h6)
  refine Js.skip <| Js.blockEnd <| Js.region <| Qm rfl <| Qp rfl rfl <| Qa rfl <| JL.nil ?_
  exact zag ⟨k + 1, f, out, _, _, _, rfl, rfl, by exact hS2, zt, zu, zu, rfl⟩ x3
 have hE := hS.done (by have := h4'; omega)
 have hl1 := hS.l
 have hl2 := hS.len
 have hl3 := M.split_len (M.u8 b) t
 refine zx ?_
 refine zS <| Qm rfl <| Qm rfl <| Qm rfl <| Qq (p_dropS (i := f) und_9 rfl rfl (by omega)) <| zbs fun b13 => ?_
 refine JL.e (e_append (i := 1) (n' := (out ++ [t.drop f]).length) (vs' := txs_ (out ++ [t.drop f])) el_38 rfl rfl rfl rfl (src_row (i := 0) und_38 rfl rfl) (by omega) (by omega) ln2_ (by first | rfl | (simp [txs_]; done))) ?_
 rintro v15 _ _ ⟨⟨g16, rfl⟩, rfl⟩ _
 refine JL.fact (row_form' (i := 1) rfl) (fun hf17 => ?_)
 obtain ⟨A17, c17, rfl, bl17, bh17⟩ := hf17
 refine znl ?_
 have hq0 : (out ++ [t.drop f]) = M.split (M.u8 b) t := by exact hE
 refine Qa rfl <| JL.nil ?_
 exact zro x3 (g := by exact (gv_strsE (ys := out ++ [t.drop f]) po_ (by assumption) (by rfl)))
theorem c_spec_l01Digit (c : Int) {w : World}  : RetV Tryd.prog 83 [.int .u8 c] w (.bool (M.isDig c)) := by
 refine enter @Tryd.func83 @Tryd.ntmps83 rfl rfl ?_
 refine zent ?_
 refine zS <| Qa rfl <| zN <| Qm rfl <| Qh rfl rfl <| Qm rfl <| zg (Gd.t1 rfl rfl rfl) (fun hc => p_move rfl) <| zg (Gd.t1 rfl rfl rfl) (fun hc => p_leq (gh hc rfl) rfl) <| Qq (p_pickAnd rfl rfl rfl) <| Qa rfl <| JL.nil ?_
 exact zr (Up.refl _ _)
theorem c_spec_l01Number (t : List UInt8) {w : World} (r0 : t.length ≤ 4194304 := by exact om_) : RetV Tryd.prog 79 [.string (sB t)] w (.tuple #[.int .i64 ((M.num t).1), .bool ((M.num t).2)]) := by
 refine enter @Tryd.func79 @Tryd.ntmps79 rfl rfl ?_
 refine zent ?_
 have hbt1 := M.bat_bd t 0
 refine zS <| Qa rfl <| Qa rfl <| zN <| Qm rfl <| Qa rfl <| zJ <| zS <| Qm rfl <| Qq (p_neqT und_9 rfl rfl) <| Qm rfl <| zg (Gd.t1 rfl rfl rfl) (fun hc => p_move rfl) <| zg (Gd.t1 rfl rfl rfl) (fun hc => p_byteS (i := 0) und_9 (gh hc rfl) rfl (by first | have hc9 := hc; (try simp only [Bool.not_eq_true', decide_eq_false_iff_not] at hc9); omega | (have h9 := List.length_pos_iff.2 (by simpa using hc); omega))) ?_
 refine zg (Gd.t1 rfl rfl rfl) (fun hc => p_eql (gh hc rfl) rfl) <| Qq (p_pickAnd rfl rfl rfl) <| JL.nil ?_
 refine zi (fun h2 h2' => ?_) fun h2 h2' => ?_
 ·
  have hT : M.numT t = t.drop 1 := by have h9 := h2; simp at h9; exact M.numT_y h9.1 h9.2
  have hln : 1 ≤ t.length := by have h9 := h2; simp at h9; exact List.length_pos_iff.2 h9.1
  refine Js.region <| Qm rfl <| Qq (p_dropS (i := 1) und_9 rfl rfl (by omega)) <| Qa rfl <| zJ <| zS <| Qm rfl <| Qq (p_lenS und_9 rfl) <| Ql rfl rfl <| Qm rfl <| zg (Gd.f1 rfl rfl rfl) (fun hc => p_move rfl) <| zg (Gd.f1 rfl rfl rfl) (fun hc => p_lenS und_9 (gh hc rfl)) <| zg (Gd.f1 rfl rfl rfl) (fun hc => p_gtr (gh hc rfl) rfl) <| Qq (p_pickOr rfl rfl rfl) ?_
  refine JL.nil ?_
  refine zi (fun h3 h3' => ?_) fun h3 h3' => ?_
  ·
   have hE := M.num_len (s := t) (by rw [hT]; have h9 := h3; simp at h9; omega)
   refine zS <| Qa rfl <| Qa rfl <| JL.nil ?_
   refine zR (Up.refl _ _) ?_
   first | (rw [hE]; rfl) | (rw [hE, hS]; rfl)
  have hl9 : ¬ ((M.numT t).length < 1 ∨ 18 < (M.numT t).length) := by rw [hT]; have h9 := h3; simp at h9; omega
  refine Js.skip <| zS <| Qa rfl <| zJ <| zS <| Qa rfl <| JL.nil <| Js.block ?_
  refine zl [0, 4] (fun F U l os u m => ∃ (k : Nat) (n : Int), l = F [(5, .int .i64 n), (6, .int .i64 (k : Int))] ∧ os = U [] ∧ (n = M.numN (M.numT t) k) ∧ (M.Digs (M.numT t) k) ∧ (k ≤ (M.numT t).length) ∧ m = (M.numT t).length - k) ⟨0, 0, rfl, rfl, by rfl, by exact M.Digs.zero _, zt, rfl⟩ ?_
  rintro _ _ u4 _ ⟨k, n, rfl, rfl, hN, hD, hk, rfl⟩ x4
  refine zn ?_
  obtain ⟨n1, n2⟩ := M.numN_18 hD (by omega)
  rw [← hN] at n1 n2
  refine Js.seq <| zS <| Qm rfl <| Qm rfl <| Qq (p_lenS und_9 rfl) <| Ql rfl rfl <| JL.nil ?_
  refine zi (fun h5 h5' => ?_) fun h5 h5' => ?_
  ·
   have hkk : k < (M.numT t).length := by rw [hT]; have := h5'; omega
   obtain ⟨n3, n4⟩ := M.numN_17 hD (by omega)
   rw [← hN] at n3 n4
   have hbt6 := M.bat_bd (t.drop 1) k
   refine Js.skip <| Js.seq <| Js.block <| Js.seq <| zS <| Qm rfl <| Qm rfl <| Qq (p_byteS (i := k) und_9 rfl rfl (by omega)) <| zv rfl (fun w hw => c_spec_l01Digit (M.bat (t.drop 1) k)) <| Qt rfl <| JL.nil ?_
   refine zi (fun h7 h7' => ?_) fun h7 h7' => ?_
   ·
    have hE := M.num_dig (M.digs_no hkk (by rw [hT]; simpa using h7))
    refine zS <| Qa rfl <| Qa rfl <| JL.nil ?_
    refine zR x4 ?_
    first | (rw [hE]; rfl) | (rw [hE, hS]; rfl)
   have hd : M.isDig (M.bat (M.numT t) k) = true := by rw [hT]; simpa using h7
   have hD2 := hD.step hd
   obtain ⟨d1, d2⟩ := M.dig_bd hd
   rw [hT] at d1 d2
   have hbt8 := M.bat_bd (t.drop 1) k
   refine Js.skip <| Js.region <| Qm rfl <| Qu rfl rfl <| Qm rfl <| Qm rfl <| Qq (p_byteS (i := k) und_9 rfl rfl (by omega)) <| Qq (p_sub rfl rfl (IntWalk.u8_in _ (by omega))) <| Qq (p_conv @Tryd.underlying5 @Tryd.underlying2 rfl (IntWalk.i64_in _ (by omega))) <| Qp rfl rfl <| Qa rfl <| JL.nil <| Js.blockEnd <| Js.region ?_
   refine Qm rfl <| Qp rfl rfl <| Qa rfl <| JL.nil ?_
   exact zag ⟨k + 1, (10 * n) + ((M.bat (t.drop 1) k) - 48), rfl, rfl, by rw [hN, M.numN, hT], by exact hD2, zt, rfl⟩ x4
  have hke : k = (M.numT t).length := Nat.le_antisymm hk (by rw [hT]; have := h5'; omega)
  have hdg := M.digs_yes hD (by omega)
  rw [hke] at hN
  refine zx ?_
  refine Js.seq <| zS <| Qm rfl <| Qq (p_lenS und_9 rfl) <| Qm rfl <| Qq (p_lenS und_9 rfl) <| Ql rfl rfl <| JL.nil ?_
  refine zi (fun h9 h9' => ?_) fun h9 h9' => ?_
  ·
   have hS : M.numS t = -n := by rw [hN]; exact M.numS_neg (by rw [hT]; have := h9'; omega)
   refine Js.region <| Qm rfl <| Qq (p_neg (r := -n) rfl (by rw [Int.zero_sub]; exact IntWalk.i64_in _ (by omega))) <| Qa rfl <| zJ <| zS <| Qm rfl <| zv rfl (fun w hw => c_spec_l01Dec (-n)) <| Qm rfl <| Qq (p_neqT und_9 rfl rfl) <| JL.nil ?_
   refine zi (fun h10 h10' => ?_) fun h10 h10' => ?_
   ·
    have hE := M.num_no (s := t) (by rw [hS]; simpa using h10)
    refine zS <| Qa rfl <| Qa rfl <| JL.nil ?_
    refine zR x4 ?_
    first | (rw [hE]; rfl) | (rw [hE, hS]; rfl)
   have hE := M.num_yes hl9 hdg (by rw [hS]; simpa using h10)
   refine Js.skip <| zS <| Qm rfl <| Qa rfl <| Qa rfl <| JL.nil ?_
   refine zR x4 ?_
   first | (rw [hE]; rfl) | (rw [hE, hS]; rfl)
  have hS : M.numS t = n := by rw [hN]; exact M.numS_pos (by rw [hT]; have := h9'; omega)
  refine Js.skip <| Js.seq <| zS <| Qm rfl <| zv rfl (fun w hw => c_spec_l01Dec n) <| Qm rfl <| Qq (p_neqT und_9 rfl rfl) <| JL.nil ?_
  refine zi (fun h11 h11' => ?_) fun h11 h11' => ?_
  ·
   have hE := M.num_no (s := t) (by rw [hS]; simpa using h11)
   refine zS <| Qa rfl <| Qa rfl <| JL.nil ?_
   refine zR x4 ?_
   first | (rw [hE]; rfl) | (rw [hE, hS]; rfl)
  have hE := M.num_yes hl9 hdg (by rw [hS]; simpa using h11)
  refine Js.skip <| zS <| Qm rfl <| Qa rfl <| Qa rfl <| JL.nil ?_
  refine zR x4 ?_
  first | (rw [hE]; rfl) | (rw [hE, hS]; rfl)
 have hT : M.numT t = t := M.numT_n (by have h9 := h2; simp at h9; intro ⟨a, b⟩; exact h9 a b)
 refine Js.skip <| Js.seq <| zS <| Qm rfl <| Qq (p_lenS und_9 rfl) <| Ql rfl rfl <| Qm rfl <| zg (Gd.f1 rfl rfl rfl) (fun hc => p_move rfl) <| zg (Gd.f1 rfl rfl rfl) (fun hc => p_lenS und_9 (gh hc rfl)) <| zg (Gd.f1 rfl rfl rfl) (fun hc => p_gtr (gh hc rfl) rfl) <| Qq (p_pickOr rfl rfl rfl) <| JL.nil ?_
 refine zi (fun h12 h12' => ?_) fun h12 h12' => ?_
 ·
  have hE := M.num_len (s := t) (by rw [hT]; have h9 := h12; simp at h9; omega)
  refine zS <| Qa rfl <| Qa rfl <| JL.nil ?_
  refine zR (Up.refl _ _) ?_
  first | (rw [hE]; rfl) | (rw [hE, hS]; rfl)
 have hl9 : ¬ ((M.numT t).length < 1 ∨ 18 < (M.numT t).length) := by rw [hT]; have h9 := h12; simp at h9; omega
 refine Js.skip <| zS <| Qa rfl <| zJ <| zS <| Qa rfl <| JL.nil <| Js.block ?_
 refine zl [0, 4] (fun F U l os u m => ∃ (k : Nat) (n : Int), l = F [(5, .int .i64 n), (6, .int .i64 (k : Int))] ∧ os = U [] ∧ (n = M.numN (M.numT t) k) ∧ (M.Digs (M.numT t) k) ∧ (k ≤ (M.numT t).length) ∧ m = (M.numT t).length - k) ⟨0, 0, rfl, rfl, by rfl, by exact M.Digs.zero _, zt, rfl⟩ ?_
 rintro _ _ u13 _ ⟨k, n, rfl, rfl, hN, hD, hk, rfl⟩ x13
 refine zn ?_
 obtain ⟨n1, n2⟩ := M.numN_18 hD (by omega)
 rw [← hN] at n1 n2
 refine Js.seq <| zS <| Qm rfl <| Qm rfl <| Qq (p_lenS und_9 rfl) <| Ql rfl rfl <| JL.nil ?_
 refine zi (fun h14 h14' => ?_) fun h14 h14' => ?_
 ·
  have hkk : k < (M.numT t).length := by rw [hT]; have := h14'; omega
  obtain ⟨n3, n4⟩ := M.numN_17 hD (by omega)
  rw [← hN] at n3 n4
  have hbt15 := M.bat_bd t k
  refine Js.skip <| Js.seq <| Js.block <| Js.seq <| zS <| Qm rfl <| Qm rfl <| Qq (p_byteS (i := k) und_9 rfl rfl (by omega)) <| zv rfl (fun w hw => c_spec_l01Digit (M.bat t k)) <| Qt rfl <| JL.nil ?_
  refine zi (fun h16 h16' => ?_) fun h16 h16' => ?_
  ·
   have hE := M.num_dig (M.digs_no hkk (by rw [hT]; simpa using h16))
   refine zS <| Qa rfl <| Qa rfl <| JL.nil ?_
   refine zR x13 ?_
   first | (rw [hE]; rfl) | (rw [hE, hS]; rfl)
  have hd : M.isDig (M.bat (M.numT t) k) = true := by rw [hT]; simpa using h16
  have hD2 := hD.step hd
  obtain ⟨d1, d2⟩ := M.dig_bd hd
  rw [hT] at d1 d2
  have hbt17 := M.bat_bd t k
  refine Js.skip <| Js.region <| Qm rfl <| Qu rfl rfl <| Qm rfl <| Qm rfl <| Qq (p_byteS (i := k) und_9 rfl rfl (by omega)) <| Qq (p_sub rfl rfl (IntWalk.u8_in _ (by omega))) <| Qq (p_conv @Tryd.underlying5 @Tryd.underlying2 rfl (IntWalk.i64_in _ (by omega))) <| Qp rfl rfl <| Qa rfl <| JL.nil <| Js.blockEnd <| Js.region ?_
  refine Qm rfl <| Qp rfl rfl <| Qa rfl <| JL.nil ?_
  exact zag ⟨k + 1, (10 * n) + ((M.bat t k) - 48), rfl, rfl, by rw [hN, M.numN, hT], by exact hD2, zt, rfl⟩ x13
 have hke : k = (M.numT t).length := Nat.le_antisymm hk (by rw [hT]; have := h14'; omega)
 have hdg := M.digs_yes hD (by omega)
 rw [hke] at hN
 refine zx ?_
 refine Js.seq <| zS <| Qm rfl <| Qq (p_lenS und_9 rfl) <| Qm rfl <| Qq (p_lenS und_9 rfl) <| Ql rfl rfl <| JL.nil ?_
 refine zi (fun h18 h18' => ?_) fun h18 h18' => ?_
 ·
  have hS : M.numS t = -n := by rw [hN]; exact M.numS_neg (by rw [hT]; have := h18'; omega)
  refine Js.region <| Qm rfl <| Qq (p_neg (r := -n) rfl (by rw [Int.zero_sub]; exact IntWalk.i64_in _ (by omega))) <| Qa rfl <| zJ <| zS <| Qm rfl <| zv rfl (fun w hw => c_spec_l01Dec (-n)) <| Qm rfl <| Qq (p_neqT und_9 rfl rfl) <| JL.nil ?_
  refine zi (fun h19 h19' => ?_) fun h19 h19' => ?_
  ·
   have hE := M.num_no (s := t) (by rw [hS]; simpa using h19)
   refine zS <| Qa rfl <| Qa rfl <| JL.nil ?_
   refine zR x13 ?_
   first | (rw [hE]; rfl) | (rw [hE, hS]; rfl)
  have hE := M.num_yes hl9 hdg (by rw [hS]; simpa using h19)
  refine Js.skip <| zS <| Qm rfl <| Qa rfl <| Qa rfl <| JL.nil ?_
  refine zR x13 ?_
  first | (rw [hE]; rfl) | (rw [hE, hS]; rfl)
 have hS : M.numS t = n := by rw [hN]; exact M.numS_pos (by rw [hT]; have := h18'; omega)
 refine Js.skip <| Js.seq <| zS <| Qm rfl <| zv rfl (fun w hw => c_spec_l01Dec n) <| Qm rfl <| Qq (p_neqT und_9 rfl rfl) <| JL.nil ?_
 refine zi (fun h20 h20' => ?_) fun h20 h20' => ?_
 ·
  have hE := M.num_no (s := t) (by rw [hS]; simpa using h20)
  refine zS <| Qa rfl <| Qa rfl <| JL.nil ?_
  refine zR x13 ?_
  first | (rw [hE]; rfl) | (rw [hE, hS]; rfl)
 have hE := M.num_yes hl9 hdg (by rw [hS]; simpa using h20)
 refine Js.skip <| zS <| Qm rfl <| Qa rfl <| Qa rfl <| JL.nil ?_
 refine zR x13 ?_
 first | (rw [hE]; rfl) | (rw [hE, hS]; rfl)
theorem c_spec_l06Names  {w : World}  : Ret Tryd.prog 75 [] w (Ty.strs 9 M.capNames) := by
 refine enter @Tryd.func75 @Tryd.ntmps75 rfl rfl ?_
 refine zent ?_
 refine zS <| Qa rfl <| zN <| zbs fun b1 => ?_
 refine Qa rfl <| JL.nil ?_
 exact zro (Up.refl _ _) (g := by exact (gv_strs po_ (by rfl) (by rfl)))
theorem c_spec_l03Slams  {w : World}  : Ret Tryd.prog 40 [] w (Ty.strs 9 M.slamNames) := by
 refine enter @Tryd.func40 @Tryd.ntmps40 rfl rfl ?_
 refine zent ?_
 refine zS <| Qa rfl <| zN <| zbs fun b1 => ?_
 refine Qa rfl <| JL.nil ?_
 exact zro (Up.refl _ _) (g := by exact (gv_strs po_ (by rfl) (by rfl)))
theorem c_spec_FieldNames  {w : World}  : Ret Tryd.prog 19 [] w (Ty.strs 9 M.fieldNames) := by
 refine enter @Tryd.func19 @Tryd.ntmps19 rfl rfl ?_
 refine zent ?_
 refine zS <| Qa rfl <| zN <| zbs fun b1 => ?_
 refine Qa rfl <| JL.nil ?_
 exact zro (Up.refl _ _) (g := by exact (gv_strs po_ (by rfl) (by rfl)))
theorem c_spec_l03Bit (b : Bool) {w : World}  : RetV Tryd.prog 68 [.bool b] w (.int .i64 (M.bit b)) := by
 refine enter @Tryd.func68 @Tryd.ntmps68 rfl rfl ?_
 refine zent ?_
 refine zS <| Qa rfl <| zJ <| zS <| Qm rfl <| JL.nil ?_
 refine zi (fun h1 h1' => ?_) fun h1 h1' => ?_
 ·
  refine zS <| Qa rfl <| JL.nil ?_
  refine zR (Up.refl _ _) ?_
  first | (simp only [outV, M.bit, *, if_true, if_false]; done) | (simp [outV, M.bit, *])
 refine Js.skip <| zS <| Qa rfl <| JL.nil ?_
 refine zR (Up.refl _ _) ?_
 first | (simp only [outV, M.bit, *, if_true, if_false]; done) | (simp [outV, M.bit, *])
theorem c_spec_l03Values (r : M.Rul) {v_r : Value} {w : World} (h_r : (Ty.ref (cRules r)).ok w v_r) : Ret Tryd.prog 46 [v_r] w (Ty.ints 2 (M.fieldsL r)) := by
 revert v_r; apply opn
 intro b1 o1 hr1
 refine enter @Tryd.func46 @Tryd.ntmps46 rfl rfl ?_
 refine zent ?_
 refine zS <| Qa rfl <| zJ ?_
 refine zdr [] ?_
 refine jM 0 rfl rfl ?_
 refine jN 1 rfl rfl ?_
 refine jF 2 fld_30_0 rfl rfl ?_
 refine jW 3 ty_2 rfl rfl (fun hv => (hr1.vis hv) 0 _ rfl) ?_
 refine jM 4 rfl rfl ?_
 refine jN 5 rfl rfl ?_
 refine jF 6 fld_30_1 rfl rfl ?_
 refine jW 7 ty_2 rfl rfl (fun hv => (hr1.vis hv) 1 _ rfl) ?_
 refine jM 8 rfl rfl ?_
 refine jN 9 rfl rfl ?_
 refine jF 10 fld_30_2 rfl rfl ?_
 refine jW 11 ty_4 rfl rfl (fun hv => (hr1.vis hv) 2 _ rfl) ?_
 refine jM 13 rfl rfl ?_
 refine jN 14 rfl rfl ?_
 refine jF 15 fld_30_3 rfl rfl ?_
 refine jW 16 ty_4 rfl rfl (fun hv => (hr1.vis hv) 3 _ rfl) ?_
 refine jM 18 rfl rfl ?_
 refine jN 19 rfl rfl ?_
 refine jF 20 fld_30_4 rfl rfl ?_
 refine jW 21 ty_4 rfl rfl (fun hv => (hr1.vis hv) 4 _ rfl) ?_
 refine jM 23 rfl rfl ?_
 refine jN 24 rfl rfl ?_
 refine jF 25 fld_30_5 rfl rfl ?_
 refine jW 26 ty_4 rfl rfl (fun hv => (hr1.vis hv) 5 _ rfl) ?_
 refine jM 28 rfl rfl ?_
 refine jN 29 rfl rfl ?_
 refine jF 30 fld_30_6 rfl rfl ?_
 refine jW 31 ty_4 rfl rfl (fun hv => (hr1.vis hv) 6 _ rfl) ?_
 refine jM 33 rfl rfl ?_
 refine jN 34 rfl rfl ?_
 refine jF 35 fld_30_7 rfl rfl ?_
 refine jW 36 ty_2 rfl rfl (fun hv => (hr1.vis hv) 7 _ rfl) ?_
 refine jM 37 rfl rfl ?_
 refine jN 38 rfl rfl ?_
 refine jF 39 fld_30_8 rfl rfl ?_
 refine jW 40 ty_2 rfl rfl (fun hv => (hr1.vis hv) 8 _ rfl) ?_
 refine y1 12 ?_
 refine yv rfl rfl (fun w hw => c_spec_l03Bit r.stores) ?_
 refine y1 17 ?_
 refine yv rfl rfl (fun w hw => c_spec_l03Bit r.skip) ?_
 refine y1 22 ?_
 refine yv rfl rfl (fun w hw => c_spec_l03Bit r.relay) ?_
 refine y1 27 ?_
 refine yv rfl rfl (fun w hw => c_spec_l03Bit r.feed) ?_
 refine y1 32 ?_
 refine yv rfl rfl (fun w hw => c_spec_l03Bit r.again) ?_
 refine y1 41 ?_
 refine ybs rfl fun b2 => ?_
 refine jA 42 rfl rfl ?_
 refine yd ?_
 have hq0 : [r.pits, r.seeds, (M.bit r.stores), (M.bit r.skip), (M.bit r.relay), (M.bit r.feed), (M.bit r.again), r.capture, r.slam] = M.fieldsL r := by first | rfl | (simp [M.fieldsL]; done)
 exact zro (Up.refl _ _)
theorem c_spec_l03Text (r : M.Rul) {v_r : Value} {w : World} (h_r : (Ty.ref (cRules r)).ok w v_r) (r0 : M.okR r = true := by exact om_) : RetV Tryd.prog 62 [v_r] w (.string (sB (M.rulesT r))) := by
 obtain ⟨e1, e2, e3, e4, e5, e6, e7, e8⟩ := M.okR_all r0
 have hl4 : M.capNames.length = 4 := rfl
 have hl3 : M.slamNames.length = 3 := rfl
 have hl9 : M.fieldNames.length = 9 := rfl
 have hf9 : (M.fieldsL r).length = 9 := rfl
 revert v_r; apply opn
 intro b1 o1 hr1
 refine enter @Tryd.func62 @Tryd.ntmps62 rfl rfl ?_
 refine zent ?_
 obtain ⟨ye2, hye2⟩ : ∃ x, M.capNames[r.capture.toNat]? = some x := ⟨_, List.getElem?_eq_getElem (by omega)⟩
 have hcn := M.capName_get e5 hye2
 have lb7 : LenB ye2 9 := ⟨by rw [hcn]; exact M.capName_len _⟩
 obtain ⟨ye3, hye3⟩ : ∃ x, M.slamNames[r.slam.toNat]? = some x := ⟨_, List.getElem?_eq_getElem (by omega)⟩
 have hsn := M.slamName_get e7 hye3
 have lb8 : LenB ye3 7 := ⟨by rw [hsn]; exact M.slamName_len _⟩
 refine zS <| Qa rfl <| zJ ?_
 refine zk [0] (fun F U l os u => l = F [(3, .string (sB (((((((([112, 105, 116, 115, 61] : List UInt8) ++ (M.dec r.pits)) ++ ([32, 115, 101, 101, 100, 115, 61] : List UInt8)) ++ (M.dec r.seeds)) ++ ([32, 99, 97, 112, 116, 117, 114, 101, 61] : List UInt8)) ++ ye2) ++ ([32, 115, 108, 97, 109, 61] : List UInt8)) ++ ye3)))] ∧ os = []) ?_ ?_
 ·
  refine zdr [] ?_
  refine jM 0 rfl rfl ?_
  refine jN 1 rfl rfl ?_
  refine jF 2 fld_30_0 rfl rfl ?_
  refine jW 3 ty_2 rfl rfl (fun hv => (hr1.vis hv) 0 _ rfl) ?_
  refine jM 7 rfl rfl ?_
  refine jN 8 rfl rfl ?_
  refine jF 9 fld_30_1 rfl rfl ?_
  refine jW 10 ty_2 rfl rfl (fun hv => (hr1.vis hv) 1 _ rfl) ?_
  refine jM 15 rfl rfl ?_
  refine jN 16 rfl rfl ?_
  refine jF 17 fld_30_7 rfl rfl ?_
  refine jW 18 ty_2 rfl rfl (fun hv => (hr1.vis hv) 7 _ rfl) ?_
  refine jM 24 rfl rfl ?_
  refine jN 25 rfl rfl ?_
  refine jF 26 fld_30_8 rfl rfl ?_
  refine jW 27 ty_2 rfl rfl (fun hv => (hr1.vis hv) 8 _ rfl) ?_
  refine y1 4 ?_
  refine yv rfl rfl (fun w hw => c_spec_l01Dec r.pits) ?_
  refine JH.p 5 rfl (q_cat rfl rfl) ?_
  refine JH.p 6 rfl (q_cat rfl rfl) ?_
  refine y1 11 ?_
  refine yv rfl rfl (fun w hw => c_spec_l01Dec r.seeds) ?_
  refine JH.p 12 rfl (q_cat rfl rfl) ?_
  refine JH.p 13 rfl (q_cat rfl rfl) ?_
  refine y1 14 ?_
  refine yp rfl rfl (fun w hw => c_spec_l06Names) ?_
  intro u14 x14 A15 c15 h15 bl15 bh15
  have hy16 := hye2
  obtain ⟨b16, o16, he16, hc16⟩ := strs_elem h15 hy16
  refine jI 19 el_38 rfl rfl rfl he16 ?_
  refine y2 20 23 ?_ ?_
  ·
   refine JHo.q rfl (q_load1 ty_9.h rfl (Mem.pub hc16)) ?_
   refine JH.p 21 rfl (q_cat rfl rfl) ?_
   refine JH.p 22 rfl (q_cat rfl rfl) ?_
   refine y1 23 ?_
   refine yp rfl rfl (fun w hw => c_spec_l03Slams) ?_
   intro u17 x17 A18 c18 h18 bl18 bh18
   have hy19 := hye3
   obtain ⟨b19, o19, he19, hc19⟩ := strs_elem h18 hy19
   refine jI 28 el_38 rfl rfl rfl he19 ?_
   refine y1 29 ?_
   refine JHo.q rfl (q_load1 ty_9.h rfl (Mem.pub hc19)) ?_
   refine JH.p 30 rfl (q_cat rfl rfl) ?_
   refine jA 31 rfl rfl ?_
   refine yd ?_
   exact zm ⟨rfl, rfl⟩ (x14.trans x17)
  refine yp rfl rfl (fun w hw => c_spec_l03Slams) ?_
  intro u20 x20 A21 c21 h21 bl21 bh21
  have hy22 := hye3
  obtain ⟨b22, o22, he22, hc22⟩ := strs_elem h21 hy22
  refine jI 28 el_38 rfl rfl rfl he22 ?_
  refine y2 20 29 ?_ ?_
  ·
   refine JHo.q rfl (q_load1 ty_9.h rfl (Mem.pub (hc16.vis x20.vis))) ?_
   refine JH.p 21 rfl (q_cat rfl rfl) ?_
   refine JH.p 22 rfl (q_cat rfl rfl) ?_
   refine y1 29 ?_
   refine JHo.q rfl (q_load1 ty_9.h rfl (Mem.pub hc22)) ?_
   refine JH.p 30 rfl (q_cat rfl rfl) ?_
   refine jA 31 rfl rfl ?_
   refine yd ?_
   exact zm ⟨rfl, rfl⟩ (x14.trans x20)
  refine JHo.q rfl (q_load1 ty_9.h rfl (Mem.pub hc22)) ?_
  refine y1 20 ?_
  refine JHo.q rfl (q_load1 ty_9.h rfl (Mem.pub (hc16.vis x20.vis))) ?_
  refine JH.p 21 rfl (q_cat rfl rfl) ?_
  refine JH.p 22 rfl (q_cat rfl rfl) ?_
  refine JH.p 30 rfl (q_cat rfl rfl) ?_
  refine jA 31 rfl rfl ?_
  refine yd ?_
  exact zm ⟨rfl, rfl⟩ (x14.trans x20)
 rintro _ _ u13 ⟨rfl, rfl⟩ x13
 refine zn ?_
 refine zS <| zp rfl (fun w hw => c_spec_FieldNames) ?_
 intro u23 x23 A24 c24 h24 bl24 bh24
 refine Qa rfl <| zN <| Qm rfl <| zp rfl (fun w hw => c_spec_l03Values r (ok_ hw)) ?_
 intro u25 x25 A26 c26 h26 bl26 bh26
 refine Qa rfl <| zJ <| zS <| Qa rfl <| JL.nil <| Js.block ?_
 refine zl [4, 5] (fun F U l os u m => ∃ (k : Nat) (out : List UInt8), l = F [(3, .string (sB out)), (6, .int .i64 (k : Int))] ∧ os = U [] ∧ (out = M.rulesN r (k - 2)) ∧ (2 ≤ k) ∧ (k ≤ 7) ∧ m = 7 - k) ⟨2, ((((((([112, 105, 116, 115, 61] : List UInt8) ++ (M.dec r.pits)) ++ ([32, 115, 101, 101, 100, 115, 61] : List UInt8)) ++ (M.dec r.seeds)) ++ ([32, 99, 97, 112, 116, 117, 114, 101, 61] : List UInt8)) ++ ye2) ++ ([32, 115, 108, 97, 109, 61] : List UInt8)) ++ ye3, rfl, rfl, by rw [hcn, hsn]; rfl, zt, zt, rfl⟩ ?_
 rintro _ _ u27 _ ⟨k, out, rfl, rfl, hJ, hk2, hk, rfl⟩ x27
 refine zn ?_
 have lb9 : LenB out 155 := ⟨by rw [hJ]; have := M.rulesN_len r (k - 2) (by omega); omega⟩
 refine Js.seq <| zS <| Qm rfl <| Qk rfl rfl <| JL.nil ?_
 refine zi (fun h28 h28' => ?_) fun h28 h28' => ?_
 ·
  have k6 : k ≤ 6 := by have := h28'; omega
  obtain ⟨b29, o29, he29, hc29⟩ := ints_elem (Ty.mono _ h26 x27.vis) (i := k) (by omega)
  refine Js.skip <| Js.seq <| Js.block <| zS <| Qm rfl <| Qm rfl <| Qq (p_indexAddr el_65 rfl rfl (by omega) (by omega) he29) <| QC hc29 rfl <| Qe rfl rfl <| JL.nil ?_
  refine zi (fun h30 h30' => ?_) fun h30 h30' => ?_
  ·
   have hv1 := h30'
   obtain ⟨ye31, hye31⟩ : ∃ x, M.fieldNames[k]? = some x := ⟨_, List.getElem?_eq_getElem (by omega)⟩
   have lb6 : LenB ye31 6 := ⟨M.fNames_len (List.mem_of_getElem? (M.fields_at (r := r) hk2 k6 hye31).1)⟩
   have hJ2 := M.rulesN_s hJ hk2 k6 hye31 hv1
   have hy32 := hye31
   obtain ⟨b32, o32, he32, hc32⟩ := strs_elem (Ty.mono _ h24 (x25.vis.trans x27.vis)) hy32
   refine Js.region <| Qm rfl <| Qm rfl <| Qm rfl <| Qq (p_indexAddr el_38 rfl rfl (by omega) (by omega) he32) <| QC hc32 rfl <| Qq (q_cat rfl rfl) <| Qq (q_cat rfl rfl) <| Qa rfl <| JL.nil <| Js.blockEnd <| Js.region <| Qm rfl <| Qp rfl rfl ?_
   refine Qa rfl <| JL.nil ?_
   exact zag ⟨k + 1, out ++ (([32] : List UInt8) ++ ye31), rfl, rfl, by exact hJ2, zt, zt, rfl⟩ x27
  have hJ2 := M.rulesN_n hJ hk2 k6 (by simpa using h30)
  refine Js.skip <| Js.blockEnd <| Js.region <| Qm rfl <| Qp rfl rfl <| Qa rfl <| JL.nil ?_
  exact zag ⟨k + 1, out, rfl, rfl, by exact hJ2, zt, zt, rfl⟩ x27
 have hJ3 : out = M.rulesT r := M.rulesN_e (k := k - 2) hJ (by have := h28'; omega) (by omega)
 refine zx ?_
 refine zS <| Qm rfl <| Qa rfl <| JL.nil ?_
 refine zR (((x13.trans x23).trans x25).trans x27) ?_
 rw [← hJ3]; rfl
theorem c_spec_l03Index (list : List (List UInt8)) {v_list : Value} (t : List UInt8) {w : World} (h_list : (Ty.strs 9 list).ok w v_list) (r0 : list.length ≤ 4194304 := by exact om_) : RetV Tryd.prog 41 [v_list, .string (sB t)] w (.int .i64 (M.idx list t)) := by
 revert v_list; apply opn
 intro A1 c1 h1 bl1 bh1
 have h_list := h1
 refine enter @Tryd.func41 @Tryd.ntmps41 rfl rfl ?_
 refine zent ?_
 refine zS <| Qa rfl <| zJ <| zS <| Qa rfl <| JL.nil <| Js.block ?_
 refine zl [0, 1] (fun F U l os u m => ∃ (k : Nat), l = F [(5, .int .i64 (k : Int))] ∧ os = U [] ∧ (k ≤ list.length) ∧ (M.Nix list t k) ∧ m = list.length - k) ⟨0, rfl, rfl, zt, by exact M.Nix.zero _ _, rfl⟩ ?_
 rintro _ _ u2 _ ⟨k, rfl, rfl, hk, hN, rfl⟩ x2
 refine zn ?_
 refine Js.seq <| zS <| Qm rfl <| Qm rfl <| Qz rfl <| Ql rfl rfl <| JL.nil ?_
 refine zi (fun h3 h3' => ?_) fun h3 h3' => ?_
 ·
  obtain ⟨ye4, hye4⟩ : ∃ x, list[k]? = some x := ⟨_, List.getElem?_eq_getElem (by omega)⟩
  have hy5 := hye4
  obtain ⟨b5, o5, he5, hc5⟩ := strs_elem (Ty.mono _ h1 x2.vis) hy5
  refine Js.skip <| Js.seq <| Js.block <| zS <| Qm rfl <| Qm rfl <| Qq (p_indexAddr el_38 rfl rfl (by omega) (by omega) he5) <| QC hc5 rfl <| Qm rfl <| Qq (p_eqlT und_9 rfl rfl) <| JL.nil ?_
  refine zi (fun h6 h6' => ?_) fun h6 h6' => ?_
  ·
   have hE := hN.hit hye4 (by simpa using h6)
   refine zS <| Qm rfl <| Qa rfl <| JL.nil ?_
   refine zR x2 ?_
   rw [hE]; rfl
  have hN2 := hN.step hye4 (by simpa using h6)
  refine Js.skip <| Js.blockEnd <| Js.region <| Qm rfl <| Qp rfl rfl <| Qa rfl <| JL.nil ?_
  exact zag ⟨k + 1, rfl, rfl, zt, by exact hN2, rfl⟩ x2
 have hE := hN.miss (by have := h3'; omega)
 refine zx ?_
 refine zS <| Qa rfl <| JL.nil ?_
 refine zR x2 ?_
 rw [hE]; rfl
theorem c_spec_l03Parts (s : List UInt8) {w : World} (r0 : s.length ≤ 4000000 := by exact om_) : Ret Tryd.prog 69 [.string (sB s)] w (Ty.tup [Ty.strs 9 (M.wds s), Ty.ints 2 (M.pls s)]) := by
 refine enter @Tryd.func69 @Tryd.ntmps69 rfl rfl ?_
 refine zent ?_
 refine zS <| Qa rfl <| Qa rfl <| zN <| zbs fun b1 => ?_
 refine Qa rfl <| zN <| zbs fun b3 => ?_
 refine Qa rfl <| zJ <| zS <| Qa rfl <| JL.nil <| Js.block ?_
 refine zl [0] (fun F U l os u m => ∃ (i : Nat) (ps : List Int) (ws : List (List UInt8)) (A5_4 : Option Addr) (c5_4 : Nat) (g5_4 : List Nat) (A5_5 : Option Addr) (c5_5 : Nat) (g5_5 : List Nat), l = F [(4, .slice A5_4 ws.length c5_4), (5, .slice A5_5 ps.length c5_5), (6, .int .i64 (i : Int))] ∧ os = U [some (rowO 2 1 (.slice A5_5 ps.length c5_5) ps.length (ints_ ps) g5_5), some (rowO 9 1 (.slice A5_4 ws.length c5_4) ws.length (txs_ ws) g5_4)] ∧ (M.PrtI s i ws ps) ∧ (i ≤ s.length) ∧ (ws.length ≤ c5_4) ∧ (c5_4 ≤ 9223372036854775807) ∧ (ps.length ≤ c5_5) ∧ (c5_5 ≤ 9223372036854775807) ∧ m = s.length - i) ⟨0, [], [], _, _, _, _, _, _, rfl, rfl, by exact M.PrtI.zero s, zt, zu, zu, zu, zu, rfl⟩ ?_
 rintro _ _ u5 _ ⟨i, ps, ws, A5_4, c5_4, g5_4, A5_5, c5_5, g5_5, rfl, rfl, hP, hi, f5_2, f5_3, f5_4, f5_5, rfl⟩ x5
 refine zn ?_
 obtain ⟨l1, l2⟩ := hP.len
 refine Js.seq <| zS <| Qm rfl <| Qm rfl <| Qq (p_lenS und_9 rfl) <| Ql rfl rfl <| JL.nil ?_
 refine zi (fun h6 h6' => ?_) fun h6 h6' => ?_
 ·
  have hbt7 := M.bat_bd s i
  refine Js.skip <| Js.block <| Js.seq <| zS <| Qm rfl <| Qm rfl <| Qq (p_byteS (i := i) und_9 rfl rfl (by omega)) <| Qe rfl rfl <| JL.nil ?_
  refine zi (fun h8 h8' => ?_) fun h8 h8' => ?_
  ·
   have hP2 := hP.blank (by omega) (by simpa using h8)
   refine zS <| Qm rfl <| Qp rfl rfl <| Qa rfl <| JL.nil ?_
   refine zx ?_
   exact zag ⟨i + 1, ps, ws, _, _, _, _, _, _, rfl, rfl, by exact hP2, zt, zu, zu, zu, zu, rfl⟩ x5
  have hb0 : ¬ M.bat s i = 32 := by simpa using h8
  refine Js.skip <| zS <| Qm rfl <| Qa rfl <| zJ <| Js.block ?_
  refine zl [0, 4, 5, 6] (fun F U l os u m => ∃ (k : Nat), l = F [(7, .int .i64 (k : Int))] ∧ os = U [] ∧ (M.WrdI s i k) ∧ m = s.length - k) ⟨i, rfl, rfl, by exact M.WrdI.zero hi, rfl⟩ ?_
  rintro _ _ u9 _ ⟨k, rfl, rfl, hW, rfl⟩ x9
  refine zn ?_
  have hW1 := hW.l
  have hW3 := hW.u
  have hbt10 := M.bat_bd s k
  refine Js.seq <| zS <| Qm rfl <| Qm rfl <| Qq (p_lenS und_9 rfl) <| Ql rfl rfl <| Qm rfl <| zg (Gd.t1 rfl rfl rfl) (fun hc => p_move rfl) <| zg (Gd.t1 rfl rfl rfl) (fun hc => p_move rfl) <| zg (Gd.t1 rfl rfl rfl) (fun hc => p_byteS (i := k) und_9 (gh hc rfl) (gh hc rfl) (by first | have hc9 := hc; (try simp only [decide_eq_true_eq] at hc9); omega | (have h9 := List.length_pos_iff.2 (by simpa using hc); omega))) ?_
  refine zg (Gd.t1 rfl rfl rfl) (fun hc => p_neq (gh hc rfl) rfl) <| Qq (p_pickAnd rfl rfl rfl) <| JL.nil ?_
  refine zi (fun h11 h11' => ?_) fun h11 h11' => ?_
  ·
   have hb1 : k < s.length ∧ ¬ M.bat s k = 32 := by have h9 := h11; simp at h9; exact h9
   have hW2 := hW.step hb1.1 hb1.2
   refine Js.skip <| Js.block <| Js.region <| Qm rfl <| Qp rfl rfl <| Qa rfl <| JL.nil <| Js.blockEnd ?_
   exact zag ⟨k + 1, rfl, rfl, by exact hW2, rfl⟩ x9
  have hb2 : k = s.length ∨ k < s.length ∧ M.bat s k = 32 := by have h9 := h11; simp at h9; have := hW.u; by_cases h8 : k < s.length; exact .inr ⟨h8, h9 h8⟩; exact .inl (by omega)
  have hik : i < k := by have := hW.l; rcases Nat.lt_or_ge i k with h8 | h8; exact h8; (have h7 : k = i := by omega); subst h7; rcases hb2 with h9 | ⟨_, h9⟩; omega; exact absurd h9 hb0
  have hP2 := hP.word hW hik hb2
  have hW1 := hW.l
  have hW3 := hW.u
  refine zx ?_
  refine zS <| Qm rfl <| Qm rfl <| Qm rfl <| Qm rfl <| Qq (p_midS (i := i) (j := k) und_9 rfl rfl rfl (by omega) (by omega)) <| zbs fun b12 => ?_
  refine JL.e (e_append (i := 2) (n' := (ws ++ [(s.drop i).take (k - i)]).length) (vs' := txs_ (ws ++ [(s.drop i).take (k - i)])) el_38 rfl rfl rfl rfl (src_row (i := 0) und_38 rfl rfl) (by omega) (by omega) ln2_ (by first | rfl | (simp [txs_]; done))) ?_
  rintro v14 _ _ ⟨⟨g15, rfl⟩, rfl⟩ _
  refine JL.fact (row_form' (i := 2) rfl) (fun hf16 => ?_)
  obtain ⟨A16, c16, rfl, bl16, bh16⟩ := hf16
  refine znl ?_
  refine Qa rfl <| zN <| Qm rfl <| Qm rfl <| zbs fun b17 => ?_
  refine JL.e (e_append (i := 2) (n' := (ps ++ [(i : Int)]).length) (vs' := ints_ (ps ++ [(i : Int)])) el_65 rfl rfl rfl rfl (src_row (i := 0) und_65 rfl rfl) (by omega) (by omega) ln2_ (by simp [ints_])) ?_
  rintro v19 _ _ ⟨⟨g20, rfl⟩, rfl⟩ _
  refine JL.fact (row_form' (i := 2) rfl) (fun hf21 => ?_)
  obtain ⟨A21, c21, rfl, bl21, bh21⟩ := hf21
  refine znl ?_
  refine Qa rfl <| zG <| Qm rfl <| Qa rfl <| JL.nil <| Js.blockEnd ?_
  refine zd [2, 2] rfl fun u22 x22 => ?_
  exact zag ⟨k, ps ++ [(i : Int)], ws ++ [(s.drop i).take (k - i)], _, _, _, _, _, _, rfl, rfl, by exact hP2, zt, zu, zu, zu, zu, rfl⟩ ((x5.trans x9).trans x22)
 obtain ⟨hE1, hE2⟩ := hP.done (by have := h6'; omega)
 have hpl := M.pls_len s
 have hwl := M.wds_len s
 refine zx ?_
 have hq0 : ws = (M.wds s) := by first | exact hE1 | exact hE2
 have hq1 : ps = (M.pls s) := by first | exact hE1 | exact hE2
 refine zS <| Qm rfl <| Qm rfl <| Qa rfl <| Qa rfl <| JL.nil ?_
 exact zro x5 (g := by exact (gv_tup (gvc (gv_strsE (ys := ws) po_ (by assumption) (by rfl)) (gvc gv_ gvn))))
theorem c_spec_l03Cut (s : List UInt8) {w : World} (r0 : s.length ≤ 4194304 := by exact om_) : RetV Tryd.prog 78 [.string (sB s)] w (.tuple #[.string (sB ((M.cutS s [61]).1)), .string (sB ((M.cutS s [61]).2.1)), .bool ((M.cutS s [61]).2.2)]) := by
 refine enter @Tryd.func78 @Tryd.ntmps78 rfl rfl ?_
 refine zent ?_
 refine zS <| Qa rfl <| Qa rfl <| Qa rfl <| zJ <| zS <| Qa rfl <| JL.nil <| Js.block ?_
 refine zl [0] (fun F U l os u m => ∃ (k : Nat), l = F [(5, .int .i64 (k : Int))] ∧ os = U [] ∧ (k ≤ s.length) ∧ (∀ i, i < k → (s.drop i).take ([61] : List UInt8).length ≠ [61]) ∧ m = s.length - k) ⟨0, rfl, rfl, zt, by exact fun i h => absurd h (by omega), rfl⟩ ?_
 rintro _ _ u1 _ ⟨k, rfl, rfl, hk, hn, rfl⟩ x1
 refine zn ?_
 refine Js.seq <| zS <| Qm rfl <| Qm rfl <| Qq (p_lenS und_9 rfl) <| Ql rfl rfl <| JL.nil ?_
 refine zi (fun h2 h2' => ?_) fun h2 h2' => ?_
 ·
  have hks : k + 1 ≤ s.length := by have := h2'; omega
  have hbt3 := M.bat_bd s k
  refine Js.skip <| Js.seq <| Js.block <| zS <| Qm rfl <| Qm rfl <| Qq (p_byteS (i := k) und_9 rfl rfl (by omega)) <| Qe rfl rfl <| JL.nil ?_
  refine zi (fun h4 h4' => ?_) fun h4 h4' => ?_
  ·
   have hE := M.cutS_yes (sep := [61]) hks (M.take1 hks (by simpa using h4)) hn
   refine Js.seq ?_
   refine zdr [] ?_
   refine jM 0 rfl rfl ?_
   refine jM 1 rfl rfl ?_
   refine JH.p 2 rfl (p_takeS (i := k) und_9 rfl rfl (by omega)) ?_
   refine jM 3 rfl rfl ?_
   refine jM 4 rfl rfl ?_
   refine JH.p 5 rfl (p_add rfl rfl (IntWalk.i64_in _ (by omega))) ?_
   refine JH.p 6 rfl (p_dropS (i := k + 1) und_9 rfl rfl (by omega)) ?_
   refine jA 7 rfl rfl ?_
   refine jA 8 rfl rfl ?_
   refine jA 9 rfl rfl ?_
   refine yd ?_
   refine zR x1 ?_
   rw [hE]; rfl
  have hn2 := M.miss_step hn (M.take1n hks (by simpa using h4))
  refine Js.skip <| Js.blockEnd <| Js.region <| Qm rfl <| Qp rfl rfl <| Qa rfl <| JL.nil ?_
  exact zag ⟨k + 1, rfl, rfl, zt, by exact hn2, rfl⟩ x1
 have hE := M.cutS_no (sep := [61]) (k := k) (by have := h2'; simp only [List.length_cons, List.length_nil]; omega) hn
 refine zx ?_
 refine zS <| Qm rfl <| Qa rfl <| Qa rfl <| Qa rfl <| JL.nil ?_
 refine zR x1 ?_
 rw [hE]; rfl
theorem c_spec_l03Word (wd : List UInt8) {w : World} (r0 : wd.length ≤ 4194304 := by exact om_) : RetV Tryd.prog 70 [.string (sB wd)] w (.tuple #[.int .i64 ((M.wrd wd).1), .int .i64 ((M.wrd wd).2.1), .int .i64 ((M.wrd wd).2.2)]) := by
 have hcl := M.cutS_len wd [61]
 have hl9 : M.fieldNames.length = 9 := rfl
 have hl4 : M.capNames.length = 4 := rfl
 have hl3 : M.slamNames.length = 3 := rfl
 have hkb := M.idx_bd M.fieldNames (M.cutS wd [61]).1
 have hsb := M.idx_bd M.slamNames (M.cutS wd [61]).2.1
 have hpb := M.idx_bd M.capNames (M.cutS wd [61]).2.1
 obtain ⟨hnb1, hnb2⟩ := M.num_bd (M.cutS wd [61]).2.1
 refine enter @Tryd.func70 @Tryd.ntmps70 rfl rfl ?_
 refine zent ?_
 refine zS <| Qa rfl <| Qa rfl <| Qa rfl <| zN <| Qm rfl <| zv rfl (fun w hw => c_spec_l03Cut wd) <| Qm rfl <| Qx rfl rfl <| Qx rfl rfl <| Qx rfl rfl <| Qa rfl <| Qa rfl <| Qa rfl ?_
 refine zN <| zp rfl (fun w hw => c_spec_FieldNames) ?_
 intro u1 x1 A2 c2 h2 bl2 bh2
 refine Qm rfl <| zv rfl (fun w hw => c_spec_l03Index M.fieldNames ((M.cutS wd [61]).1) (ok_ hw)) <| Qa rfl <| zJ <| zS <| Qm rfl <| Ql rfl rfl <| Qm rfl <| zg (Gd.f1 rfl rfl rfl) (fun hc => p_move rfl) <| zg (Gd.f1 rfl rfl rfl) (fun hc => p_move rfl) <| zgv (Gd.f1 rfl rfl rfl) (fun hc => (opds_3 (gh hc rfl) rfl rfl)) (fun hc => (fun w hw => c_spec_l00In (M.idx M.fieldNames ((M.cutS wd [61]).1)) 2 6)) ?_
 refine zg (Gd.f1 rfl rfl rfl) (fun hc => p_eqlB und_4 (gh hc rfl) (gh hc rfl)) <| Qq (p_pickOr rfl rfl rfl) <| JL.nil ?_
 refine zi (fun h3 h3' => ?_) fun h3 h3' => ?_
 ·
  have hE := M.wrd_1 (w := wd) (by have h9 := h3; simp only [Bool.or_eq_true, decide_eq_true_eq, beq_iff_eq] at h9; exact h9)
  refine zS <| Qa rfl <| Qa rfl <| Qa rfl <| JL.nil ?_
  refine zR x1 ?_
  rw [hE]; rfl
 have h1 : ¬ ((M.idx M.fieldNames (M.cutS wd [61]).1) < 0 ∨ (M.cutS wd [61]).2.2 = M.betw (M.idx M.fieldNames (M.cutS wd [61]).1) 2 6) := by have h9 := h3; simp only [Bool.or_eq_false_iff, decide_eq_false_iff_not, beq_eq_false_iff_ne] at h9; rintro (h8 | h8); exact h9.1 h8; exact h9.2 h8
 refine Js.skip <| Js.seq <| zS <| Qm rfl <| JL.nil <| Js.block <| Js.seq <| zS <| Qe rfl rfl <| Qa rfl <| JL.nil ?_
 refine zi (fun h4 h4' => ?_) fun h4 h4' => ?_
 ·
  refine Js.skip ?_
  refine Js.condT rfl h4 ?_
  refine zS <| Qm rfl <| zv rfl (fun w hw => c_spec_l01Number ((M.cutS wd [61]).2.1)) <| Qm rfl <| Qx rfl rfl <| Qx rfl rfl <| Qa rfl <| Qa rfl <| zJ <| zS <| Qm rfl <| Qt rfl <| JL.nil ?_
  refine zi (fun h5 h5' => ?_) fun h5 h5' => ?_
  ·
   have hE := M.wrd_3 h1 (by omega) (by simpa using h5)
   refine zS <| Qm rfl <| Qa rfl <| Qa rfl <| Qa rfl <| JL.nil ?_
   refine zR x1 ?_
   rw [hE]; rfl
  have hn : (M.num (M.cutS wd [61]).2.1).2 = true := by simpa using h5
  refine Js.skip <| Js.seq <| zS <| Qm rfl <| Qe rfl rfl <| Qm rfl <| zT (Gd.t1 rfl rfl rfl) (show (decide (M.idx M.fieldNames ((M.cutS wd [61]).1) = 0)) = true by first | exact h4 | (rw [h4]; rfl) | simp [h4]) <| Qm rfl <| zT (Gd.t1 rfl rfl rfl) (show (decide (M.idx M.fieldNames ((M.cutS wd [61]).1) = 0)) = true by first | exact h4 | (rw [h4]; rfl) | simp [h4]) <| zv rfl (fun w hw => c_spec_l00In ((M.num ((M.cutS wd [61]).2.1)).1) 2 8) <| zT (Gd.t1 rfl rfl rfl) (show (decide (M.idx M.fieldNames ((M.cutS wd [61]).1) = 0)) = true by first | exact h4 | (rw [h4]; rfl) | simp [h4]) <| Qt rfl <| Qq (p_pickAnd2 rfl rfl rfl) <| Qm rfl ?_
  refine zg (Gd.f1 rfl rfl rfl) (fun hc => p_move rfl) <| zg (Gd.f1 rfl rfl rfl) (fun hc => p_eql (gh hc rfl) rfl) <| zg (Gd.f1 rfl rfl rfl) (fun hc => p_move (gh hc rfl)) <| zg (Gd.t2 rfl rfl rfl) (fun hc => p_move rfl) <| zgv (Gd.t2 rfl rfl rfl) (fun hc => (opds_3 (gh hc rfl) rfl rfl)) (fun hc => (fun w hw => c_spec_l00In ((M.num ((M.cutS wd [61]).2.1)).1) 1 6)) ?_
  refine zg (Gd.t2 rfl rfl rfl) (fun hc => p_not (gh hc rfl)) <| zg (Gd.f1 rfl rfl rfl) (fun hc => p_pickAnd (gh hc rfl) (gvl rfl hc) rfl) <| Qq (p_pickOr rfl rfl rfl) <| JL.nil ?_
  refine zi (fun h6 h6' => ?_) fun h6 h6' => ?_
  ·
   have hE := M.wrd_4 h1 (by omega) hn (by have h9 := h6; simp only [Bool.or_eq_true, Bool.and_eq_true, decide_eq_true_eq, Bool.not_eq_true'] at h9; rcases h9 with h9 | h9 <;> first | exact .inl h9 | exact .inr h9 | exact absurd h9.2 (by decide))
   refine zS <| Qm rfl <| Qa rfl <| Qa rfl <| Qa rfl <| JL.nil ?_
   refine zR x1 ?_
   rw [hE]; rfl
  have hE := M.wrd_0 h1 (by omega) hn (by have h9 := h6; intro h8; have h7 := Bool.eq_false_iff.1 h9; apply h7; simp only [Bool.or_eq_true, Bool.and_eq_true, decide_eq_true_eq, Bool.not_eq_true']; rcases h8 with h8 | h8 <;> first | exact .inl h8 | exact .inr h8 | exact absurd h8.1 (by omega))
  refine Js.skip <| zS <| Qm rfl <| Qm rfl <| Qa rfl <| Qa rfl <| Qa rfl <| JL.nil ?_
  refine zR x1 ?_
  rw [hE]; rfl
 refine Js.region <| Qe rfl rfl <| Qa rfl <| JL.nil ?_
 refine zi (fun h7 h7' => ?_) fun h7 h7' => ?_
 ·
  refine zS <| Qm rfl <| zv rfl (fun w hw => c_spec_l01Number ((M.cutS wd [61]).2.1)) <| Qm rfl <| Qx rfl rfl <| Qx rfl rfl <| Qa rfl <| Qa rfl <| zJ <| zS <| Qm rfl <| Qt rfl <| JL.nil ?_
  refine zi (fun h8 h8' => ?_) fun h8 h8' => ?_
  ·
   have hE := M.wrd_3 h1 (by omega) (by simpa using h8)
   refine zS <| Qm rfl <| Qa rfl <| Qa rfl <| Qa rfl <| JL.nil ?_
   refine zR x1 ?_
   rw [hE]; rfl
  have hn : (M.num (M.cutS wd [61]).2.1).2 = true := by simpa using h8
  refine Js.skip <| Js.seq <| zS <| Qm rfl <| Qe rfl rfl <| Qm rfl ?_
  refine JL.g (v := undef) (Gd.t1 rfl rfl rfl) (fun hc => absurd hc (by first | (rw [h4]; simp; done) | simp [h4])) ?_
  refine JL.g (v := .bool false) (Gd.t1 rfl rfl rfl) (fun hc => absurd hc (by first | (rw [h4]; simp; done) | simp [h4])) ?_
  refine JL.g (v := .bool false) (Gd.t1 rfl rfl rfl) (fun hc => absurd hc (by first | (rw [h4]; simp; done) | simp [h4])) ?_
  refine Qq (p_pickAnd rfl rfl rfl) <| Qm rfl <| zg (Gd.f1 rfl rfl rfl) (fun hc => p_move rfl) <| zg (Gd.f1 rfl rfl rfl) (fun hc => p_eql (gh hc rfl) rfl) <| zg (Gd.f1 rfl rfl rfl) (fun hc => p_move (gh hc rfl)) <| zg (Gd.t2 rfl rfl rfl) (fun hc => p_move rfl) <| zgv (Gd.t2 rfl rfl rfl) (fun hc => (opds_3 (gh hc rfl) rfl rfl)) (fun hc => (fun w hw => c_spec_l00In ((M.num ((M.cutS wd [61]).2.1)).1) 1 6)) ?_
  refine zg (Gd.t2 rfl rfl rfl) (fun hc => p_not (gh hc rfl)) <| zg (Gd.f1 rfl rfl rfl) (fun hc => p_pickAnd (gh hc rfl) (gvl rfl hc) rfl) <| Qq (p_pickOr rfl rfl rfl) <| JL.nil ?_
  refine zi (fun h9 h9' => ?_) fun h9 h9' => ?_
  ·
   have hE := M.wrd_4 h1 (by omega) hn (by have h9 := h9; simp only [Bool.or_eq_true, Bool.and_eq_true, decide_eq_true_eq, Bool.not_eq_true'] at h9; rcases h9 with h9 | h9 <;> first | exact .inl h9 | exact .inr h9 | exact absurd h9.2 (by decide))
   refine zS <| Qm rfl <| Qa rfl <| Qa rfl <| Qa rfl <| JL.nil ?_
   refine zR x1 ?_
   rw [hE]; rfl
  have hE := M.wrd_0 h1 (by omega) hn (by have h9 := h9; intro h8; have h7 := Bool.eq_false_iff.1 h9; apply h7; simp only [Bool.or_eq_true, Bool.and_eq_true, decide_eq_true_eq, Bool.not_eq_true']; rcases h8 with h8 | h8 <;> first | exact .inl h8 | exact .inr h8 | exact absurd h8.1 (by omega))
  refine Js.skip <| zS <| Qm rfl <| Qm rfl <| Qa rfl <| Qa rfl <| Qa rfl <| JL.nil ?_
  refine zR x1 ?_
  rw [hE]; rfl
 refine Js.seq <| zS <| Qe rfl rfl <| Qa rfl <| JL.nil ?_
 refine zi (fun h10 h10' => ?_) fun h10 h10' => ?_
 ·
  refine Js.skip ?_
  refine Js.condT rfl h10 ?_
  refine zS <| zp rfl (fun w hw => c_spec_l06Names) ?_
  intro u11 x11 A12 c12 h12 bl12 bh12
  refine Qa rfl <| zJ <| zS <| Qm rfl <| Qe rfl rfl <| JL.nil ?_
  refine zi (fun h13 h13' => ?_) fun h13 h13' => ?_
  ·
   refine Js.region <| zp rfl (fun w hw => c_spec_l03Slams) ?_
   intro u14 x14 A15 c15 h15 bl15 bh15
   refine Qa rfl <| zN <| Qm rfl <| Qm rfl <| zv rfl (fun w hw => c_spec_l03Index M.slamNames ((M.cutS wd [61]).2.1) (ok_ hw)) <| Qa rfl <| zJ <| zS <| Qm rfl <| Ql rfl rfl <| JL.nil ?_
   refine zi (fun h16 h16' => ?_) fun h16 h16' => ?_
   ·
    have hE := M.wrd_5 (w := wd) h1 (by omega) (by omega) (by first | rw [if_pos (by omega)] | rw [if_neg (by omega)]) (by have := h16'; assumption)
    refine zS <| Qm rfl <| Qa rfl <| Qa rfl <| Qa rfl <| JL.nil ?_
    refine zR ((x1.trans x11).trans x14) ?_
    rw [hE]; rfl
   have hE := M.wrd_6 (w := wd) h1 (by omega) (by omega) (by first | rw [if_pos (by omega)] | rw [if_neg (by omega)]) (by have := h16'; omega)
   refine Js.skip <| zS <| Qm rfl <| Qm rfl <| Qa rfl <| Qa rfl <| Qa rfl <| JL.nil ?_
   refine zR ((x1.trans x11).trans x14) ?_
   rw [hE]; rfl
  refine Js.skip <| zS <| Qm rfl <| Qm rfl <| zv rfl (fun w hw => c_spec_l03Index M.capNames ((M.cutS wd [61]).2.1) (ok_ hw)) <| Qa rfl <| zJ <| zS <| Qm rfl <| Ql rfl rfl <| JL.nil ?_
  refine zi (fun h17 h17' => ?_) fun h17 h17' => ?_
  ·
   have hE := M.wrd_5 (w := wd) h1 (by omega) (by omega) (by first | rw [if_pos (by omega)] | rw [if_neg (by omega)]) (by have := h17'; assumption)
   refine zS <| Qm rfl <| Qa rfl <| Qa rfl <| Qa rfl <| JL.nil ?_
   refine zR (x1.trans x11) ?_
   rw [hE]; rfl
  have hE := M.wrd_6 (w := wd) h1 (by omega) (by omega) (by first | rw [if_pos (by omega)] | rw [if_neg (by omega)]) (by have := h17'; omega)
  refine Js.skip <| zS <| Qm rfl <| Qm rfl <| Qa rfl <| Qa rfl <| Qa rfl <| JL.nil ?_
  refine zR (x1.trans x11) ?_
  rw [hE]; rfl
 refine Js.region <| Qe rfl rfl <| Qa rfl <| JL.nil ?_
 refine zi (fun h18 h18' => ?_) fun h18 h18' => ?_
 ·
  refine zS <| zp rfl (fun w hw => c_spec_l06Names) ?_
  intro u19 x19 A20 c20 h20 bl20 bh20
  refine Qa rfl <| zJ <| zS <| Qm rfl <| Qe rfl rfl <| JL.nil ?_
  refine Js.condT rfl h18 ?_
  refine Js.region <| zp rfl (fun w hw => c_spec_l03Slams) ?_
  intro u21 x21 A22 c22 h22 bl22 bh22
  refine Qa rfl <| zN <| Qm rfl <| Qm rfl <| zv rfl (fun w hw => c_spec_l03Index M.slamNames ((M.cutS wd [61]).2.1) (ok_ hw)) <| Qa rfl <| zJ <| zS <| Qm rfl <| Ql rfl rfl <| JL.nil ?_
  refine zi (fun h23 h23' => ?_) fun h23 h23' => ?_
  ·
   have hE := M.wrd_5 (w := wd) h1 (by omega) (by omega) (by first | rw [if_pos (by omega)] | rw [if_neg (by omega)]) (by have := h23'; assumption)
   refine zS <| Qm rfl <| Qa rfl <| Qa rfl <| Qa rfl <| JL.nil ?_
   refine zR ((x1.trans x19).trans x21) ?_
   rw [hE]; rfl
  have hE := M.wrd_6 (w := wd) h1 (by omega) (by omega) (by first | rw [if_pos (by omega)] | rw [if_neg (by omega)]) (by have := h23'; omega)
  refine Js.skip <| zS <| Qm rfl <| Qm rfl <| Qa rfl <| Qa rfl <| Qa rfl <| JL.nil ?_
  refine zR ((x1.trans x19).trans x21) ?_
  rw [hE]; rfl
 have hE := M.wrd_7 h1 (by omega) (by omega)
 refine Js.skip <| Js.blockEnd <| zS <| Qm rfl <| Qa rfl <| Qa rfl <| Qa rfl <| JL.nil ?_
 refine zR x1 ?_
 rw [hE]; rfl
theorem c_spec_l03Rules (v : List Int) {v_v : Value} {w : World} (h_v : (Ty.ints 2 v).ok w v_v) (r0 : v.length = 9 := by exact om_) : Ret Tryd.prog 71 [v_v] w (Ty.agg (cRules (M.rulV v))) := by
 revert v_v; apply opn
 intro A1 c1 h1 bl1 bh1
 have h_v := h1
 refine enter @Tryd.func71 @Tryd.ntmps71 rfl rfl ?_
 refine zent ?_
 refine zS <| za zeh fun b2 => zJ ?_
 refine zdr [33] ?_
 refine jM 0 rfl rfl ?_
 obtain ⟨b3, o3, he3, hc3⟩ := ints_elem h1 (i := 0) (by omega)
 refine jI 1 el_65 rfl rfl rfl he3 ?_
 refine jW 2 ty_2 rfl rfl hc3.vis ?_
 refine jM 3 rfl rfl ?_
 obtain ⟨b4, o4, he4, hc4⟩ := ints_elem h1 (i := 1) (by omega)
 refine jI 4 el_65 rfl rfl rfl he4 ?_
 refine jW 5 ty_2 rfl rfl hc4.vis ?_
 refine jM 6 rfl rfl ?_
 obtain ⟨b5, o5, he5, hc5⟩ := ints_elem h1 (i := 2) (by omega)
 refine jI 7 el_65 rfl rfl rfl he5 ?_
 refine jW 8 ty_2 rfl rfl hc5.vis ?_
 refine JH.p 9 rfl (p_eql rfl rfl) ?_
 refine jM 10 rfl rfl ?_
 obtain ⟨b6, o6, he6, hc6⟩ := ints_elem h1 (i := 3) (by omega)
 refine jI 11 el_65 rfl rfl rfl he6 ?_
 refine jW 12 ty_2 rfl rfl hc6.vis ?_
 refine JH.p 13 rfl (p_eql rfl rfl) ?_
 refine jM 14 rfl rfl ?_
 obtain ⟨b7, o7, he7, hc7⟩ := ints_elem h1 (i := 4) (by omega)
 refine jI 15 el_65 rfl rfl rfl he7 ?_
 refine jW 16 ty_2 rfl rfl hc7.vis ?_
 refine JH.p 17 rfl (p_eql rfl rfl) ?_
 refine jM 18 rfl rfl ?_
 obtain ⟨b8, o8, he8, hc8⟩ := ints_elem h1 (i := 5) (by omega)
 refine jI 19 el_65 rfl rfl rfl he8 ?_
 refine jW 20 ty_2 rfl rfl hc8.vis ?_
 refine JH.p 21 rfl (p_eql rfl rfl) ?_
 refine jM 22 rfl rfl ?_
 obtain ⟨b9, o9, he9, hc9⟩ := ints_elem h1 (i := 6) (by omega)
 refine jI 23 el_65 rfl rfl rfl he9 ?_
 refine jW 24 ty_2 rfl rfl hc9.vis ?_
 refine JH.p 25 rfl (p_eql rfl rfl) ?_
 refine jM 26 rfl rfl ?_
 obtain ⟨b10, o10, he10, hc10⟩ := ints_elem h1 (i := 7) (by omega)
 refine jI 27 el_65 rfl rfl rfl he10 ?_
 refine jW 28 ty_2 rfl rfl hc10.vis ?_
 refine jM 29 rfl rfl ?_
 obtain ⟨b11, o11, he11, hc11⟩ := ints_elem h1 (i := 8) (by omega)
 refine jI 30 el_65 rfl rfl rfl he11 ?_
 refine jW 31 ty_2 rfl rfl hc11.vis ?_
 refine JH.p 32 rfl (q_bld) ?_
 refine y1 33 ?_
 refine yst rfl rfl rfl ?_
 refine yd ?_
 have hq0 : (M.nth v 0) = (M.rulV v).pits := by first | rfl | (simp; done) | omega
 have hq1 : (M.nth v 1) = (M.rulV v).seeds := by first | rfl | (simp; done) | omega
 have hq2 : (decide (M.nth v 2 = 1)) = (M.rulV v).stores := by first | rfl | (simp; done) | omega
 have hq3 : (decide (M.nth v 3 = 1)) = (M.rulV v).skip := by first | rfl | (simp; done) | omega
 have hq4 : (decide (M.nth v 4 = 1)) = (M.rulV v).relay := by first | rfl | (simp; done) | omega
 have hq5 : (decide (M.nth v 5 = 1)) = (M.rulV v).feed := by first | rfl | (simp; done) | omega
 have hq6 : (decide (M.nth v 6 = 1)) = (M.rulV v).again := by first | rfl | (simp; done) | omega
 have hq7 : (M.nth v 7) = (M.rulV v).capture := by first | rfl | (simp; done) | omega
 have hq8 : (M.nth v 8) = (M.rulV v).slam := by first | rfl | (simp; done) | omega
 exact zro (Up.refl _ _)
end Go.Proofs.YthdmaamdlibjaaaDoor

/- Walks: G30. -/
import Derived.Test.YtcmfnlleikcpnaaGreatZuA3
import Derived.Test.YtcmfnlleikcpnaaGreatZuA4
set_option linter.unusedSimpArgs false
set_option linter.unusedVariables false
set_option maxRecDepth 100000
attribute [local irreducible] Go.Proofs.YtcmfnlleikcpnaaGreat.gv
namespace Go.Proofs.YtcmfnlleikcpnaaGreat
open Go.RowKit

set_option maxHeartbeats 1000000 in
theorem c_impl_compareNumbers (a : List Int) {v_a : Value} (b : List Int) {v_b : Value} {w : World} (h_a : (Ty.ints 2 a).ok w v_a) (h_b : (Ty.ints 2 b).ok w v_b) (r0 : a.length ≤ 4194304 := by exact om_) (r1 : b.length ≤ 4194304 := by exact om_) : RetV Tryz.prog 110 [v_a, v_b] w (.int .i64 (M.cmpL a b)) := by
 revert v_a; apply opn
 intro A1 c1 h1 bl1 bh1
 have h_a := h1
 revert v_b; apply opn
 intro A2 c2 h2 bl2 bh2
 have h_b := h2
 refine enter @Tryz.func110 @Tryz.ntmps110 rfl rfl ?_
 refine zent ?_
 refine zS <| Qa rfl <| zJ <| zS <| Qm rfl <| Qz rfl <| Qm rfl <| Qz rfl <| Qq (p_min rfl rfl) <| Qm rfl <| JL.nil <| Js.block ?_
 refine zl [0, 1, 10] (fun F U l os u m => ∃ (k : Nat), l = F [(11, .int .i64 (k : Int))] ∧ os = U [] ∧ (M.cmpL (a.drop k) (b.drop k) = M.cmpL a b) ∧ (k ≤ a.length) ∧ (k ≤ b.length) ∧ m = a.length - k) ⟨0, rfl, rfl, by rfl, zt, zt, rfl⟩ ?_
 rintro _ _ u3 _ ⟨k, rfl, rfl, hC, hka, hkb, rfl⟩ x3
 refine zn ?_
 refine zS <| Ql rfl rfl <| zJ ?_
 refine zi (fun h4 h4' => ?_) fun h4 h4' => ?_
 ·
  have hab : k < a.length ∧ k < b.length := by have := h4'; omega
  refine Js.skip <| Js.seq <| Js.block <| zS <| Qm rfl <| Qa rfl <| JL.nil <| Js.block <| Js.seq ?_
  refine zdr [] ?_
  refine JH.p 0 rfl (p_move rfl) ?_
  refine JH.p 1 rfl (p_move rfl) ?_
  obtain ⟨b5, o5, he5, hc5⟩ := ints_elem (Ty.mono _ h1 x3.vis) (i := k) (by omega)
  refine JH.p 2 rfl (p_indexAddr el_27 rfl rfl (by omega) (by omega) he5) ?_
  refine JH.w 3 rfl (fun os' u' hv => q_load1 ty_2.h rfl (Mem.pub (hc5.vis hv))) ?_
  refine JH.p 4 rfl (p_move rfl) ?_
  refine JH.p 5 rfl (p_move rfl) ?_
  obtain ⟨b6, o6, he6, hc6⟩ := ints_elem (Ty.mono _ h2 x3.vis) (i := k) (by omega)
  refine JH.p 6 rfl (p_indexAddr el_27 rfl rfl (by omega) (by omega) he6) ?_
  refine JH.w 7 rfl (fun os' u' hv => q_load1 ty_2.h rfl (Mem.pub (hc6.vis hv))) ?_
  refine JH.p 8 rfl (p_lss rfl rfl) ?_
  refine JH.p 9 rfl (p_assign rfl) ?_
  refine yd ?_
  refine zi (fun h7 h7' => ?_) fun h7 h7' => ?_
  ·
   have hE := M.cmpL_lt hC hab.1 hab.2 (by have := h7'; omega)
   refine zS <| Qa rfl <| JL.nil ?_
   refine zR x3 ?_
   first | (rw [hE]; done) | (rw [hE]; rfl)
  have h1_ : ¬ M.nth a k < M.nth b k := by have := h7'; omega
  refine Js.seq ?_
  refine zdr [] ?_
  refine JH.p 0 rfl (p_move rfl) ?_
  refine JH.p 1 rfl (p_move rfl) ?_
  obtain ⟨b8, o8, he8, hc8⟩ := ints_elem (Ty.mono _ h1 x3.vis) (i := k) (by omega)
  refine JH.p 2 rfl (p_indexAddr el_27 rfl rfl (by omega) (by omega) he8) ?_
  refine JH.w 3 rfl (fun os' u' hv => q_load1 ty_2.h rfl (Mem.pub (hc8.vis hv))) ?_
  refine JH.p 4 rfl (p_move rfl) ?_
  refine JH.p 5 rfl (p_move rfl) ?_
  obtain ⟨b9, o9, he9, hc9⟩ := ints_elem (Ty.mono _ h2 x3.vis) (i := k) (by omega)
  refine JH.p 6 rfl (p_indexAddr el_27 rfl rfl (by omega) (by omega) he9) ?_
  refine JH.w 7 rfl (fun os' u' hv => q_load1 ty_2.h rfl (Mem.pub (hc9.vis hv))) ?_
  refine JH.p 8 rfl (p_gtr rfl rfl) ?_
  refine JH.p 9 rfl (p_assign rfl) ?_
  refine yd ?_
  refine zi (fun h10 h10' => ?_) fun h10 h10' => ?_
  ·
   have hE := M.cmpL_gt hC hab.1 hab.2 (by have := h10'; omega)
   refine zS <| Qa rfl <| JL.nil ?_
   refine zR x3 ?_
   first | (rw [hE]; done) | (rw [hE]; rfl)
  have hC2 := M.cmpL_step hC hab.1 hab.2 h1_ (by have := h10'; omega)
  refine Js.skip <| Js.blockEnd <| Js.blockEnd <| Js.region <| Qp rfl rfl <| Qm rfl <| JL.nil ?_
  exact zag ⟨k + 1, rfl, rfl, by exact hC2, zt, zt, rfl⟩ x3
 have hE := M.cmpL_end hC (by have := h4'; omega) hka hkb
 refine zx ?_
 refine Js.seq <| Js.block <| zS <| Qm rfl <| Qz rfl <| Qm rfl <| Qz rfl <| Ql rfl rfl <| Qa rfl <| JL.nil ?_
 refine zi (fun h11 h11' => ?_) fun h11 h11' => ?_
 ·
  rw [if_pos (by have := h11'; omega)] at hE
  refine zS <| Qa rfl <| JL.nil ?_
  refine zR x3 ?_
  first | (rw [hE]; done) | (rw [hE]; rfl)
 rw [if_neg (by have := h11'; omega)] at hE
 refine zS <| Qm rfl <| Qz rfl <| Qm rfl <| Qz rfl <| Qg rfl rfl <| Qa rfl <| JL.nil ?_
 refine zi (fun h12 h12' => ?_) fun h12 h12' => ?_
 ·
  rw [if_pos (by have := h12'; omega)] at hE
  refine zS <| Qa rfl <| JL.nil ?_
  refine zR x3 ?_
  first | (rw [hE]; done) | (rw [hE]; rfl)
 rw [if_neg (by have := h12'; omega)] at hE
 refine Js.skip <| Js.blockEnd <| zS <| Qa rfl <| JL.nil ?_
 refine zR x3 ?_
 first | (rw [hE]; done) | (rw [hE]; rfl)

set_option maxHeartbeats 1000000 in
theorem c_impl_BookEntry_position (e : M.Ent) {Ae_0 : Option Addr} {ce_0 : Nat} {Ae_1 : Option Addr} {ce_1 : Nat} {w : World}  : Ret Tryz.prog 156 [.agg #[.slice Ae_0 e.pits.length ce_0, .slice Ae_1 e.choices.length ce_1]] w (Ty.agg [Ty.val (.slice Ae_0 e.pits.length ce_0), Ty.ints 2 [0, 0], Ty.int 0]) := by
 refine enter @Tryz.func156 @Tryz.ntmps156 rfl rfl ?_
 refine zent ?_
 refine zS <| zb rfl fun b1 => za zeh fun b2 => zN <| Qf fh rfl <| Q0 1 rfl rfl rfl <| zbs fun b3 => ?_
 refine Qb ?_
 refine zw 1 rfl rfl rfl ?_
 refine JL.nil ?_
 exact zro (Up.refl _ _)

set_option maxHeartbeats 4000000 in
theorem c_impl_Rules_validEntry (r : M.Rul) {v_r : Value} (e : M.Ent) {v_e : Value} {w : World} (h_r : (Ty.agg (cRules r)).ok w v_r) (h_e : (Ty.agg (cBookEntry e)).ok w v_e) (r0 : e.pits.length ≤ 4194304 := by exact om_) (r1 : e.choices.length ≤ 4194304 := by exact om_) : RetV Tryz.prog 111 [v_r, v_e] w (.bool (M.okE r e)) := by
 have p5 : (M.posE e.pits).stores.length ≤ 4194304 := (by decide : ([0, 0] : List Int).length ≤ 4194304)
 have p6 : (M.posE e.pits).pits.length ≤ 4194304 := r0
 revert v_r; apply opn
 revert v_e; apply opn
 intro A1 c1 h1 bl1 bh1 A2 c2 h2 bl2 bh2
 refine enter @Tryz.func111 @Tryz.ntmps111 rfl rfl ?_
 refine zent ?_
 refine zS <| zb rfl fun b3 => zb rfl fun b4 => Qa rfl <| zJ <| Js.seq ?_
 refine zdr [] ?_
 refine JH.q 0 rfl (L9 1 rfl rfl) ?_
 refine JH.q 1 rfl (L9 0 rfl rfl) ?_
 refine y1 2 ?_
 refine yc rfl rfl (fun w hw => c_impl_BookEntry_position e) ?_
 intro A5 c5 bl5 bh5
 refine y1 3 ?_
 refine yv rfl rfl (fun w hw => c_impl_ValidPosition r (M.posE e.pits) (ok_ hw) (ok_ hw)) ?_
 refine JH.p 4 rfl (p_not rfl) ?_
 refine JH.p 5 rfl (p_move rfl) ?_
 refine JH.pg 6 rfl (Gd.f1 rfl rfl rfl) (fun hc => p_fieldAddr fld_89_1.h rfl) ?_
 refine JH.qg 7 rfl (Gd.f1 rfl rfl rfl) (fun hc => q_load1 ty_67.h (gvt rfl hc) (Mem.box (i := 0) rfl rfl)) ?_
 refine JH.pg 8 rfl (Gd.f1 rfl rfl rfl) (fun hc => p_len el_67 (gvt rfl hc)) ?_
 refine JH.pg 9 rfl (Gd.f1 rfl rfl rfl) (fun hc => p_eql (gvt rfl hc) rfl) ?_
 refine JH.p 10 rfl (p_pickOr rfl rfl rfl) ?_
 refine yd ?_
 refine zi (fun h6 h6' => ?_) fun h6 h6' => ?_
 ·
  have hE := M.okE_p (r := r) (e := e) (by have h9 := h6; simp only [Bool.or_eq_true, Bool.not_eq_true', decide_eq_true_eq] at h9; exact h9.imp id (fun h => by omega))
  refine zS <| Qa rfl <| JL.nil ?_
  refine zR (Up.refl _ _) ?_
  first | (rw [hE, hE2]; rfl) | (rw [hE]; rfl)
 have h9 := h6
 simp at h9
 have hE := M.okE_cs h9.1 (by omega)
 refine Js.skip <| Js.seq <| zS <| Qf fh rfl <| Q0 1 rfl rfl rfl <| Qz rfl <| Qm rfl <| JL.nil <| Js.block ?_
 refine zl [2, 3, 19, 20] (fun F U l os u m => ∃ (k : Nat), l = F [(21, .int .i64 (k : Int))] ∧ os = U [] ∧ (M.AllB (M.chAt r (M.posE e.pits) e.choices) k) ∧ (k ≤ e.choices.length) ∧ m = e.choices.length - k) ⟨0, rfl, rfl, by exact M.AllB.zero _, zt, rfl⟩ ?_
 rintro _ _ u7 _ ⟨k, rfl, rfl, hA, hk, rfl⟩ x7
 refine zn ?_
 refine zS <| Ql rfl rfl <| zJ ?_
 refine zi (fun h8 h8' => ?_) fun h8 h8' => ?_
 ·
  have hy9 : e.choices[k]? = some (M.cho e.choices k) := M.cho_get (by omega)
  obtain ⟨b9, o9, he9, hr9⟩ := elem_Choice (Ty.mono _ h2 x7.vis) hy9
  refine Js.skip <| Js.seq <| Js.block <| zS <| Qm rfl <| Qq (p_indexAddr el_67 rfl rfl (by omega) (by omega) he9) <| QS 0 hr9 rfl ?_
  refine za zeh fun b10 => Qa rfl <| zw 0 rfl rfl rfl ?_
  refine zJ ?_
  rcases Bool.eq_false_or_eq_true ((decide (0 < (k : Int))) && (decide ((M.cho e.choices k).move ≤ (M.cho e.choices (((k : Int) - 1).toNat)).move))) with h11 | h11
  ·
   refine zdr [] ?_
   refine JH.p 0 rfl (p_move rfl) ?_
   refine JH.p 1 rfl (p_gtr rfl rfl) ?_
   refine JH.p 2 rfl (p_move rfl) ?_
   refine JH.pg 3 rfl (Gd.t1 rfl rfl rfl) (fun hc => p_fieldAddr fld_81_0.h rfl) ?_
   refine JH.qg 4 rfl (Gd.t1 rfl rfl rfl) (fun hc => q_load1 ty_2.h (gvt rfl hc) (Mem.box (i := 0) rfl rfl)) ?_
   refine JH.pg 5 rfl (Gd.t1 rfl rfl rfl) (fun hc => p_fieldAddr fld_89_1.h rfl) ?_
   refine JH.qg 6 rfl (Gd.t1 rfl rfl rfl) (fun hc => q_load1 ty_67.h (gvt rfl hc) (Mem.box (i := 2) rfl rfl)) ?_
   refine JH.pg 7 rfl (Gd.t1 rfl rfl rfl) (fun hc => p_move rfl) ?_
   refine JH.pg 8 rfl (Gd.t1 rfl rfl rfl) (fun hc => p_sub (gvt rfl hc) rfl (IntWalk.i64_in _ (by have hc9 := hc; (try simp only [decide_eq_true_eq] at hc9); omega))) ?_
   have hy12 : e.choices[((k : Int) - 1).toNat]? = some (M.cho e.choices (((k : Int) - 1).toNat)) := M.cho_get (by omega)
   obtain ⟨b12, o12, he12, hr12⟩ := elem_Choice (Ty.mono _ h2 x7.vis) hy12
   refine JH.pg 9 rfl (Gd.t1 rfl rfl rfl) (fun hc => p_indexAddr el_67 (gvt rfl hc) (gvt rfl hc) (by have hc9 := hc; (try simp only [decide_eq_true_eq] at hc9); omega) (by have hc9 := hc; (try simp only [decide_eq_true_eq] at hc9); omega) he12) ?_
   refine JH.pg 10 rfl (Gd.t1 rfl rfl rfl) (fun hc => p_fieldAddr fld_81_0.h (gvt rfl hc)) ?_
   refine JH.wg 11 rfl (Gd.t1 rfl rfl rfl) (fun hc os' u' hv => q_load1 ty_2.h (gvt rfl hc) (Mem.pub ((hr12.vis hv) 0 _ rfl))) ?_
   refine JH.pg 12 rfl (Gd.t1 rfl rfl rfl) (fun hc => p_leq (gvt rfl hc) (gvt rfl hc)) ?_
   refine JH.p 13 rfl (p_pickAnd rfl rfl rfl) ?_
   refine JH.p 14 rfl (p_move rfl) ?_
   refine JH.pg (v := undef) 15 rfl (Gd.f1 rfl rfl rfl) (fun hc => absurd hc (by first | (rw [h11]; simp; done) | simp [h11])) ?_
   refine JH.pg (v := undef) 16 rfl (Gd.f1 rfl rfl rfl) (fun hc => absurd hc (by first | (rw [h11]; simp; done) | simp [h11])) ?_
   refine JH.pg (v := undef) 18 rfl (Gd.f1 rfl rfl rfl) (fun hc => absurd hc (by first | (rw [h11]; simp; done) | simp [h11])) ?_
   refine JH.pg (v := undef) 19 rfl (Gd.f1 rfl rfl rfl) (fun hc => absurd hc (by first | (rw [h11]; simp; done) | simp [h11])) ?_
   refine y1 17 ?_
   refine JHo.qg (v := undef) rfl (Gd.f1 rfl rfl rfl) (fun hc => absurd hc (by first | (rw [h11]; simp; done) | simp [h11])) ?_
   refine y1 20 ?_
   refine JHo.qg (v := undef) rfl (Gd.f1 rfl rfl rfl) (fun hc => absurd hc (by first | (rw [h11]; simp; done) | simp [h11])) ?_
   refine JH.pg (v := .bool false) 21 rfl (Gd.f1 rfl rfl rfl) (fun hc => absurd hc (by first | (rw [h11]; simp; done) | simp [h11])) ?_
   refine JH.p 22 rfl (p_pickOr rfl rfl rfl) ?_
   refine JH.p 23 rfl (p_move rfl) ?_
   refine JH.pg 24 rfl (Gd.f1 rfl rfl rfl) (fun hc => p_fieldAddr fld_81_1.h rfl) ?_
   refine JH.qg 25 rfl (Gd.f1 rfl rfl rfl) (fun hc => q_load1 ty_2.h (gvt rfl hc) (Mem.box (i := 0) rfl rfl)) ?_
   refine y1 26 ?_
   refine JHo.ge rfl (Gd.f1 rfl rfl rfl) (fun hc => e_callV fn_64.h (opds_3 (gvt rfl hc) rfl rfl) (fun w hw => c_impl_between ((M.cho e.choices k).games) 1 1000000)) ?_
   refine JH.pg 27 rfl (Gd.f1 rfl rfl rfl) (fun hc => p_not (gvt rfl hc)) ?_
   refine JH.p 28 rfl (p_pickOr rfl rfl rfl) ?_
   refine JH.p 29 rfl (p_move rfl) ?_
   refine JH.pg 30 rfl (Gd.f1 rfl rfl rfl) (fun hc => p_fieldAddr fld_81_2.h rfl) ?_
   refine JH.qg 31 rfl (Gd.f1 rfl rfl rfl) (fun hc => q_load1 ty_2.h (gvt rfl hc) (Mem.box (i := 0) rfl rfl)) ?_
   refine JH.pg 32 rfl (Gd.f1 rfl rfl rfl) (fun hc => p_fieldAddr fld_81_1.h rfl) ?_
   refine JH.qg 33 rfl (Gd.f1 rfl rfl rfl) (fun hc => q_load1 ty_2.h (gvt rfl hc) (Mem.box (i := 0) rfl rfl)) ?_
   refine JH.pg 34 rfl (Gd.f1 rfl rfl rfl) (fun hc => p_mul rfl (gvt rfl hc) (IntWalk.i64_in _ (by have hc9 := hc; simp only [Bool.not_eq_true', Bool.or_eq_false_iff, Bool.not_eq_false'] at hc9; have h8 := M.betw_iff.1 hc9.2; omega))) ?_
   refine y1 35 ?_
   refine JHo.ge rfl (Gd.f1 rfl rfl rfl) (fun hc => e_callV fn_64.h (opds_3 (gvt rfl hc) rfl (gvt rfl hc)) (fun w hw => c_impl_between ((M.cho e.choices k).score) 0 (2 * ((M.cho e.choices k).games)))) ?_
   refine JH.pg 36 rfl (Gd.f1 rfl rfl rfl) (fun hc => p_not (gvt rfl hc)) ?_
   refine JH.p 37 rfl (p_pickOr rfl rfl rfl) ?_
   refine yd ?_
   refine zi (fun h13 h13' => ?_) fun h13 h13' => ?_
   ·
    have hN : M.chAt r (M.posE e.pits) e.choices k = false := M.chAt_prev h11
    have hE2 : M.okCs r (M.posE e.pits) e.choices = false := M.all_no (by omega) hN
    refine zS <| Qa rfl <| JL.nil ?_
    refine zR x7 ?_
    first | (rw [hE, hE2]; rfl) | (rw [hE]; rfl)
   exact absurd h13 (by rw [h11]; simp)
  refine zdr [] ?_
  refine JH.p 0 rfl (p_move rfl) ?_
  refine JH.p 1 rfl (p_gtr rfl rfl) ?_
  refine JH.p 2 rfl (p_move rfl) ?_
  refine JH.pg 3 rfl (Gd.t1 rfl rfl rfl) (fun hc => p_fieldAddr fld_81_0.h rfl) ?_
  refine JH.qg 4 rfl (Gd.t1 rfl rfl rfl) (fun hc => q_load1 ty_2.h (gvt rfl hc) (Mem.box (i := 0) rfl rfl)) ?_
  refine JH.pg 5 rfl (Gd.t1 rfl rfl rfl) (fun hc => p_fieldAddr fld_89_1.h rfl) ?_
  refine JH.qg 6 rfl (Gd.t1 rfl rfl rfl) (fun hc => q_load1 ty_67.h (gvt rfl hc) (Mem.box (i := 2) rfl rfl)) ?_
  refine JH.pg 7 rfl (Gd.t1 rfl rfl rfl) (fun hc => p_move rfl) ?_
  refine JH.pg 8 rfl (Gd.t1 rfl rfl rfl) (fun hc => p_sub (gvt rfl hc) rfl (IntWalk.i64_in _ (by have hc9 := hc; (try simp only [decide_eq_true_eq] at hc9); omega))) ?_
  have hy14 : e.choices[((k : Int) - 1).toNat]? = some (M.cho e.choices (((k : Int) - 1).toNat)) := M.cho_get (by omega)
  obtain ⟨b14, o14, he14, hr14⟩ := elem_Choice (Ty.mono _ h2 x7.vis) hy14
  refine JH.pg 9 rfl (Gd.t1 rfl rfl rfl) (fun hc => p_indexAddr el_67 (gvt rfl hc) (gvt rfl hc) (by have hc9 := hc; (try simp only [decide_eq_true_eq] at hc9); omega) (by have hc9 := hc; (try simp only [decide_eq_true_eq] at hc9); omega) he14) ?_
  refine JH.pg 10 rfl (Gd.t1 rfl rfl rfl) (fun hc => p_fieldAddr fld_81_0.h (gvt rfl hc)) ?_
  refine JH.wg 11 rfl (Gd.t1 rfl rfl rfl) (fun hc os' u' hv => q_load1 ty_2.h (gvt rfl hc) (Mem.pub ((hr14.vis hv) 0 _ rfl))) ?_
  refine JH.pg 12 rfl (Gd.t1 rfl rfl rfl) (fun hc => p_leq (gvt rfl hc) (gvt rfl hc)) ?_
  refine JH.p 13 rfl (p_pickAnd rfl rfl rfl) ?_
  refine JH.p 14 rfl (p_move rfl) ?_
  refine JH.qgT 15 rfl (Gd.f1 rfl rfl rfl) (show (!((decide (0 < (k : Int))) && (decide ((M.cho e.choices k).move ≤ (M.cho e.choices (((k : Int) - 1).toNat)).move)))) = true by first | exact h11 | (rw [h11]; rfl) | simp [h11]) (L9 3 rfl rfl) ?_
  refine JH.qgT 16 rfl (Gd.f1 rfl rfl rfl) (show (!((decide (0 < (k : Int))) && (decide ((M.cho e.choices k).move ≤ (M.cho e.choices (((k : Int) - 1).toNat)).move)))) = true by first | exact h11 | (rw [h11]; rfl) | simp [h11]) (L9 2 rfl rfl) ?_
  refine JH.pgT 18 rfl (Gd.f1 rfl rfl rfl) (show (!((decide (0 < (k : Int))) && (decide ((M.cho e.choices k).move ≤ (M.cho e.choices (((k : Int) - 1).toNat)).move)))) = true by first | exact h11 | (rw [h11]; rfl) | simp [h11]) (p_fieldAddr fld_81_0.h rfl) ?_
  refine JH.qgT 19 rfl (Gd.f1 rfl rfl rfl) (show (!((decide (0 < (k : Int))) && (decide ((M.cho e.choices k).move ≤ (M.cho e.choices (((k : Int) - 1).toNat)).move)))) = true by first | exact h11 | (rw [h11]; rfl) | simp [h11]) (q_load1 ty_2.h rfl (Mem.box (i := 0) rfl rfl)) ?_
  refine y1 17 ?_
  refine ycT rfl (Gd.f1 rfl rfl rfl) (show (!((decide (0 < (k : Int))) && (decide ((M.cho e.choices k).move ≤ (M.cho e.choices (((k : Int) - 1).toNat)).move)))) = true by first | exact h11 | (rw [h11]; rfl) | simp [h11]) rfl (fun w hw => c_impl_BookEntry_position e) ?_
  intro A15 c15 bl15 bh15
  refine y1 20 ?_
  refine yvT rfl (Gd.f1 rfl rfl rfl) (show (!((decide (0 < (k : Int))) && (decide ((M.cho e.choices k).move ≤ (M.cho e.choices (((k : Int) - 1).toNat)).move)))) = true by first | exact h11 | (rw [h11]; rfl) | simp [h11]) rfl (fun w hw => c_impl_MoveFault r (M.posE e.pits) ((M.cho e.choices k).move) (ok_ hw) (ok_ hw)) ?_
  refine JH.pgT 21 rfl (Gd.f1 rfl rfl rfl) (show (!((decide (0 < (k : Int))) && (decide ((M.cho e.choices k).move ≤ (M.cho e.choices (((k : Int) - 1).toNat)).move)))) = true by first | exact h11 | (rw [h11]; rfl) | simp [h11]) (p_neq rfl rfl) ?_
  refine JH.p 22 rfl (p_pickOr2 rfl rfl rfl) ?_
  refine JH.p 23 rfl (p_move rfl) ?_
  refine JH.pg 24 rfl (Gd.f1 rfl rfl rfl) (fun hc => p_fieldAddr fld_81_1.h rfl) ?_
  refine JH.qg 25 rfl (Gd.f1 rfl rfl rfl) (fun hc => q_load1 ty_2.h (gvt rfl hc) (Mem.box (i := 0) rfl rfl)) ?_
  refine y1 26 ?_
  refine JHo.ge rfl (Gd.f1 rfl rfl rfl) (fun hc => e_callV fn_64.h (opds_3 (gvt rfl hc) rfl rfl) (fun w hw => c_impl_between ((M.cho e.choices k).games) 1 1000000)) ?_
  refine JH.pg 27 rfl (Gd.f1 rfl rfl rfl) (fun hc => p_not (gvt rfl hc)) ?_
  refine JH.p 28 rfl (p_pickOr rfl rfl rfl) ?_
  refine JH.p 29 rfl (p_move rfl) ?_
  refine JH.pg 30 rfl (Gd.f1 rfl rfl rfl) (fun hc => p_fieldAddr fld_81_2.h rfl) ?_
  refine JH.qg 31 rfl (Gd.f1 rfl rfl rfl) (fun hc => q_load1 ty_2.h (gvt rfl hc) (Mem.box (i := 0) rfl rfl)) ?_
  refine JH.pg 32 rfl (Gd.f1 rfl rfl rfl) (fun hc => p_fieldAddr fld_81_1.h rfl) ?_
  refine JH.qg 33 rfl (Gd.f1 rfl rfl rfl) (fun hc => q_load1 ty_2.h (gvt rfl hc) (Mem.box (i := 0) rfl rfl)) ?_
  refine JH.pg 34 rfl (Gd.f1 rfl rfl rfl) (fun hc => p_mul rfl (gvt rfl hc) (IntWalk.i64_in _ (by have hc9 := hc; simp only [Bool.not_eq_true', Bool.or_eq_false_iff, Bool.not_eq_false'] at hc9; have h8 := M.betw_iff.1 hc9.2; omega))) ?_
  refine y1 35 ?_
  refine JHo.ge rfl (Gd.f1 rfl rfl rfl) (fun hc => e_callV fn_64.h (opds_3 (gvt rfl hc) rfl (gvt rfl hc)) (fun w hw => c_impl_between ((M.cho e.choices k).score) 0 (2 * ((M.cho e.choices k).games)))) ?_
  refine JH.pg 36 rfl (Gd.f1 rfl rfl rfl) (fun hc => p_not (gvt rfl hc)) ?_
  refine JH.p 37 rfl (p_pickOr rfl rfl rfl) ?_
  refine yd ?_
  refine zi (fun h16 h16' => ?_) fun h16 h16' => ?_
  ·
   have hN : M.chAt r (M.posE e.pits) e.choices k = false := M.chAt_no (by rw [M.make_code]; exact h16)
   have hE2 : M.okCs r (M.posE e.pits) e.choices = false := M.all_no (by omega) hN
   refine zS <| Qa rfl <| JL.nil ?_
   refine zR x7 ?_
   first | (rw [hE, hE2]; rfl) | (rw [hE]; rfl)
  have hN : M.chAt r (M.posE e.pits) e.choices k = true := M.chAt_yes (by rw [M.make_code]; exact h16)
  refine Js.skip <| Js.blockEnd <| Js.region <| Qp rfl rfl <| Qm rfl <| JL.nil ?_
  refine zd [2, 2, 2] rfl fun u17 x17 => ?_
  exact zag ⟨k + 1, rfl, rfl, by exact hA.step hN, zt, rfl⟩ (x7.trans x17)
 have hE2 : M.okCs r (M.posE e.pits) e.choices = true := M.all_yes hA (by have := h8'; omega)
 refine zx ?_
 refine zS <| Qa rfl <| JL.nil ?_
 refine zR x7 ?_
 first | (rw [hE, hE2]; rfl) | (rw [hE]; rfl)

set_option maxHeartbeats 4000000 in
theorem c_impl_ValidBook (b : M.Boo) {v_b : Value} {w : World} (h_b : (Ty.agg (cBook b)).ok w v_b) (r0 : b.entries.length ≤ 4194304 := by exact om_) (r1 : ∀ x ∈ b.entries, x.pits.length ≤ 4194304 ∧ x.choices.length ≤ 4194304 := by exact om_) : RetV Tryz.prog 50 [v_b] w (.bool (M.okB b)) := by
 revert v_b; apply opn
 intro A1 c1 h1 bl1 bh1
 refine enter @Tryz.func50 @Tryz.ntmps50 rfl rfl ?_
 refine zent ?_
 refine zS <| zb rfl fun b2 => Qa rfl <| zJ <| zS <| Qf fh rfl <| Q9 0 rfl rfl ?_
 refine zv rfl (fun w hw => c_impl_ValidRules b.rules (ok_ hw)) <| Qt rfl <| Qm rfl <| zg (Gd.f1 rfl rfl rfl) (fun hc => p_fieldAddr fld_37_1.h rfl) <| zgq (Gd.f1 rfl rfl rfl) (fun hc => q_load1 ty_35.h (gh hc rfl) (Mem.box (i := 0) rfl rfl)) <| zg (Gd.f1 rfl rfl rfl) (fun hc => p_len el_35 (gh hc rfl)) <| zg (Gd.f1 rfl rfl rfl) (fun hc => p_gtr (gh hc rfl) rfl) <| Qq (p_pickOr rfl rfl rfl) <| JL.nil ?_
 refine zi (fun h3 h3' => ?_) fun h3 h3' => ?_
 ·
  have hE := M.okB_r (b := b) (by have h9 := h3; simp only [Bool.or_eq_true, Bool.not_eq_true', decide_eq_true_eq] at h9; exact h9.imp id (fun h => by omega))
  refine zS <| Qa rfl <| JL.nil ?_
  refine zR (Up.refl _ _) ?_
  first | (rw [hE, hE2]; rfl) | (rw [hE]; rfl)
 have h9 := h3
 simp only [Bool.or_eq_false_iff, Bool.not_eq_false', decide_eq_false_iff_not] at h9
 have hE := M.okB_es h9.1 (by omega)
 refine Js.skip <| Js.seq <| zS <| Qf fh rfl <| Q0 0 rfl rfl rfl <| Qz rfl <| Qm rfl <| JL.nil <| Js.block ?_
 refine zl [1, 16, 17] (fun F U l os u m => ∃ (k : Nat), l = F [(18, .int .i64 (k : Int))] ∧ os = U [] ∧ (M.AllB (M.entAt b.rules b.entries) k) ∧ (k ≤ b.entries.length) ∧ m = b.entries.length - k) ⟨0, rfl, rfl, by exact M.AllB.zero _, zt, rfl⟩ ?_
 rintro _ _ u4 _ ⟨k, rfl, rfl, hA, hk, rfl⟩ x4
 refine zn ?_
 refine zS <| Ql rfl rfl <| zJ ?_
 refine zi (fun h5 h5' => ?_) fun h5 h5' => ?_
 ·
  have hkk : k < b.entries.length := by have := h5'; omega
  obtain ⟨e1_, e2_⟩ := r1 _ (M.ent_mem (es := b.entries) (k := k) (by omega))
  obtain ⟨e3_, e4_⟩ := r1 _ (M.ent_mem (es := b.entries) (k := (((k : Int) - 1).toNat)) (by omega))
  have hy6 : b.entries[k]? = some (M.ent b.entries k) := M.ent_get (by omega)
  obtain ⟨b6, o6, A6_0, c6_0, A6_1, c6_1, he6, hr6, h6_0, h6_1, bl6_0, bh6_0, bl6_1, bh6_1⟩ := elem_BookEntry (Ty.mono _ h1 x4.vis) hy6
  refine Js.skip <| Js.seq <| Js.block <| zS <| Qm rfl <| Qq (p_indexAddr el_35 rfl rfl (by omega) (by omega) he6) <| QS 0 hr6 rfl ?_
  refine za zeh fun b7 => Qa rfl <| zw 0 rfl rfl rfl ?_
  refine zJ ?_
  refine zdr [] ?_
  refine JH.p 0 rfl (p_move rfl) ?_
  refine JH.p 1 rfl (p_gtr rfl rfl) ?_
  refine JH.p 2 rfl (p_move rfl) ?_
  refine JH.pg 3 rfl (Gd.t1 rfl rfl rfl) (fun hc => p_fieldAddr fld_37_1.h rfl) ?_
  refine JH.qg 4 rfl (Gd.t1 rfl rfl rfl) (fun hc => q_load1 ty_35.h (gvt rfl hc) (Mem.box (i := 1) rfl rfl)) ?_
  refine JH.pg 5 rfl (Gd.t1 rfl rfl rfl) (fun hc => p_move rfl) ?_
  refine JH.pg 6 rfl (Gd.t1 rfl rfl rfl) (fun hc => p_sub (gvt rfl hc) rfl (IntWalk.i64_in _ (by have hc9 := hc; (try simp only [decide_eq_true_eq] at hc9); omega))) ?_
  have hy8 : b.entries[((k : Int) - 1).toNat]? = some (M.ent b.entries (((k : Int) - 1).toNat)) := M.ent_get (by omega)
  obtain ⟨b8, o8, A8_0, c8_0, A8_1, c8_1, he8, hr8, h8_0, h8_1, bl8_0, bh8_0, bl8_1, bh8_1⟩ := elem_BookEntry (Ty.mono _ h1 x4.vis) hy8
  refine JH.pg 7 rfl (Gd.t1 rfl rfl rfl) (fun hc => p_indexAddr el_35 (gvt rfl hc) (gvt rfl hc) (by have hc9 := hc; (try simp only [decide_eq_true_eq] at hc9); omega) (by have hc9 := hc; (try simp only [decide_eq_true_eq] at hc9); omega) he8) ?_
  refine JH.pg 8 rfl (Gd.t1 rfl rfl rfl) (fun hc => p_fieldAddr fld_89_0.h (gvt rfl hc)) ?_
  refine JH.wg 9 rfl (Gd.t1 rfl rfl rfl) (fun hc os' u' hv => q_load1 ty_27.h (gvt rfl hc) (Mem.pub ((hr8.vis hv) 0 _ rfl))) ?_
  refine JH.pg 10 rfl (Gd.t1 rfl rfl rfl) (fun hc => p_fieldAddr fld_89_0.h rfl) ?_
  refine JH.qg 11 rfl (Gd.t1 rfl rfl rfl) (fun hc => q_load1 ty_27.h (gvt rfl hc) (Mem.box (i := 0) rfl rfl)) ?_
  refine y1 12 ?_
  refine JHo.ge rfl (Gd.t1 rfl rfl rfl) (fun hc => e_callV fn_110.h (opds_2 (gvt rfl hc) (gvt rfl hc)) (fun w hw => c_impl_compareNumbers ((M.ent b.entries (((k : Int) - 1).toNat)).pits) ((M.ent b.entries k).pits) (ok_ hw) (ok_ hw) (r0 := (by have hc9 := hc; (try simp only [decide_eq_true_eq] at hc9); omega)) (r1 := (by have hc9 := hc; (try simp only [decide_eq_true_eq] at hc9); omega)))) ?_
  refine JH.pg 13 rfl (Gd.t1 rfl rfl rfl) (fun hc => p_geq (gvt rfl hc) rfl) ?_
  refine JH.p 14 rfl (p_pickAnd rfl rfl rfl) ?_
  refine JH.p 15 rfl (p_move rfl) ?_
  refine JH.pg 16 rfl (Gd.f1 rfl rfl rfl) (fun hc => p_fieldAddr fld_37_0.h rfl) ?_
  refine JH.qg 17 rfl (Gd.f1 rfl rfl rfl) (fun hc => L9 1 (gvt rfl hc) rfl) ?_
  refine JH.qg 18 rfl (Gd.f1 rfl rfl rfl) (fun hc => L9 0 rfl rfl) ?_
  refine y1 19 ?_
  refine JHo.ge rfl (Gd.f1 rfl rfl rfl) (fun hc => e_callV fn_111.h (opds_2 (gvt rfl hc) (gvt rfl hc)) (fun w hw => c_impl_Rules_validEntry b.rules (M.ent b.entries k) (ok_ hw) (ok_ hw) (r0 := (by have hc9 := hc; (try simp only [Bool.not_eq_true', Bool.and_eq_false_iff, decide_eq_false_iff_not, Int.not_lt, Int.not_le] at hc9); omega)) (r1 := (by have hc9 := hc; (try simp only [Bool.not_eq_true', Bool.and_eq_false_iff, decide_eq_false_iff_not, Int.not_lt, Int.not_le] at hc9); omega)))) ?_
  refine JH.pg 20 rfl (Gd.f1 rfl rfl rfl) (fun hc => p_not (gvt rfl hc)) ?_
  refine JH.p 21 rfl (p_pickOr rfl rfl rfl) ?_
  refine yd ?_
  refine zi (fun h9 h9' => ?_) fun h9 h9' => ?_
  ·
   have hN : M.entAt b.rules b.entries k = false := M.entAt_no (by exact h9)
   have hE2 : (List.range b.entries.length).all (M.entAt b.rules b.entries) = false := M.all_no (by omega) hN
   refine zS <| Qa rfl <| JL.nil ?_
   refine zR x4 ?_
   first | (rw [hE, hE2]; rfl) | (rw [hE]; rfl)
  have hN : M.entAt b.rules b.entries k = true := M.entAt_yes (by exact h9)
  refine Js.skip <| Js.blockEnd <| Js.region <| Qp rfl rfl <| Qm rfl <| JL.nil ?_
  refine zd [1] rfl fun u10 x10 => ?_
  exact zag ⟨k + 1, rfl, rfl, by exact hA.step hN, zt, rfl⟩ (x4.trans x10)
 have hE2 : (List.range b.entries.length).all (M.entAt b.rules b.entries) = true := M.all_yes hA (by have := h5'; omega)
 refine zx ?_
 refine zS <| Qa rfl <| JL.nil ?_
 refine zR x4 ?_
 first | (rw [hE, hE2]; rfl) | (rw [hE]; rfl)

end Go.Proofs.YtcmfnlleikcpnaaGreat

namespace Go.Proofs.YtcmfnlleikcpnaaGreat
open Go.RowKit

set_option maxHeartbeats 12000000 in
theorem c_impl_Rules_turned (r : M.Rul) {v_r : Value} (p : M.Pos) {v_p : Value} {w : World} (h_r : (Ty.agg (cRules r)).ok w v_r) (h_p : (Ty.agg (cPosition p)).ok w v_p) (r0 : M.okP r p = true := by exact om_) : Ret Tryz.prog 135 [v_r, v_p] w (Ty.agg (cPosition (M.turnP r p))) := by
 obtain ⟨g1, g2, g3, g4, g5, g6, g7⟩ := M.okP_bd r0
 revert v_r; apply opn
 revert v_p; apply opn
 intro A1 c1 h1 bl1 bh1 A2 c2 h2 bl2 bh2
 refine enter @Tryz.func135 @Tryz.ntmps135 rfl rfl ?_
 refine zent ?_
 refine zS <| zb rfl fun b3 => zb rfl fun b4 => za zeh fun b5 => zJ ?_
 refine zdr [11] ?_
 refine JH.p 0 rfl (p_fieldAddr fld_39_0.h rfl) ?_
 refine JH.q 1 rfl (q_load1 ty_27.h rfl (Mem.box (i := 1) rfl rfl)) ?_
 refine JH.p 2 rfl (p_fieldAddr fld_34_0.h rfl) ?_
 refine JH.q 3 rfl (q_load1 ty_2.h rfl (Mem.box (i := 2) rfl rfl)) ?_
 have hs6 := ints_cut (a := r.pits.toNat) (b := p.pits.length) (m := c1) h1 (by omega) (by omega) (by omega) (by omega)
 have hl6 : ((p.pits.drop r.pits.toNat).take (p.pits.length - r.pits.toNat)).length = p.pits.length - r.pits.toNat := by rw [List.length_take, List.length_drop]; omega
 refine JH.p 4 rfl (p_slice (lo' := r.pits.toNat) (hi' := p.pits.length) (mx' := c1) el_27 rfl rfl ⟨rfl, rfl⟩ ⟨_, by rw [Int.toNat_of_nonneg (by omega)]; exact rfl, by omega⟩) ?_
 refine JH.p 6 rfl (p_fieldAddr fld_39_0.h rfl) ?_
 refine JH.q 7 rfl (q_load1 ty_27.h rfl (Mem.box (i := 1) rfl rfl)) ?_
 refine JH.p 8 rfl (p_fieldAddr fld_34_0.h rfl) ?_
 refine JH.q 9 rfl (q_load1 ty_2.h rfl (Mem.box (i := 2) rfl rfl)) ?_
 have hs7 := ints_cut (a := 0) (b := r.pits.toNat) (m := c1) h1 (by omega) (by omega) (by omega) (by omega)
 have hl7 : ((p.pits.drop 0).take (r.pits.toNat - 0)).length = r.pits.toNat - 0 := by rw [List.length_take, List.length_drop]; omega
 refine JH.p 10 rfl (p_slice (lo' := 0) (hi' := r.pits.toNat) (mx' := c1) el_27 rfl rfl ⟨_, by rw [Int.toNat_of_nonneg (by omega)]; exact rfl, by omega⟩ rfl) ?_
 refine y1 5 ?_
 refine ycs rfl rfl (fun w hw => c_impl_copyNumbers ((p.pits.drop r.pits.toNat).take (p.pits.length - r.pits.toNat)) (ok_ hw)) ?_
 intro A8 c8 bl8 bh8
 refine y1 11 ?_
 refine JHo.e rfl (e_append (i := 0) (n' := (((p.pits.drop r.pits.toNat).take (p.pits.length - r.pits.toNat)) ++ ((p.pits.drop 0).take (r.pits.toNat - 0))).length) (vs' := ints_ (((p.pits.drop r.pits.toNat).take (p.pits.length - r.pits.toNat)) ++ ((p.pits.drop 0).take (r.pits.toNat - 0)))) el_27 rfl rfl rfl rfl (src_intsN und_27 hl7 hs7) (by omega) (by omega) (by first | omega | (simp only [List.length_append, List.length_cons, List.length_nil, List.length_take, List.length_drop] <;> omega)) (by simp [ints_])) (.inr rfl) ?_
 rintro v9 _ _ ⟨⟨g10, rfl⟩, rfl⟩ _
 refine JH.fact (row_form' (i := 0) rfl) (fun hf11 => ?_)
 obtain ⟨A11, c11, rfl, bl11, bh11⟩ := hf11
 refine znh ?_
 refine JH.p 12 rfl (p_assign rfl) ?_
 refine yd ?_
 refine Js.seq ?_
 refine zdr [14] ?_
 refine JH.p 0 rfl (p_move rfl) ?_
 refine JH.p 1 rfl (p_fieldAddr fld_39_1.h rfl) ?_
 refine JH.q 2 rfl (q_load1 ty_27.h rfl (Mem.box (i := 2) rfl rfl)) ?_
 obtain ⟨b12, o12, he12, hc12⟩ := ints_elem h2 (i := 1) (by omega)
 refine JH.p 3 rfl (p_indexAddr el_27 rfl rfl (by omega) (by omega) he12) ?_
 refine JH.w 4 rfl (fun os' u' hv => q_load1 ty_2.h rfl (Mem.pub (hc12.vis hv))) ?_
 refine JH.p 5 rfl (p_fieldAddr fld_39_1.h rfl) ?_
 refine JH.q 6 rfl (q_load1 ty_27.h rfl (Mem.box (i := 2) rfl rfl)) ?_
 obtain ⟨b13, o13, he13, hc13⟩ := ints_elem h2 (i := 0) (by omega)
 refine JH.p 7 rfl (p_indexAddr el_27 rfl rfl (by omega) (by omega) he13) ?_
 refine JH.w 8 rfl (fun os' u' hv => q_load1 ty_2.h rfl (Mem.pub (hc13.vis hv))) ?_
 refine JH.p 10 rfl (p_fieldAddr fld_39_2.h rfl) ?_
 refine JH.q 11 rfl (q_load1 ty_2.h rfl (Mem.box (i := 2) rfl rfl)) ?_
 refine JH.p 12 rfl (p_sub rfl rfl (IntWalk.i64_in _ (by omega))) ?_
 refine y1 9 ?_
 refine ybs rfl fun b14 => ?_
 refine JH.p 13 rfl (q_bld) ?_
 refine y1 14 ?_
 refine yst rfl rfl rfl ?_
 refine yd ?_
 have hq0 : (((p.pits.drop r.pits.toNat).take (p.pits.length - r.pits.toNat)) ++ ((p.pits.drop 0).take (r.pits.toNat - 0))) = (M.turnP r p).pits := by first | rfl | (simp [M.turnP, List.take_of_length_le]; done) | (unfold M.turnP; simp; omega)
 have hq1 : [(M.nth p.stores 1), (M.nth p.stores 0)] = (M.turnP r p).stores := by first | rfl | (simp [M.turnP, List.take_of_length_le]; done) | (unfold M.turnP; simp; omega)
 have hq2 : (1 - p.player) = (M.turnP r p).player := by first | rfl | (simp [M.turnP, List.take_of_length_le]; done) | (unfold M.turnP; simp; omega)
 exact zro (Up.refl _ _)

set_option maxHeartbeats 1000000 in
theorem c_impl_Rules_view (r : M.Rul) {v_r : Value} (p : M.Pos) {v_p : Value} {w : World} (h_r : (Ty.agg (cRules r)).ok w v_r) (h_p : (Ty.agg (cPosition p)).ok w v_p) (r0 : M.okV r p := by exact om_) : Ret Tryz.prog 79 [v_r, v_p] w (Ty.agg (cPosition (M.viewP r p))) := by
 have hl := M.okV_len r0
 revert v_r; apply opn
 revert v_p; apply opn
 intro A1 c1 h1 bl1 bh1 A2 c2 h2 bl2 bh2
 refine enter @Tryz.func79 @Tryz.ntmps79 rfl rfl ?_
 refine zent ?_
 refine zS <| zb rfl fun b3 => zb rfl fun b4 => za zeh fun b5 => zJ <| zS <| Qf fh rfl <| Q0 1 rfl rfl rfl <| Qe rfl rfl <| JL.nil ?_
 refine zi (fun h6 h6' => ?_) fun h6 h6' => ?_
 ·
  have hE := M.viewP_0 (r := r) (p := p) (by simpa using h6)
  refine zS <| Q9 1 rfl rfl ?_
  refine zc rfl (fun w hw => c_impl_Position_copied p (ok_ hw)) ?_
  intro A8 c8 bl8 bh8 A9 c9 bl9 bh9
  have hq0 : p.pits = (M.viewP r p).pits := by rw [hE]
  have hq1 : p.stores = (M.viewP r p).stores := by rw [hE]
  have hq2 : p.player = (M.viewP r p).player := by rw [hE]
  refine zw 2 rfl rfl rfl ?_
  refine JL.nil ?_
  exact zro (Up.refl _ _)
 have hn0 : ¬ p.player = 0 := by simpa using h6
 have hK := M.okV_turn r0 hn0
 have hE := M.viewP_1 (r := r) hn0
 refine Js.skip <| zS <| Q9 2 rfl rfl ?_
 refine Q9 1 rfl rfl ?_
 refine zc rfl (fun w hw => c_impl_Rules_turned r p (ok_ hw) (ok_ hw) (r0 := hK)) ?_
 intro A11 c11 bl11 bh11 A12 c12 bl12 bh12
 have hq0 : ((M.turnP r p).pits) = (M.viewP r p).pits := by rw [hE]
 have hq1 : ((M.turnP r p).stores) = (M.viewP r p).stores := by rw [hE]
 have hq2 : ((M.turnP r p).player) = (M.viewP r p).player := by rw [hE]
 refine zw 2 rfl rfl rfl ?_
 refine JL.nil ?_
 exact zro (Up.refl _ _)

end Go.Proofs.YtcmfnlleikcpnaaGreat

namespace Go.Proofs.YtcmfnlleikcpnaaGreat
open Go.RowKit

set_option maxHeartbeats 4000000 in
theorem c_impl_Book_count (b_rules : M.Rul) (b_entries : List M.Ent) {Ab_9 : Option Addr} {cb_9 : Nat} {gb_9 : List Nat} {vsb_9 : List Value} {fb_9 : List Nat} (pits : List Int) {v_pits : Value} (c : M.Cho) {v_c : Value} {bb : Nat} {w : World} (hb : Bw w [boxO bb [.int .i64 b_rules.pits, .int .i64 b_rules.seeds, .bool b_rules.stores, .bool b_rules.skip, .bool b_rules.relay, .bool b_rules.feed, .bool b_rules.again, .int .i64 b_rules.capture, .int .i64 b_rules.slam, .slice Ab_9 b_entries.length cb_9] 37, rowO 89 2 (.slice Ab_9 b_entries.length cb_9) b_entries.length vsb_9 gb_9, ownC (lBookEntry b_entries) vsb_9 fb_9]) (h_pits : (Ty.ints 2 pits).ok (offW w (([boxO bb [.int .i64 b_rules.pits, .int .i64 b_rules.seeds, .bool b_rules.stores, .bool b_rules.skip, .bool b_rules.relay, .bool b_rules.feed, .bool b_rules.again, .int .i64 b_rules.capture, .int .i64 b_rules.slam, .slice Ab_9 b_entries.length cb_9] 37, rowO 89 2 (.slice Ab_9 b_entries.length cb_9) b_entries.length vsb_9 gb_9, ownC (lBookEntry b_entries) vsb_9 fb_9] : List Own).flatMap (·.fp))) v_pits) (h_c : (Ty.agg (cChoice c)).ok (offW w (([boxO bb [.int .i64 b_rules.pits, .int .i64 b_rules.seeds, .bool b_rules.stores, .bool b_rules.skip, .bool b_rules.relay, .bool b_rules.feed, .bool b_rules.again, .int .i64 b_rules.capture, .int .i64 b_rules.slam, .slice Ab_9 b_entries.length cb_9] 37, rowO 89 2 (.slice Ab_9 b_entries.length cb_9) b_entries.length vsb_9 gb_9, ownC (lBookEntry b_entries) vsb_9 fb_9] : List Own).flatMap (·.fp))) v_c) (bd0 : b_entries.length ≤ cb_9 := by exact om_) (bd1 : cb_9 ≤ 9223372036854775807 := by exact om_) (r0 : b_entries.length ≤ 4194303 := by exact om_) (r1 : ∀ x ∈ b_entries, x.pits.length ≤ 4194304 ∧ x.choices.length ≤ 4194304 := by exact om_) (r2 : M.EB 1000000000000000 b_entries := by exact om_) (r3 : pits.length ≤ 4194304 := by exact om_) (r4 : 0 ≤ c.games := by exact om_) (r5 : c.games ≤ 2000000 := by exact om_) (r6 : 0 ≤ c.score := by exact om_) (r7 : c.score ≤ 2000000 := by exact om_) : RetB Tryz.prog 78 [.pointer (some ⟨bb, 0, none⟩), v_pits, v_c] w [boxO bb [.int .i64 b_rules.pits, .int .i64 b_rules.seeds, .bool b_rules.stores, .bool b_rules.skip, .bool b_rules.relay, .bool b_rules.feed, .bool b_rules.again, .int .i64 b_rules.capture, .int .i64 b_rules.slam, .slice Ab_9 b_entries.length cb_9] 37, rowO 89 2 (.slice Ab_9 b_entries.length cb_9) b_entries.length vsb_9 gb_9, ownC (lBookEntry b_entries) vsb_9 fb_9] (fun v bs' => ∃ (Axb_9 : Option Addr) (cxb_9 : Nat) (gxb_9 : List Nat) (vsxb_9 : List Value) (fxb_9 : List Nat), v = .tuple #[] ∧ bs' = [boxO bb [.int .i64 b_rules.pits, .int .i64 b_rules.seeds, .bool b_rules.stores, .bool b_rules.skip, .bool b_rules.relay, .bool b_rules.feed, .bool b_rules.again, .int .i64 b_rules.capture, .int .i64 b_rules.slam, .slice Axb_9 ((M.addE b_entries pits c).length) cxb_9] 37, rowO 89 2 (.slice Axb_9 ((M.addE b_entries pits c).length) cxb_9) ((M.addE b_entries pits c).length) vsxb_9 gxb_9, ownC (lBookEntry (M.addE b_entries pits c)) vsxb_9 fxb_9] ∧ (M.addE b_entries pits c).length ≤ cxb_9 ∧ cxb_9 ≤ 9223372036854775807) := by
 revert v_pits; apply opn
 intro A1 c1 h1 bl1 bh1
 have h_pits := h1
 revert v_c; apply opn
 refine enterB hb @Tryz.func78 @Tryz.ntmps78 rfl rfl ?_
 refine zent ?_
 refine Js.trashE ?_
 refine zn ?_
 refine zS <| zb rfl fun b2 => zN <| Qa rfl <| zJ <| Js.block ?_
 refine zl [0, 1, 5] (fun F U l os u m => ∃ (k : Nat) (G3_4 : List Nat), l = F [(6, .int .i64 (k : Int))] ∧ os = U [nO, nO, nO, nO, some (anyO G3_4)] ∧ (k + M.findE (b_entries.drop k) pits = M.findE b_entries pits) ∧ (k ≤ b_entries.length) ∧ m = b_entries.length - k) ⟨0, _, rfl, rfl, by simp, zt, rfl⟩ ?_
 rintro _ _ u3 _ ⟨k, G3_4, rfl, rfl, hL, hk, rfl⟩ x3
 refine zn ?_
 refine Js.seq <| Js.seq ?_
 refine zk [0, 1, 5, 6] (fun F U l os u => ∃ (e30_ : Bool) (G4_4 : List Nat), l = F [(30, .bool e30_)] ∧ os = U [nO, nO, nO, nO, some (anyO G4_4)] ∧ (e30_ = (decide ((k : Int) < (b_entries.length : Int)) && decide (M.cmpL (M.ent b_entries k).pits pits < 0)))) ?_ ?_
 ·
  rcases Bool.eq_false_or_eq_true (decide ((k : Int) < (b_entries.length : Int))) with h5 | h5
  ·
   have h5' := h5; simp only [decide_eq_true_eq, Int.not_lt, Int.not_le] at h5'
   try have hel := r1 _ (M.ent_mem (es := b_entries) (k := k) (by omega))
   refine Js.region <| Qm rfl <| Qm rfl <| Qc rfl <| Qf fh rfl <| Q0 1 rfl rfl rfl <| Qz rfl <| Ql rfl rfl <| Qm rfl <| zT (Gd.t1 rfl rfl rfl) (show (decide ((k : Int) < (b_entries.length : Int))) = true by first | exact h5 | (rw [h5]; rfl) | simp [h5]) <| Qm rfl <| zT (Gd.t1 rfl rfl rfl) (show (decide ((k : Int) < (b_entries.length : Int))) = true by first | exact h5 | (rw [h5]; rfl) | simp [h5]) <| Qc rfl <| zT (Gd.t1 rfl rfl rfl) (show (decide ((k : Int) < (b_entries.length : Int))) = true by first | exact h5 | (rw [h5]; rfl) | simp [h5]) ?_
   refine Qf fh rfl <| zT (Gd.t1 rfl rfl rfl) (show (decide ((k : Int) < (b_entries.length : Int))) = true by first | exact h5 | (rw [h5]; rfl) | simp [h5]) <| Q0 1 rfl rfl rfl <| zT (Gd.t1 rfl rfl rfl) (show (decide ((k : Int) < (b_entries.length : Int))) = true by first | exact h5 | (rw [h5]; rfl) | simp [h5]) <| Qm rfl <| zT (Gd.t1 rfl rfl rfl) (show (decide ((k : Int) < (b_entries.length : Int))) = true by first | exact h5 | (rw [h5]; rfl) | simp [h5]) ?_
   refine JL.fact (row_some (i := 2) rfl (by omega)) (fun hf7 => ?_)
   obtain ⟨b7, rfl⟩ := hf7
   have hy6 : b_entries[k]? = some (M.ent b_entries k) := M.ent_get (by first | omega | (simp only [List.length_set, List.length_append, List.length_cons, List.length_nil, List.length_take, List.length_drop, List.length_replicate]; omega))
   refine JL.fact (fun w hw => elemv_BookEntry (Mem.ownC (i := 3) rfl w hw) hy6) (fun hf6 => ?_)
   obtain ⟨A6_0, c6_0, A6_1, c6_1, he6, bl6_0, bh6_0, bl6_1, bh6_1⟩ := hf6
   refine Qq (p_indexAddr el_35 rfl rfl (by omega) (by omega) rfl) <| zT (Gd.t1 rfl rfl rfl) (show (decide ((k : Int) < (b_entries.length : Int))) = true by first | exact h5 | (rw [h5]; rfl) | simp [h5]) <| Qf fh rfl <| zT (Gd.t1 rfl rfl rfl) (show (decide ((k : Int) < (b_entries.length : Int))) = true by first | exact h5 | (rw [h5]; rfl) | simp [h5]) <| Qw (q_load1 ty_27.h rfl (fun w hw => (Mem.rowR' (i := 2) rfl he6 w hw) 0 _ rfl)) <| zT (Gd.t1 rfl rfl rfl) (show (decide ((k : Int) < (b_entries.length : Int))) = true by first | exact h5 | (rw [h5]; rfl) | simp [h5]) <| Qm rfl <| zT (Gd.t1 rfl rfl rfl) (show (decide ((k : Int) < (b_entries.length : Int))) = true by first | exact h5 | (rw [h5]; rfl) | simp [h5]) <| zv rfl (fun w hw => c_impl_compareNumbers ((M.ent b_entries k).pits) pits (elemOk cBookEntry (m := 2) (k := k) (xs := b_entries) (fun _ => rfl) (Mem.ownC (i := 3) rfl w hw) hy6 he6).1 (ok_ hw)) <| zT (Gd.t1 rfl rfl rfl) (show (decide ((k : Int) < (b_entries.length : Int))) = true by first | exact h5 | (rw [h5]; rfl) | simp [h5]) <| Ql rfl rfl <| Qq (p_pickAnd2 rfl rfl rfl) <| JL.nil ?_
   exact zm ⟨((decide ((k : Int) < (b_entries.length : Int))) && (decide (M.cmpL ((M.ent b_entries k).pits) pits < 0))), _, rfl, rfl, by first | rfl | (rw [‹decide ((k : Int) < (b_entries.length : Int)) = false›]; rfl) | (rw [‹decide ((k : Int) < (b_entries.length : Int)) = true›]; simp)⟩ (Up.refl _ _)
  have h5' := h5; simp only [decide_eq_false_iff_not, Int.not_lt, Int.not_le] at h5'
  try have hel := r1 _ (M.ent_mem (es := b_entries) (k := k) (by omega))
  refine Js.region <| Qm rfl <| Qm rfl <| Qc rfl <| Qf fh rfl <| Q0 1 rfl rfl rfl <| Qz rfl <| Ql rfl rfl <| Qm rfl ?_
  refine JL.g (v := undef) (Gd.t1 rfl rfl rfl) (fun hc => absurd hc (by first | (rw [h5]; simp; done) | simp [h5])) ?_
  refine JL.g (v := undef) (Gd.t1 rfl rfl rfl) (fun hc => absurd hc (by first | (rw [h5]; simp; done) | simp [h5])) ?_
  refine JL.g (v := undef) (Gd.t1 rfl rfl rfl) (fun hc => absurd hc (by first | (rw [h5]; simp; done) | simp [h5])) ?_
  refine JL.g (v := undef) (Gd.t1 rfl rfl rfl) (fun hc => absurd hc (by first | (rw [h5]; simp; done) | simp [h5])) ?_
  refine JL.g (v := undef) (Gd.t1 rfl rfl rfl) (fun hc => absurd hc (by first | (rw [h5]; simp; done) | simp [h5])) ?_
  refine JL.g (v := undef) (Gd.t1 rfl rfl rfl) (fun hc => absurd hc (by first | (rw [h5]; simp; done) | simp [h5])) ?_
  refine JL.g (v := undef) (Gd.t1 rfl rfl rfl) (fun hc => absurd hc (by first | (rw [h5]; simp; done) | simp [h5])) ?_
  refine JL.g (v := undef) (Gd.t1 rfl rfl rfl) (fun hc => absurd hc (by first | (rw [h5]; simp; done) | simp [h5])) ?_
  refine JL.g (v := undef) (Gd.t1 rfl rfl rfl) (fun hc => absurd hc (by first | (rw [h5]; simp; done) | simp [h5])) ?_
  refine JL.g (v := undef) (Gd.t1 rfl rfl rfl) (fun hc => absurd hc (by first | (rw [h5]; simp; done) | simp [h5])) ?_
  refine JL.g (v := .bool false) (Gd.t1 rfl rfl rfl) (fun hc => absurd hc (by first | (rw [h5]; simp; done) | simp [h5])) ?_
  refine Qq (p_pickAnd rfl rfl rfl) <| JL.nil ?_
  exact zm ⟨((decide ((k : Int) < (b_entries.length : Int))) && false), _, rfl, rfl, by first | rfl | (rw [‹decide ((k : Int) < (b_entries.length : Int)) = false›]; rfl) | (rw [‹decide ((k : Int) < (b_entries.length : Int)) = true›]; simp)⟩ (Up.refl _ _)
 rintro _ _ u4 ⟨e30_, G4_4, rfl, rfl, hB30⟩ x4
 refine zn ?_
 refine zi (fun h8 h8' => ?_) fun h8 h8' => ?_
 ·
  have q30 := hB30.symm.trans h8; simp only [Bool.and_eq_true, Bool.or_eq_true, decide_eq_true_eq, Bool.and_eq_false_iff, Bool.or_eq_false_iff, decide_eq_false_iff_not, Int.not_lt, Decidable.not_not] at q30
  have hL2 := M.findE_step hL (by omega) (by omega)
  refine Js.skip <| Js.block <| Js.region <| Qm rfl <| Qp rfl rfl <| Qa rfl <| JL.nil <| Js.blockEnd ?_
  exact zag ⟨k + 1, _, rfl, rfl, by exact hL2, zt, rfl⟩ (x3.trans x4)
 have q30 := hB30.symm.trans h8; simp only [Bool.and_eq_true, Bool.or_eq_true, decide_eq_true_eq, Bool.and_eq_false_iff, Bool.or_eq_false_iff, decide_eq_false_iff_not, Int.not_lt, Decidable.not_not] at q30
 have hE : M.findE b_entries pits = k := q30.elim (fun q => by have q9 := M.findE_end hL (by omega) hk; omega) (fun q => if q8 : k < b_entries.length then M.findE_hit hL q8 (by omega) else by have q9 := M.findE_end hL (by omega) hk; omega)
 refine zx ?_
 refine Js.seq <| Js.seq ?_
 refine zk [0, 1, 5, 6] (fun F U l os u => ∃ (e52_ : Bool) (G9_4 : List Nat), l = F [(52, .bool e52_)] ∧ os = U [nO, nO, nO, nO, some (anyO G9_4)] ∧ (e52_ = (decide ((k : Int) = (b_entries.length : Int)) || decide (¬ (M.ent b_entries k).pits = pits)))) ?_ ?_
 ·
  rcases Bool.eq_false_or_eq_true (decide ((k : Int) = (b_entries.length : Int))) with h10 | h10
  ·
   have h10' := h10; simp only [decide_eq_true_eq, Int.not_lt, Int.not_le] at h10'
   try have hel := r1 _ (M.ent_mem (es := b_entries) (k := k) (by omega))
   refine Js.region <| Qm rfl <| Qm rfl <| Qc rfl <| Qf fh rfl <| Q0 1 rfl rfl rfl <| Qz rfl <| Qe rfl rfl <| Qm rfl ?_
   refine JL.g (v := undef) (Gd.f1 rfl rfl rfl) (fun hc => absurd hc (by first | (rw [h10]; simp; done) | simp [h10])) ?_
   refine JL.g (v := undef) (Gd.f1 rfl rfl rfl) (fun hc => absurd hc (by first | (rw [h10]; simp; done) | simp [h10])) ?_
   refine JL.g (v := undef) (Gd.f1 rfl rfl rfl) (fun hc => absurd hc (by first | (rw [h10]; simp; done) | simp [h10])) ?_
   refine JL.g (v := undef) (Gd.f1 rfl rfl rfl) (fun hc => absurd hc (by first | (rw [h10]; simp; done) | simp [h10])) ?_
   refine JL.g (v := undef) (Gd.f1 rfl rfl rfl) (fun hc => absurd hc (by first | (rw [h10]; simp; done) | simp [h10])) ?_
   refine JL.g (v := undef) (Gd.f1 rfl rfl rfl) (fun hc => absurd hc (by first | (rw [h10]; simp; done) | simp [h10])) ?_
   refine JL.g (v := undef) (Gd.f1 rfl rfl rfl) (fun hc => absurd hc (by first | (rw [h10]; simp; done) | simp [h10])) ?_
   refine JL.g (v := undef) (Gd.f1 rfl rfl rfl) (fun hc => absurd hc (by first | (rw [h10]; simp; done) | simp [h10])) ?_
   refine JL.g (v := undef) (Gd.f1 rfl rfl rfl) (fun hc => absurd hc (by first | (rw [h10]; simp; done) | simp [h10])) ?_
   refine JL.g (v := .bool false) (Gd.f1 rfl rfl rfl) (fun hc => absurd hc (by first | (rw [h10]; simp; done) | simp [h10])) ?_
   refine JL.g (v := .bool false) (Gd.f1 rfl rfl rfl) (fun hc => absurd hc (by first | (rw [h10]; simp; done) | simp [h10])) ?_
   refine Qq (p_pickOr rfl rfl rfl) <| JL.nil ?_
   exact zm ⟨((decide ((k : Int) = (b_entries.length : Int))) || false), _, rfl, rfl, by first | rfl | (rw [‹decide ((k : Int) = (b_entries.length : Int)) = true›]; rfl) | (rw [‹decide ((k : Int) = (b_entries.length : Int)) = false›]; simp)⟩ (Up.refl _ _)
  have h10' := h10; simp only [decide_eq_false_iff_not, Int.not_lt, Int.not_le] at h10'
  try have hel := r1 _ (M.ent_mem (es := b_entries) (k := k) (by omega))
  refine Js.region <| Qm rfl <| Qm rfl <| Qc rfl <| Qf fh rfl <| Q0 1 rfl rfl rfl <| Qz rfl <| Qe rfl rfl <| Qm rfl <| zT (Gd.f1 rfl rfl rfl) (show (!(decide ((k : Int) = (b_entries.length : Int)))) = true by first | exact h10 | (rw [h10]; rfl) | simp [h10]) <| Qm rfl <| zT (Gd.f1 rfl rfl rfl) (show (!(decide ((k : Int) = (b_entries.length : Int)))) = true by first | exact h10 | (rw [h10]; rfl) | simp [h10]) <| Qc rfl <| zT (Gd.f1 rfl rfl rfl) (show (!(decide ((k : Int) = (b_entries.length : Int)))) = true by first | exact h10 | (rw [h10]; rfl) | simp [h10]) ?_
  refine Qf fh rfl <| zT (Gd.f1 rfl rfl rfl) (show (!(decide ((k : Int) = (b_entries.length : Int)))) = true by first | exact h10 | (rw [h10]; rfl) | simp [h10]) <| Q0 1 rfl rfl rfl <| zT (Gd.f1 rfl rfl rfl) (show (!(decide ((k : Int) = (b_entries.length : Int)))) = true by first | exact h10 | (rw [h10]; rfl) | simp [h10]) <| Qm rfl <| zT (Gd.f1 rfl rfl rfl) (show (!(decide ((k : Int) = (b_entries.length : Int)))) = true by first | exact h10 | (rw [h10]; rfl) | simp [h10]) ?_
  refine JL.fact (row_some (i := 2) rfl (by omega)) (fun hf12 => ?_)
  obtain ⟨b12, rfl⟩ := hf12
  have hy11 : b_entries[k]? = some (M.ent b_entries k) := M.ent_get (by first | omega | (simp only [List.length_set, List.length_append, List.length_cons, List.length_nil, List.length_take, List.length_drop, List.length_replicate]; omega))
  refine JL.fact (fun w hw => elemv_BookEntry (Mem.ownC (i := 3) rfl w hw) hy11) (fun hf11 => ?_)
  obtain ⟨A11_0, c11_0, A11_1, c11_1, he11, bl11_0, bh11_0, bl11_1, bh11_1⟩ := hf11
  refine Qq (p_indexAddr el_35 rfl rfl (by omega) (by omega) rfl) <| zT (Gd.f1 rfl rfl rfl) (show (!(decide ((k : Int) = (b_entries.length : Int)))) = true by first | exact h10 | (rw [h10]; rfl) | simp [h10]) <| Qf fh rfl <| zT (Gd.f1 rfl rfl rfl) (show (!(decide ((k : Int) = (b_entries.length : Int)))) = true by first | exact h10 | (rw [h10]; rfl) | simp [h10]) <| Qw (q_load1 ty_27.h rfl (fun w hw => (Mem.rowR' (i := 2) rfl he11 w hw) 0 _ rfl)) <| zT (Gd.f1 rfl rfl rfl) (show (!(decide ((k : Int) = (b_entries.length : Int)))) = true by first | exact h10 | (rw [h10]; rfl) | simp [h10]) <| Qm rfl <| zT (Gd.f1 rfl rfl rfl) (show (!(decide ((k : Int) = (b_entries.length : Int)))) = true by first | exact h10 | (rw [h10]; rfl) | simp [h10]) <| zv rfl (fun w hw => c_impl_sameNumbers ((M.ent b_entries k).pits) pits (elemOk cBookEntry (m := 2) (k := k) (xs := b_entries) (fun _ => rfl) (Mem.ownC (i := 3) rfl w hw) hy11 he11).1 (ok_ hw)) <| zT (Gd.f1 rfl rfl rfl) (show (!(decide ((k : Int) = (b_entries.length : Int)))) = true by first | exact h10 | (rw [h10]; rfl) | simp [h10]) <| Qt rfl <| Qq (p_pickOr2 rfl rfl rfl) <| JL.nil ?_
  exact zm ⟨((decide ((k : Int) = (b_entries.length : Int))) || (!(decide (((M.ent b_entries k).pits) = pits)))), _, rfl, rfl, by first | rfl | (rw [‹decide ((k : Int) = (b_entries.length : Int)) = true›]; rfl) | (rw [‹decide ((k : Int) = (b_entries.length : Int)) = false›]; simp)⟩ (Up.refl _ _)
 rintro _ _ u9 ⟨e52_, G9_4, rfl, rfl, hB52⟩ x9
 refine zn ?_
 refine zk [0, 5, 6] (fun F U l os u => ∃ (ES : List M.Ent) (A13_0_9 : Option Addr) (c13_0_9 : Nat) (g13_0_9 : List Nat) (vs13_0_9 : List Value) (fl13_0_9 : List Nat) (G13_4 : List Nat), l = F [] ∧ os = U [nO, some (boxO bb [.int .i64 b_rules.pits, .int .i64 b_rules.seeds, .bool b_rules.stores, .bool b_rules.skip, .bool b_rules.relay, .bool b_rules.feed, .bool b_rules.again, .int .i64 b_rules.capture, .int .i64 b_rules.slam, .slice A13_0_9 ES.length c13_0_9] 37), some (rowO 89 2 (.slice A13_0_9 ES.length c13_0_9) ES.length vs13_0_9 g13_0_9), some (ownC (lBookEntry ES) vs13_0_9 fl13_0_9), some (anyO G13_4)] ∧ (ES = M.atE b_entries pits) ∧ (k < ES.length) ∧ (ES.length ≤ 4194304) ∧ (ES.length ≤ c13_0_9) ∧ (c13_0_9 ≤ 9223372036854775807)) ?_ ?_
 ·
  refine zi (fun h14 h14' => ?_) fun h14 h14' => ?_
  ·
   have q52 := hB52.symm.trans h14; simp only [Bool.and_eq_true, Bool.or_eq_true, decide_eq_true_eq, Bool.and_eq_false_iff, Bool.or_eq_false_iff, decide_eq_false_iff_not, Int.not_lt, Decidable.not_not] at q52
   have hno : ¬ M.hasE b_entries pits = true := q52.elim (fun q => M.hasE_len hE (by omega)) (fun q => M.hasE_ne hE q)
   have hA : b_entries.take k ++ [(M.Ent.mk pits [])] ++ b_entries.drop k = M.atE b_entries pits := M.atE_no hE hno
   have hAl : (b_entries.take k ++ [(M.Ent.mk pits [])] ++ b_entries.drop k).length = b_entries.length + 1 := by simp; omega
   refine Js.seq ?_
   refine zdr [10] ?_
   refine JH.p 0 rfl (p_move rfl) ?_
   refine JH.p 4 rfl (p_move rfl) ?_
   refine JH.p 5 rfl (p_nilCheck rfl) ?_
   refine JH.p 6 rfl (p_fieldAddr fld_37_1.h rfl) ?_
   refine JH.q 7 rfl (q_load1 ty_35.h rfl (Mem.box (i := 1) rfl rfl)) ?_
   refine JH.p 8 rfl (p_move rfl) ?_
   refine JH.p 9 rfl (p_slice (lo' := k) (hi' := b_entries.length) (mx' := cb_9) el_35 rfl rfl ⟨rfl, rfl⟩ ⟨_, rfl, by omega⟩) ?_
   refine y1 1 ?_
   refine ycs rfl rfl (fun w hw => c_impl_copyNumbers pits (ok_ hw)) ?_
   intro A15 c15 bl15 bh15
   refine JH.p 2 rfl (q_bld) ?_
   refine y1 3 ?_
   refine ybs rfl fun b16 => ?_
   refine y1 10 ?_
   refine JHo.e rfl (e_append (i := 0) (n' := (([(M.Ent.mk pits [])]) ++ (b_entries.drop k)).length) (vs' := [.slice A15 pits.length c15, .slice none 0 0] ++ (vsb_9.drop (k * 2))) el_35 rfl rfl rfl rfl (src_suf (i := 4) (a := k) und_35 rfl (fun w hw => (ownOne (i := 5) rfl (OneL.flat (F := cBookEntry) (fun _ => (.consSl (.consSl .nil))) _) w hw)) (by omega) (by omega)) (by omega) (by omega) (by first | omega | (simp only [List.length_append, List.length_cons, List.length_nil, List.length_take, List.length_drop] <;> omega)) (rfl)) (.inr rfl) ?_
   rintro v18 _ _ ⟨⟨g19, rfl⟩, rfl⟩ _
   refine JH.fact (row_form' (i := 0) rfl) (fun hf20 => ?_)
   obtain ⟨A20, c20, rfl, bl20, bh20⟩ := hf20
   refine znh ?_
   refine JH.p 11 rfl (p_assign rfl) ?_
   refine yd ?_
   refine Js.region <| Qm rfl <| Qm rfl <| Qc rfl <| Qf fh rfl <| Q0 3 rfl rfl rfl <| Qm rfl <| Qm rfl <| Qq (p_slice (lo' := 0) (hi' := k) (mx' := k) el_35 rfl ⟨_, rfl, by omega⟩ ⟨_, rfl, by omega⟩ rfl) <| Qm rfl ?_
   refine JL.e (e_appendG (n' := (b_entries.take k ++ [(M.Ent.mk pits [])] ++ b_entries.drop k).length) (vs' := (vsb_9.take (k * 2)) ++ ([.slice A15 pits.length c15, .slice none 0 0] ++ (vsb_9.drop (k * 2)))) el_35 rfl rfl (src_pre (i := 4) (b := k) und_35 rfl (fun w hw => (ownOne (i := 5) rfl (OneL.flat (F := cBookEntry) (fun _ => (.consSl (.consSl .nil))) _) w hw)) (by omega) (by omega)) rfl (src_rowW (i := 0) und_35 rfl (fun w hw => (one_app (by rfl) (one_drop _ (ownOne (i := 5) rfl (OneL.flat (F := cBookEntry) (fun _ => (.consSl (.consSl .nil))) _) w hw))))) (by first | omega | (simp only [List.length_set, List.length_append, List.length_cons, List.length_nil, List.length_take, List.length_drop, List.length_replicate]; omega)) (by first | omega | (simp only [List.length_set, List.length_append, List.length_cons, List.length_nil, List.length_take, List.length_drop, List.length_replicate]; omega)) (by first | omega | (simp only [List.length_set, List.length_append, List.length_cons, List.length_nil, List.length_take, List.length_drop, List.length_replicate]; omega)) (by first | omega | (simp only [List.length_append, List.length_cons, List.length_nil, List.length_take, List.length_drop] <;> omega)) (rfl)) ?_
   rintro _ _ _ ⟨A21, c21, rfl, rfl, rfl⟩ _
   refine JL.fact (row_form' (i := 0) rfl) (fun hf21 => ?_)
   obtain ⟨A921, c921, e921, bl21, bh21⟩ := hf21
   obtain ⟨rfl, rfl⟩ : A21 = A921 ∧ c21 = c921 := by injection e921 with e1 _ e3; exact ⟨e1, e3⟩
   refine znl ?_
   refine Qc rfl <| Qf fh rfl <| zw 4 rfl rfl rfl ?_
   refine JL.nil ?_
   refine Js.pk (cBookEntry (M.Ent.mk pits [])) [.slice A15 pits.length c15, .slice none 0 0] (fun f22 G22 => ?_)
   refine zn ?_
   refine Js.insL cBookEntry (i := 7) (j := 0) (m := 2) (k := k) (vs' := (vsb_9.take (k * 2)) ++ ([.slice A15 pits.length c15, .slice none 0 0] ++ (vsb_9.drop (k * 2)))) (fun _ => rfl) rfl rfl (by omega) (by first | rfl | simp) (fun f23 => ?_)
   refine zn ?_
   refine zf [4, 4, 2, 0] fun GG24 => ?_
   refine zn ?_
   exact zm ⟨(b_entries.take k ++ [(M.Ent.mk pits [])] ++ b_entries.drop k), _, _, _, _, _, _, rfl, rfl, by exact hA, by omega, by omega, by first | assumption | omega | rfl | (dsimp only; omega), by first | assumption | omega | rfl | (dsimp only; omega)⟩ (Up.refl _ _)
  have q52 := hB52.symm.trans h14; simp only [Bool.and_eq_true, Bool.or_eq_true, decide_eq_true_eq, Bool.and_eq_false_iff, Bool.or_eq_false_iff, decide_eq_false_iff_not, Int.not_lt, Decidable.not_not] at q52
  have hA : b_entries = M.atE b_entries pits := M.atE_yes (M.hasE_yes hE (by omega) q52.2)
  refine Js.skip ?_
  exact zm ⟨(b_entries), _, _, _, _, _, _, rfl, rfl, by exact hA, by omega, by omega, by first | assumption | omega | rfl | (dsimp only; omega), by first | assumption | omega | rfl | (dsimp only; omega)⟩ (Up.refl _ _)
 rintro _ _ u13 ⟨ES, A13_0_9, c13_0_9, g13_0_9, vs13_0_9, fl13_0_9, G13_4, rfl, rfl, hA, hAk, hAl, f13_3, f13_4⟩ x13
 refine zn ?_
 refine zS <| Qm rfl <| Qc rfl <| Qf fh rfl <| Q0 1 rfl rfl rfl <| Qm rfl ?_
 refine JL.fact (row_some (i := 2) rfl (by omega)) (fun hf26 => ?_)
 obtain ⟨b26, rfl⟩ := hf26
 have hy25 : ES[k]? = some (M.ent ES k) := M.ent_get (by first | omega | (simp only [List.length_set, List.length_append, List.length_cons, List.length_nil, List.length_take, List.length_drop, List.length_replicate]; omega))
 refine JL.fact (fun w hw => elemv_BookEntry (Mem.ownC (i := 3) rfl w hw) hy25) (fun hf25 => ?_)
 obtain ⟨A25_0, c25_0, A25_1, c25_1, he25, bl25_0, bh25_0, bl25_1, bh25_1⟩ := hf25
 refine Qq (p_indexAddr el_35 rfl rfl (by omega) (by omega) rfl) <| Qa rfl <| zJ ?_
 refine Js.fact (fun w hw => elem_in cBookEntry (m := 2) (k := k) (xs := ES) (fun _ => rfl) (Mem.ownC (i := 3) rfl w hw) (by omega)) (fun hl27 => ?_)
 refine Js.ex3 (fun w hw => St.elemS cBookEntry (m := 2) (i := 3) (xs := ES) (fun _ => rfl) rfl hy25 he25 hw) (fun f27_1 f27_2 f27_3 => ?_)
 refine Js.unp 0 ?_
 refine zn ?_
 have hsz := (hA.symm ▸ (M.SzE.at_ (n := 4194304) r1 r3) : M.SzE 4194304 ES) _ (M.ent_mem hAk)
 refine Js.region <| Qa rfl <| zJ <| Js.block ?_
 refine zl [5, 8] (fun F U l os u m => ∃ (j : Nat) (G28_7 : List Nat), l = F [(9, .int .i64 (j : Int))] ∧ os = U [nO, nO, nO, nO, nO, nO, nO, some (anyO G28_7)] ∧ (j + M.findC ((M.ent ES k).choices.drop j) c.move = M.findC (M.ent ES k).choices c.move) ∧ (j ≤ (M.ent ES k).choices.length) ∧ m = (M.ent ES k).choices.length - j) ⟨0, _, rfl, rfl, by simp, zt, rfl⟩ ?_
 rintro _ _ u28 _ ⟨j, G28_7, rfl, rfl, hM, hj, rfl⟩ x28
 refine zn ?_
 refine Js.seq <| Js.seq ?_
 refine zk [5, 8, 9] (fun F U l os u => ∃ (e101_ : Bool) (G29_7 : List Nat), l = F [(101, .bool e101_)] ∧ os = U [nO, nO, nO, nO, nO, nO, nO, some (anyO G29_7)] ∧ (e101_ = (decide ((j : Int) < ((M.ent ES k).choices.length : Int)) && decide ((M.cho (M.ent ES k).choices j).move < c.move)))) ?_ ?_
 ·
  rcases Bool.eq_false_or_eq_true (decide ((j : Int) < ((((M.ent ES k).choices).length) : Int))) with h30 | h30
  ·
   have h30' := h30; simp only [decide_eq_true_eq, Int.not_lt, Int.not_le] at h30'
   refine zdr [] ?_
   refine JH.p 0 rfl (p_move rfl) ?_
   refine JH.p 1 rfl (p_move rfl) ?_
   refine JH.p 2 rfl (p_nilCheck rfl) ?_
   refine JH.p 3 rfl (p_fieldAddr fld_89_1.h rfl) ?_
   refine JH.q 4 rfl (q_load1 ty_67.h rfl (fun w hw => (Mem.rowR' (i := 6) rfl he25 w hw) 1 _ rfl)) ?_
   refine JH.p 5 rfl (p_len el_67 rfl) ?_
   refine JH.p 6 rfl (p_lss rfl rfl) ?_
   refine JH.p 7 rfl (p_move rfl) ?_
   refine JH.pgT 8 rfl (Gd.t1 rfl rfl rfl) (show (decide ((j : Int) < ((((M.ent ES k).choices).length) : Int))) = true by first | exact h30 | (rw [h30]; rfl) | simp [h30]) (p_move rfl) ?_
   refine JH.pgT 9 rfl (Gd.t1 rfl rfl rfl) (show (decide ((j : Int) < ((((M.ent ES k).choices).length) : Int))) = true by first | exact h30 | (rw [h30]; rfl) | simp [h30]) (p_nilCheck rfl) ?_
   refine JH.pgT 10 rfl (Gd.t1 rfl rfl rfl) (show (decide ((j : Int) < ((((M.ent ES k).choices).length) : Int))) = true by first | exact h30 | (rw [h30]; rfl) | simp [h30]) (p_fieldAddr fld_89_1.h rfl) ?_
   refine JH.qgT 11 rfl (Gd.t1 rfl rfl rfl) (show (decide ((j : Int) < ((((M.ent ES k).choices).length) : Int))) = true by first | exact h30 | (rw [h30]; rfl) | simp [h30]) (q_load1 ty_67.h rfl (fun w hw => (Mem.rowR' (i := 6) rfl he25 w hw) 1 _ rfl)) ?_
   refine JH.pgT 12 rfl (Gd.t1 rfl rfl rfl) (show (decide ((j : Int) < ((((M.ent ES k).choices).length) : Int))) = true by first | exact h30 | (rw [h30]; rfl) | simp [h30]) (p_move rfl) ?_
   refine JH.fact (row_some (i := 0) rfl (by first | omega | (simp only [List.length_set, List.length_append, List.length_cons, List.length_nil, List.length_take, List.length_drop, List.length_replicate]; omega))) (fun hf32 => ?_)
   obtain ⟨b32, rfl⟩ := hf32
   have hy31 : ((M.ent ES k).choices)[j]? = some (M.cho ((M.ent ES k).choices) j) := M.cho_get (by first | omega | (simp only [List.length_set, List.length_append, List.length_cons, List.length_nil, List.length_take, List.length_drop, List.length_replicate]; omega))
   refine JH.pgT 13 rfl (Gd.t1 rfl rfl rfl) (show (decide ((j : Int) < ((((M.ent ES k).choices).length) : Int))) = true by first | exact h30 | (rw [h30]; rfl) | simp [h30]) (p_indexAddr el_67 rfl rfl (by first | omega | (simp only [List.length_set, List.length_append, List.length_cons, List.length_nil, List.length_take, List.length_drop, List.length_replicate]; omega)) (by first | omega | (simp only [List.length_set, List.length_append, List.length_cons, List.length_nil, List.length_take, List.length_drop, List.length_replicate]; omega)) rfl) ?_
   refine JH.pgT 14 rfl (Gd.t1 rfl rfl rfl) (show (decide ((j : Int) < ((((M.ent ES k).choices).length) : Int))) = true by first | exact h30 | (rw [h30]; rfl) | simp [h30]) (p_fieldAddr fld_81_0.h rfl) ?_
   refine JH.qgT 15 rfl (Gd.t1 rfl rfl rfl) (show (decide ((j : Int) < ((((M.ent ES k).choices).length) : Int))) = true by first | exact h30 | (rw [h30]; rfl) | simp [h30]) (q_load1 ty_2.h rfl (fun w hw => (Mem.rowR' (i := 0) rfl (fltV_at (C := vcChoice) (fun _ => rfl) hy31) w hw) 0 _ rfl)) ?_
   refine JH.pgT 16 rfl (Gd.t1 rfl rfl rfl) (show (decide ((j : Int) < ((((M.ent ES k).choices).length) : Int))) = true by first | exact h30 | (rw [h30]; rfl) | simp [h30]) (p_fieldAddr fld_81_0.h rfl) ?_
   refine JH.qgT 17 rfl (Gd.t1 rfl rfl rfl) (show (decide ((j : Int) < ((((M.ent ES k).choices).length) : Int))) = true by first | exact h30 | (rw [h30]; rfl) | simp [h30]) (q_load1 ty_2.h rfl (Mem.box (i := 4) rfl rfl)) ?_
   refine JH.pgT 18 rfl (Gd.t1 rfl rfl rfl) (show (decide ((j : Int) < ((((M.ent ES k).choices).length) : Int))) = true by first | exact h30 | (rw [h30]; rfl) | simp [h30]) (p_lss rfl rfl) ?_
   refine JH.p 19 rfl (p_pickAnd2 rfl rfl rfl) ?_
   refine yd ?_
   exact zm ⟨((decide ((j : Int) < ((((M.ent ES k).choices).length) : Int))) && (decide ((M.cho ((M.ent ES k).choices) j).move < c.move))), _, rfl, rfl, by first | rfl | (rw [‹decide ((j : Int) < ((M.ent ES k).choices.length : Int)) = false›]; rfl) | (rw [‹decide ((j : Int) < ((M.ent ES k).choices.length : Int)) = true›]; simp)⟩ (Up.refl _ _)
  have h30' := h30; simp only [decide_eq_false_iff_not, Int.not_lt, Int.not_le] at h30'
  refine zdr [] ?_
  refine JH.p 0 rfl (p_move rfl) ?_
  refine JH.p 1 rfl (p_move rfl) ?_
  refine JH.p 2 rfl (p_nilCheck rfl) ?_
  refine JH.p 3 rfl (p_fieldAddr fld_89_1.h rfl) ?_
  refine JH.q 4 rfl (q_load1 ty_67.h rfl (fun w hw => (Mem.rowR' (i := 6) rfl he25 w hw) 1 _ rfl)) ?_
  refine JH.p 5 rfl (p_len el_67 rfl) ?_
  refine JH.p 6 rfl (p_lss rfl rfl) ?_
  refine JH.p 7 rfl (p_move rfl) ?_
  refine JH.pg (v := undef) 8 rfl (Gd.t1 rfl rfl rfl) (fun hc => absurd hc (by first | (rw [h30]; simp; done) | simp [h30])) ?_
  refine JH.pg (v := undef) 9 rfl (Gd.t1 rfl rfl rfl) (fun hc => absurd hc (by first | (rw [h30]; simp; done) | simp [h30])) ?_
  refine JH.pg (v := undef) 10 rfl (Gd.t1 rfl rfl rfl) (fun hc => absurd hc (by first | (rw [h30]; simp; done) | simp [h30])) ?_
  refine JH.pg (v := undef) 11 rfl (Gd.t1 rfl rfl rfl) (fun hc => absurd hc (by first | (rw [h30]; simp; done) | simp [h30])) ?_
  refine JH.pg (v := undef) 12 rfl (Gd.t1 rfl rfl rfl) (fun hc => absurd hc (by first | (rw [h30]; simp; done) | simp [h30])) ?_
  refine JH.pg (v := undef) 13 rfl (Gd.t1 rfl rfl rfl) (fun hc => absurd hc (by first | (rw [h30]; simp; done) | simp [h30])) ?_
  refine JH.pg (v := undef) 14 rfl (Gd.t1 rfl rfl rfl) (fun hc => absurd hc (by first | (rw [h30]; simp; done) | simp [h30])) ?_
  refine JH.pg (v := undef) 15 rfl (Gd.t1 rfl rfl rfl) (fun hc => absurd hc (by first | (rw [h30]; simp; done) | simp [h30])) ?_
  refine JH.pg (v := undef) 16 rfl (Gd.t1 rfl rfl rfl) (fun hc => absurd hc (by first | (rw [h30]; simp; done) | simp [h30])) ?_
  refine JH.pg (v := undef) 17 rfl (Gd.t1 rfl rfl rfl) (fun hc => absurd hc (by first | (rw [h30]; simp; done) | simp [h30])) ?_
  refine JH.pg (v := .bool false) 18 rfl (Gd.t1 rfl rfl rfl) (fun hc => absurd hc (by first | (rw [h30]; simp; done) | simp [h30])) ?_
  refine JH.p 19 rfl (p_pickAnd rfl rfl rfl) ?_
  refine yd ?_
  exact zm ⟨((decide ((j : Int) < ((((M.ent ES k).choices).length) : Int))) && false), _, rfl, rfl, by first | rfl | (rw [‹decide ((j : Int) < ((M.ent ES k).choices.length : Int)) = false›]; rfl) | (rw [‹decide ((j : Int) < ((M.ent ES k).choices.length : Int)) = true›]; simp)⟩ (Up.refl _ _)
 rintro _ _ u29 ⟨e101_, G29_7, rfl, rfl, hB101⟩ x29
 refine zn ?_
 refine zi (fun h33 h33' => ?_) fun h33 h33' => ?_
 ·
  have q101 := hB101.symm.trans h33; simp only [Bool.and_eq_true, Bool.or_eq_true, decide_eq_true_eq, Bool.and_eq_false_iff, Bool.or_eq_false_iff, decide_eq_false_iff_not, Int.not_lt, Decidable.not_not] at q101
  have hM2 := M.findC_step hM (by omega) (by omega)
  refine Js.skip <| Js.block <| Js.region <| Qm rfl <| Qp rfl rfl <| Qa rfl <| JL.nil <| Js.blockEnd ?_
  exact zag ⟨j + 1, _, rfl, rfl, by exact hM2, zt, rfl⟩ (x28.trans x29)
 have q101 := hB101.symm.trans h33; simp only [Bool.and_eq_true, Bool.or_eq_true, decide_eq_true_eq, Bool.and_eq_false_iff, Bool.or_eq_false_iff, decide_eq_false_iff_not, Int.not_lt, Decidable.not_not] at q101
 have hN : M.findC (M.ent ES k).choices c.move = j := q101.elim (fun q => M.findC_end hM (by omega)) (fun q => if q8 : j < (M.ent ES k).choices.length then M.findC_hit hM q8 (by omega) else M.findC_end hM (by omega))
 have hcb := (hA.symm ▸ r2.at_ : M.EB 1000000000000000 ES) _ (M.ent_mem hAk)
 refine zx ?_
 refine Js.seq <| Js.seq ?_
 refine zk [5, 8, 9] (fun F U l os u => ∃ (e123_ : Bool) (G34_7 : List Nat), l = F [(123, .bool e123_)] ∧ os = U [nO, nO, nO, nO, nO, nO, nO, some (anyO G34_7)] ∧ (e123_ = (decide ((j : Int) = ((M.ent ES k).choices.length : Int)) || decide (¬ (M.cho (M.ent ES k).choices j).move = c.move)))) ?_ ?_
 ·
  rcases Bool.eq_false_or_eq_true (decide ((j : Int) = ((((M.ent ES k).choices).length) : Int))) with h35 | h35
  ·
   have h35' := h35; simp only [decide_eq_true_eq, Int.not_lt, Int.not_le] at h35'
   refine zdr [] ?_
   refine JH.p 0 rfl (p_move rfl) ?_
   refine JH.p 1 rfl (p_move rfl) ?_
   refine JH.p 2 rfl (p_nilCheck rfl) ?_
   refine JH.p 3 rfl (p_fieldAddr fld_89_1.h rfl) ?_
   refine JH.q 4 rfl (q_load1 ty_67.h rfl (fun w hw => (Mem.rowR' (i := 6) rfl he25 w hw) 1 _ rfl)) ?_
   refine JH.p 5 rfl (p_len el_67 rfl) ?_
   refine JH.p 6 rfl (p_eql rfl rfl) ?_
   refine JH.p 7 rfl (p_move rfl) ?_
   refine JH.pg (v := undef) 8 rfl (Gd.f1 rfl rfl rfl) (fun hc => absurd hc (by first | (rw [h35]; simp; done) | simp [h35])) ?_
   refine JH.pg (v := undef) 9 rfl (Gd.f1 rfl rfl rfl) (fun hc => absurd hc (by first | (rw [h35]; simp; done) | simp [h35])) ?_
   refine JH.pg (v := undef) 10 rfl (Gd.f1 rfl rfl rfl) (fun hc => absurd hc (by first | (rw [h35]; simp; done) | simp [h35])) ?_
   refine JH.pg (v := undef) 11 rfl (Gd.f1 rfl rfl rfl) (fun hc => absurd hc (by first | (rw [h35]; simp; done) | simp [h35])) ?_
   refine JH.pg (v := undef) 12 rfl (Gd.f1 rfl rfl rfl) (fun hc => absurd hc (by first | (rw [h35]; simp; done) | simp [h35])) ?_
   refine JH.pg (v := undef) 13 rfl (Gd.f1 rfl rfl rfl) (fun hc => absurd hc (by first | (rw [h35]; simp; done) | simp [h35])) ?_
   refine JH.pg (v := undef) 14 rfl (Gd.f1 rfl rfl rfl) (fun hc => absurd hc (by first | (rw [h35]; simp; done) | simp [h35])) ?_
   refine JH.pg (v := undef) 15 rfl (Gd.f1 rfl rfl rfl) (fun hc => absurd hc (by first | (rw [h35]; simp; done) | simp [h35])) ?_
   refine JH.pg (v := undef) 16 rfl (Gd.f1 rfl rfl rfl) (fun hc => absurd hc (by first | (rw [h35]; simp; done) | simp [h35])) ?_
   refine JH.pg (v := undef) 17 rfl (Gd.f1 rfl rfl rfl) (fun hc => absurd hc (by first | (rw [h35]; simp; done) | simp [h35])) ?_
   refine JH.pg (v := .bool false) 18 rfl (Gd.f1 rfl rfl rfl) (fun hc => absurd hc (by first | (rw [h35]; simp; done) | simp [h35])) ?_
   refine JH.p 19 rfl (p_pickOr rfl rfl rfl) ?_
   refine yd ?_
   exact zm ⟨((decide ((j : Int) = ((((M.ent ES k).choices).length) : Int))) || false), _, rfl, rfl, by first | rfl | (rw [‹decide ((j : Int) = ((M.ent ES k).choices.length : Int)) = true›]; rfl) | (rw [‹decide ((j : Int) = ((M.ent ES k).choices.length : Int)) = false›]; simp)⟩ (Up.refl _ _)
  have h35' := h35; simp only [decide_eq_false_iff_not, Int.not_lt, Int.not_le] at h35'
  refine zdr [] ?_
  refine JH.p 0 rfl (p_move rfl) ?_
  refine JH.p 1 rfl (p_move rfl) ?_
  refine JH.p 2 rfl (p_nilCheck rfl) ?_
  refine JH.p 3 rfl (p_fieldAddr fld_89_1.h rfl) ?_
  refine JH.q 4 rfl (q_load1 ty_67.h rfl (fun w hw => (Mem.rowR' (i := 6) rfl he25 w hw) 1 _ rfl)) ?_
  refine JH.p 5 rfl (p_len el_67 rfl) ?_
  refine JH.p 6 rfl (p_eql rfl rfl) ?_
  refine JH.p 7 rfl (p_move rfl) ?_
  refine JH.pgT 8 rfl (Gd.f1 rfl rfl rfl) (show (!(decide ((j : Int) = ((((M.ent ES k).choices).length) : Int)))) = true by first | exact h35 | (rw [h35]; rfl) | simp [h35]) (p_move rfl) ?_
  refine JH.pgT 9 rfl (Gd.f1 rfl rfl rfl) (show (!(decide ((j : Int) = ((((M.ent ES k).choices).length) : Int)))) = true by first | exact h35 | (rw [h35]; rfl) | simp [h35]) (p_nilCheck rfl) ?_
  refine JH.pgT 10 rfl (Gd.f1 rfl rfl rfl) (show (!(decide ((j : Int) = ((((M.ent ES k).choices).length) : Int)))) = true by first | exact h35 | (rw [h35]; rfl) | simp [h35]) (p_fieldAddr fld_89_1.h rfl) ?_
  refine JH.qgT 11 rfl (Gd.f1 rfl rfl rfl) (show (!(decide ((j : Int) = ((((M.ent ES k).choices).length) : Int)))) = true by first | exact h35 | (rw [h35]; rfl) | simp [h35]) (q_load1 ty_67.h rfl (fun w hw => (Mem.rowR' (i := 6) rfl he25 w hw) 1 _ rfl)) ?_
  refine JH.pgT 12 rfl (Gd.f1 rfl rfl rfl) (show (!(decide ((j : Int) = ((((M.ent ES k).choices).length) : Int)))) = true by first | exact h35 | (rw [h35]; rfl) | simp [h35]) (p_move rfl) ?_
  refine JH.fact (row_some (i := 0) rfl (by first | omega | (simp only [List.length_set, List.length_append, List.length_cons, List.length_nil, List.length_take, List.length_drop, List.length_replicate]; omega))) (fun hf37 => ?_)
  obtain ⟨b37, rfl⟩ := hf37
  have hy36 : ((M.ent ES k).choices)[j]? = some (M.cho ((M.ent ES k).choices) j) := M.cho_get (by first | omega | (simp only [List.length_set, List.length_append, List.length_cons, List.length_nil, List.length_take, List.length_drop, List.length_replicate]; omega))
  refine JH.pgT 13 rfl (Gd.f1 rfl rfl rfl) (show (!(decide ((j : Int) = ((((M.ent ES k).choices).length) : Int)))) = true by first | exact h35 | (rw [h35]; rfl) | simp [h35]) (p_indexAddr el_67 rfl rfl (by first | omega | (simp only [List.length_set, List.length_append, List.length_cons, List.length_nil, List.length_take, List.length_drop, List.length_replicate]; omega)) (by first | omega | (simp only [List.length_set, List.length_append, List.length_cons, List.length_nil, List.length_take, List.length_drop, List.length_replicate]; omega)) rfl) ?_
  refine JH.pgT 14 rfl (Gd.f1 rfl rfl rfl) (show (!(decide ((j : Int) = ((((M.ent ES k).choices).length) : Int)))) = true by first | exact h35 | (rw [h35]; rfl) | simp [h35]) (p_fieldAddr fld_81_0.h rfl) ?_
  refine JH.qgT 15 rfl (Gd.f1 rfl rfl rfl) (show (!(decide ((j : Int) = ((((M.ent ES k).choices).length) : Int)))) = true by first | exact h35 | (rw [h35]; rfl) | simp [h35]) (q_load1 ty_2.h rfl (fun w hw => (Mem.rowR' (i := 0) rfl (fltV_at (C := vcChoice) (fun _ => rfl) hy36) w hw) 0 _ rfl)) ?_
  refine JH.pgT 16 rfl (Gd.f1 rfl rfl rfl) (show (!(decide ((j : Int) = ((((M.ent ES k).choices).length) : Int)))) = true by first | exact h35 | (rw [h35]; rfl) | simp [h35]) (p_fieldAddr fld_81_0.h rfl) ?_
  refine JH.qgT 17 rfl (Gd.f1 rfl rfl rfl) (show (!(decide ((j : Int) = ((((M.ent ES k).choices).length) : Int)))) = true by first | exact h35 | (rw [h35]; rfl) | simp [h35]) (q_load1 ty_2.h rfl (Mem.box (i := 4) rfl rfl)) ?_
  refine JH.pgT 18 rfl (Gd.f1 rfl rfl rfl) (show (!(decide ((j : Int) = ((((M.ent ES k).choices).length) : Int)))) = true by first | exact h35 | (rw [h35]; rfl) | simp [h35]) (p_neq rfl rfl) ?_
  refine JH.p 19 rfl (p_pickOr2 rfl rfl rfl) ?_
  refine yd ?_
  exact zm ⟨((decide ((j : Int) = ((((M.ent ES k).choices).length) : Int))) || (!decide ((M.cho ((M.ent ES k).choices) j).move = c.move))), _, rfl, rfl, by first | rfl | (rw [‹decide ((j : Int) = ((M.ent ES k).choices.length : Int)) = true›]; rfl) | (rw [‹decide ((j : Int) = ((M.ent ES k).choices.length : Int)) = false›]; simp)⟩ (Up.refl _ _)
 rintro _ _ u34 ⟨e123_, G34_7, rfl, rfl, hB123⟩ x34
 refine zn ?_
 refine zi (fun h38 h38' => ?_) fun h38 h38' => ?_
 ·
  have q123 := hB123.symm.trans h38; simp only [Bool.and_eq_true, Bool.or_eq_true, decide_eq_true_eq, Bool.and_eq_false_iff, Bool.or_eq_false_iff, decide_eq_false_iff_not, Int.not_lt, Decidable.not_not] at q123
  have hC := M.addC_no (c := c) hN (fun a => q123.elim (fun q => by omega) (fun q => q a.2))
  have hB9 := M.bump_no (show j ≤ (M.ent ES k).choices.length by omega) hC
  have hcj := fun (y : M.Cho) (hy : y ∈ (M.ent ES k).choices) => hcb y hy
  refine Js.seq ?_
  refine zdr [10] ?_
  refine JH.p 0 rfl (p_fieldAddr fld_81_0.h rfl) ?_
  refine JH.q 1 rfl (q_load1 ty_2.h rfl (Mem.box (i := 4) rfl rfl)) ?_
  refine JH.p 2 rfl (q_bld) ?_
  refine JH.p 4 rfl (p_move rfl) ?_
  refine JH.p 5 rfl (p_nilCheck rfl) ?_
  refine JH.p 6 rfl (p_fieldAddr fld_89_1.h rfl) ?_
  refine JH.q 7 rfl (q_load1 ty_67.h rfl (fun w hw => (Mem.rowR' (i := 6) rfl he25 w hw) 1 _ rfl)) ?_
  refine JH.p 8 rfl (p_move rfl) ?_
  refine JH.p 9 rfl (p_slice (lo' := j) (hi' := ((M.ent ES k).choices).length) (mx' := c25_1) el_67 rfl rfl ⟨rfl, rfl⟩ ⟨_, rfl, by omega⟩) ?_
  refine y1 3 ?_
  refine ybs rfl fun b39 => ?_
  refine y1 10 ?_
  refine JHo.e rfl (e_append (i := 0) (n' := ([(M.Cho.mk c.move 0 0)] ++ (((M.ent ES k).choices).drop j)).length) (vs' := fltV vcChoice ([(M.Cho.mk c.move 0 0)] ++ (((M.ent ES k).choices).drop j))) el_67 rfl rfl rfl rfl (src_suf (i := 1) (a := j) und_67 rfl (fun w hw => (FltL.one (F := lChoice) _)) (by omega) (by omega)) (by omega) (by omega) (by first | omega | (simp only [List.length_append, List.length_cons, List.length_nil, List.length_take, List.length_drop] <;> omega)) (by rw [(fltV_split (F := lChoice) _ _).2]; first | rfl | exact fltV_app _ _ _ | (simp [fltV]; done))) (.inr rfl) ?_
  rintro v41 _ _ ⟨⟨g42, rfl⟩, rfl⟩ _
  refine JH.fact (row_form' (i := 0) rfl) (fun hf43 => ?_)
  obtain ⟨A43, c43, rfl, bl43, bh43⟩ := hf43
  refine znh ?_
  refine JH.p 11 rfl (p_assign rfl) ?_
  refine yd ?_
  refine Js.region <| Qm rfl <| Qm rfl <| Qc rfl <| Qf fh rfl <| Qw (q_load1 ty_67.h rfl (fun w hw => (Mem.rowR' (i := 7) rfl he25 w hw) 1 _ rfl)) <| Qm rfl <| Qm rfl <| Qq (p_slice (lo' := 0) (hi' := j) (mx' := j) el_67 rfl ⟨_, rfl, by omega⟩ ⟨_, rfl, by omega⟩ rfl) <| Qm rfl ?_
  refine JL.e (e_appendG (n' := ((((M.ent ES k).choices).take j) ++ ([(M.Cho.mk c.move 0 0)] ++ (((M.ent ES k).choices).drop j))).length) (vs' := fltV vcChoice ((((M.ent ES k).choices).take j) ++ ([(M.Cho.mk c.move 0 0)] ++ (((M.ent ES k).choices).drop j)))) el_67 rfl rfl (src_pre (i := 1) (b := j) und_67 rfl (fun w hw => (FltL.one (F := lChoice) _)) (by omega) (by omega)) rfl (src_rowW (i := 0) und_67 rfl (fun w hw => (FltL.one (F := lChoice) _))) (by first | omega | (simp only [List.length_set, List.length_append, List.length_cons, List.length_nil, List.length_take, List.length_drop, List.length_replicate]; omega)) (by first | omega | (simp only [List.length_set, List.length_append, List.length_cons, List.length_nil, List.length_take, List.length_drop, List.length_replicate]; omega)) (by first | omega | (simp only [List.length_set, List.length_append, List.length_cons, List.length_nil, List.length_take, List.length_drop, List.length_replicate]; omega)) (by first | omega | (simp only [List.length_append, List.length_cons, List.length_nil, List.length_take, List.length_drop] <;> omega)) (by rw [(fltV_split (F := lChoice) _ _).1]; exact fltV_app _ _ _)) ?_
  rintro _ _ _ ⟨A44, c44, rfl, rfl, rfl⟩ _
  refine JL.fact (row_form' (i := 0) rfl) (fun hf44 => ?_)
  obtain ⟨A944, c944, e944, bl44, bh44⟩ := hf44
  obtain ⟨rfl, rfl⟩ : A44 = A944 ∧ c44 = c944 := by injection e944 with e1 _ e3; exact ⟨e1, e3⟩
  refine znl ?_
  refine Qc rfl <| Qf fh rfl ?_
  refine JL.s (e_storeRow (i := 8) (xs' := setL vs13_0_9 (0 + k * 2) [.slice A25_0 (((M.ent ES k).pits).length) c25_0, .slice A44 (((((M.ent ES k).choices).take j) ++ ([(M.Cho.mk c.move 0 0)] ++ (((M.ent ES k).choices).drop j))).length) c44]) ty_67.h rfl rfl rfl rfl rfl rfl (by omega) (setL_at (j := 1) he25 (by decide) hl27 rfl)) ?_
  rintro _ _ _ ⟨rfl, rfl⟩ _
  refine znl ?_
  have hx14 : 0 ≤ (M.cho ((((M.ent ES k).choices).take j) ++ ([(M.Cho.mk c.move 0 0)] ++ (((M.ent ES k).choices).drop j))) j).games ∧ (M.cho ((((M.ent ES k).choices).take j) ++ ([(M.Cho.mk c.move 0 0)] ++ (((M.ent ES k).choices).drop j))) j).games ≤ 1000000000000000 ∧ 0 ≤ (M.cho ((((M.ent ES k).choices).take j) ++ ([(M.Cho.mk c.move 0 0)] ++ (((M.ent ES k).choices).drop j))) j).score ∧ (M.cho ((((M.ent ES k).choices).take j) ++ ([(M.Cho.mk c.move 0 0)] ++ (((M.ent ES k).choices).drop j))) j).score ≤ 1000000000000000 := by first | exact hcb _ (M.cho_mem (by omega)) | (rw [← List.append_assoc, M.cho_mid _ _ (by omega)]; simp)
  refine zJ ?_
  refine zdr [13] ?_
  refine JH.p 0 rfl (p_move rfl) ?_
  refine JH.p 1 rfl (p_nilCheck rfl) ?_
  refine JH.p 2 rfl (p_fieldAddr fld_89_1.h rfl) ?_
  refine JH.q 3 rfl (q_load1 ty_67.h rfl (fun w hw => (Mem.rowR' (i := 8) rfl (setL_get (c := [.slice A25_0 (((M.ent ES k).pits).length) c25_0, .slice A44 (((((M.ent ES k).choices).take j) ++ ([(M.Cho.mk c.move 0 0)] ++ (((M.ent ES k).choices).drop j))).length) c44]) (m := 2) rfl hl27) w hw) 1 _ rfl)) ?_
  refine JH.p 4 rfl (p_move rfl) ?_
  refine JH.fact (row_some (i := 0) rfl (by first | omega | (simp only [List.length_set, List.length_append, List.length_cons, List.length_nil, List.length_take, List.length_drop, List.length_replicate]; omega))) (fun hf46 => ?_)
  obtain ⟨b46, rfl⟩ := hf46
  have hy45 : ((((M.ent ES k).choices).take j) ++ ([(M.Cho.mk c.move 0 0)] ++ (((M.ent ES k).choices).drop j)))[j]? = some (M.cho ((((M.ent ES k).choices).take j) ++ ([(M.Cho.mk c.move 0 0)] ++ (((M.ent ES k).choices).drop j))) j) := M.cho_get (by first | omega | (simp only [List.length_set, List.length_append, List.length_cons, List.length_nil, List.length_take, List.length_drop, List.length_replicate]; omega))
  refine JH.p 5 rfl (p_indexAddr el_67 rfl rfl (by first | omega | (simp only [List.length_set, List.length_append, List.length_cons, List.length_nil, List.length_take, List.length_drop, List.length_replicate]; omega)) (by first | omega | (simp only [List.length_set, List.length_append, List.length_cons, List.length_nil, List.length_take, List.length_drop, List.length_replicate]; omega)) rfl) ?_
  refine JH.p 6 rfl (p_fieldAddr fld_81_1.h rfl) ?_
  refine JH.q 7 rfl (q_load1 ty_2.h rfl (fun w hw => (Mem.rowR' (i := 0) rfl (fltV_at (C := vcChoice) (fun _ => rfl) hy45) w hw) 1 _ rfl)) ?_
  refine JH.p 8 rfl (p_fieldAddr fld_81_1.h rfl) ?_
  refine JH.q 9 rfl (q_load1 ty_2.h rfl (Mem.box (i := 6) rfl rfl)) ?_
  refine JH.p 10 rfl (p_add rfl rfl (IntWalk.i64_in _ (by omega))) ?_
  have hy47 : ((((M.ent ES k).choices).take j) ++ ([(M.Cho.mk c.move 0 0)] ++ (((M.ent ES k).choices).drop j)))[j]? = some (M.cho ((((M.ent ES k).choices).take j) ++ ([(M.Cho.mk c.move 0 0)] ++ (((M.ent ES k).choices).drop j))) j) := M.cho_get (by first | omega | (simp only [List.length_set, List.length_append, List.length_cons, List.length_nil, List.length_take, List.length_drop, List.length_replicate]; omega))
  refine JH.p 11 rfl (p_indexAddr el_67 rfl rfl (by first | omega | (simp only [List.length_set, List.length_append, List.length_cons, List.length_nil, List.length_take, List.length_drop, List.length_replicate]; omega)) (by first | omega | (simp only [List.length_set, List.length_append, List.length_cons, List.length_nil, List.length_take, List.length_drop, List.length_replicate]; omega)) rfl) ?_
  refine JH.p 12 rfl (p_fieldAddr fld_81_1.h rfl) ?_
  refine y1 13 ?_
  refine JHo.s rfl (e_storeRow (i := 0) (xs' := fltV vcChoice (((((M.ent ES k).choices).take j) ++ ([(M.Cho.mk c.move 0 0)] ++ (((M.ent ES k).choices).drop j))).set j (M.Cho.mk ((M.cho ((((M.ent ES k).choices).take j) ++ ([(M.Cho.mk c.move 0 0)] ++ (((M.ent ES k).choices).drop j))) j).move) (((M.cho ((((M.ent ES k).choices).take j) ++ ([(M.Cho.mk c.move 0 0)] ++ (((M.ent ES k).choices).drop j))) j).games) + c.games) ((M.cho ((((M.ent ES k).choices).take j) ++ ([(M.Cho.mk c.move 0 0)] ++ (((M.ent ES k).choices).drop j))) j).score)))) ty_2.h rfl rfl rfl rfl rfl rfl (fltV_lt (C := vcChoice) (j := 1) (fun _ => rfl) (by first | omega | (simp only [List.length_set, List.length_append, List.length_cons, List.length_nil, List.length_take, List.length_drop, List.length_replicate]; omega)) (by decide)) (fltV_cell (C := vcChoice) (j := 1) (y' := (M.Cho.mk ((M.cho ((((M.ent ES k).choices).take j) ++ ([(M.Cho.mk c.move 0 0)] ++ (((M.ent ES k).choices).drop j))) j).move) (((M.cho ((((M.ent ES k).choices).take j) ++ ([(M.Cho.mk c.move 0 0)] ++ (((M.ent ES k).choices).drop j))) j).games) + c.games) ((M.cho ((((M.ent ES k).choices).take j) ++ ([(M.Cho.mk c.move 0 0)] ++ (((M.ent ES k).choices).drop j))) j).score))) (fun _ => rfl) hy47 (by decide) rfl)) (.inr rfl) ?_
  rintro _ _ _ ⟨rfl, rfl⟩ _
  refine znh ?_
  refine yd ?_
  have hx15 : (M.cho (((((M.ent ES k).choices).take j) ++ ([(M.Cho.mk c.move 0 0)] ++ (((M.ent ES k).choices).drop j))).set j (M.Cho.mk ((M.cho ((((M.ent ES k).choices).take j) ++ ([(M.Cho.mk c.move 0 0)] ++ (((M.ent ES k).choices).drop j))) j).move) (((M.cho ((((M.ent ES k).choices).take j) ++ ([(M.Cho.mk c.move 0 0)] ++ (((M.ent ES k).choices).drop j))) j).games) + c.games) ((M.cho ((((M.ent ES k).choices).take j) ++ ([(M.Cho.mk c.move 0 0)] ++ (((M.ent ES k).choices).drop j))) j).score))) j).score = (M.cho ((((M.ent ES k).choices).take j) ++ ([(M.Cho.mk c.move 0 0)] ++ (((M.ent ES k).choices).drop j))) j).score := by rw [M.cho_set (by first | omega | (simp only [List.length_append, List.length_cons, List.length_nil, List.length_take, List.length_drop]; omega))]
  refine zdr [13] ?_
  refine JH.p 0 rfl (p_move rfl) ?_
  refine JH.p 1 rfl (p_nilCheck rfl) ?_
  refine JH.p 2 rfl (p_fieldAddr fld_89_1.h rfl) ?_
  refine JH.q 3 rfl (q_load1 ty_67.h rfl (fun w hw => (Mem.rowR' (i := 8) rfl (setL_get (c := [.slice A25_0 (((M.ent ES k).pits).length) c25_0, .slice (some ⟨b46, 0, none⟩) (((((M.ent ES k).choices).take j) ++ ([(M.Cho.mk c.move 0 0)] ++ (((M.ent ES k).choices).drop j))).length) c44]) (m := 2) rfl hl27) w hw) 1 _ rfl)) ?_
  refine JH.p 4 rfl (p_move rfl) ?_
  have hy48 : (((((M.ent ES k).choices).take j) ++ ([(M.Cho.mk c.move 0 0)] ++ (((M.ent ES k).choices).drop j))).set j (M.Cho.mk ((M.cho ((((M.ent ES k).choices).take j) ++ ([(M.Cho.mk c.move 0 0)] ++ (((M.ent ES k).choices).drop j))) j).move) (((M.cho ((((M.ent ES k).choices).take j) ++ ([(M.Cho.mk c.move 0 0)] ++ (((M.ent ES k).choices).drop j))) j).games) + c.games) ((M.cho ((((M.ent ES k).choices).take j) ++ ([(M.Cho.mk c.move 0 0)] ++ (((M.ent ES k).choices).drop j))) j).score)))[j]? = some (M.cho (((((M.ent ES k).choices).take j) ++ ([(M.Cho.mk c.move 0 0)] ++ (((M.ent ES k).choices).drop j))).set j (M.Cho.mk ((M.cho ((((M.ent ES k).choices).take j) ++ ([(M.Cho.mk c.move 0 0)] ++ (((M.ent ES k).choices).drop j))) j).move) (((M.cho ((((M.ent ES k).choices).take j) ++ ([(M.Cho.mk c.move 0 0)] ++ (((M.ent ES k).choices).drop j))) j).games) + c.games) ((M.cho ((((M.ent ES k).choices).take j) ++ ([(M.Cho.mk c.move 0 0)] ++ (((M.ent ES k).choices).drop j))) j).score))) j) := M.cho_get (by first | omega | (simp only [List.length_set, List.length_append, List.length_cons, List.length_nil, List.length_take, List.length_drop, List.length_replicate]; omega))
  refine JH.p 5 rfl (p_indexAddr el_67 rfl rfl (by first | omega | (simp only [List.length_set, List.length_append, List.length_cons, List.length_nil, List.length_take, List.length_drop, List.length_replicate]; omega)) (by first | omega | (simp only [List.length_set, List.length_append, List.length_cons, List.length_nil, List.length_take, List.length_drop, List.length_replicate]; omega)) rfl) ?_
  refine JH.p 6 rfl (p_fieldAddr fld_81_2.h rfl) ?_
  refine JH.q 7 rfl (q_load1 ty_2.h rfl (fun w hw => (Mem.rowR' (i := 0) rfl (fltV_at (C := vcChoice) (fun _ => rfl) hy48) w hw) 2 _ rfl)) ?_
  refine JH.p 8 rfl (p_fieldAddr fld_81_2.h rfl) ?_
  refine JH.q 9 rfl (q_load1 ty_2.h rfl (Mem.box (i := 6) rfl rfl)) ?_
  refine JH.p 10 rfl (p_add rfl rfl (IntWalk.i64_in _ (by omega))) ?_
  have hy49 : (((((M.ent ES k).choices).take j) ++ ([(M.Cho.mk c.move 0 0)] ++ (((M.ent ES k).choices).drop j))).set j (M.Cho.mk ((M.cho ((((M.ent ES k).choices).take j) ++ ([(M.Cho.mk c.move 0 0)] ++ (((M.ent ES k).choices).drop j))) j).move) (((M.cho ((((M.ent ES k).choices).take j) ++ ([(M.Cho.mk c.move 0 0)] ++ (((M.ent ES k).choices).drop j))) j).games) + c.games) ((M.cho ((((M.ent ES k).choices).take j) ++ ([(M.Cho.mk c.move 0 0)] ++ (((M.ent ES k).choices).drop j))) j).score)))[j]? = some (M.cho (((((M.ent ES k).choices).take j) ++ ([(M.Cho.mk c.move 0 0)] ++ (((M.ent ES k).choices).drop j))).set j (M.Cho.mk ((M.cho ((((M.ent ES k).choices).take j) ++ ([(M.Cho.mk c.move 0 0)] ++ (((M.ent ES k).choices).drop j))) j).move) (((M.cho ((((M.ent ES k).choices).take j) ++ ([(M.Cho.mk c.move 0 0)] ++ (((M.ent ES k).choices).drop j))) j).games) + c.games) ((M.cho ((((M.ent ES k).choices).take j) ++ ([(M.Cho.mk c.move 0 0)] ++ (((M.ent ES k).choices).drop j))) j).score))) j) := M.cho_get (by first | omega | (simp only [List.length_set, List.length_append, List.length_cons, List.length_nil, List.length_take, List.length_drop, List.length_replicate]; omega))
  refine JH.p 11 rfl (p_indexAddr el_67 rfl rfl (by first | omega | (simp only [List.length_set, List.length_append, List.length_cons, List.length_nil, List.length_take, List.length_drop, List.length_replicate]; omega)) (by first | omega | (simp only [List.length_set, List.length_append, List.length_cons, List.length_nil, List.length_take, List.length_drop, List.length_replicate]; omega)) rfl) ?_
  refine JH.p 12 rfl (p_fieldAddr fld_81_2.h rfl) ?_
  refine y1 13 ?_
  refine JHo.s rfl (e_storeRow (i := 0) (xs' := fltV vcChoice ((((((M.ent ES k).choices).take j) ++ ([(M.Cho.mk c.move 0 0)] ++ (((M.ent ES k).choices).drop j))).set j (M.Cho.mk ((M.cho ((((M.ent ES k).choices).take j) ++ ([(M.Cho.mk c.move 0 0)] ++ (((M.ent ES k).choices).drop j))) j).move) (((M.cho ((((M.ent ES k).choices).take j) ++ ([(M.Cho.mk c.move 0 0)] ++ (((M.ent ES k).choices).drop j))) j).games) + c.games) ((M.cho ((((M.ent ES k).choices).take j) ++ ([(M.Cho.mk c.move 0 0)] ++ (((M.ent ES k).choices).drop j))) j).score))).set j (M.Cho.mk ((M.cho (((((M.ent ES k).choices).take j) ++ ([(M.Cho.mk c.move 0 0)] ++ (((M.ent ES k).choices).drop j))).set j (M.Cho.mk ((M.cho ((((M.ent ES k).choices).take j) ++ ([(M.Cho.mk c.move 0 0)] ++ (((M.ent ES k).choices).drop j))) j).move) (((M.cho ((((M.ent ES k).choices).take j) ++ ([(M.Cho.mk c.move 0 0)] ++ (((M.ent ES k).choices).drop j))) j).games) + c.games) ((M.cho ((((M.ent ES k).choices).take j) ++ ([(M.Cho.mk c.move 0 0)] ++ (((M.ent ES k).choices).drop j))) j).score))) j).move) ((M.cho (((((M.ent ES k).choices).take j) ++ ([(M.Cho.mk c.move 0 0)] ++ (((M.ent ES k).choices).drop j))).set j (M.Cho.mk ((M.cho ((((M.ent ES k).choices).take j) ++ ([(M.Cho.mk c.move 0 0)] ++ (((M.ent ES k).choices).drop j))) j).move) (((M.cho ((((M.ent ES k).choices).take j) ++ ([(M.Cho.mk c.move 0 0)] ++ (((M.ent ES k).choices).drop j))) j).games) + c.games) ((M.cho ((((M.ent ES k).choices).take j) ++ ([(M.Cho.mk c.move 0 0)] ++ (((M.ent ES k).choices).drop j))) j).score))) j).games) (((M.cho (((((M.ent ES k).choices).take j) ++ ([(M.Cho.mk c.move 0 0)] ++ (((M.ent ES k).choices).drop j))).set j (M.Cho.mk ((M.cho ((((M.ent ES k).choices).take j) ++ ([(M.Cho.mk c.move 0 0)] ++ (((M.ent ES k).choices).drop j))) j).move) (((M.cho ((((M.ent ES k).choices).take j) ++ ([(M.Cho.mk c.move 0 0)] ++ (((M.ent ES k).choices).drop j))) j).games) + c.games) ((M.cho ((((M.ent ES k).choices).take j) ++ ([(M.Cho.mk c.move 0 0)] ++ (((M.ent ES k).choices).drop j))) j).score))) j).score) + c.score)))) ty_2.h rfl rfl rfl rfl rfl rfl (fltV_lt (C := vcChoice) (j := 2) (fun _ => rfl) (by first | omega | (simp only [List.length_set, List.length_append, List.length_cons, List.length_nil, List.length_take, List.length_drop, List.length_replicate]; omega)) (by decide)) (fltV_cell (C := vcChoice) (j := 2) (y' := (M.Cho.mk ((M.cho (((((M.ent ES k).choices).take j) ++ ([(M.Cho.mk c.move 0 0)] ++ (((M.ent ES k).choices).drop j))).set j (M.Cho.mk ((M.cho ((((M.ent ES k).choices).take j) ++ ([(M.Cho.mk c.move 0 0)] ++ (((M.ent ES k).choices).drop j))) j).move) (((M.cho ((((M.ent ES k).choices).take j) ++ ([(M.Cho.mk c.move 0 0)] ++ (((M.ent ES k).choices).drop j))) j).games) + c.games) ((M.cho ((((M.ent ES k).choices).take j) ++ ([(M.Cho.mk c.move 0 0)] ++ (((M.ent ES k).choices).drop j))) j).score))) j).move) ((M.cho (((((M.ent ES k).choices).take j) ++ ([(M.Cho.mk c.move 0 0)] ++ (((M.ent ES k).choices).drop j))).set j (M.Cho.mk ((M.cho ((((M.ent ES k).choices).take j) ++ ([(M.Cho.mk c.move 0 0)] ++ (((M.ent ES k).choices).drop j))) j).move) (((M.cho ((((M.ent ES k).choices).take j) ++ ([(M.Cho.mk c.move 0 0)] ++ (((M.ent ES k).choices).drop j))) j).games) + c.games) ((M.cho ((((M.ent ES k).choices).take j) ++ ([(M.Cho.mk c.move 0 0)] ++ (((M.ent ES k).choices).drop j))) j).score))) j).games) (((M.cho (((((M.ent ES k).choices).take j) ++ ([(M.Cho.mk c.move 0 0)] ++ (((M.ent ES k).choices).drop j))).set j (M.Cho.mk ((M.cho ((((M.ent ES k).choices).take j) ++ ([(M.Cho.mk c.move 0 0)] ++ (((M.ent ES k).choices).drop j))) j).move) (((M.cho ((((M.ent ES k).choices).take j) ++ ([(M.Cho.mk c.move 0 0)] ++ (((M.ent ES k).choices).drop j))) j).games) + c.games) ((M.cho ((((M.ent ES k).choices).take j) ++ ([(M.Cho.mk c.move 0 0)] ++ (((M.ent ES k).choices).drop j))) j).score))) j).score) + c.score))) (fun _ => rfl) hy49 (by decide) rfl)) (.inr rfl) ?_
  rintro _ _ _ ⟨rfl, rfl⟩ _
  refine znh ?_
  refine yd ?_
  refine Js.pk (cBookEntry (M.Ent.mk ((M.ent ES k).pits) ((((((M.ent ES k).choices).take j) ++ ([(M.Cho.mk c.move 0 0)] ++ (((M.ent ES k).choices).drop j))).set j (M.Cho.mk ((M.cho ((((M.ent ES k).choices).take j) ++ ([(M.Cho.mk c.move 0 0)] ++ (((M.ent ES k).choices).drop j))) j).move) (((M.cho ((((M.ent ES k).choices).take j) ++ ([(M.Cho.mk c.move 0 0)] ++ (((M.ent ES k).choices).drop j))) j).games) + c.games) ((M.cho ((((M.ent ES k).choices).take j) ++ ([(M.Cho.mk c.move 0 0)] ++ (((M.ent ES k).choices).drop j))) j).score))).set j (M.Cho.mk ((M.cho (((((M.ent ES k).choices).take j) ++ ([(M.Cho.mk c.move 0 0)] ++ (((M.ent ES k).choices).drop j))).set j (M.Cho.mk ((M.cho ((((M.ent ES k).choices).take j) ++ ([(M.Cho.mk c.move 0 0)] ++ (((M.ent ES k).choices).drop j))) j).move) (((M.cho ((((M.ent ES k).choices).take j) ++ ([(M.Cho.mk c.move 0 0)] ++ (((M.ent ES k).choices).drop j))) j).games) + c.games) ((M.cho ((((M.ent ES k).choices).take j) ++ ([(M.Cho.mk c.move 0 0)] ++ (((M.ent ES k).choices).drop j))) j).score))) j).move) ((M.cho (((((M.ent ES k).choices).take j) ++ ([(M.Cho.mk c.move 0 0)] ++ (((M.ent ES k).choices).drop j))).set j (M.Cho.mk ((M.cho ((((M.ent ES k).choices).take j) ++ ([(M.Cho.mk c.move 0 0)] ++ (((M.ent ES k).choices).drop j))) j).move) (((M.cho ((((M.ent ES k).choices).take j) ++ ([(M.Cho.mk c.move 0 0)] ++ (((M.ent ES k).choices).drop j))) j).games) + c.games) ((M.cho ((((M.ent ES k).choices).take j) ++ ([(M.Cho.mk c.move 0 0)] ++ (((M.ent ES k).choices).drop j))) j).score))) j).games) (((M.cho (((((M.ent ES k).choices).take j) ++ ([(M.Cho.mk c.move 0 0)] ++ (((M.ent ES k).choices).drop j))).set j (M.Cho.mk ((M.cho ((((M.ent ES k).choices).take j) ++ ([(M.Cho.mk c.move 0 0)] ++ (((M.ent ES k).choices).drop j))) j).move) (((M.cho ((((M.ent ES k).choices).take j) ++ ([(M.Cho.mk c.move 0 0)] ++ (((M.ent ES k).choices).drop j))) j).games) + c.games) ((M.cho ((((M.ent ES k).choices).take j) ++ ([(M.Cho.mk c.move 0 0)] ++ (((M.ent ES k).choices).drop j))) j).score))) j).score) + c.score))))) [.slice A25_0 (((M.ent ES k).pits).length) c25_0, .slice (some ⟨b46, 0, none⟩) (((((M.ent ES k).choices).take j) ++ ([(M.Cho.mk c.move 0 0)] ++ (((M.ent ES k).choices).drop j))).length) c44] (fun f51 G51 => ?_) (by exact (gv_agg (gvc gv_ (gvc (gv_flat lChoice (xs := ((((((M.ent ES k).choices).take j) ++ ([(M.Cho.mk c.move 0 0)] ++ (((M.ent ES k).choices).drop j))).set j (M.Cho.mk ((M.cho ((((M.ent ES k).choices).take j) ++ ([(M.Cho.mk c.move 0 0)] ++ (((M.ent ES k).choices).drop j))) j).move) (((M.cho ((((M.ent ES k).choices).take j) ++ ([(M.Cho.mk c.move 0 0)] ++ (((M.ent ES k).choices).drop j))) j).games) + c.games) ((M.cho ((((M.ent ES k).choices).take j) ++ ([(M.Cho.mk c.move 0 0)] ++ (((M.ent ES k).choices).drop j))) j).score))).set j (M.Cho.mk ((M.cho (((((M.ent ES k).choices).take j) ++ ([(M.Cho.mk c.move 0 0)] ++ (((M.ent ES k).choices).drop j))).set j (M.Cho.mk ((M.cho ((((M.ent ES k).choices).take j) ++ ([(M.Cho.mk c.move 0 0)] ++ (((M.ent ES k).choices).drop j))) j).move) (((M.cho ((((M.ent ES k).choices).take j) ++ ([(M.Cho.mk c.move 0 0)] ++ (((M.ent ES k).choices).drop j))) j).games) + c.games) ((M.cho ((((M.ent ES k).choices).take j) ++ ([(M.Cho.mk c.move 0 0)] ++ (((M.ent ES k).choices).drop j))) j).score))) j).move) ((M.cho (((((M.ent ES k).choices).take j) ++ ([(M.Cho.mk c.move 0 0)] ++ (((M.ent ES k).choices).drop j))).set j (M.Cho.mk ((M.cho ((((M.ent ES k).choices).take j) ++ ([(M.Cho.mk c.move 0 0)] ++ (((M.ent ES k).choices).drop j))) j).move) (((M.cho ((((M.ent ES k).choices).take j) ++ ([(M.Cho.mk c.move 0 0)] ++ (((M.ent ES k).choices).drop j))) j).games) + c.games) ((M.cho ((((M.ent ES k).choices).take j) ++ ([(M.Cho.mk c.move 0 0)] ++ (((M.ent ES k).choices).drop j))) j).score))) j).games) (((M.cho (((((M.ent ES k).choices).take j) ++ ([(M.Cho.mk c.move 0 0)] ++ (((M.ent ES k).choices).drop j))).set j (M.Cho.mk ((M.cho ((((M.ent ES k).choices).take j) ++ ([(M.Cho.mk c.move 0 0)] ++ (((M.ent ES k).choices).drop j))) j).move) (((M.cho ((((M.ent ES k).choices).take j) ++ ([(M.Cho.mk c.move 0 0)] ++ (((M.ent ES k).choices).drop j))) j).games) + c.games) ((M.cho ((((M.ent ES k).choices).take j) ++ ([(M.Cho.mk c.move 0 0)] ++ (((M.ent ES k).choices).drop j))) j).score))) j).score) + c.score)))) po_ (by first | rfl | (simp [fltV]; done)) (by first | with_reducible rfl | assumption | rfl)) gvn))))
  refine Js.front (i := 4) rfl ?_
  refine zn ?_
  refine Js.front (i := 1) rfl ?_
  refine zn ?_
  refine Js.front (i := 5) rfl ?_
  refine zn ?_
  refine Js.conv (fun w hw => St.closeE cBookEntry (k := k) (m := 2) (xs := ES) (y := (M.Ent.mk ((M.ent ES k).pits) ((((((M.ent ES k).choices).take j) ++ ([(M.Cho.mk c.move 0 0)] ++ (((M.ent ES k).choices).drop j))).set j (M.Cho.mk ((M.cho ((((M.ent ES k).choices).take j) ++ ([(M.Cho.mk c.move 0 0)] ++ (((M.ent ES k).choices).drop j))) j).move) (((M.cho ((((M.ent ES k).choices).take j) ++ ([(M.Cho.mk c.move 0 0)] ++ (((M.ent ES k).choices).drop j))) j).games) + c.games) ((M.cho ((((M.ent ES k).choices).take j) ++ ([(M.Cho.mk c.move 0 0)] ++ (((M.ent ES k).choices).drop j))) j).score))).set j (M.Cho.mk ((M.cho (((((M.ent ES k).choices).take j) ++ ([(M.Cho.mk c.move 0 0)] ++ (((M.ent ES k).choices).drop j))).set j (M.Cho.mk ((M.cho ((((M.ent ES k).choices).take j) ++ ([(M.Cho.mk c.move 0 0)] ++ (((M.ent ES k).choices).drop j))) j).move) (((M.cho ((((M.ent ES k).choices).take j) ++ ([(M.Cho.mk c.move 0 0)] ++ (((M.ent ES k).choices).drop j))) j).games) + c.games) ((M.cho ((((M.ent ES k).choices).take j) ++ ([(M.Cho.mk c.move 0 0)] ++ (((M.ent ES k).choices).drop j))) j).score))) j).move) ((M.cho (((((M.ent ES k).choices).take j) ++ ([(M.Cho.mk c.move 0 0)] ++ (((M.ent ES k).choices).drop j))).set j (M.Cho.mk ((M.cho ((((M.ent ES k).choices).take j) ++ ([(M.Cho.mk c.move 0 0)] ++ (((M.ent ES k).choices).drop j))) j).move) (((M.cho ((((M.ent ES k).choices).take j) ++ ([(M.Cho.mk c.move 0 0)] ++ (((M.ent ES k).choices).drop j))) j).games) + c.games) ((M.cho ((((M.ent ES k).choices).take j) ++ ([(M.Cho.mk c.move 0 0)] ++ (((M.ent ES k).choices).drop j))) j).score))) j).games) (((M.cho (((((M.ent ES k).choices).take j) ++ ([(M.Cho.mk c.move 0 0)] ++ (((M.ent ES k).choices).drop j))).set j (M.Cho.mk ((M.cho ((((M.ent ES k).choices).take j) ++ ([(M.Cho.mk c.move 0 0)] ++ (((M.ent ES k).choices).drop j))) j).move) (((M.cho ((((M.ent ES k).choices).take j) ++ ([(M.Cho.mk c.move 0 0)] ++ (((M.ent ES k).choices).drop j))) j).games) + c.games) ((M.cho ((((M.ent ES k).choices).take j) ++ ([(M.Cho.mk c.move 0 0)] ++ (((M.ent ES k).choices).drop j))) j).score))) j).score) + c.score))))) (vs := vs13_0_9) (vs' := (setL vs13_0_9 (0 + k * 2) [.slice A25_0 (((M.ent ES k).pits).length) c25_0, .slice (some ⟨b46, 0, none⟩) (((((M.ent ES k).choices).take j) ++ ([(M.Cho.mk c.move 0 0)] ++ (((M.ent ES k).choices).drop j))).length) c44])) (by omega) rfl rfl hw) ?_
  refine zn ?_
  refine zrbE [5, 5, 0] hb ((((((x3.trans x4).trans x9).trans x13).trans x28).trans x29).trans x34) ?_
  have hN10 : (M.addE b_entries pits c).length = ES.length := by first | (rw [← M.addE_at (c := c) hE hA]; simp; done) | exact (M.addE_at (c := c) hE hA).symm.trans (by rw [← hB9])
  have hE10 : M.addE b_entries pits c = (ES.set k (M.Ent.mk ((M.ent ES k).pits) ((((((M.ent ES k).choices).take j) ++ ([(M.Cho.mk c.move 0 0)] ++ (((M.ent ES k).choices).drop j))).set j (M.Cho.mk ((M.cho ((((M.ent ES k).choices).take j) ++ ([(M.Cho.mk c.move 0 0)] ++ (((M.ent ES k).choices).drop j))) j).move) (((M.cho ((((M.ent ES k).choices).take j) ++ ([(M.Cho.mk c.move 0 0)] ++ (((M.ent ES k).choices).drop j))) j).games) + c.games) ((M.cho ((((M.ent ES k).choices).take j) ++ ([(M.Cho.mk c.move 0 0)] ++ (((M.ent ES k).choices).drop j))) j).score))).set j (M.Cho.mk ((M.cho (((((M.ent ES k).choices).take j) ++ ([(M.Cho.mk c.move 0 0)] ++ (((M.ent ES k).choices).drop j))).set j (M.Cho.mk ((M.cho ((((M.ent ES k).choices).take j) ++ ([(M.Cho.mk c.move 0 0)] ++ (((M.ent ES k).choices).drop j))) j).move) (((M.cho ((((M.ent ES k).choices).take j) ++ ([(M.Cho.mk c.move 0 0)] ++ (((M.ent ES k).choices).drop j))) j).games) + c.games) ((M.cho ((((M.ent ES k).choices).take j) ++ ([(M.Cho.mk c.move 0 0)] ++ (((M.ent ES k).choices).drop j))) j).score))) j).move) ((M.cho (((((M.ent ES k).choices).take j) ++ ([(M.Cho.mk c.move 0 0)] ++ (((M.ent ES k).choices).drop j))).set j (M.Cho.mk ((M.cho ((((M.ent ES k).choices).take j) ++ ([(M.Cho.mk c.move 0 0)] ++ (((M.ent ES k).choices).drop j))) j).move) (((M.cho ((((M.ent ES k).choices).take j) ++ ([(M.Cho.mk c.move 0 0)] ++ (((M.ent ES k).choices).drop j))) j).games) + c.games) ((M.cho ((((M.ent ES k).choices).take j) ++ ([(M.Cho.mk c.move 0 0)] ++ (((M.ent ES k).choices).drop j))) j).score))) j).games) (((M.cho (((((M.ent ES k).choices).take j) ++ ([(M.Cho.mk c.move 0 0)] ++ (((M.ent ES k).choices).drop j))).set j (M.Cho.mk ((M.cho ((((M.ent ES k).choices).take j) ++ ([(M.Cho.mk c.move 0 0)] ++ (((M.ent ES k).choices).drop j))) j).move) (((M.cho ((((M.ent ES k).choices).take j) ++ ([(M.Cho.mk c.move 0 0)] ++ (((M.ent ES k).choices).drop j))) j).games) + c.games) ((M.cho ((((M.ent ES k).choices).take j) ++ ([(M.Cho.mk c.move 0 0)] ++ (((M.ent ES k).choices).drop j))) j).score))) j).score) + c.score))))) := by first | (rw [← M.addE_at (c := c) hE hA]; simp; done) | exact (M.addE_at (c := c) hE hA).symm.trans (by rw [← hB9])
  refine ⟨(some ⟨b26, 0, none⟩), c13_0_9, g13_0_9, (setL vs13_0_9 (0 + k * 2) [.slice A25_0 (((M.ent ES k).pits).length) c25_0, .slice (some ⟨b46, 0, none⟩) (((((M.ent ES k).choices).take j) ++ ([(M.Cho.mk c.move 0 0)] ++ (((M.ent ES k).choices).drop j))).length) c44]), (f27_3 ++ f51 ++ f27_2), rfl, ?_, ?_, ?_⟩
  · first | rfl | (dsimp only; rw [hN10, hE10]) | (dsimp only; simp only [hN10, hE10]) | (rw [hN10, hE10]; done) | (rw [hN10, hE10]; rfl)
  all_goals (try dsimp only)
  all_goals (first | (rw [hN10, hE10]; omega) | omega | (simp only [*]; omega))
 have q123 := hB123.symm.trans h38; simp only [Bool.and_eq_true, Bool.or_eq_true, decide_eq_true_eq, Bool.and_eq_false_iff, Bool.or_eq_false_iff, decide_eq_false_iff_not, Int.not_lt, Decidable.not_not] at q123
 have hC := M.addC_yes (c := c) hN (by omega) q123.2
 have hB9 := M.bump_yes (show j < (M.ent ES k).choices.length by omega) hC
 have hcj := hcb _ (M.cho_mem (show j < (M.ent ES k).choices.length by omega))
 have hx14 : 0 ≤ (M.cho ((M.ent ES k).choices) j).games ∧ (M.cho ((M.ent ES k).choices) j).games ≤ 1000000000000000 ∧ 0 ≤ (M.cho ((M.ent ES k).choices) j).score ∧ (M.cho ((M.ent ES k).choices) j).score ≤ 1000000000000000 := by first | exact hcb _ (M.cho_mem (by omega)) | (rw [← List.append_assoc, M.cho_mid _ _ (by omega)]; simp)
 refine Js.skip <| Js.seq ?_
 refine zdr [13] ?_
 refine JH.p 0 rfl (p_move rfl) ?_
 refine JH.p 1 rfl (p_nilCheck rfl) ?_
 refine JH.p 2 rfl (p_fieldAddr fld_89_1.h rfl) ?_
 refine JH.q 3 rfl (q_load1 ty_67.h rfl (fun w hw => (Mem.rowR' (i := 6) rfl he25 w hw) 1 _ rfl)) ?_
 refine JH.p 4 rfl (p_move rfl) ?_
 refine JH.fact (row_some (i := 0) rfl (by first | omega | (simp only [List.length_set, List.length_append, List.length_cons, List.length_nil, List.length_take, List.length_drop, List.length_replicate]; omega))) (fun hf53 => ?_)
 obtain ⟨b53, rfl⟩ := hf53
 have hy52 : ((M.ent ES k).choices)[j]? = some (M.cho ((M.ent ES k).choices) j) := M.cho_get (by first | omega | (simp only [List.length_set, List.length_append, List.length_cons, List.length_nil, List.length_take, List.length_drop, List.length_replicate]; omega))
 refine JH.p 5 rfl (p_indexAddr el_67 rfl rfl (by first | omega | (simp only [List.length_set, List.length_append, List.length_cons, List.length_nil, List.length_take, List.length_drop, List.length_replicate]; omega)) (by first | omega | (simp only [List.length_set, List.length_append, List.length_cons, List.length_nil, List.length_take, List.length_drop, List.length_replicate]; omega)) rfl) ?_
 refine JH.p 6 rfl (p_fieldAddr fld_81_1.h rfl) ?_
 refine JH.q 7 rfl (q_load1 ty_2.h rfl (fun w hw => (Mem.rowR' (i := 0) rfl (fltV_at (C := vcChoice) (fun _ => rfl) hy52) w hw) 1 _ rfl)) ?_
 refine JH.p 8 rfl (p_fieldAddr fld_81_1.h rfl) ?_
 refine JH.q 9 rfl (q_load1 ty_2.h rfl (Mem.box (i := 4) rfl rfl)) ?_
 refine JH.p 10 rfl (p_add rfl rfl (IntWalk.i64_in _ (by omega))) ?_
 have hy54 : ((M.ent ES k).choices)[j]? = some (M.cho ((M.ent ES k).choices) j) := M.cho_get (by first | omega | (simp only [List.length_set, List.length_append, List.length_cons, List.length_nil, List.length_take, List.length_drop, List.length_replicate]; omega))
 refine JH.p 11 rfl (p_indexAddr el_67 rfl rfl (by first | omega | (simp only [List.length_set, List.length_append, List.length_cons, List.length_nil, List.length_take, List.length_drop, List.length_replicate]; omega)) (by first | omega | (simp only [List.length_set, List.length_append, List.length_cons, List.length_nil, List.length_take, List.length_drop, List.length_replicate]; omega)) rfl) ?_
 refine JH.p 12 rfl (p_fieldAddr fld_81_1.h rfl) ?_
 refine y1 13 ?_
 refine JHo.s rfl (e_storeRow (i := 0) (xs' := fltV vcChoice (((M.ent ES k).choices).set j (M.Cho.mk ((M.cho ((M.ent ES k).choices) j).move) (((M.cho ((M.ent ES k).choices) j).games) + c.games) ((M.cho ((M.ent ES k).choices) j).score)))) ty_2.h rfl rfl rfl rfl rfl rfl (fltV_lt (C := vcChoice) (j := 1) (fun _ => rfl) (by first | omega | (simp only [List.length_set, List.length_append, List.length_cons, List.length_nil, List.length_take, List.length_drop, List.length_replicate]; omega)) (by decide)) (fltV_cell (C := vcChoice) (j := 1) (y' := (M.Cho.mk ((M.cho ((M.ent ES k).choices) j).move) (((M.cho ((M.ent ES k).choices) j).games) + c.games) ((M.cho ((M.ent ES k).choices) j).score))) (fun _ => rfl) hy54 (by decide) rfl)) (.inr rfl) ?_
 rintro _ _ _ ⟨rfl, rfl⟩ _
 refine znh ?_
 refine yd ?_
 have hx15 : (M.cho (((M.ent ES k).choices).set j (M.Cho.mk ((M.cho ((M.ent ES k).choices) j).move) (((M.cho ((M.ent ES k).choices) j).games) + c.games) ((M.cho ((M.ent ES k).choices) j).score))) j).score = (M.cho ((M.ent ES k).choices) j).score := by rw [M.cho_set (by first | omega | (simp only [List.length_append, List.length_cons, List.length_nil, List.length_take, List.length_drop]; omega))]
 refine zdr [13] ?_
 refine JH.p 0 rfl (p_move rfl) ?_
 refine JH.p 1 rfl (p_nilCheck rfl) ?_
 refine JH.p 2 rfl (p_fieldAddr fld_89_1.h rfl) ?_
 refine JH.q 3 rfl (q_load1 ty_67.h rfl (fun w hw => (Mem.rowR' (i := 6) rfl he25 w hw) 1 _ rfl)) ?_
 refine JH.p 4 rfl (p_move rfl) ?_
 have hy55 : (((M.ent ES k).choices).set j (M.Cho.mk ((M.cho ((M.ent ES k).choices) j).move) (((M.cho ((M.ent ES k).choices) j).games) + c.games) ((M.cho ((M.ent ES k).choices) j).score)))[j]? = some (M.cho (((M.ent ES k).choices).set j (M.Cho.mk ((M.cho ((M.ent ES k).choices) j).move) (((M.cho ((M.ent ES k).choices) j).games) + c.games) ((M.cho ((M.ent ES k).choices) j).score))) j) := M.cho_get (by first | omega | (simp only [List.length_set, List.length_append, List.length_cons, List.length_nil, List.length_take, List.length_drop, List.length_replicate]; omega))
 refine JH.p 5 rfl (p_indexAddr el_67 rfl rfl (by first | omega | (simp only [List.length_set, List.length_append, List.length_cons, List.length_nil, List.length_take, List.length_drop, List.length_replicate]; omega)) (by first | omega | (simp only [List.length_set, List.length_append, List.length_cons, List.length_nil, List.length_take, List.length_drop, List.length_replicate]; omega)) rfl) ?_
 refine JH.p 6 rfl (p_fieldAddr fld_81_2.h rfl) ?_
 refine JH.q 7 rfl (q_load1 ty_2.h rfl (fun w hw => (Mem.rowR' (i := 0) rfl (fltV_at (C := vcChoice) (fun _ => rfl) hy55) w hw) 2 _ rfl)) ?_
 refine JH.p 8 rfl (p_fieldAddr fld_81_2.h rfl) ?_
 refine JH.q 9 rfl (q_load1 ty_2.h rfl (Mem.box (i := 4) rfl rfl)) ?_
 refine JH.p 10 rfl (p_add rfl rfl (IntWalk.i64_in _ (by omega))) ?_
 have hy56 : (((M.ent ES k).choices).set j (M.Cho.mk ((M.cho ((M.ent ES k).choices) j).move) (((M.cho ((M.ent ES k).choices) j).games) + c.games) ((M.cho ((M.ent ES k).choices) j).score)))[j]? = some (M.cho (((M.ent ES k).choices).set j (M.Cho.mk ((M.cho ((M.ent ES k).choices) j).move) (((M.cho ((M.ent ES k).choices) j).games) + c.games) ((M.cho ((M.ent ES k).choices) j).score))) j) := M.cho_get (by first | omega | (simp only [List.length_set, List.length_append, List.length_cons, List.length_nil, List.length_take, List.length_drop, List.length_replicate]; omega))
 refine JH.p 11 rfl (p_indexAddr el_67 rfl rfl (by first | omega | (simp only [List.length_set, List.length_append, List.length_cons, List.length_nil, List.length_take, List.length_drop, List.length_replicate]; omega)) (by first | omega | (simp only [List.length_set, List.length_append, List.length_cons, List.length_nil, List.length_take, List.length_drop, List.length_replicate]; omega)) rfl) ?_
 refine JH.p 12 rfl (p_fieldAddr fld_81_2.h rfl) ?_
 refine y1 13 ?_
 refine JHo.s rfl (e_storeRow (i := 0) (xs' := fltV vcChoice ((((M.ent ES k).choices).set j (M.Cho.mk ((M.cho ((M.ent ES k).choices) j).move) (((M.cho ((M.ent ES k).choices) j).games) + c.games) ((M.cho ((M.ent ES k).choices) j).score))).set j (M.Cho.mk ((M.cho (((M.ent ES k).choices).set j (M.Cho.mk ((M.cho ((M.ent ES k).choices) j).move) (((M.cho ((M.ent ES k).choices) j).games) + c.games) ((M.cho ((M.ent ES k).choices) j).score))) j).move) ((M.cho (((M.ent ES k).choices).set j (M.Cho.mk ((M.cho ((M.ent ES k).choices) j).move) (((M.cho ((M.ent ES k).choices) j).games) + c.games) ((M.cho ((M.ent ES k).choices) j).score))) j).games) (((M.cho (((M.ent ES k).choices).set j (M.Cho.mk ((M.cho ((M.ent ES k).choices) j).move) (((M.cho ((M.ent ES k).choices) j).games) + c.games) ((M.cho ((M.ent ES k).choices) j).score))) j).score) + c.score)))) ty_2.h rfl rfl rfl rfl rfl rfl (fltV_lt (C := vcChoice) (j := 2) (fun _ => rfl) (by first | omega | (simp only [List.length_set, List.length_append, List.length_cons, List.length_nil, List.length_take, List.length_drop, List.length_replicate]; omega)) (by decide)) (fltV_cell (C := vcChoice) (j := 2) (y' := (M.Cho.mk ((M.cho (((M.ent ES k).choices).set j (M.Cho.mk ((M.cho ((M.ent ES k).choices) j).move) (((M.cho ((M.ent ES k).choices) j).games) + c.games) ((M.cho ((M.ent ES k).choices) j).score))) j).move) ((M.cho (((M.ent ES k).choices).set j (M.Cho.mk ((M.cho ((M.ent ES k).choices) j).move) (((M.cho ((M.ent ES k).choices) j).games) + c.games) ((M.cho ((M.ent ES k).choices) j).score))) j).games) (((M.cho (((M.ent ES k).choices).set j (M.Cho.mk ((M.cho ((M.ent ES k).choices) j).move) (((M.cho ((M.ent ES k).choices) j).games) + c.games) ((M.cho ((M.ent ES k).choices) j).score))) j).score) + c.score))) (fun _ => rfl) hy56 (by decide) rfl)) (.inr rfl) ?_
 rintro _ _ _ ⟨rfl, rfl⟩ _
 refine znh ?_
 refine yd ?_
 refine Js.pk (cBookEntry (M.Ent.mk ((M.ent ES k).pits) ((((M.ent ES k).choices).set j (M.Cho.mk ((M.cho ((M.ent ES k).choices) j).move) (((M.cho ((M.ent ES k).choices) j).games) + c.games) ((M.cho ((M.ent ES k).choices) j).score))).set j (M.Cho.mk ((M.cho (((M.ent ES k).choices).set j (M.Cho.mk ((M.cho ((M.ent ES k).choices) j).move) (((M.cho ((M.ent ES k).choices) j).games) + c.games) ((M.cho ((M.ent ES k).choices) j).score))) j).move) ((M.cho (((M.ent ES k).choices).set j (M.Cho.mk ((M.cho ((M.ent ES k).choices) j).move) (((M.cho ((M.ent ES k).choices) j).games) + c.games) ((M.cho ((M.ent ES k).choices) j).score))) j).games) (((M.cho (((M.ent ES k).choices).set j (M.Cho.mk ((M.cho ((M.ent ES k).choices) j).move) (((M.cho ((M.ent ES k).choices) j).games) + c.games) ((M.cho ((M.ent ES k).choices) j).score))) j).score) + c.score))))) [.slice A25_0 (((M.ent ES k).pits).length) c25_0, .slice (some ⟨b53, 0, none⟩) (((M.ent ES k).choices).length) c25_1] (fun f58 G58 => ?_) (by exact (gv_agg (gvc gv_ (gvc (gv_flat lChoice (xs := ((((M.ent ES k).choices).set j (M.Cho.mk ((M.cho ((M.ent ES k).choices) j).move) (((M.cho ((M.ent ES k).choices) j).games) + c.games) ((M.cho ((M.ent ES k).choices) j).score))).set j (M.Cho.mk ((M.cho (((M.ent ES k).choices).set j (M.Cho.mk ((M.cho ((M.ent ES k).choices) j).move) (((M.cho ((M.ent ES k).choices) j).games) + c.games) ((M.cho ((M.ent ES k).choices) j).score))) j).move) ((M.cho (((M.ent ES k).choices).set j (M.Cho.mk ((M.cho ((M.ent ES k).choices) j).move) (((M.cho ((M.ent ES k).choices) j).games) + c.games) ((M.cho ((M.ent ES k).choices) j).score))) j).games) (((M.cho (((M.ent ES k).choices).set j (M.Cho.mk ((M.cho ((M.ent ES k).choices) j).move) (((M.cho ((M.ent ES k).choices) j).games) + c.games) ((M.cho ((M.ent ES k).choices) j).score))) j).score) + c.score)))) po_ (by first | rfl | (simp [fltV]; done)) (by first | with_reducible rfl | assumption | rfl)) gvn))))
 refine Js.front (i := 2) rfl ?_
 refine zn ?_
 refine Js.front (i := 1) rfl ?_
 refine zn ?_
 refine Js.front (i := 3) rfl ?_
 refine zn ?_
 refine Js.conv (fun w hw => St.closeE cBookEntry (k := k) (m := 2) (xs := ES) (y := (M.Ent.mk ((M.ent ES k).pits) ((((M.ent ES k).choices).set j (M.Cho.mk ((M.cho ((M.ent ES k).choices) j).move) (((M.cho ((M.ent ES k).choices) j).games) + c.games) ((M.cho ((M.ent ES k).choices) j).score))).set j (M.Cho.mk ((M.cho (((M.ent ES k).choices).set j (M.Cho.mk ((M.cho ((M.ent ES k).choices) j).move) (((M.cho ((M.ent ES k).choices) j).games) + c.games) ((M.cho ((M.ent ES k).choices) j).score))) j).move) ((M.cho (((M.ent ES k).choices).set j (M.Cho.mk ((M.cho ((M.ent ES k).choices) j).move) (((M.cho ((M.ent ES k).choices) j).games) + c.games) ((M.cho ((M.ent ES k).choices) j).score))) j).games) (((M.cho (((M.ent ES k).choices).set j (M.Cho.mk ((M.cho ((M.ent ES k).choices) j).move) (((M.cho ((M.ent ES k).choices) j).games) + c.games) ((M.cho ((M.ent ES k).choices) j).score))) j).score) + c.score))))) (vs := vs13_0_9) (vs' := vs13_0_9) (by omega) rfl (setL_same he25 rfl) hw) ?_
 refine zn ?_
 refine zrbE [3, 3, 0] hb ((((((x3.trans x4).trans x9).trans x13).trans x28).trans x29).trans x34) ?_
 have hN10 : (M.addE b_entries pits c).length = ES.length := by first | (rw [← M.addE_at (c := c) hE hA]; simp; done) | exact (M.addE_at (c := c) hE hA).symm.trans (by rw [← hB9])
 have hE10 : M.addE b_entries pits c = (ES.set k (M.Ent.mk ((M.ent ES k).pits) ((((M.ent ES k).choices).set j (M.Cho.mk ((M.cho ((M.ent ES k).choices) j).move) (((M.cho ((M.ent ES k).choices) j).games) + c.games) ((M.cho ((M.ent ES k).choices) j).score))).set j (M.Cho.mk ((M.cho (((M.ent ES k).choices).set j (M.Cho.mk ((M.cho ((M.ent ES k).choices) j).move) (((M.cho ((M.ent ES k).choices) j).games) + c.games) ((M.cho ((M.ent ES k).choices) j).score))) j).move) ((M.cho (((M.ent ES k).choices).set j (M.Cho.mk ((M.cho ((M.ent ES k).choices) j).move) (((M.cho ((M.ent ES k).choices) j).games) + c.games) ((M.cho ((M.ent ES k).choices) j).score))) j).games) (((M.cho (((M.ent ES k).choices).set j (M.Cho.mk ((M.cho ((M.ent ES k).choices) j).move) (((M.cho ((M.ent ES k).choices) j).games) + c.games) ((M.cho ((M.ent ES k).choices) j).score))) j).score) + c.score))))) := by first | (rw [← M.addE_at (c := c) hE hA]; simp; done) | exact (M.addE_at (c := c) hE hA).symm.trans (by rw [← hB9])
 refine ⟨(some ⟨b26, 0, none⟩), c13_0_9, g13_0_9, vs13_0_9, (f27_3 ++ f58 ++ f27_2), rfl, ?_, ?_, ?_⟩
 · first | rfl | (dsimp only; rw [hN10, hE10]) | (dsimp only; simp only [hN10, hE10]) | (rw [hN10, hE10]; done) | (rw [hN10, hE10]; rfl)
 all_goals (try dsimp only)
 all_goals (first | (rw [hN10, hE10]; omega) | omega | (simp only [*]; omega))

set_option maxHeartbeats 1000000 in
theorem c_impl_Book_copied (b : M.Boo) {v_b : Value} {w : World} (h_b : (Ty.agg (cBook b)).ok w v_b) (r0 : b.entries.length ≤ 4194304 := by exact om_) (r1 : ∀ x ∈ b.entries, x.pits.length ≤ 4194304 ∧ x.choices.length ≤ 4194304 := by exact om_) : Ret Tryz.prog 77 [v_b] w (Ty.agg (cBook b)) := by
 revert v_b; apply opn
 intro A1 c1 h1 bl1 bh1
 refine enter @Tryz.func77 @Tryz.ntmps77 rfl rfl ?_
 refine zent ?_
 refine zS <| zb rfl fun b2 => za zeh fun b3 => zN <| Qf fh rfl <| Q9 1 rfl rfl ?_
 refine Qb ?_
 refine za zeh fun b4 => zw 0 rfl rfl rfl ?_
 refine zJ <| zS <| Qf fh rfl <| Q0 2 rfl rfl rfl <| Qz rfl <| Qm rfl <| JL.nil <| Js.block ?_
 refine Js.conv (fun w hw => St.nilRowS 89 2 hw) ?_
 refine Js.vals (Ts := lBookEntry []) (vs := []) (fun w => rfl) ?_
 refine zl [2, 3, 10, 11] (fun F U l os u m => ∃ (k : Nat) (acc : List M.Ent) (A5_3_9 : Option Addr) (c5_3_9 : Nat) (g5_3_9 : List Nat) (vs5_3_9 : List Value) (fl5_3_9 : List Nat), l = F [(12, .int .i64 (k : Int))] ∧ os = U [some (ownC (lBookEntry acc) vs5_3_9 fl5_3_9), some (rowO 89 2 (.slice A5_3_9 acc.length c5_3_9) acc.length vs5_3_9 g5_3_9), some (boxO b4 [.int .i64 b.rules.pits, .int .i64 b.rules.seeds, .bool b.rules.stores, .bool b.rules.skip, .bool b.rules.relay, .bool b.rules.feed, .bool b.rules.again, .int .i64 b.rules.capture, .int .i64 b.rules.slam, .slice A5_3_9 acc.length c5_3_9] 37)] ∧ (acc = b.entries.take k) ∧ (k ≤ b.entries.length) ∧ (acc.length ≤ c5_3_9) ∧ (c5_3_9 ≤ 9223372036854775807) ∧ m = b.entries.length - k) ⟨0, [], _, _, _, _, _, rfl, rfl, by rfl, zt, zu, zu, rfl⟩ ?_
 rintro _ _ u5 _ ⟨k, acc, A5_3_9, c5_3_9, g5_3_9, vs5_3_9, fl5_3_9, rfl, rfl, hA, hk, f5_2, f5_3, rfl⟩ x5
 refine zn ?_
 have hla : acc.length = k := by rw [hA, List.length_take]; omega
 refine zS <| Ql rfl rfl <| zJ ?_
 refine zi (fun h6 h6' => ?_) fun h6 h6' => ?_
 ·
  have hkk : k < b.entries.length := by have := h6'; omega
  obtain ⟨e1_, e2_⟩ := r1 _ (M.ent_mem (es := b.entries) (k := k) hkk)
  have hA2 := M.takeE hkk
  rw [← hA] at hA2
  have hA2 := hA2.symm
  have hy7 : b.entries[k]? = some (M.ent b.entries k) := M.ent_get (by omega)
  obtain ⟨b7, o7, A7_0, c7_0, A7_1, c7_1, he7, hr7, h7_0, h7_1, bl7_0, bh7_0, bl7_1, bh7_1⟩ := elem_BookEntry (Ty.mono _ h1 x5.vis) hy7
  refine Js.skip <| Js.seq <| Js.block <| zS <| Qq (p_indexAddr el_35 rfl rfl (by omega) (by omega) he7) <| QS 0 hr7 rfl ?_
  refine za zeh fun b8 => zw 0 rfl rfl rfl ?_
  refine JL.nil ?_
  refine zk [2, 3, 10, 11, 12] (fun F U l os u => ∃ (b15 : Nat) (A9 : Option Addr) (c9 : Nat) (A14 : Option Addr) (c14 : Nat) (g13 : List Nat) (A19 : Option Addr) (c19 : Nat) (g18 : List Nat), l = F [] ∧ os = [rowO 89 2 (.slice (some ⟨b15, 0, none⟩) 1 1) 1 [.slice A9 (((M.ent b.entries k).pits).length) c9, .slice A14 (((M.ent b.entries k).choices).length) c14] [], rowO 81 3 (.slice A14 (((M.ent b.entries k).choices).length) c14) (((M.ent b.entries k).choices).length) (fltV vcChoice ((M.ent b.entries k).choices)) g13, rowO 2 1 (.slice A9 (((M.ent b.entries k).pits).length) c9) (((M.ent b.entries k).pits).length) (ints_ ((M.ent b.entries k).pits)) []] ++ U [nO, nO, some (rowO 89 2 (.slice A19 ((acc ++ [(M.ent b.entries k)]).length) c19) ((acc ++ [(M.ent b.entries k)]).length) (vs5_3_9 ++ [.slice A9 (((M.ent b.entries k).pits).length) c9, .slice A14 (((M.ent b.entries k).choices).length) c14]) g18), some (boxO b4 [.int .i64 b.rules.pits, .int .i64 b.rules.seeds, .bool b.rules.stores, .bool b.rules.skip, .bool b.rules.relay, .bool b.rules.feed, .bool b.rules.again, .int .i64 b.rules.capture, .int .i64 b.rules.slam, .slice A19 ((acc ++ [(M.ent b.entries k)]).length) c19] 37)] ∧ (((M.ent b.entries k).choices).length ≤ c14) ∧ (c14 ≤ 9223372036854775807) ∧ (((M.ent b.entries k).pits).length ≤ c9) ∧ (c9 ≤ 9223372036854775807) ∧ ((acc ++ [(M.ent b.entries k)]).length ≤ c19) ∧ (c19 ≤ 9223372036854775807)) ?_ ?_
  ·
   refine zdr [8, 11, 13] ?_
   refine JH.p 0 rfl (p_fieldAddr fld_37_1.h rfl) ?_
   refine JH.p 2 rfl (p_fieldAddr fld_89_0.h rfl) ?_
   refine JH.q 3 rfl (q_load1 ty_27.h rfl (Mem.box (i := 0) rfl rfl)) ?_
   refine JH.p 6 rfl (p_fieldAddr fld_89_1.h rfl) ?_
   refine JH.q 7 rfl (q_load1 ty_67.h rfl (Mem.box (i := 0) rfl rfl)) ?_
   refine y3 1 4 5 ?_ ?_ ?_
   ·
    refine JHo.q rfl (q_load1 ty_35.h rfl (Mem.box (i := 3) rfl rfl)) ?_
    refine y2 4 5 ?_ ?_
    ·
     refine ycs rfl rfl (fun w hw => c_impl_copyNumbers ((M.ent b.entries k).pits) (ok_ hw)) ?_
     intro A99 c99 bl99 bh99
     refine y1 5 ?_
     refine ybs rfl fun b100 => ?_
     refine y1 8 ?_
     refine JHo.e rfl (e_append (i := 0) (n' := ((M.ent b.entries k).choices).length) (vs' := fltV vcChoice ((M.ent b.entries k).choices)) el_67 rfl rfl rfl rfl (src_flat lChoice und_67 rfl h7_1) (by omega) (by omega) (by first | omega | (simp only [List.length_append, List.length_cons, List.length_nil, List.length_take, List.length_drop] <;> omega)) (by first | rfl | exact fltV_app _ _ _ | exact fltV_snoc _ _ _ | (simp [fltV]; done))) (.inr rfl) ?_
     rintro v102 _ _ ⟨⟨g103, rfl⟩, rfl⟩ _
     refine JH.fact (row_form' (i := 0) rfl) (fun hf104 => ?_)
     obtain ⟨A104, c104, rfl, bl104, bh104⟩ := hf104
     refine znh ?_
     refine JH.p 9 rfl (q_bld) ?_
     refine y1 10 ?_
     refine ybs rfl fun b105 => ?_
     refine y1 11 ?_
     refine JHo.e rfl (e_append (i := 5) (n' := (acc ++ [(M.ent b.entries k)]).length) (vs' := vs5_3_9 ++ [.slice A99 (((M.ent b.entries k).pits).length) c99, .slice A104 (((M.ent b.entries k).choices).length) c104]) el_35 rfl rfl rfl rfl (src_row (i := 0) und_35 rfl rfl) (by omega) (by omega) (by first | omega | (simp only [List.length_append, List.length_cons, List.length_nil, List.length_take, List.length_drop] <;> omega)) (rfl)) (.inr rfl) ?_
     rintro v107 _ _ ⟨⟨g108, rfl⟩, rfl⟩ _
     refine JH.fact (row_form' (i := 5) rfl) (fun hf109 => ?_)
     obtain ⟨A109, c109, rfl, bl109, bh109⟩ := hf109
     refine znh ?_
     refine JH.p 12 rfl (p_fieldAddr fld_37_1.h rfl) ?_
     refine y1 13 ?_
     refine yst rfl rfl rfl ?_
     refine yd ?_
     exact zm ⟨_, _, _, _, _, _, _, _, _, rfl, rfl, zt, zt, zt, zt, zt, zt⟩ (Up.refl _ _)
    refine ybs rfl fun b110 => ?_
    refine y1 4 ?_
    refine ycs rfl rfl (fun w hw => c_impl_copyNumbers ((M.ent b.entries k).pits) (ok_ hw)) ?_
    intro A112 c112 bl112 bh112
    refine y1 8 ?_
    refine JHo.e rfl (e_append (i := 1) (n' := ((M.ent b.entries k).choices).length) (vs' := fltV vcChoice ((M.ent b.entries k).choices)) el_67 rfl rfl rfl rfl (src_flat lChoice und_67 rfl h7_1) (by omega) (by omega) (by first | omega | (simp only [List.length_append, List.length_cons, List.length_nil, List.length_take, List.length_drop] <;> omega)) (by first | rfl | exact fltV_app _ _ _ | exact fltV_snoc _ _ _ | (simp [fltV]; done))) (.inr rfl) ?_
    rintro v113 _ _ ⟨⟨g114, rfl⟩, rfl⟩ _
    refine JH.fact (row_form' (i := 1) rfl) (fun hf115 => ?_)
    obtain ⟨A115, c115, rfl, bl115, bh115⟩ := hf115
    refine znh ?_
    refine JH.p 9 rfl (q_bld) ?_
    refine y1 10 ?_
    refine ybs rfl fun b116 => ?_
    refine y1 11 ?_
    refine JHo.e rfl (e_append (i := 5) (n' := (acc ++ [(M.ent b.entries k)]).length) (vs' := vs5_3_9 ++ [.slice A112 (((M.ent b.entries k).pits).length) c112, .slice A115 (((M.ent b.entries k).choices).length) c115]) el_35 rfl rfl rfl rfl (src_row (i := 0) und_35 rfl rfl) (by omega) (by omega) (by first | omega | (simp only [List.length_append, List.length_cons, List.length_nil, List.length_take, List.length_drop] <;> omega)) (rfl)) (.inr rfl) ?_
    rintro v118 _ _ ⟨⟨g119, rfl⟩, rfl⟩ _
    refine JH.fact (row_form' (i := 5) rfl) (fun hf120 => ?_)
    obtain ⟨A120, c120, rfl, bl120, bh120⟩ := hf120
    refine znh ?_
    refine JH.p 12 rfl (p_fieldAddr fld_37_1.h rfl) ?_
    refine y1 13 ?_
    refine yst rfl rfl rfl ?_
    refine yd ?_
    refine zh [0, 1, 0, 0, 0, 0, 0, 0, 0] ?_
    exact zm ⟨_, _, _, _, _, _, _, _, _, rfl, rfl, zt, zt, zt, zt, zt, zt⟩ (Up.refl _ _)
   ·
    refine ycs rfl rfl (fun w hw => c_impl_copyNumbers ((M.ent b.entries k).pits) (ok_ hw)) ?_
    intro A121 c121 bl121 bh121
    refine y2 1 5 ?_ ?_
    ·
     refine JHo.q rfl (q_load1 ty_35.h rfl (Mem.box (i := 4) rfl rfl)) ?_
     refine y1 5 ?_
     refine ybs rfl fun b122 => ?_
     refine y1 8 ?_
     refine JHo.e rfl (e_append (i := 0) (n' := ((M.ent b.entries k).choices).length) (vs' := fltV vcChoice ((M.ent b.entries k).choices)) el_67 rfl rfl rfl rfl (src_flat lChoice und_67 rfl h7_1) (by omega) (by omega) (by first | omega | (simp only [List.length_append, List.length_cons, List.length_nil, List.length_take, List.length_drop] <;> omega)) (by first | rfl | exact fltV_app _ _ _ | exact fltV_snoc _ _ _ | (simp [fltV]; done))) (.inr rfl) ?_
     rintro v124 _ _ ⟨⟨g125, rfl⟩, rfl⟩ _
     refine JH.fact (row_form' (i := 0) rfl) (fun hf126 => ?_)
     obtain ⟨A126, c126, rfl, bl126, bh126⟩ := hf126
     refine znh ?_
     refine JH.p 9 rfl (q_bld) ?_
     refine y1 10 ?_
     refine ybs rfl fun b127 => ?_
     refine y1 11 ?_
     refine JHo.e rfl (e_append (i := 5) (n' := (acc ++ [(M.ent b.entries k)]).length) (vs' := vs5_3_9 ++ [.slice A121 (((M.ent b.entries k).pits).length) c121, .slice A126 (((M.ent b.entries k).choices).length) c126]) el_35 rfl rfl rfl rfl (src_row (i := 0) und_35 rfl rfl) (by omega) (by omega) (by first | omega | (simp only [List.length_append, List.length_cons, List.length_nil, List.length_take, List.length_drop] <;> omega)) (rfl)) (.inr rfl) ?_
     rintro v129 _ _ ⟨⟨g130, rfl⟩, rfl⟩ _
     refine JH.fact (row_form' (i := 5) rfl) (fun hf131 => ?_)
     obtain ⟨A131, c131, rfl, bl131, bh131⟩ := hf131
     refine znh ?_
     refine JH.p 12 rfl (p_fieldAddr fld_37_1.h rfl) ?_
     refine y1 13 ?_
     refine yst rfl rfl rfl ?_
     refine yd ?_
     exact zm ⟨_, _, _, _, _, _, _, _, _, rfl, rfl, zt, zt, zt, zt, zt, zt⟩ (Up.refl _ _)
    refine ybs rfl fun b132 => ?_
    refine y2 1 8 ?_ ?_
    ·
     refine JHo.q rfl (q_load1 ty_35.h rfl (Mem.box (i := 5) rfl rfl)) ?_
     refine y1 8 ?_
     refine JHo.e rfl (e_append (i := 0) (n' := ((M.ent b.entries k).choices).length) (vs' := fltV vcChoice ((M.ent b.entries k).choices)) el_67 rfl rfl rfl rfl (src_flat lChoice und_67 rfl h7_1) (by omega) (by omega) (by first | omega | (simp only [List.length_append, List.length_cons, List.length_nil, List.length_take, List.length_drop] <;> omega)) (by first | rfl | exact fltV_app _ _ _ | exact fltV_snoc _ _ _ | (simp [fltV]; done))) (.inr rfl) ?_
     rintro v134 _ _ ⟨⟨g135, rfl⟩, rfl⟩ _
     refine JH.fact (row_form' (i := 0) rfl) (fun hf136 => ?_)
     obtain ⟨A136, c136, rfl, bl136, bh136⟩ := hf136
     refine znh ?_
     refine JH.p 9 rfl (q_bld) ?_
     refine y1 10 ?_
     refine ybs rfl fun b137 => ?_
     refine y1 11 ?_
     refine JHo.e rfl (e_append (i := 5) (n' := (acc ++ [(M.ent b.entries k)]).length) (vs' := vs5_3_9 ++ [.slice A121 (((M.ent b.entries k).pits).length) c121, .slice A136 (((M.ent b.entries k).choices).length) c136]) el_35 rfl rfl rfl rfl (src_row (i := 0) und_35 rfl rfl) (by omega) (by omega) (by first | omega | (simp only [List.length_append, List.length_cons, List.length_nil, List.length_take, List.length_drop] <;> omega)) (rfl)) (.inr rfl) ?_
     rintro v139 _ _ ⟨⟨g140, rfl⟩, rfl⟩ _
     refine JH.fact (row_form' (i := 5) rfl) (fun hf141 => ?_)
     obtain ⟨A141, c141, rfl, bl141, bh141⟩ := hf141
     refine znh ?_
     refine JH.p 12 rfl (p_fieldAddr fld_37_1.h rfl) ?_
     refine y1 13 ?_
     refine yst rfl rfl rfl ?_
     refine yd ?_
     exact zm ⟨_, _, _, _, _, _, _, _, _, rfl, rfl, zt, zt, zt, zt, zt, zt⟩ (Up.refl _ _)
    refine JHo.e rfl (e_append (i := 0) (n' := ((M.ent b.entries k).choices).length) (vs' := fltV vcChoice ((M.ent b.entries k).choices)) el_67 rfl rfl rfl rfl (src_flat lChoice und_67 rfl h7_1) (by omega) (by omega) (by first | omega | (simp only [List.length_append, List.length_cons, List.length_nil, List.length_take, List.length_drop] <;> omega)) (by first | rfl | exact fltV_app _ _ _ | exact fltV_snoc _ _ _ | (simp [fltV]; done))) (.inr rfl) ?_
    rintro v142 _ _ ⟨⟨g143, rfl⟩, rfl⟩ _
    refine JH.fact (row_form' (i := 0) rfl) (fun hf144 => ?_)
    obtain ⟨A144, c144, rfl, bl144, bh144⟩ := hf144
    refine znh ?_
    refine JH.p 9 rfl (q_bld) ?_
    refine y2 1 10 ?_ ?_
    ·
     refine JHo.q rfl (q_load1 ty_35.h rfl (Mem.box (i := 5) rfl rfl)) ?_
     refine y1 10 ?_
     refine ybs rfl fun b145 => ?_
     refine y1 11 ?_
     refine JHo.e rfl (e_append (i := 5) (n' := (acc ++ [(M.ent b.entries k)]).length) (vs' := vs5_3_9 ++ [.slice A121 (((M.ent b.entries k).pits).length) c121, .slice A144 (((M.ent b.entries k).choices).length) c144]) el_35 rfl rfl rfl rfl (src_row (i := 0) und_35 rfl rfl) (by omega) (by omega) (by first | omega | (simp only [List.length_append, List.length_cons, List.length_nil, List.length_take, List.length_drop] <;> omega)) (rfl)) (.inr rfl) ?_
     rintro v147 _ _ ⟨⟨g148, rfl⟩, rfl⟩ _
     refine JH.fact (row_form' (i := 5) rfl) (fun hf149 => ?_)
     obtain ⟨A149, c149, rfl, bl149, bh149⟩ := hf149
     refine znh ?_
     refine JH.p 12 rfl (p_fieldAddr fld_37_1.h rfl) ?_
     refine y1 13 ?_
     refine yst rfl rfl rfl ?_
     refine yd ?_
     exact zm ⟨_, _, _, _, _, _, _, _, _, rfl, rfl, zt, zt, zt, zt, zt, zt⟩ (Up.refl _ _)
    refine ybs rfl fun b150 => ?_
    refine y1 1 ?_
    refine JHo.q rfl (q_load1 ty_35.h rfl (Mem.box (i := 6) rfl rfl)) ?_
    refine y1 11 ?_
    refine JHo.e rfl (e_append (i := 5) (n' := (acc ++ [(M.ent b.entries k)]).length) (vs' := vs5_3_9 ++ [.slice A121 (((M.ent b.entries k).pits).length) c121, .slice A144 (((M.ent b.entries k).choices).length) c144]) el_35 rfl rfl rfl rfl (src_row (i := 0) und_35 rfl rfl) (by omega) (by omega) (by first | omega | (simp only [List.length_append, List.length_cons, List.length_nil, List.length_take, List.length_drop] <;> omega)) (rfl)) (.inr rfl) ?_
    rintro v152 _ _ ⟨⟨g153, rfl⟩, rfl⟩ _
    refine JH.fact (row_form' (i := 5) rfl) (fun hf154 => ?_)
    obtain ⟨A154, c154, rfl, bl154, bh154⟩ := hf154
    refine znh ?_
    refine JH.p 12 rfl (p_fieldAddr fld_37_1.h rfl) ?_
    refine y1 13 ?_
    refine yst rfl rfl rfl ?_
    refine yd ?_
    exact zm ⟨_, _, _, _, _, _, _, _, _, rfl, rfl, zt, zt, zt, zt, zt, zt⟩ (Up.refl _ _)
   refine ybs rfl fun b155 => ?_
   refine y2 1 4 ?_ ?_
   ·
    refine JHo.q rfl (q_load1 ty_35.h rfl (Mem.box (i := 4) rfl rfl)) ?_
    refine y1 4 ?_
    refine ycs rfl rfl (fun w hw => c_impl_copyNumbers ((M.ent b.entries k).pits) (ok_ hw)) ?_
    intro A157 c157 bl157 bh157
    refine y1 8 ?_
    refine JHo.e rfl (e_append (i := 1) (n' := ((M.ent b.entries k).choices).length) (vs' := fltV vcChoice ((M.ent b.entries k).choices)) el_67 rfl rfl rfl rfl (src_flat lChoice und_67 rfl h7_1) (by omega) (by omega) (by first | omega | (simp only [List.length_append, List.length_cons, List.length_nil, List.length_take, List.length_drop] <;> omega)) (by first | rfl | exact fltV_app _ _ _ | exact fltV_snoc _ _ _ | (simp [fltV]; done))) (.inr rfl) ?_
    rintro v158 _ _ ⟨⟨g159, rfl⟩, rfl⟩ _
    refine JH.fact (row_form' (i := 1) rfl) (fun hf160 => ?_)
    obtain ⟨A160, c160, rfl, bl160, bh160⟩ := hf160
    refine znh ?_
    refine JH.p 9 rfl (q_bld) ?_
    refine y1 10 ?_
    refine ybs rfl fun b161 => ?_
    refine y1 11 ?_
    refine JHo.e rfl (e_append (i := 5) (n' := (acc ++ [(M.ent b.entries k)]).length) (vs' := vs5_3_9 ++ [.slice A157 (((M.ent b.entries k).pits).length) c157, .slice A160 (((M.ent b.entries k).choices).length) c160]) el_35 rfl rfl rfl rfl (src_row (i := 0) und_35 rfl rfl) (by omega) (by omega) (by first | omega | (simp only [List.length_append, List.length_cons, List.length_nil, List.length_take, List.length_drop] <;> omega)) (rfl)) (.inr rfl) ?_
    rintro v163 _ _ ⟨⟨g164, rfl⟩, rfl⟩ _
    refine JH.fact (row_form' (i := 5) rfl) (fun hf165 => ?_)
    obtain ⟨A165, c165, rfl, bl165, bh165⟩ := hf165
    refine znh ?_
    refine JH.p 12 rfl (p_fieldAddr fld_37_1.h rfl) ?_
    refine y1 13 ?_
    refine yst rfl rfl rfl ?_
    refine yd ?_
    refine zh [0, 1, 0, 0, 0, 0, 0, 0, 0] ?_
    exact zm ⟨_, _, _, _, _, _, _, _, _, rfl, rfl, zt, zt, zt, zt, zt, zt⟩ (Up.refl _ _)
   refine ycs rfl rfl (fun w hw => c_impl_copyNumbers ((M.ent b.entries k).pits) (ok_ hw)) ?_
   intro A166 c166 bl166 bh166
   refine y2 1 8 ?_ ?_
   ·
    refine JHo.q rfl (q_load1 ty_35.h rfl (Mem.box (i := 5) rfl rfl)) ?_
    refine y1 8 ?_
    refine JHo.e rfl (e_append (i := 1) (n' := ((M.ent b.entries k).choices).length) (vs' := fltV vcChoice ((M.ent b.entries k).choices)) el_67 rfl rfl rfl rfl (src_flat lChoice und_67 rfl h7_1) (by omega) (by omega) (by first | omega | (simp only [List.length_append, List.length_cons, List.length_nil, List.length_take, List.length_drop] <;> omega)) (by first | rfl | exact fltV_app _ _ _ | exact fltV_snoc _ _ _ | (simp [fltV]; done))) (.inr rfl) ?_
    rintro v167 _ _ ⟨⟨g168, rfl⟩, rfl⟩ _
    refine JH.fact (row_form' (i := 1) rfl) (fun hf169 => ?_)
    obtain ⟨A169, c169, rfl, bl169, bh169⟩ := hf169
    refine znh ?_
    refine JH.p 9 rfl (q_bld) ?_
    refine y1 10 ?_
    refine ybs rfl fun b170 => ?_
    refine y1 11 ?_
    refine JHo.e rfl (e_append (i := 5) (n' := (acc ++ [(M.ent b.entries k)]).length) (vs' := vs5_3_9 ++ [.slice A166 (((M.ent b.entries k).pits).length) c166, .slice A169 (((M.ent b.entries k).choices).length) c169]) el_35 rfl rfl rfl rfl (src_row (i := 0) und_35 rfl rfl) (by omega) (by omega) (by first | omega | (simp only [List.length_append, List.length_cons, List.length_nil, List.length_take, List.length_drop] <;> omega)) (rfl)) (.inr rfl) ?_
    rintro v172 _ _ ⟨⟨g173, rfl⟩, rfl⟩ _
    refine JH.fact (row_form' (i := 5) rfl) (fun hf174 => ?_)
    obtain ⟨A174, c174, rfl, bl174, bh174⟩ := hf174
    refine znh ?_
    refine JH.p 12 rfl (p_fieldAddr fld_37_1.h rfl) ?_
    refine y1 13 ?_
    refine yst rfl rfl rfl ?_
    refine yd ?_
    refine zh [0, 1, 0, 0, 0, 0, 0, 0, 0] ?_
    exact zm ⟨_, _, _, _, _, _, _, _, _, rfl, rfl, zt, zt, zt, zt, zt, zt⟩ (Up.refl _ _)
   refine JHo.e rfl (e_append (i := 1) (n' := ((M.ent b.entries k).choices).length) (vs' := fltV vcChoice ((M.ent b.entries k).choices)) el_67 rfl rfl rfl rfl (src_flat lChoice und_67 rfl h7_1) (by omega) (by omega) (by first | omega | (simp only [List.length_append, List.length_cons, List.length_nil, List.length_take, List.length_drop] <;> omega)) (by first | rfl | exact fltV_app _ _ _ | exact fltV_snoc _ _ _ | (simp [fltV]; done))) (.inr rfl) ?_
   rintro v175 _ _ ⟨⟨g176, rfl⟩, rfl⟩ _
   refine JH.fact (row_form' (i := 1) rfl) (fun hf177 => ?_)
   obtain ⟨A177, c177, rfl, bl177, bh177⟩ := hf177
   refine znh ?_
   refine JH.p 9 rfl (q_bld) ?_
   refine y2 1 10 ?_ ?_
   ·
    refine JHo.q rfl (q_load1 ty_35.h rfl (Mem.box (i := 5) rfl rfl)) ?_
    refine y1 10 ?_
    refine ybs rfl fun b178 => ?_
    refine y1 11 ?_
    refine JHo.e rfl (e_append (i := 5) (n' := (acc ++ [(M.ent b.entries k)]).length) (vs' := vs5_3_9 ++ [.slice A166 (((M.ent b.entries k).pits).length) c166, .slice A177 (((M.ent b.entries k).choices).length) c177]) el_35 rfl rfl rfl rfl (src_row (i := 0) und_35 rfl rfl) (by omega) (by omega) (by first | omega | (simp only [List.length_append, List.length_cons, List.length_nil, List.length_take, List.length_drop] <;> omega)) (rfl)) (.inr rfl) ?_
    rintro v180 _ _ ⟨⟨g181, rfl⟩, rfl⟩ _
    refine JH.fact (row_form' (i := 5) rfl) (fun hf182 => ?_)
    obtain ⟨A182, c182, rfl, bl182, bh182⟩ := hf182
    refine znh ?_
    refine JH.p 12 rfl (p_fieldAddr fld_37_1.h rfl) ?_
    refine y1 13 ?_
    refine yst rfl rfl rfl ?_
    refine yd ?_
    refine zh [0, 1, 0, 0, 0, 0, 0, 0, 0] ?_
    exact zm ⟨_, _, _, _, _, _, _, _, _, rfl, rfl, zt, zt, zt, zt, zt, zt⟩ (Up.refl _ _)
   refine ybs rfl fun b183 => ?_
   refine y1 1 ?_
   refine JHo.q rfl (q_load1 ty_35.h rfl (Mem.box (i := 6) rfl rfl)) ?_
   refine y1 11 ?_
   refine JHo.e rfl (e_append (i := 5) (n' := (acc ++ [(M.ent b.entries k)]).length) (vs' := vs5_3_9 ++ [.slice A166 (((M.ent b.entries k).pits).length) c166, .slice A177 (((M.ent b.entries k).choices).length) c177]) el_35 rfl rfl rfl rfl (src_row (i := 0) und_35 rfl rfl) (by omega) (by omega) (by first | omega | (simp only [List.length_append, List.length_cons, List.length_nil, List.length_take, List.length_drop] <;> omega)) (rfl)) (.inr rfl) ?_
   rintro v185 _ _ ⟨⟨g186, rfl⟩, rfl⟩ _
   refine JH.fact (row_form' (i := 5) rfl) (fun hf187 => ?_)
   obtain ⟨A187, c187, rfl, bl187, bh187⟩ := hf187
   refine znh ?_
   refine JH.p 12 rfl (p_fieldAddr fld_37_1.h rfl) ?_
   refine y1 13 ?_
   refine yst rfl rfl rfl ?_
   refine yd ?_
   refine zh [0, 1, 0, 0, 0, 0, 0, 0, 0] ?_
   exact zm ⟨_, _, _, _, _, _, _, _, _, rfl, rfl, zt, zt, zt, zt, zt, zt⟩ (Up.refl _ _)
  rintro _ _ u98 ⟨b15, A9, c9, A14, c14, g13, A19, c19, g18, rfl, rfl, f98_0, f98_1, f98_2, f98_3, f98_4, f98_5⟩ x98
  refine zn ?_
  refine Js.pk (cBookEntry (M.ent b.entries k)) [.slice A9 (((M.ent b.entries k).pits).length) c9, .slice A14 (((M.ent b.entries k).choices).length) c14] (fun f189 G189 => ?_) (by exact (gv_agg (gvc gv_ (gvc (gv_flat lChoice (xs := ((M.ent b.entries k).choices)) po_ (by first | rfl | (simp [fltV]; done)) (by first | with_reducible rfl | assumption | rfl)) gvn))))
  refine zn ?_
  refine Js.joinL (i := 4) (j := 0) (Vs := lBookEntry (acc ++ [(M.ent b.entries k)])) rfl rfl (lBookEntry_snoc _ _) (fun f190 => ?_)
  refine zn ?_
  refine Js.blockEnd <| Js.region <| Qp rfl rfl <| Qm rfl <| JL.nil ?_
  refine zd [0, 3, 3, 3, 3] rfl fun u191 x191 => ?_
  exact zag ⟨k + 1, acc ++ [(M.ent b.entries k)], _, _, _, _, _, rfl, rfl, by exact hA2, zt, zu, zu, rfl⟩ ((x5.trans x98).trans x191)
 have hE : acc = b.entries := by rw [hA, List.take_of_length_le (by have := h6'; omega)]
 refine zx ?_
 have hq0 : acc = b.entries := by first | rfl | (rw [hE]; done) | (rw [hE]; rfl)
 refine zS <| Q9 2 rfl rfl ?_
 refine zw 3 rfl rfl rfl ?_
 refine JL.nil ?_
 exact zro x5

end Go.Proofs.YtcmfnlleikcpnaaGreat

namespace Go.Proofs.YtcmfnlleikcpnaaGreat
open Go.RowKit

set_option maxHeartbeats 1000000 in
theorem c_impl_Book_whole (b : M.Boo) {v_b : Value} {w : World} (h_b : (Ty.agg (cBook b)).ok w v_b) (r0 : b.entries.length ≤ 4194304 := by exact om_) (r1 : ∀ x ∈ b.entries, x.pits.length ≤ 4194304 ∧ x.choices.length ≤ 4194304 := by exact om_) : RetX Tryz.prog 80 [v_b] w (fun v => v = if M.okB b = true then .tuple #[v_b, .int .i64 0] else .tuple #[.agg #[.int .i64 0, .int .i64 0, .bool false, .bool false, .bool false, .bool false, .bool false, .int .i64 0, .int .i64 0, .slice none 0 0], .int .i64 5]) := by
 revert v_b; apply opn
 intro A1 c1 h1 bl1 bh1
 refine enter @Tryz.func80 @Tryz.ntmps80 rfl rfl ?_
 refine zent ?_
 refine zS <| zb rfl fun b2 => za zeh fun b3 => Qa rfl <| zJ <| zS <| Q9 1 rfl rfl ?_
 refine zv rfl (fun w hw => c_impl_ValidBook b (ok_ hw) (r1 := r1)) <| Qt rfl <| JL.nil ?_
 refine zi (fun h4 h4' => ?_) fun h4 h4' => ?_
 ·
  have hno : ¬ M.okB b = true := by simpa using h4
  refine zS <| Qb ?_
  refine zw 0 rfl rfl rfl ?_
  refine Qa rfl <| JL.nil ?_
  refine zX (Up.refl _ _) ?_
  show _ = _; first | rw [if_pos hok] | rw [if_neg hno]
 have hok : M.okB b = true := by simpa using h4
 refine Js.skip <| zS <| Q9 1 rfl rfl ?_
 refine zw 0 rfl rfl rfl ?_
 refine Qa rfl <| JL.nil ?_
 refine zX (Up.refl _ _) ?_
 show _ = _; first | rw [if_pos hok] | rw [if_neg hno]

end Go.Proofs.YtcmfnlleikcpnaaGreat

namespace Go.Proofs.YtcmfnlleikcpnaaGreat
open Go.RowKit

end Go.Proofs.YtcmfnlleikcpnaaGreat

namespace Go.Proofs.YtcmfnlleikcpnaaGreat
open Go.RowKit

end Go.Proofs.YtcmfnlleikcpnaaGreat


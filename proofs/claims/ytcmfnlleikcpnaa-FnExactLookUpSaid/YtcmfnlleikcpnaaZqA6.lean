/- Walks: K30. -/
import Derived.Test.YtcmfnlleikcpnaaZqA2
import Derived.Test.YtcmfnlleikcpnaaZqA5
import Derived.Test.YtcmfnlleikcpnaaZqA3
import Derived.Test.YtcmfnlleikcpnaaZqA4
set_option linter.unusedSimpArgs false
set_option linter.unusedVariables false
set_option maxRecDepth 100000
attribute [local irreducible] Go.Proofs.Ytcmfnlleikcpnaa.gv
namespace Go.Proofs.Ytcmfnlleikcpnaa
open Go.RowKit

set_option maxHeartbeats 1000000 in
theorem c_spec_l04Lists (a : List Int) {v_a : Value} (b : List Int) {v_b : Value} {w : World} (h_a : (Ty.ints 2 a).ok w v_a) (h_b : (Ty.ints 2 b).ok w v_b) (r0 : a.length ≤ 4194304 := by exact om_) (r1 : b.length ≤ 4194304 := by exact om_) : RetV Try.prog 65 [v_a, v_b] w (.int .i64 (M.cmpL a b)) := by
 revert v_a; apply opn
 intro A1 c1 h1 bl1 bh1
 have h_a := h1
 revert v_b; apply opn
 intro A2 c2 h2 bl2 bh2
 have h_b := h2
 refine enter @Try.func65 @Try.ntmps65 rfl rfl ?_
 refine zent ?_
 refine zS <| Qa rfl <| zJ <| zS <| Qa rfl <| JL.nil <| Js.block ?_
 refine zl [0, 1] (fun F U l os u m => ∃ (k : Nat), l = F [(5, .int .i64 (k : Int))] ∧ os = U [] ∧ (M.cmpL (a.drop k) (b.drop k) = M.cmpL a b) ∧ (k ≤ a.length) ∧ (k ≤ b.length) ∧ m = a.length - k) ⟨0, rfl, rfl, by rfl, zt, zt, rfl⟩ ?_
 rintro _ _ u3 _ ⟨k, rfl, rfl, hC, hka, hkb, rfl⟩ x3
 refine zn ?_
 refine Js.seq <| zS <| Qm rfl <| Qm rfl <| Qz rfl <| Ql rfl rfl <| Qm rfl <| zg (Gd.t1 rfl rfl rfl) (fun hc => p_move rfl) <| zg (Gd.t1 rfl rfl rfl) (fun hc => p_move rfl) <| zg (Gd.t1 rfl rfl rfl) (fun hc => p_len el_40 (gh hc rfl)) <| zg (Gd.t1 rfl rfl rfl) (fun hc => p_lss (gh hc rfl) (gh hc rfl)) <| Qq (p_pickAnd rfl rfl rfl) <| JL.nil ?_
 refine zi (fun h4 h4' => ?_) fun h4 h4' => ?_
 ·
  have hab : k < a.length ∧ k < b.length := by have := h4'; omega
  refine Js.skip <| Js.seq <| Js.block <| Js.seq <| Js.seq ?_
  refine zdr [] ?_
  refine JH.p 0 rfl (p_move rfl) ?_
  refine JH.p 1 rfl (p_move rfl) ?_
  obtain ⟨b5, o5, he5, hc5⟩ := ints_elem (Ty.mono _ h1 x3.vis) (i := k) (by omega)
  refine JH.p 2 rfl (p_indexAddr el_40 rfl rfl (by omega) (by omega) he5) ?_
  refine JH.w 3 rfl (fun os' u' hv => q_load1 ty_2.h rfl (Mem.pub (hc5.vis hv))) ?_
  refine JH.p 4 rfl (p_move rfl) ?_
  refine JH.p 5 rfl (p_move rfl) ?_
  obtain ⟨b6, o6, he6, hc6⟩ := ints_elem (Ty.mono _ h2 x3.vis) (i := k) (by omega)
  refine JH.p 6 rfl (p_indexAddr el_40 rfl rfl (by omega) (by omega) he6) ?_
  refine JH.w 7 rfl (fun os' u' hv => q_load1 ty_2.h rfl (Mem.pub (hc6.vis hv))) ?_
  refine JH.p 8 rfl (p_lss rfl rfl) ?_
  refine yd ?_
  refine zi (fun h7 h7' => ?_) fun h7 h7' => ?_
  ·
   have hE := M.cmpL_lt hC hab.1 hab.2 (by have := h7'; omega)
   refine zS <| Qa rfl <| JL.nil ?_
   refine zR x3 ?_
   first | (rw [hE]; done) | (rw [hE]; rfl)
  have h1_ : ¬ M.nth a k < M.nth b k := by have := h7'; omega
  refine Js.skip <| Js.seq ?_
  refine zdr [] ?_
  refine JH.p 0 rfl (p_move rfl) ?_
  refine JH.p 1 rfl (p_move rfl) ?_
  obtain ⟨b8, o8, he8, hc8⟩ := ints_elem (Ty.mono _ h1 x3.vis) (i := k) (by omega)
  refine JH.p 2 rfl (p_indexAddr el_40 rfl rfl (by omega) (by omega) he8) ?_
  refine JH.w 3 rfl (fun os' u' hv => q_load1 ty_2.h rfl (Mem.pub (hc8.vis hv))) ?_
  refine JH.p 4 rfl (p_move rfl) ?_
  refine JH.p 5 rfl (p_move rfl) ?_
  obtain ⟨b9, o9, he9, hc9⟩ := ints_elem (Ty.mono _ h2 x3.vis) (i := k) (by omega)
  refine JH.p 6 rfl (p_indexAddr el_40 rfl rfl (by omega) (by omega) he9) ?_
  refine JH.w 7 rfl (fun os' u' hv => q_load1 ty_2.h rfl (Mem.pub (hc9.vis hv))) ?_
  refine JH.p 8 rfl (p_gtr rfl rfl) ?_
  refine yd ?_
  refine zi (fun h10 h10' => ?_) fun h10 h10' => ?_
  ·
   have hE := M.cmpL_gt hC hab.1 hab.2 (by have := h10'; omega)
   refine zS <| Qa rfl <| JL.nil ?_
   refine zR x3 ?_
   first | (rw [hE]; done) | (rw [hE]; rfl)
  have hC2 := M.cmpL_step hC hab.1 hab.2 h1_ (by have := h10'; omega)
  refine Js.skip <| Js.blockEnd <| Js.region <| Qm rfl <| Qp rfl rfl <| Qa rfl <| JL.nil ?_
  exact zag ⟨k + 1, rfl, rfl, by exact hC2, zt, zt, rfl⟩ x3
 have hE := M.cmpL_end hC (by have := h4'; omega) hka hkb
 refine zx ?_
 refine Js.seq <| zS <| Qm rfl <| Qz rfl <| Qm rfl <| Qz rfl <| Ql rfl rfl <| JL.nil ?_
 refine zi (fun h11 h11' => ?_) fun h11 h11' => ?_
 ·
  rw [if_pos (by have := h11'; omega)] at hE
  refine zS <| Qa rfl <| JL.nil ?_
  refine zR x3 ?_
  first | (rw [hE]; done) | (rw [hE]; rfl)
 rw [if_neg (by have := h11'; omega)] at hE
 refine Js.skip <| Js.seq <| zS <| Qm rfl <| Qz rfl <| Qm rfl <| Qz rfl <| Qg rfl rfl <| JL.nil ?_
 refine zi (fun h12 h12' => ?_) fun h12 h12' => ?_
 ·
  rw [if_pos (by have := h12'; omega)] at hE
  refine zS <| Qa rfl <| JL.nil ?_
  refine zR x3 ?_
  first | (rw [hE]; done) | (rw [hE]; rfl)
 rw [if_neg (by have := h12'; omega)] at hE
 refine Js.skip <| zS <| Qa rfl <| JL.nil ?_
 refine zR x3 ?_
 first | (rw [hE]; done) | (rw [hE]; rfl)

set_option maxHeartbeats 1000000 in
theorem c_spec_l20Pos (p : List Int) {Ap_0 : Option Addr} {cp_0 : Nat} {w : World}  : Ret Try.prog 83 [.slice Ap_0 p.length cp_0] w (Ty.agg [Ty.val (.slice Ap_0 p.length cp_0), Ty.ints 2 [0, 0], Ty.int 0]) := by
 refine enter @Try.func83 @Try.ntmps83 rfl rfl ?_
 refine zent ?_
 refine zS <| za zeh fun b1 => zN <| Qm rfl <| zbs fun b2 => ?_
 refine Qb ?_
 refine zw 1 rfl rfl rfl ?_
 refine JL.nil ?_
 exact zro (Up.refl _ _)

set_option maxHeartbeats 1000000 in
theorem c_spec_MoveFault (r : M.Rul) {v_r : Value} (p : M.Pos) {v_p : Value} (move : Int) {w : World} (h_r : (Ty.agg (cRules r)).ok w v_r) (h_p : (Ty.agg (cPosition p)).ok w v_p) (r0 : p.pits.length ≤ 4194304 := by exact om_) (r1 : p.stores.length ≤ 4194304 := by exact om_) : RetV Try.prog 84 [v_r, v_p, .int .i64 move] w (.int .i64 ((M.make r p move).2)) := by
 revert v_r; apply opn
 revert v_p; apply opn
 intro A1 c1 h1 bl1 bh1 A2 c2 h2 bl2 bh2
 refine enter @Try.func84 @Try.ntmps84 rfl rfl ?_
 refine zent ?_
 refine zS <| zb rfl fun b3 => zb rfl fun b4 => Qa rfl <| zN <| Qm rfl <| zp rfl (fun w hw => c_spec_l07Make r p move (ok_ hw) (ok_ hw)) ?_
 intro u5 x5 A6 c6 h6 bl6 bh6 A7 c7 h7 bl7 bh7
 refine Qm rfl <| Qx rfl rfl <| Qx rfl rfl <| za zeh fun b8 => zw 0 rfl rfl rfl ?_
 refine Qa rfl <| zN <| Qm rfl <| Qa rfl <| JL.nil ?_
 exact zr x5

set_option maxHeartbeats 4000000 in
theorem c_spec_l20Entry (r : M.Rul) {v_r : Value} (e : M.Ent) {v_e : Value} {w : World} (h_r : (Ty.ref (cRules r)).ok w v_r) (h_e : (Ty.ref (cBookEntry e)).ok w v_e) (r0 : e.pits.length ≤ 4194304 := by exact om_) (r1 : e.choices.length ≤ 4194304 := by exact om_) : RetV Try.prog 64 [v_r, v_e] w (.bool (M.okE r e)) := by
 have p5 : (M.posE e.pits).stores.length ≤ 4194304 := (by decide : ([0, 0] : List Int).length ≤ 4194304)
 have p6 : (M.posE e.pits).pits.length ≤ 4194304 := r0
 revert v_r; apply opn
 intro b1 o1 hr1
 revert v_e; apply opn
 intro b4 o4 A2 c2 h2 bl2 bh2 A3 c3 h3 bl3 bh3 hr4
 refine enter @Try.func64 @Try.ntmps64 rfl rfl ?_
 refine zent ?_
 refine zS <| Qa rfl <| zN <| Qm rfl <| Qc rfl <| Qf fh rfl <| QC (hr4 0 _ rfl) rfl <| zc rfl (fun w hw => c_spec_l20Pos e.pits) ?_
 intro A5 c5 bl5 bh5
 refine za zeh fun b6 => zw 0 rfl rfl rfl ?_
 refine zJ <| zS <| Qm rfl <| zv rfl (fun w hw => c_spec_l04Ok r (M.Pos.mk e.pits [0, 0] 0) (ok_ hw) (ok_ hw)) <| Qt rfl <| Qm rfl <| zg (Gd.f1 rfl rfl rfl) (fun hc => p_move rfl) <| zg (Gd.f1 rfl rfl rfl) (fun hc => p_nilCheck (gh hc rfl)) <| zg (Gd.f1 rfl rfl rfl) (fun hc => p_fieldAddr fld_65_1.h (gh hc rfl)) <| zgq (Gd.f1 rfl rfl rfl) (fun hc => q_load1 ty_50.h (gh hc rfl) (Mem.pub (hr4 1 _ rfl))) <| zg (Gd.f1 rfl rfl rfl) (fun hc => p_len el_50 (gh hc rfl)) <| zg (Gd.f1 rfl rfl rfl) (fun hc => p_eql (gh hc rfl) rfl) <| Qq (p_pickOr rfl rfl rfl) <| JL.nil ?_
 refine zi (fun h7 h7' => ?_) fun h7 h7' => ?_
 ·
  have hE := M.okE_p (r := r) (e := e) (by have h9 := h7; simp only [Bool.or_eq_true, Bool.not_eq_true', decide_eq_true_eq] at h9; exact h9.imp id (fun h => by omega))
  refine zS <| Qa rfl <| JL.nil ?_
  refine zR (Up.refl _ _) ?_
  first | (rw [hE, hE2]; rfl) | (rw [hE]; rfl)
 have h9 := h7
 simp at h9
 have hE := M.okE_cs h9.1 (by omega)
 refine Js.skip <| Js.seq <| zS <| Qa rfl <| JL.nil <| Js.block ?_
 refine zl [0, 1, 5] (fun F U l os u m => ∃ (k : Nat), l = F [(6, .int .i64 (k : Int))] ∧ os = U [] ∧ (M.AllB (M.chAt r (M.posE e.pits) e.choices) k) ∧ (k ≤ e.choices.length) ∧ m = e.choices.length - k) ⟨0, rfl, rfl, by exact M.AllB.zero _, zt, rfl⟩ ?_
 rintro _ _ u8 _ ⟨k, rfl, rfl, hA, hk, rfl⟩ x8
 refine zn ?_
 refine Js.seq <| zS <| Qm rfl <| Qm rfl <| Qc rfl <| Qf fh rfl <| QC ((hr4.vis x8.vis) 1 _ rfl) rfl <| Qz rfl <| Ql rfl rfl <| JL.nil ?_
 refine zi (fun h9 h9' => ?_) fun h9 h9' => ?_
 ·
  have hy10 : e.choices[k]? = some (M.cho e.choices k) := M.cho_get (by omega)
  obtain ⟨b10, o10, he10, hr10⟩ := elem_Choice (Ty.mono _ h3 x8.vis) hy10
  refine Js.skip <| Js.seq <| Js.block <| zS <| Qm rfl <| Qc rfl <| Qf fh rfl <| QC ((hr4.vis x8.vis) 1 _ rfl) rfl <| Qm rfl <| Qq (p_indexAddr el_50 rfl rfl (by omega) (by omega) he10) <| Qa rfl <| zJ <| Js.seq ?_
  refine zdr [] ?_
  refine JH.p 0 rfl (p_move rfl) ?_
  refine JH.p 1 rfl (p_gtr rfl rfl) ?_
  refine JH.p 2 rfl (p_move rfl) ?_
  refine JH.pg 3 rfl (Gd.t1 rfl rfl rfl) (fun hc => p_move rfl) ?_
  refine JH.pg 4 rfl (Gd.t1 rfl rfl rfl) (fun hc => p_nilCheck (gvt rfl hc)) ?_
  refine JH.pg 5 rfl (Gd.t1 rfl rfl rfl) (fun hc => p_fieldAddr fld_73_0.h (gvt rfl hc)) ?_
  refine JH.wg 6 rfl (Gd.t1 rfl rfl rfl) (fun hc os' u' hv => q_load1 ty_2.h (gvt rfl hc) (Mem.pub ((hr10.vis hv) 0 _ rfl))) ?_
  refine JH.pg 7 rfl (Gd.t1 rfl rfl rfl) (fun hc => p_move rfl) ?_
  refine JH.pg 8 rfl (Gd.t1 rfl rfl rfl) (fun hc => p_nilCheck (gvt rfl hc)) ?_
  refine JH.pg 9 rfl (Gd.t1 rfl rfl rfl) (fun hc => p_fieldAddr fld_65_1.h (gvt rfl hc)) ?_
  refine JH.wg 10 rfl (Gd.t1 rfl rfl rfl) (fun hc os' u' hv => q_load1 ty_50.h (gvt rfl hc) (Mem.pub ((hr4.vis (x8.vis.trans hv)) 1 _ rfl))) ?_
  refine JH.pg 11 rfl (Gd.t1 rfl rfl rfl) (fun hc => p_move rfl) ?_
  refine JH.pg 12 rfl (Gd.t1 rfl rfl rfl) (fun hc => p_sub (gvt rfl hc) rfl (IntWalk.i64_in _ (by have hc9 := hc; (try simp only [decide_eq_true_eq] at hc9); omega))) ?_
  have hy11 : e.choices[((k : Int) - 1).toNat]? = some (M.cho e.choices (((k : Int) - 1).toNat)) := M.cho_get (by omega)
  obtain ⟨b11, o11, he11, hr11⟩ := elem_Choice (Ty.mono _ h3 x8.vis) hy11
  refine JH.pg 13 rfl (Gd.t1 rfl rfl rfl) (fun hc => p_indexAddr el_50 (gvt rfl hc) (gvt rfl hc) (by have hc9 := hc; (try simp only [decide_eq_true_eq] at hc9); omega) (by have hc9 := hc; (try simp only [decide_eq_true_eq] at hc9); omega) he11) ?_
  refine JH.pg 14 rfl (Gd.t1 rfl rfl rfl) (fun hc => p_fieldAddr fld_73_0.h (gvt rfl hc)) ?_
  refine JH.wg 15 rfl (Gd.t1 rfl rfl rfl) (fun hc os' u' hv => q_load1 ty_2.h (gvt rfl hc) (Mem.pub ((hr11.vis hv) 0 _ rfl))) ?_
  refine JH.pg 16 rfl (Gd.t1 rfl rfl rfl) (fun hc => p_leq (gvt rfl hc) (gvt rfl hc)) ?_
  refine JH.p 17 rfl (p_pickAnd rfl rfl rfl) ?_
  refine JH.p 18 rfl (p_move rfl) ?_
  refine JH.pg 19 rfl (Gd.f1 rfl rfl rfl) (fun hc => p_move rfl) ?_
  refine JH.pg 20 rfl (Gd.f1 rfl rfl rfl) (fun hc => p_nilCheck (gvt rfl hc)) ?_
  refine JH.pg 21 rfl (Gd.f1 rfl rfl rfl) (fun hc => p_fieldAddr fld_73_1.h (gvt rfl hc)) ?_
  refine JH.wg 22 rfl (Gd.f1 rfl rfl rfl) (fun hc os' u' hv => q_load1 ty_2.h (gvt rfl hc) (Mem.pub ((hr10.vis hv) 1 _ rfl))) ?_
  refine y1 23 ?_
  refine JHo.ge rfl (Gd.f1 rfl rfl rfl) (fun hc => e_callV fn_39.h (opds_3 (gvt rfl hc) rfl rfl) (fun w hw => c_spec_l00In ((M.cho e.choices k).games) 1 1000000)) ?_
  refine JH.pg 24 rfl (Gd.f1 rfl rfl rfl) (fun hc => p_not (gvt rfl hc)) ?_
  refine JH.p 25 rfl (p_pickOr rfl rfl rfl) ?_
  refine JH.p 26 rfl (p_move rfl) ?_
  refine JH.pg 27 rfl (Gd.f1 rfl rfl rfl) (fun hc => p_move rfl) ?_
  refine JH.pg 28 rfl (Gd.f1 rfl rfl rfl) (fun hc => p_nilCheck (gvt rfl hc)) ?_
  refine JH.pg 29 rfl (Gd.f1 rfl rfl rfl) (fun hc => p_fieldAddr fld_73_2.h (gvt rfl hc)) ?_
  refine JH.wg 30 rfl (Gd.f1 rfl rfl rfl) (fun hc os' u' hv => q_load1 ty_2.h (gvt rfl hc) (Mem.pub ((hr10.vis hv) 2 _ rfl))) ?_
  refine JH.pg 31 rfl (Gd.f1 rfl rfl rfl) (fun hc => p_move rfl) ?_
  refine JH.pg 32 rfl (Gd.f1 rfl rfl rfl) (fun hc => p_nilCheck (gvt rfl hc)) ?_
  refine JH.pg 33 rfl (Gd.f1 rfl rfl rfl) (fun hc => p_fieldAddr fld_73_1.h (gvt rfl hc)) ?_
  refine JH.wg 34 rfl (Gd.f1 rfl rfl rfl) (fun hc os' u' hv => q_load1 ty_2.h (gvt rfl hc) (Mem.pub ((hr10.vis hv) 1 _ rfl))) ?_
  refine JH.pg 35 rfl (Gd.f1 rfl rfl rfl) (fun hc => p_mul rfl (gvt rfl hc) (IntWalk.i64_in _ (by have hc9 := hc; simp only [Bool.not_eq_true', Bool.or_eq_false_iff, Bool.not_eq_false'] at hc9; have h8 := M.betw_iff.1 hc9.2; omega))) ?_
  refine y1 36 ?_
  refine JHo.ge rfl (Gd.f1 rfl rfl rfl) (fun hc => e_callV fn_39.h (opds_3 (gvt rfl hc) rfl (gvt rfl hc)) (fun w hw => c_spec_l00In ((M.cho e.choices k).score) 0 (2 * ((M.cho e.choices k).games)))) ?_
  refine JH.pg 37 rfl (Gd.f1 rfl rfl rfl) (fun hc => p_not (gvt rfl hc)) ?_
  refine JH.p 38 rfl (p_pickOr rfl rfl rfl) ?_
  refine yd ?_
  refine zi (fun h12 h12' => ?_) fun h12 h12' => ?_
  ·
   have hN : M.chAt r (M.posE e.pits) e.choices k = false := M.chAt_18 (by exact h12)
   have hE2 : M.okCs r (M.posE e.pits) e.choices = false := M.all_no (by omega) hN
   refine zS <| Qa rfl <| JL.nil ?_
   refine zR x8 ?_
   first | (rw [hE, hE2]; rfl) | (rw [hE]; rfl)
  have h18 : M.ch18 e.choices k = false := h12
  refine Js.skip <| Js.seq ?_
  refine zdr [] ?_
  refine JH.p 0 rfl (p_move rfl) ?_
  refine JH.p 1 rfl (p_nilCheck rfl) ?_
  refine JH.w 2 rfl (fun os' u' hv => LS 0 (hr1.vis (x8.vis.trans hv)) rfl) ?_
  refine JH.q 3 rfl (L9 0 rfl rfl) ?_
  refine JH.p 4 rfl (p_move rfl) ?_
  refine JH.p 5 rfl (p_nilCheck rfl) ?_
  refine JH.p 6 rfl (p_fieldAddr fld_73_0.h rfl) ?_
  refine JH.w 7 rfl (fun os' u' hv => q_load1 ty_2.h rfl (Mem.pub ((hr10.vis hv) 0 _ rfl))) ?_
  refine y1 8 ?_
  refine yv rfl rfl (fun w hw => c_spec_MoveFault r (M.Pos.mk e.pits [0, 0] 0) ((M.cho e.choices k).move) (ok_ hw) (ok_ hw)) ?_
  refine JH.p 9 rfl (p_neq rfl rfl) ?_
  refine yd ?_
  refine zi (fun h13 h13' => ?_) fun h13 h13' => ?_
  ·
   have hN : M.chAt r (M.posE e.pits) e.choices k = false := M.chAt_21 (by simpa using h13)
   have hE2 : M.okCs r (M.posE e.pits) e.choices = false := M.all_no (by omega) hN
   refine zS <| Qa rfl <| JL.nil ?_
   refine zR x8 ?_
   first | (rw [hE, hE2]; rfl) | (rw [hE]; rfl)
  have hN : M.chAt r (M.posE e.pits) e.choices k = true := M.chAt_all h18 (by simpa using h13)
  refine Js.skip <| Js.blockEnd <| Js.region <| Qm rfl <| Qp rfl rfl <| Qa rfl <| JL.nil ?_
  exact zag ⟨k + 1, rfl, rfl, by exact hA.step hN, zt, rfl⟩ x8
 have hE2 : M.okCs r (M.posE e.pits) e.choices = true := M.all_yes hA (by have := h9'; omega)
 refine zx ?_
 refine zS <| Qa rfl <| JL.nil ?_
 refine zR x8 ?_
 first | (rw [hE, hE2]; rfl) | (rw [hE]; rfl)

set_option maxHeartbeats 4000000 in
theorem c_spec_l20Ok (b : M.Boo) {v_b : Value} {w : World} (h_b : (Ty.ref (cBook b)).ok w v_b) (r0 : b.entries.length ≤ 4194304 := by exact om_) (r1 : ∀ x ∈ b.entries, x.pits.length ≤ 4194304 ∧ x.choices.length ≤ 4194304 := by exact om_) : RetV Try.prog 31 [v_b] w (.bool (M.okB b)) := by
 revert v_b; apply opn
 intro b2 o2 A1 c1 h1 bl1 bh1 hr2
 refine enter @Try.func31 @Try.ntmps31 rfl rfl ?_
 refine zent ?_
 refine zS <| Qa rfl <| zJ <| zS <| Qm rfl <| Qc rfl <| Qf fh rfl <| zv rfl (fun w hw => c_spec_l02Ok b.rules (ok_ hw)) <| Qt rfl <| Qm rfl <| zg (Gd.f1 rfl rfl rfl) (fun hc => p_move rfl) <| zg (Gd.f1 rfl rfl rfl) (fun hc => p_nilCheck (gh hc rfl)) <| zg (Gd.f1 rfl rfl rfl) (fun hc => p_fieldAddr fld_32_1.h (gh hc rfl)) <| zgq (Gd.f1 rfl rfl rfl) (fun hc => q_load1 ty_30.h (gh hc rfl) (Mem.pub (hr2 9 _ rfl))) ?_
 refine zg (Gd.f1 rfl rfl rfl) (fun hc => p_len el_30 (gh hc rfl)) <| zg (Gd.f1 rfl rfl rfl) (fun hc => p_gtr (gh hc rfl) rfl) <| Qq (p_pickOr rfl rfl rfl) <| JL.nil ?_
 refine zi (fun h3 h3' => ?_) fun h3 h3' => ?_
 ·
  have hE := M.okB_r (b := b) (by have h9 := h3; simp only [Bool.or_eq_true, Bool.not_eq_true', decide_eq_true_eq] at h9; exact h9.imp id (fun h => by omega))
  refine zS <| Qa rfl <| JL.nil ?_
  refine zR (Up.refl _ _) ?_
  first | (rw [hE, hE2]; rfl) | (rw [hE]; rfl)
 have h9 := h3
 simp only [Bool.or_eq_false_iff, Bool.not_eq_false', decide_eq_false_iff_not] at h9
 have hE := M.okB_es h9.1 (by omega)
 refine Js.skip <| Js.seq <| zS <| Qa rfl <| JL.nil <| Js.block ?_
 refine zl [0] (fun F U l os u m => ∃ (k : Nat), l = F [(3, .int .i64 (k : Int))] ∧ os = U [] ∧ (M.AllB (M.entAt b.rules b.entries) k) ∧ (k ≤ b.entries.length) ∧ m = b.entries.length - k) ⟨0, rfl, rfl, by exact M.AllB.zero _, zt, rfl⟩ ?_
 rintro _ _ u4 _ ⟨k, rfl, rfl, hA, hk, rfl⟩ x4
 refine zn ?_
 refine Js.seq <| zS <| Qm rfl <| Qm rfl <| Qc rfl <| Qf fh rfl <| QC ((hr2.vis x4.vis) 9 _ rfl) rfl <| Qz rfl <| Ql rfl rfl <| JL.nil ?_
 refine zi (fun h5 h5' => ?_) fun h5 h5' => ?_
 ·
  have hkk : k < b.entries.length := by have := h5'; omega
  obtain ⟨e1_, e2_⟩ := r1 _ (M.ent_mem (es := b.entries) (k := k) (by omega))
  obtain ⟨e3_, e4_⟩ := r1 _ (M.ent_mem (es := b.entries) (k := (((k : Int) - 1).toNat)) (by omega))
  refine Js.skip <| Js.seq <| Js.block <| Js.seq ?_
  refine zdr [] ?_
  refine JH.p 0 rfl (p_move rfl) ?_
  refine JH.p 1 rfl (p_nilCheck rfl) ?_
  refine JH.p 2 rfl (p_fieldAddr fld_32_0.h rfl) ?_
  refine JH.p 3 rfl (p_move rfl) ?_
  refine JH.p 4 rfl (p_nilCheck rfl) ?_
  refine JH.p 5 rfl (p_fieldAddr fld_32_1.h rfl) ?_
  refine JH.w 6 rfl (fun os' u' hv => q_load1 ty_30.h rfl (Mem.pub ((hr2.vis (x4.vis.trans hv)) 9 _ rfl))) ?_
  refine JH.p 7 rfl (p_move rfl) ?_
  have hy6 : b.entries[k]? = some (M.ent b.entries k) := M.ent_get (by omega)
  obtain ⟨b6, o6, A6_0, c6_0, A6_1, c6_1, he6, hr6, h6_0, h6_1, bl6_0, bh6_0, bl6_1, bh6_1⟩ := elem_BookEntry (Ty.mono _ h1 x4.vis) hy6
  refine JH.p 8 rfl (p_indexAddr el_30 rfl rfl (by omega) (by omega) he6) ?_
  refine y1 9 ?_
  refine yv rfl rfl (fun w hw => c_spec_l20Entry b.rules (M.ent b.entries k) (ok_ hw) (ok_ hw)) ?_
  refine JH.p 10 rfl (p_not rfl) ?_
  refine JH.p 11 rfl (p_move rfl) ?_
  refine JH.pg 12 rfl (Gd.f1 rfl rfl rfl) (fun hc => p_move rfl) ?_
  refine JH.pg 13 rfl (Gd.f1 rfl rfl rfl) (fun hc => p_gtr (gvt rfl hc) rfl) ?_
  refine JH.pg 14 rfl (Gd.f1 rfl rfl rfl) (fun hc => p_move (gvt rfl hc)) ?_
  refine JH.pg 15 rfl (Gd.t2 rfl rfl rfl) (fun hc => p_move rfl) ?_
  refine JH.pg 16 rfl (Gd.t2 rfl rfl rfl) (fun hc => p_nilCheck (gvt rfl hc)) ?_
  refine JH.pg 17 rfl (Gd.t2 rfl rfl rfl) (fun hc => p_fieldAddr fld_32_1.h (gvt rfl hc)) ?_
  refine JH.wg 18 rfl (Gd.t2 rfl rfl rfl) (fun hc os' u' hv => q_load1 ty_30.h (gvt rfl hc) (Mem.pub ((hr2.vis (x4.vis.trans hv)) 9 _ rfl))) ?_
  refine JH.pg 19 rfl (Gd.t2 rfl rfl rfl) (fun hc => p_move rfl) ?_
  refine JH.pg 20 rfl (Gd.t2 rfl rfl rfl) (fun hc => p_sub (gvt rfl hc) rfl (IntWalk.i64_in _ (by have hc9 := hc; (try simp only [Bool.and_eq_true, Bool.not_eq_true', Bool.not_eq_false', decide_eq_true_eq] at hc9); omega))) ?_
  have hy7 : b.entries[((k : Int) - 1).toNat]? = some (M.ent b.entries (((k : Int) - 1).toNat)) := M.ent_get (by omega)
  obtain ⟨b7, o7, A7_0, c7_0, A7_1, c7_1, he7, hr7, h7_0, h7_1, bl7_0, bh7_0, bl7_1, bh7_1⟩ := elem_BookEntry (Ty.mono _ h1 x4.vis) hy7
  refine JH.pg 21 rfl (Gd.t2 rfl rfl rfl) (fun hc => p_indexAddr el_30 (gvt rfl hc) (gvt rfl hc) (by have hc9 := hc; (try simp only [Bool.and_eq_true, Bool.not_eq_true', Bool.not_eq_false', decide_eq_true_eq] at hc9); omega) (by have hc9 := hc; (try simp only [Bool.and_eq_true, Bool.not_eq_true', Bool.not_eq_false', decide_eq_true_eq] at hc9); omega) he7) ?_
  refine JH.pg 22 rfl (Gd.t2 rfl rfl rfl) (fun hc => p_fieldAddr fld_65_0.h (gvt rfl hc)) ?_
  refine JH.wg 23 rfl (Gd.t2 rfl rfl rfl) (fun hc os' u' hv => q_load1 ty_40.h (gvt rfl hc) (Mem.pub ((hr7.vis hv) 0 _ rfl))) ?_
  refine JH.pg 24 rfl (Gd.t2 rfl rfl rfl) (fun hc => p_move rfl) ?_
  refine JH.pg 25 rfl (Gd.t2 rfl rfl rfl) (fun hc => p_nilCheck (gvt rfl hc)) ?_
  refine JH.pg 26 rfl (Gd.t2 rfl rfl rfl) (fun hc => p_fieldAddr fld_32_1.h (gvt rfl hc)) ?_
  refine JH.wg 27 rfl (Gd.t2 rfl rfl rfl) (fun hc os' u' hv => q_load1 ty_30.h (gvt rfl hc) (Mem.pub ((hr2.vis (x4.vis.trans hv)) 9 _ rfl))) ?_
  refine JH.pg 28 rfl (Gd.t2 rfl rfl rfl) (fun hc => p_move rfl) ?_
  have hy8 : b.entries[k]? = some (M.ent b.entries k) := M.ent_get (by omega)
  obtain ⟨b8, o8, A8_0, c8_0, A8_1, c8_1, he8, hr8, h8_0, h8_1, bl8_0, bh8_0, bl8_1, bh8_1⟩ := elem_BookEntry (Ty.mono _ h1 x4.vis) hy8
  refine JH.pg 29 rfl (Gd.t2 rfl rfl rfl) (fun hc => p_indexAddr el_30 (gvt rfl hc) (gvt rfl hc) (by have hc9 := hc; (try simp only [Bool.and_eq_true, Bool.not_eq_true', Bool.not_eq_false', decide_eq_true_eq] at hc9); omega) (by have hc9 := hc; (try simp only [Bool.and_eq_true, Bool.not_eq_true', Bool.not_eq_false', decide_eq_true_eq] at hc9); omega) he8) ?_
  refine JH.pg 30 rfl (Gd.t2 rfl rfl rfl) (fun hc => p_fieldAddr fld_65_0.h (gvt rfl hc)) ?_
  refine JH.wg 31 rfl (Gd.t2 rfl rfl rfl) (fun hc os' u' hv => q_load1 ty_40.h (gvt rfl hc) (Mem.pub ((hr8.vis hv) 0 _ rfl))) ?_
  refine y1 32 ?_
  refine JHo.ge rfl (Gd.t2 rfl rfl rfl) (fun hc => e_callV fn_65.h (opds_2 (gvt rfl hc) (gvt rfl hc)) (fun w hw => c_spec_l04Lists ((M.ent b.entries (((k : Int) - 1).toNat)).pits) ((M.ent b.entries k).pits) (ok_ hw) (ok_ hw) (r0 := (by have hc9 := hc; (try simp only [Bool.and_eq_true, Bool.not_eq_true', Bool.not_eq_false', decide_eq_true_eq] at hc9); omega)) (r1 := (by have hc9 := hc; (try simp only [Bool.and_eq_true, Bool.not_eq_true', Bool.not_eq_false', decide_eq_true_eq] at hc9); omega)))) ?_
  refine JH.pg 33 rfl (Gd.t2 rfl rfl rfl) (fun hc => p_geq (gvt rfl hc) rfl) ?_
  refine JH.pg 34 rfl (Gd.f1 rfl rfl rfl) (fun hc => p_pickAnd (gvt rfl hc) (gvl rfl hc) rfl) ?_
  refine JH.p 35 rfl (p_pickOr rfl rfl rfl) ?_
  refine yd ?_
  refine zi (fun h9 h9' => ?_) fun h9 h9' => ?_
  ·
   have hN : M.entAt b.rules b.entries k = false := M.entAt_no' (by exact h9)
   have hE2 : (List.range b.entries.length).all (M.entAt b.rules b.entries) = false := M.all_no (by omega) hN
   refine zS <| Qa rfl <| JL.nil ?_
   refine zR x4 ?_
   first | (rw [hE, hE2]; rfl) | (rw [hE]; rfl)
  have hN : M.entAt b.rules b.entries k = true := M.entAt_yes' (by exact h9)
  refine Js.skip <| Js.blockEnd <| Js.region <| Qm rfl <| Qp rfl rfl <| Qa rfl <| JL.nil ?_
  exact zag ⟨k + 1, rfl, rfl, by exact hA.step hN, zt, rfl⟩ x4
 have hE2 : (List.range b.entries.length).all (M.entAt b.rules b.entries) = true := M.all_yes hA (by have := h5'; omega)
 refine zx ?_
 refine zS <| Qa rfl <| JL.nil ?_
 refine zR x4 ?_
 first | (rw [hE, hE2]; rfl) | (rw [hE]; rfl)

end Go.Proofs.Ytcmfnlleikcpnaa

namespace Go.Proofs.Ytcmfnlleikcpnaa
open Go.RowKit

set_option maxHeartbeats 12000000 in
theorem c_spec_l04Turn (r : M.Rul) {v_r : Value} (p : M.Pos) {v_p : Value} {w : World} (h_r : (Ty.ref (cRules r)).ok w v_r) (h_p : (Ty.ref (cPosition p)).ok w v_p) (r0 : M.okP r p = true := by exact om_) : Ret Try.prog 87 [v_r, v_p] w (Ty.agg (cPosition (M.turnP r p))) := by
 obtain ⟨g1, g2, g3, g4, g5, g6, g7⟩ := M.okP_bd r0
 revert v_r; apply opn
 intro b1 o1 hr1
 revert v_p; apply opn
 intro b4 o4 A2 c2 h2 bl2 bh2 A3 c3 h3 bl3 bh3 hr4
 refine enter @Try.func87 @Try.ntmps87 rfl rfl ?_
 refine zent ?_
 refine zS <| za zeh fun b5 => zJ ?_
 refine zdr [] ?_
 refine JH.p 0 rfl (p_move rfl) ?_
 refine JH.p 1 rfl (p_nilCheck rfl) ?_
 refine JH.p 2 rfl (p_fieldAddr fld_46_0.h rfl) ?_
 refine JH.w 3 rfl (fun os' u' hv => q_load1 ty_40.h rfl (Mem.pub ((hr4.vis hv) 0 _ rfl))) ?_
 refine JH.p 4 rfl (p_move rfl) ?_
 refine JH.p 5 rfl (p_nilCheck rfl) ?_
 refine JH.p 6 rfl (p_fieldAddr fld_29_0.h rfl) ?_
 refine JH.w 7 rfl (fun os' u' hv => q_load1 ty_2.h rfl (Mem.pub ((hr1.vis hv) 0 _ rfl))) ?_
 have hs6 := ints_cut (a := r.pits.toNat) (b := p.pits.length) (m := c2) h2 (by omega) (by omega) (by omega) (by omega)
 have hl6 : ((p.pits.drop r.pits.toNat).take (p.pits.length - r.pits.toNat)).length = p.pits.length - r.pits.toNat := by rw [List.length_take, List.length_drop]; omega
 refine JH.p 8 rfl (p_slice (lo' := r.pits.toNat) (hi' := p.pits.length) (mx' := c2) el_40 rfl rfl ⟨rfl, rfl⟩ ⟨_, by rw [Int.toNat_of_nonneg (by omega)]; exact rfl, by omega⟩) ?_
 refine y1 9 ?_
 refine ycs rfl rfl (fun w hw => c_spec_l00Own ((p.pits.drop r.pits.toNat).take (p.pits.length - r.pits.toNat)) (ok_ hw)) ?_
 intro A7 c7 bl7 bh7
 refine JH.p 10 rfl (p_assign rfl) ?_
 refine yd ?_
 refine Js.seq ?_
 refine zk [4] (fun F U l os u => ∃ (b14 : Nat) (A13 : Option Addr) (c13 : Nat) (g12 : List Nat), l = F [] ∧ os = [rowO 2 1 (.slice (some ⟨b14, 0, none⟩) 2 2) 2 [.int .i64 (M.nth p.stores 1), .int .i64 (M.nth p.stores 0)] []] ++ U [some (rowO 2 1 (.slice A13 ((((p.pits.drop r.pits.toNat).take (p.pits.length - r.pits.toNat)) ++ ((p.pits.drop 0).take (r.pits.toNat - 0))).length) c13) ((((p.pits.drop r.pits.toNat).take (p.pits.length - r.pits.toNat)) ++ ((p.pits.drop 0).take (r.pits.toNat - 0))).length) (ints_ (((p.pits.drop r.pits.toNat).take (p.pits.length - r.pits.toNat)) ++ ((p.pits.drop 0).take (r.pits.toNat - 0)))) g12), some (boxO b5 [.slice A13 ((((p.pits.drop r.pits.toNat).take (p.pits.length - r.pits.toNat)) ++ ((p.pits.drop 0).take (r.pits.toNat - 0))).length) c13, .slice (some ⟨b14, 0, none⟩) 2 2, .int .i64 (1 - p.player)] 46)] ∧ ((((p.pits.drop r.pits.toNat).take (p.pits.length - r.pits.toNat)) ++ ((p.pits.drop 0).take (r.pits.toNat - 0))).length ≤ c13) ∧ (c13 ≤ 9223372036854775807)) ?_ ?_
 ·
  refine zdr [10, 30] ?_
  refine JH.p 0 rfl (p_move rfl) ?_
  refine JH.p 1 rfl (p_move rfl) ?_
  refine JH.p 2 rfl (p_nilCheck rfl) ?_
  refine JH.p 3 rfl (p_fieldAddr fld_46_0.h rfl) ?_
  refine JH.w 4 rfl (fun os' u' hv => q_load1 ty_40.h rfl (Mem.pub ((hr4.vis hv) 0 _ rfl))) ?_
  refine JH.p 5 rfl (p_move rfl) ?_
  refine JH.p 6 rfl (p_nilCheck rfl) ?_
  refine JH.p 7 rfl (p_fieldAddr fld_29_0.h rfl) ?_
  refine JH.w 8 rfl (fun os' u' hv => q_load1 ty_2.h rfl (Mem.pub ((hr1.vis hv) 0 _ rfl))) ?_
  have hs22 := ints_cut (a := 0) (b := r.pits.toNat) (m := c2) h2 (by omega) (by omega) (by omega) (by omega)
  have hl22 : ((p.pits.drop 0).take (r.pits.toNat - 0)).length = r.pits.toNat - 0 := by rw [List.length_take, List.length_drop]; omega
  refine JH.p 9 rfl (p_slice (lo' := 0) (hi' := r.pits.toNat) (mx' := c2) el_40 rfl rfl ⟨_, by rw [Int.toNat_of_nonneg (by omega)]; exact rfl, by omega⟩ rfl) ?_
  refine JH.p 11 rfl (p_move rfl) ?_
  refine JH.p 12 rfl (p_nilCheck rfl) ?_
  refine JH.p 13 rfl (p_fieldAddr fld_46_1.h rfl) ?_
  refine JH.w 14 rfl (fun os' u' hv => q_load1 ty_40.h rfl (Mem.pub ((hr4.vis hv) 1 _ rfl))) ?_
  obtain ⟨b23, o23, he23, hc23⟩ := ints_elem h3 (i := 1) (by omega)
  refine JH.p 15 rfl (p_indexAddr el_40 rfl rfl (by omega) (by omega) he23) ?_
  refine JH.w 16 rfl (fun os' u' hv => q_load1 ty_2.h rfl (Mem.pub (hc23.vis hv))) ?_
  refine JH.p 17 rfl (p_move rfl) ?_
  refine JH.p 18 rfl (p_nilCheck rfl) ?_
  refine JH.p 19 rfl (p_fieldAddr fld_46_1.h rfl) ?_
  refine JH.w 20 rfl (fun os' u' hv => q_load1 ty_40.h rfl (Mem.pub ((hr4.vis hv) 1 _ rfl))) ?_
  obtain ⟨b24, o24, he24, hc24⟩ := ints_elem h3 (i := 0) (by omega)
  refine JH.p 21 rfl (p_indexAddr el_40 rfl rfl (by omega) (by omega) he24) ?_
  refine JH.w 22 rfl (fun os' u' hv => q_load1 ty_2.h rfl (Mem.pub (hc24.vis hv))) ?_
  refine JH.p 24 rfl (p_move rfl) ?_
  refine JH.p 25 rfl (p_nilCheck rfl) ?_
  refine JH.p 26 rfl (p_fieldAddr fld_46_2.h rfl) ?_
  refine JH.w 27 rfl (fun os' u' hv => q_load1 ty_2.h rfl (Mem.pub ((hr4.vis hv) 2 _ rfl))) ?_
  refine JH.p 28 rfl (p_sub rfl rfl (IntWalk.i64_in _ (by omega))) ?_
  refine y2 10 23 ?_ ?_
  ·
   refine JHo.e rfl (e_append (i := 0) (n' := (((p.pits.drop r.pits.toNat).take (p.pits.length - r.pits.toNat)) ++ ((p.pits.drop 0).take (r.pits.toNat - 0))).length) (vs' := ints_ (((p.pits.drop r.pits.toNat).take (p.pits.length - r.pits.toNat)) ++ ((p.pits.drop 0).take (r.pits.toNat - 0)))) el_40 rfl rfl rfl rfl (src_intsN und_40 hl22 hs22) (by omega) (by omega) (by first | omega | (simp only [List.length_append, List.length_cons, List.length_nil] <;> omega)) (by simp [ints_])) (.inr rfl) ?_
   rintro v25 _ _ ⟨⟨g26, rfl⟩, rfl⟩ _
   refine JH.fact (row_form' (i := 0) rfl) (fun hf27 => ?_)
   obtain ⟨A27, c27, rfl, bl27, bh27⟩ := hf27
   refine znh ?_
   refine y1 23 ?_
   refine ybs rfl fun b28 => ?_
   refine JH.p 29 rfl (q_bld) ?_
   refine y1 30 ?_
   refine yst rfl rfl rfl ?_
   refine yd ?_
   exact zm ⟨_, _, _, _, rfl, rfl, zt, zt⟩ (Up.refl _ _)
  refine ybs rfl fun b30 => ?_
  refine y1 10 ?_
  refine JHo.e rfl (e_append (i := 1) (n' := (((p.pits.drop r.pits.toNat).take (p.pits.length - r.pits.toNat)) ++ ((p.pits.drop 0).take (r.pits.toNat - 0))).length) (vs' := ints_ (((p.pits.drop r.pits.toNat).take (p.pits.length - r.pits.toNat)) ++ ((p.pits.drop 0).take (r.pits.toNat - 0)))) el_40 rfl rfl rfl rfl (src_intsN und_40 hl22 hs22) (by omega) (by omega) (by first | omega | (simp only [List.length_append, List.length_cons, List.length_nil] <;> omega)) (by simp [ints_])) (.inr rfl) ?_
  rintro v32 _ _ ⟨⟨g33, rfl⟩, rfl⟩ _
  refine JH.fact (row_form' (i := 1) rfl) (fun hf34 => ?_)
  obtain ⟨A34, c34, rfl, bl34, bh34⟩ := hf34
  refine znh ?_
  refine JH.p 29 rfl (q_bld) ?_
  refine y1 30 ?_
  refine yst rfl rfl rfl ?_
  refine yd ?_
  exact zm ⟨_, _, _, _, rfl, rfl, zt, zt⟩ (Up.refl _ _)
 rintro _ _ u21 ⟨b14, A13, c13, g12, rfl, rfl, f21_0, f21_1⟩ x21
 refine zn ?_
 have hq0 : (((p.pits.drop r.pits.toNat).take (p.pits.length - r.pits.toNat)) ++ ((p.pits.drop 0).take (r.pits.toNat - 0))) = (M.turnP r p).pits := by first | rfl | (simp [M.turnP, List.take_of_length_le]; done) | (unfold M.turnP; simp; omega)
 have hq1 : [(M.nth p.stores 1), (M.nth p.stores 0)] = (M.turnP r p).stores := by first | rfl | (simp [M.turnP, List.take_of_length_le]; done) | (unfold M.turnP; simp; omega)
 have hq2 : (1 - p.player) = (M.turnP r p).player := by first | rfl | (simp [M.turnP, List.take_of_length_le]; done) | (unfold M.turnP; simp; omega)
 exact zro x21

set_option maxHeartbeats 1000000 in
theorem c_spec_l04View (r : M.Rul) {v_r : Value} (p : M.Pos) {v_p : Value} {w : World} (h_r : (Ty.ref (cRules r)).ok w v_r) (h_p : (Ty.ref (cPosition p)).ok w v_p) (r0 : M.okP r p = true := by exact om_) : Ret Try.prog 75 [v_r, v_p] w (Ty.agg (cPosition (M.viewP r p))) := by
 have hl := M.okP_len r0
 obtain ⟨g1, g2, g3, g4, g5, g6, g7⟩ := M.okP_bd r0
 revert v_r; apply opn
 intro b1 o1 hr1
 revert v_p; apply opn
 intro b4 o4 A2 c2 h2 bl2 bh2 A3 c3 h3 bl3 bh3 hr4
 refine enter @Try.func75 @Try.ntmps75 rfl rfl ?_
 refine zent ?_
 refine zS <| za zeh fun b5 => zJ <| zS <| Qm rfl <| Qc rfl <| Qf fh rfl <| QC (hr4 2 _ rfl) rfl <| Qe rfl rfl <| JL.nil ?_
 refine zi (fun h6 h6' => ?_) fun h6 h6' => ?_
 ·
  have hE := M.viewP_1 (r := r) (p := p) (by have := h6'; omega)
  refine zS <| Qm rfl <| Qm rfl <| zc rfl (fun w hw => c_spec_l04Turn r p (ok_ hw) (ok_ hw) (r0 := r0)) ?_
  intro A8 c8 bl8 bh8 A9 c9 bl9 bh9
  have hq0 : ((M.turnP r p).pits) = (M.viewP r p).pits := by rw [hE]
  have hq1 : ((M.turnP r p).stores) = (M.viewP r p).stores := by rw [hE]
  have hq2 : ((M.turnP r p).player) = (M.viewP r p).player := by rw [hE]
  refine zw 2 rfl rfl rfl ?_
  refine JL.nil ?_
  exact zro (Up.refl _ _)
 have hE := M.viewP_0 (r := r) (p := p) (by have := h6'; omega)
 refine Js.skip <| zS <| Qm rfl <| zc rfl (fun w hw => c_spec_l04Own p (ok_ hw)) ?_
 intro A11 c11 bl11 bh11 A12 c12 bl12 bh12
 have hq0 : p.pits = (M.viewP r p).pits := by rw [hE]
 have hq1 : p.stores = (M.viewP r p).stores := by rw [hE]
 have hq2 : p.player = (M.viewP r p).player := by rw [hE]
 refine zw 2 rfl rfl rfl ?_
 refine JL.nil ?_
 exact zro (Up.refl _ _)

set_option maxHeartbeats 1000000 in
theorem c_spec_l20Find (b : M.Boo) {v_b : Value} (q : List Int) {v_q : Value} {w : World} (h_b : (Ty.ref (cBook b)).ok w v_b) (h_q : (Ty.ints 2 q).ok w v_q) (r0 : b.entries.length ≤ 4194304 := by exact om_) (r1 : ∀ x ∈ b.entries, x.pits.length ≤ 4194304 ∧ x.choices.length ≤ 4194304 := by exact om_) (r2 : q.length ≤ 4194304 := by exact om_) : RetV Try.prog 74 [v_b, v_q] w (.tuple #[.int .i64 (M.findE b.entries q : Int), .bool (M.hasE b.entries q)]) := by
 revert v_b; apply opn
 intro b2 o2 A1 c1 h1 bl1 bh1 hr2
 revert v_q; apply opn
 intro A3 c3 h3 bl3 bh3
 have h_q := h3
 refine enter @Try.func74 @Try.ntmps74 rfl rfl ?_
 refine zent ?_
 refine zS <| Qa rfl <| Qa rfl <| zJ <| zS <| Qa rfl <| JL.nil <| Js.block ?_
 refine zl [0, 1] (fun F U l os u m => ∃ (k : Nat), l = F [(6, .int .i64 (k : Int))] ∧ os = U [] ∧ (k + M.findE (b.entries.drop k) q = M.findE b.entries q) ∧ (k ≤ b.entries.length) ∧ m = b.entries.length - k) ⟨0, rfl, rfl, by simp, zt, rfl⟩ ?_
 rintro _ _ u4 _ ⟨k, rfl, rfl, hL, hk, rfl⟩ x4
 refine zn ?_
 refine Js.seq <| zS <| Qm rfl <| Qm rfl <| Qc rfl <| Qf fh rfl <| QC ((hr2.vis x4.vis) 9 _ rfl) rfl <| Qz rfl <| Ql rfl rfl <| JL.nil ?_
 refine zi (fun h5 h5' => ?_) fun h5 h5' => ?_
 ·
  have hkk : k < b.entries.length := by have := h5'; omega
  obtain ⟨e1_, e2_⟩ := r1 _ (M.ent_mem (es := b.entries) (k := k) hkk)
  have hy6 : b.entries[k]? = some (M.ent b.entries k) := M.ent_get (by omega)
  obtain ⟨b6, o6, A6_0, c6_0, A6_1, c6_1, he6, hr6, h6_0, h6_1, bl6_0, bh6_0, bl6_1, bh6_1⟩ := elem_BookEntry (Ty.mono _ h1 x4.vis) hy6
  refine Js.skip <| Js.seq <| Js.block <| zS <| Qm rfl <| Qc rfl <| Qf fh rfl <| QC ((hr2.vis x4.vis) 9 _ rfl) rfl <| Qm rfl <| Qq (p_indexAddr el_30 rfl rfl (by omega) (by omega) he6) <| Qf fh rfl <| QC (hr6 0 _ rfl) rfl <| Qm rfl <| zv rfl (fun w hw => c_spec_l04Lists ((M.ent b.entries k).pits) q (ok_ hw) (ok_ hw)) ?_
  refine Qa rfl <| zN <| Qm rfl <| Qh rfl rfl <| JL.nil ?_
  refine zi (fun h7 h7' => ?_) fun h7 h7' => ?_
  ·
   have hE := M.findE_hit hL hkk (by have := h7'; omega)
   have hE2 := M.hasE_hit hE hkk
   refine zS <| Qm rfl <| Qm rfl <| Qe rfl rfl <| Qa rfl <| Qa rfl <| JL.nil ?_
   refine zR x4 ?_
   rw [hE, hE2]; rfl
  have hL2 := M.findE_step hL hkk (by have := h7'; omega)
  refine Js.skip <| Js.blockEnd <| Js.region <| Qm rfl <| Qp rfl rfl <| Qa rfl <| JL.nil ?_
  exact zag ⟨k + 1, rfl, rfl, by exact hL2, zt, rfl⟩ x4
 have hE := M.findE_end hL (by have := h5'; omega) hk
 have hE2 := M.hasE_end hE
 refine zx ?_
 refine zS <| Qm rfl <| Qc rfl <| Qf fh rfl <| QC ((hr2.vis x4.vis) 9 _ rfl) rfl <| Qz rfl <| Qa rfl <| Qa rfl <| JL.nil ?_
 refine zR x4 ?_
 rw [hE, hE2]; rfl

set_option maxHeartbeats 1000000 in
theorem c_spec_l20Choices (b : M.Boo) {bb_p ob_p : Nat} {Ab_9 : Option Addr} {cb_9 : Nat} (p : M.Pos) {v_p : Value} {w : World} (heb_9 : (Ty.sl 65 2 b.entries.length (lBookEntry b.entries)).ok w (.slice Ab_9 b.entries.length cb_9)) (hrb : RowAt w bb_p ob_p [.int .i64 b.rules.pits, .int .i64 b.rules.seeds, .bool b.rules.stores, .bool b.rules.skip, .bool b.rules.relay, .bool b.rules.feed, .bool b.rules.again, .int .i64 b.rules.capture, .int .i64 b.rules.slam, .slice Ab_9 b.entries.length cb_9]) (h_p : (Ty.ref (cPosition p)).ok w v_p) (bd0 : b.entries.length ≤ cb_9 := by exact om_) (bd1 : cb_9 ≤ 9223372036854775807 := by exact om_) (r0 : b.entries.length ≤ 4194304 := by exact om_) (r1 : ∀ x ∈ b.entries, x.pits.length ≤ 4194304 ∧ x.choices.length ≤ 4194304 := by exact om_) (r2 : M.okP b.rules p = true := by exact om_) : RetX Try.prog 51 [.pointer (some ⟨bb_p, ob_p, none⟩), v_p] w (fun v => ∃ x, v = .tuple #[x, .bool (M.hasE b.entries (M.viewP b.rules p).pits)] ∧ (M.hasE b.entries (M.viewP b.rules p).pits = false → x = .slice none 0 0) ∧ (M.hasE b.entries (M.viewP b.rules p).pits = true → ∃ y, EltAt w 2 Ab_9 b.entries.length cb_9 (M.findE b.entries (M.viewP b.rules p).pits) [y, x])) := by
 have hv := M.viewP_len r2
 have hb1 : (M.Boo.mk b.rules b.entries) = b := rfl
 revert v_p; apply opn
 intro b3 o3 A1 c1 h1 bl1 bh1 A2 c2 h2 bl2 bh2 hr3
 refine enter @Try.func51 @Try.ntmps51 rfl rfl ?_
 refine zent ?_
 refine zS <| Qa rfl <| Qa rfl <| zN <| Qm rfl <| Qm rfl <| Qc rfl <| Qf fh rfl <| Qm rfl <| zc rfl (fun w hw => c_spec_l04View b.rules p (ok_ hw) (ok_ hw) (r0 := r2)) ?_
 intro A5 c5 bl5 bh5 A6 c6 bl6 bh6
 refine Qi fh rfl rfl <| zv rfl (fun w hw => c_spec_l20Find b ((M.viewP b.rules p).pits) (ok_ hw) (ok_ hw) (r1 := r1)) <| Qm rfl <| Qx rfl rfl <| Qx rfl rfl <| Qa rfl <| Qa rfl <| zJ <| zS <| Qm rfl <| Qt rfl <| JL.nil ?_
 refine zi (fun h7 h7' => ?_) fun h7 h7' => ?_
 ·
  have hno : M.hasE b.entries (M.viewP b.rules p).pits = false := by simpa using h7
  refine zS <| Qa rfl <| Qa rfl <| JL.nil ?_
  refine zX (Up.refl _ _) ?_
  exact ⟨_, by rw [hno], fun _ => rfl, fun h => absurd (hno.symm.trans h) (by decide)⟩
 have hyes : M.hasE b.entries (M.viewP b.rules p).pits = true := by simpa using h7
 have hlt := M.hasE_lt hyes
 have hy8 : b.entries[(M.findE b.entries ((M.viewP b.rules p).pits) : Int).toNat]? = some (M.ent b.entries ((M.findE b.entries ((M.viewP b.rules p).pits) : Int).toNat)) := M.ent_get (by omega)
 obtain ⟨b8, o8, A8_0, c8_0, A8_1, c8_1, he8, hr8, h8_0, h8_1, bl8_0, bh8_0, bl8_1, bh8_1⟩ := elem_BookEntry heb_9 hy8
 refine Js.skip <| zS <| Qm rfl <| Qc rfl <| Qf fh rfl <| QC (hrb 9 _ rfl) rfl <| Qm rfl <| Qq (p_indexAddr el_30 rfl rfl (by omega) (by omega) he8) <| Qf fh rfl <| QC (hr8 1 _ rfl) rfl <| Qa rfl <| Qa rfl <| JL.nil ?_
 refine zX (Up.refl _ _) ?_
 exact ⟨_, by rw [hyes], fun h => absurd (hyes.symm.trans h) (by decide), fun _ => ⟨_, _, _, he8, hr8⟩⟩

set_option maxHeartbeats 1000000 in
theorem c_spec_LookUp (b : M.Boo) {v_b : Value} (p : M.Pos) {v_p : Value} {w : World} (h_b : (Ty.agg (cBook b)).ok w v_b) (h_p : (Ty.agg (cPosition p)).ok w v_p) (r0 : b.entries.length ≤ 4194304 := by exact om_) (r1 : ∀ x ∈ b.entries, x.pits.length ≤ 4194304 ∧ x.choices.length ≤ 4194304 := by exact om_) (r2 : p.pits.length ≤ 4194304 := by exact om_) (r3 : p.stores.length ≤ 4194304 := by exact om_) : Ret Try.prog 22 [v_b, v_p] w (Ty.tup [Ty.sl 73 3 (M.lookR b p).length (lChoice (M.lookR b p)), Ty.int (M.lookC b p)]) := by
 revert v_b; apply opn
 intro A1 c1 h1 bl1 bh1
 revert v_p; apply opn
 intro A2 c2 h2 bl2 bh2 A3 c3 h3 bl3 bh3
 refine enter @Try.func22 @Try.ntmps22 rfl rfl ?_
 refine zent ?_
 refine zS <| zb rfl fun b4 => zb rfl fun b5 => Qa rfl <| Qa rfl <| zJ <| zS <| zv rfl (fun w hw => c_spec_l20Ok b (ok_ hw) (r1 := r1)) <| Qt rfl <| Qm rfl <| zg (Gd.f1 rfl rfl rfl) (fun hc => p_fieldAddr fld_32_0.h rfl) <| zgv (Gd.f1 rfl rfl rfl) (fun hc => (opds_2 (gh hc rfl) rfl)) (fun hc => (fun w hw => c_spec_l04Ok b.rules p ⟨_, _, [.int .i64 b.rules.pits, .int .i64 b.rules.seeds, .bool b.rules.stores, .bool b.rules.skip, .bool b.rules.relay, .bool b.rules.feed, .bool b.rules.again, .int .i64 b.rules.capture, .int .i64 b.rules.slam], rfl, ⟨rfl, rfl, rfl, rfl, rfl, rfl, rfl, rfl, rfl, trivial⟩, Mem.boxR (i := 1) rfl 0 9 _ hw⟩ (ok_ hw) (r0 := (by have hc9 := hc; (try simp only [Bool.not_eq_true', Bool.not_eq_false'] at hc9); omega)) (r1 := (by have hc9 := hc; (try simp only [Bool.not_eq_true', Bool.not_eq_false'] at hc9); omega)))) ?_
 refine zg (Gd.f1 rfl rfl rfl) (fun hc => p_not (gh hc rfl)) <| Qq (p_pickOr rfl rfl rfl) <| JL.nil ?_
 refine zi (fun h6 h6' => ?_) fun h6 h6' => ?_
 ·
  have hno : ¬ (M.okB b = true ∧ M.okP b.rules p = true) := by have h9 := h6; rintro ⟨a1, a2⟩; rw [a1, a2] at h9; simp at h9
  have hE := M.lookR_no hno
  have hC := M.lookC_no hno
  have hq0 : [] = M.lookR b p := by first | (rw [hE]; done) | (rw [hC]; done) | exact hE2
  have hq1 : 1 = M.lookC b p := by first | (rw [hE]; done) | (rw [hC]; done) | exact hE2
  refine zS <| Qa rfl <| Qa rfl <| JL.nil ?_
  exact zro (Up.refl _ _)
 have hok : M.okB b = true ∧ M.okP b.rules p = true := by have h9 := h6; simpa using h9
 have hel := M.lookE_mem (pits := (M.viewP b.rules p).pits) (n := 4194304) (fun x hx => (r1 x hx).2)
 have hE := M.lookR_yes hok
 refine Js.skip <| zS <| zxc (fun v => ∃ x, v = .tuple #[x, .bool (M.hasE (b).entries (M.viewP (b).rules p).pits)] ∧ (M.hasE (b).entries (M.viewP (b).rules p).pits = false → x = .slice none 0 0) ∧ (M.hasE (b).entries (M.viewP (b).rules p).pits = true → ∃ A c, x = .slice A (M.lookE (b).entries (M.viewP (b).rules p).pits).length c ∧ (Ty.sl 73 3 (M.lookE (b).entries (M.viewP (b).rules p).pits).length (lChoice (M.lookE (b).entries (M.viewP (b).rules p).pits))).ok w (.slice A (M.lookE (b).entries (M.viewP (b).rules p).pits).length c) ∧ (M.lookE (b).entries (M.viewP (b).rules p).pits).length ≤ c ∧ c ≤ 9223372036854775807)) rfl (fun w hw => c_spec_l20Choices b p (Ty.mono _ h1 hw.vis) (Mem.boxR (i := 1) rfl 0 10 _ hw) (ok_ hw) (r1 := r1) (r2 := hok.2)) (fun w9 v9 hw9 ⟨x, g1_, g2_, g3_⟩ => ⟨x, g1_, g2_, fun hh => by obtain ⟨y, g4_⟩ := g3_ hh; rw [M.hasE_look hh]; exact alias_ent hw9 h1 (M.hasE_lt hh) g4_⟩) ?_
 rintro _ ⟨x7, rfl, hz7, ho7⟩
 refine Qm rfl <| Qx rfl rfl <| Qx rfl rfl <| Qa rfl <| Qa rfl <| zJ <| zS <| Qm rfl <| Qt rfl <| JL.nil ?_
 refine zi (fun h8 h8' => ?_) fun h8 h8' => ?_
 ·
  have hh : M.hasE b.entries (M.viewP b.rules p).pits = false := by simpa using h8
  have hnil := M.look_none (M.okB_sort hok.1) hh
  have hC := M.lookC_3 hok (by rw [hnil]; rfl)
  have hE2 : [] = M.lookR b p := by rw [hE, hnil]
  have hq0 : [] = M.lookR b p := by first | (rw [hE]; done) | (rw [hC]; done) | exact hE2
  have hq1 : 3 = M.lookC b p := by first | (rw [hE]; done) | (rw [hC]; done) | exact hE2
  refine zS <| Qa rfl <| Qa rfl <| JL.nil ?_
  exact zro (Up.refl _ _)
 have hh : M.hasE b.entries (M.viewP b.rules p).pits = true := by simpa using h8
 have hpos := M.has_len hok.1 hh
 have hC := M.lookC_0 hok (by omega)
 obtain ⟨A9, c9, rfl, hf9, bl9, bh9⟩ := ho7 (by simpa using h8)
 refine Js.skip <| zS <| zbs fun b10 => ?_
 refine Qm rfl ?_
 refine JL.e (e_append (i := 0) (n' := (M.lookE (b).entries (M.viewP (b).rules p).pits).length) (vs' := fltV vcChoice (M.lookE (b).entries (M.viewP (b).rules p).pits)) el_50 rfl rfl rfl rfl (src_flat lChoice und_50 rfl hf9) (by omega) (by omega) (by first | omega | (simp only [List.length_append, List.length_cons, List.length_nil] <;> omega)) (by first | rfl | exact fltV_app _ _ _ | exact fltV_snoc _ _ _ | (simp [fltV]; done))) ?_
 rintro v12 _ _ ⟨⟨g13, rfl⟩, rfl⟩ _
 refine JL.fact (row_form' (i := 0) rfl) (fun hf14 => ?_)
 obtain ⟨A14, c14, rfl, bl14, bh14⟩ := hf14
 refine znl ?_
 have hq0 : (M.lookE (b).entries (M.viewP (b).rules p).pits) = M.lookR b p := by first | (rw [hE]; done) | (rw [hC]; done) | exact hE2
 have hq1 : 0 = M.lookC b p := by first | (rw [hE]; done) | (rw [hC]; done) | exact hE2
 refine Qa rfl <| Qa rfl <| JL.nil ?_
 exact zro (Up.refl _ _) (g := by exact (gv_tup (gvc (gv_flat lChoice (xs := (M.lookE (b).entries (M.viewP (b).rules p).pits)) po_ (by first | rfl | (simp [fltV]; done)) (by first | with_reducible rfl | assumption | rfl)) (gvc gv_ gvn))))

set_option maxHeartbeats 1000000 in
theorem c_spec_l20Better (c : M.Cho) {v_c : Value} (t : M.Cho) {v_t : Value} {w : World} (h_c : (Ty.agg (cChoice c)).ok w v_c) (h_t : (Ty.agg (cChoice t)).ok w v_t) (r0 : 0 ≤ c.score := by exact om_) (r1 : c.score ≤ 2000000 := by exact om_) (r2 : 1 ≤ c.games := by exact om_) (r3 : c.games ≤ 1000000 := by exact om_) (r4 : 0 ≤ t.score := by exact om_) (r5 : t.score ≤ 2000000 := by exact om_) (r6 : 1 ≤ t.games := by exact om_) (r7 : t.games ≤ 1000000 := by exact om_) : RetV Try.prog 72 [v_c, v_t] w (.bool (M.better c t)) := by
 have m1 := M.mulC_bd r0 r1 r6 r7
 have m2 := M.mulC_bd r4 r5 r2 r3
 revert v_c; apply opn
 revert v_t; apply opn
 refine enter @Try.func72 @Try.ntmps72 rfl rfl ?_
 refine zent ?_
 refine zS <| zb rfl fun b1 => zb rfl fun b2 => Qa rfl <| zN <| Qf fh rfl <| Q0 1 rfl rfl rfl <| Qf fh rfl <| Q0 0 rfl rfl rfl <| Qu rfl rfl <| Qa rfl <| zN <| Qf fh rfl <| Q0 0 rfl rfl rfl ?_
 refine Qf fh rfl <| Q0 1 rfl rfl rfl <| Qu rfl rfl <| Qa rfl <| zN <| Qm rfl <| Qm rfl <| Qg rfl rfl <| Qm rfl <| zg (Gd.f1 rfl rfl rfl) (fun hc => p_move rfl) <| zg (Gd.f1 rfl rfl rfl) (fun hc => p_move rfl) <| zg (Gd.f1 rfl rfl rfl) (fun hc => p_eql (gh hc rfl) (gh hc rfl)) <| zg (Gd.f1 rfl rfl rfl) (fun hc => p_move (gh hc rfl)) <| zg (Gd.t2 rfl rfl rfl) (fun hc => p_fieldAddr fld_73_1.h rfl) ?_
 refine zgq (Gd.t2 rfl rfl rfl) (fun hc => q_load1 ty_2.h (gh hc rfl) (Mem.box (i := 1) rfl rfl)) <| zg (Gd.t2 rfl rfl rfl) (fun hc => p_fieldAddr fld_73_1.h rfl) <| zgq (Gd.t2 rfl rfl rfl) (fun hc => q_load1 ty_2.h (gh hc rfl) (Mem.box (i := 0) rfl rfl)) <| zg (Gd.t2 rfl rfl rfl) (fun hc => p_gtr (gh hc rfl) (gh hc rfl)) <| zg (Gd.f1 rfl rfl rfl) (fun hc => p_pickAnd (gh hc rfl) (gvl rfl hc) rfl) <| Qq (p_pickOr rfl rfl rfl) <| Qa rfl <| JL.nil ?_
 refine zR (Up.refl _ _) ?_
 rfl

set_option maxHeartbeats 1000000 in
theorem c_spec_l20Choose (b : M.Boo) {v_b : Value} (p : M.Pos) {v_p : Value} {w : World} (h_b : (Ty.ref (cBook b)).ok w v_b) (h_p : (Ty.ref (cPosition p)).ok w v_p) (r0 : b.entries.length ≤ 4194304 := by exact om_) (r1 : ∀ x ∈ b.entries, x.pits.length ≤ 4194304 ∧ x.choices.length ≤ 4194304 := by exact om_) (r2 : M.okP b.rules p = true := by exact om_) (r3 : M.okB b = true := by exact om_) : RetV Try.prog 47 [v_b, v_p] w (.tuple #[.int .i64 (if M.hasE b.entries (M.viewP b.rules p).pits = true then (M.cbest (M.lookE b.entries (M.viewP b.rules p).pits)).move else 0), .bool (M.hasE b.entries (M.viewP b.rules p).pits)]) := by
 have hcb := M.lookE_b r3 (M.viewP b.rules p).pits
 have hel := M.lookE_mem (pits := (M.viewP b.rules p).pits) (n := 4194304) (fun x hx => (r1 x hx).2)
 revert v_b; apply opn
 intro b2 o2 A1 c1 h1 bl1 bh1 hr2
 revert v_p; apply opn
 intro b5 o5 A3 c3 h3 bl3 bh3 A4 c4 h4 bl4 bh4 hr5
 refine enter @Try.func47 @Try.ntmps47 rfl rfl ?_
 refine zent ?_
 refine zS <| Qa rfl <| Qa rfl <| zN <| Qm rfl <| Qm rfl <| zxc (fun v => ∃ x, v = .tuple #[x, .bool (M.hasE (b).entries (M.viewP (b).rules p).pits)] ∧ (M.hasE (b).entries (M.viewP (b).rules p).pits = false → x = .slice none 0 0) ∧ (M.hasE (b).entries (M.viewP (b).rules p).pits = true → ∃ A c, x = .slice A (M.lookE (b).entries (M.viewP (b).rules p).pits).length c ∧ (Ty.sl 73 3 (M.lookE (b).entries (M.viewP (b).rules p).pits).length (lChoice (M.lookE (b).entries (M.viewP (b).rules p).pits))).ok w (.slice A (M.lookE (b).entries (M.viewP (b).rules p).pits).length c) ∧ (M.lookE (b).entries (M.viewP (b).rules p).pits).length ≤ c ∧ c ≤ 9223372036854775807)) rfl (fun w hw => c_spec_l20Choices b p (Ty.mono _ h1 hw.vis) (hr2.vis hw.vis) (ok_ hw) (r1 := r1) (r2 := r2)) (fun w9 v9 hw9 ⟨x, g1_, g2_, g3_⟩ => ⟨x, g1_, g2_, fun hh => by obtain ⟨y, g4_⟩ := g3_ hh; rw [M.hasE_look hh]; exact alias_ent hw9 h1 (M.hasE_lt hh) g4_⟩) ?_
 rintro _ ⟨x6, rfl, hz6, ho6⟩
 refine Qm rfl <| Qx rfl rfl <| Qx rfl rfl <| Qa rfl <| Qa rfl <| zJ <| zS <| Qm rfl <| Qt rfl <| JL.nil ?_
 refine zi (fun h7 h7' => ?_) fun h7 h7' => ?_
 ·
  have hh : M.hasE b.entries (M.viewP b.rules p).pits = false := by simpa using h7
  refine zS <| Qa rfl <| Qa rfl <| JL.nil ?_
  refine zR (Up.refl _ _) ?_
  first | (rw [hh]; rfl) | (rw [hh, if_pos rfl, hE]; rfl)
 have hh : M.hasE b.entries (M.viewP b.rules p).pits = true := by simpa using h7
 have hpos := M.has_len r3 hh
 obtain ⟨A8, c8, rfl, hf8, bl8, bh8⟩ := ho6 (by simpa using h7)
 obtain ⟨b1_, b2_, b3_, b4_⟩ := hcb _ (M.cho_mem hpos)
 have hy9 : (M.lookE (b).entries (M.viewP (b).rules p).pits)[0]? = some (M.cho (M.lookE (b).entries (M.viewP (b).rules p).pits) 0) := M.cho_get (by omega)
 obtain ⟨b9, o9, he9, hr9⟩ := elem_Choice hf8 hy9
 refine Js.skip <| zS <| Qm rfl <| Qq (p_indexAddr el_50 rfl rfl (by omega) (by omega) he9) <| QS 0 hr9 rfl ?_
 refine za zeh fun b10 => zw 0 rfl rfl rfl ?_
 refine zJ <| zS <| Qa rfl <| JL.nil <| Js.block ?_
 refine zl [6, 8] (fun F U l os u m => ∃ (k : Nat) (x : M.Cho), l = F [(9, .int .i64 (k : Int))] ∧ os = U [some (boxO b10 [.int .i64 x.move, .int .i64 x.games, .int .i64 x.score] 73)] ∧ (M.cbF x ((M.lookE b.entries (M.viewP b.rules p).pits).drop k) = M.cbest (M.lookE b.entries (M.viewP b.rules p).pits)) ∧ (k ≤ (M.lookE b.entries (M.viewP b.rules p).pits).length) ∧ (1 ≤ k) ∧ (1 ≤ x.games) ∧ (x.games ≤ 1000000) ∧ (0 ≤ x.score) ∧ (x.score ≤ 2000000) ∧ m = (M.lookE b.entries (M.viewP b.rules p).pits).length - k) ⟨1, (M.cho (M.lookE (b).entries (M.viewP (b).rules p).pits) 0), rfl, rfl, by exact M.cbest_one hpos, zt, zt, zt, zt, zt, zt, rfl⟩ ?_
 rintro _ _ u11 _ ⟨k, x, rfl, rfl, hB, hk, hk1, x1_, x2_, x3_, x4_, rfl⟩ x11
 refine zn ?_
 refine Js.seq <| zS <| Qm rfl <| Qm rfl <| Qz rfl <| Ql rfl rfl <| JL.nil ?_
 refine zi (fun h12 h12' => ?_) fun h12 h12' => ?_
 ·
  have hkk : k < (M.lookE b.entries (M.viewP b.rules p).pits).length := by have := h12'; omega
  obtain ⟨c1_, c2_, c3_, c4_⟩ := hcb _ (M.cho_mem hkk)
  refine Js.skip <| Js.seq <| Js.block <| Js.seq ?_
  refine zdr [] ?_
  refine JH.p 0 rfl (p_move rfl) ?_
  refine JH.p 1 rfl (p_move rfl) ?_
  have hy13 : (M.lookE (b).entries (M.viewP (b).rules p).pits)[k]? = some (M.cho (M.lookE (b).entries (M.viewP (b).rules p).pits) k) := M.cho_get (by omega)
  obtain ⟨b13, o13, he13, hr13⟩ := elem_Choice (Ty.mono _ hf8 x11.vis) hy13
  refine JH.p 2 rfl (p_indexAddr el_50 rfl rfl (by omega) (by omega) he13) ?_
  refine JH.w 3 rfl (fun os' u' hv => LS 0 (hr13.vis hv) rfl) ?_
  refine JH.q 4 rfl (L9 0 rfl rfl) ?_
  refine y1 5 ?_
  refine yv rfl rfl (fun w hw => c_spec_l20Better (M.cho (M.lookE (b).entries (M.viewP (b).rules p).pits) k) x (ok_ hw) (ok_ hw)) ?_
  refine yd ?_
  refine zi (fun h14 h14' => ?_) fun h14 h14' => ?_
  ·
   have hB2 := M.cbF_yes hB hkk h14
   have hy15 : (M.lookE (b).entries (M.viewP (b).rules p).pits)[k]? = some (M.cho (M.lookE (b).entries (M.viewP (b).rules p).pits) k) := M.cho_get (by omega)
   obtain ⟨b15, o15, he15, hr15⟩ := elem_Choice (Ty.mono _ hf8 x11.vis) hy15
   refine Js.region <| Qm rfl <| Qm rfl <| Qq (p_indexAddr el_50 rfl rfl (by omega) (by omega) he15) <| QS 0 hr15 rfl ?_
   refine zw 0 rfl rfl rfl ?_
   refine JL.nil <| Js.blockEnd <| Js.region <| Qm rfl <| Qp rfl rfl <| Qa rfl <| JL.nil ?_
   exact zag ⟨k + 1, (M.cho (M.lookE (b).entries (M.viewP (b).rules p).pits) k), rfl, rfl, by exact hB2, zt, zt, zt, zt, zt, zt, rfl⟩ x11
  have hB2 := M.cbF_no hB hkk h14
  refine Js.skip <| Js.blockEnd <| Js.region <| Qm rfl <| Qp rfl rfl <| Qa rfl <| JL.nil ?_
  exact zag ⟨k + 1, x, rfl, rfl, by exact hB2, zt, zt, zt, zt, zt, zt, rfl⟩ x11
 have hE := M.cbF_end hB (by have := h12'; omega)
 refine zx ?_
 refine zS <| Qf fh rfl <| Q0 0 rfl rfl rfl <| Qa rfl <| Qa rfl <| JL.nil ?_
 refine zR x11 ?_
 first | (rw [hh]; rfl) | (rw [hh, if_pos rfl, hE]; rfl)

set_option maxHeartbeats 1000000 in
theorem c_spec_ChooseMove (b : M.Boo) {v_b : Value} (p : M.Pos) {v_p : Value} {w : World} (h_b : (Ty.agg (cBook b)).ok w v_b) (h_p : (Ty.agg (cPosition p)).ok w v_p) (r0 : b.entries.length ≤ 4194304 := by exact om_) (r1 : ∀ x ∈ b.entries, x.pits.length ≤ 4194304 ∧ x.choices.length ≤ 4194304 := by exact om_) (r2 : p.pits.length ≤ 4194304 := by exact om_) (r3 : p.stores.length ≤ 4194304 := by exact om_) : RetV Try.prog 18 [v_b, v_p] w (.tuple #[.int .i64 (M.chooseR b p), .int .i64 (M.lookC b p)]) := by
 revert v_b; apply opn
 intro A1 c1 h1 bl1 bh1
 revert v_p; apply opn
 intro A2 c2 h2 bl2 bh2 A3 c3 h3 bl3 bh3
 refine enter @Try.func18 @Try.ntmps18 rfl rfl ?_
 refine zent ?_
 refine zS <| zb rfl fun b4 => zb rfl fun b5 => Qa rfl <| Qa rfl <| zJ <| zS <| zv rfl (fun w hw => c_spec_l20Ok b (ok_ hw) (r1 := r1)) <| Qt rfl <| Qm rfl <| zg (Gd.f1 rfl rfl rfl) (fun hc => p_fieldAddr fld_32_0.h rfl) <| zgv (Gd.f1 rfl rfl rfl) (fun hc => (opds_2 (gh hc rfl) rfl)) (fun hc => (fun w hw => c_spec_l04Ok b.rules p ⟨_, _, [.int .i64 b.rules.pits, .int .i64 b.rules.seeds, .bool b.rules.stores, .bool b.rules.skip, .bool b.rules.relay, .bool b.rules.feed, .bool b.rules.again, .int .i64 b.rules.capture, .int .i64 b.rules.slam], rfl, ⟨rfl, rfl, rfl, rfl, rfl, rfl, rfl, rfl, rfl, trivial⟩, Mem.boxR (i := 1) rfl 0 9 _ hw⟩ (ok_ hw) (r0 := (by have hc9 := hc; (try simp only [Bool.not_eq_true', Bool.not_eq_false'] at hc9); omega)) (r1 := (by have hc9 := hc; (try simp only [Bool.not_eq_true', Bool.not_eq_false'] at hc9); omega)))) ?_
 refine zg (Gd.f1 rfl rfl rfl) (fun hc => p_not (gh hc rfl)) <| Qq (p_pickOr rfl rfl rfl) <| JL.nil ?_
 refine zi (fun h6 h6' => ?_) fun h6 h6' => ?_
 ·
  have hno : ¬ (M.okB b = true ∧ M.okP b.rules p = true) := by have h9 := h6; rintro ⟨a1, a2⟩; rw [a1, a2] at h9; simp at h9
  have hC := M.lookC_no hno
  have hE := M.chooseR_n (b := b) (p := p) (by rw [hC]; decide)
  refine zS <| Qa rfl <| Qa rfl <| JL.nil ?_
  refine zR (Up.refl _ _) ?_
  first | (rw [hE, hC]; rfl) | (rw [hE, hC, if_pos hh]; rfl)
 have hok : M.okB b = true ∧ M.okP b.rules p = true := by have h9 := h6; simpa using h9
 have hel := M.lookE_mem (pits := (M.viewP b.rules p).pits) (n := 4194304) (fun x hx => (r1 x hx).2)
 refine Js.skip <| zS <| zv rfl (fun w hw => c_spec_l20Choose b p (ok_ hw) (ok_ hw) (r1 := r1) (r2 := hok.2) (r3 := hok.1)) <| Qm rfl <| Qx rfl rfl <| Qx rfl rfl <| Qa rfl <| Qa rfl <| zJ <| zS <| Qm rfl <| Qt rfl <| JL.nil ?_
 refine zi (fun h7 h7' => ?_) fun h7 h7' => ?_
 ·
  have hh : M.hasE b.entries (M.viewP b.rules p).pits = false := by simpa using h7
  have hnil := M.look_none (M.okB_sort hok.1) hh
  have hC := M.lookC_3 hok (by rw [hnil]; rfl)
  have hE := M.chooseR_n (b := b) (p := p) (by rw [hC]; decide)
  refine zS <| Qa rfl <| Qa rfl <| JL.nil ?_
  refine zR (Up.refl _ _) ?_
  first | (rw [hE, hC]; rfl) | (rw [hE, hC, if_pos hh]; rfl)
 have hh : M.hasE b.entries (M.viewP b.rules p).pits = true := by simpa using h7
 have hpos := M.has_len hok.1 hh
 have hC := M.lookC_0 hok (by omega)
 have hE := M.chooseR_0 hC
 refine Js.skip <| zS <| Qm rfl <| Qa rfl <| Qa rfl <| JL.nil ?_
 refine zR (Up.refl _ _) ?_
 first | (rw [hE, hC]; rfl) | (rw [hE, hC, if_pos hh]; rfl)

end Go.Proofs.Ytcmfnlleikcpnaa

namespace Go.Proofs.Ytcmfnlleikcpnaa
open Go.RowKit

set_option maxHeartbeats 1000000 in
theorem c_laws_szInt64S (a : List Int) {v_a : Value} (left : Int) {w : World} (h_a : (Ty.ints 2 a).ok w v_a) (r0 : -1 ≤ left := by exact om_) (r1 : left ≤ 1048576 := by exact om_) : RetV Try.prog 45 [v_a, .int .i64 left] w (.int .i64 (M.szL a.length left)) := by
 have q1 := M.szL_cases a.length left
 revert v_a; apply opn
 intro A1 c1 h1 bl1 bh1
 have h_a := h1
 refine enter @Try.func45 @Try.ntmps45 rfl rfl ?_
 refine zent ?_
 refine zS <| Qa rfl <| zN <| Qm rfl <| Qm rfl <| Qz rfl <| Qs rfl rfl <| Qa rfl <| zJ <| zS <| Qm rfl <| Ql rfl rfl <| JL.nil ?_
 refine zi (fun h2 h2' => ?_) fun h2 h2' => ?_
 ·
  refine zS <| Qa rfl <| JL.nil ?_
  refine zR (Up.refl _ _) ?_
  refine congrArg (fun n => Ending.returned (Value.int .i64 n)) ?_; omega
 refine Js.skip <| zS <| Qm rfl <| Qa rfl <| JL.nil ?_
 refine zR (Up.refl _ _) ?_
 refine congrArg (fun n => Ending.returned (Value.int .i64 n)) ?_; omega

set_option maxHeartbeats 1000000 in
theorem c_laws_szPosition (a : M.Pos) {v_a : Value} (left : Int) {w : World} (h_a : (Ty.agg (cPosition a)).ok w v_a) (r0 : -1 ≤ left := by exact om_) (r1 : left ≤ 1048576 := by exact om_) : RetV Try.prog 17 [v_a, .int .i64 left] w (.int .i64 (M.szP a left)) := by
 have q1 := M.szL_cases a.pits.length left
 have q2 := M.szL_cases a.stores.length (M.szL a.pits.length left)
 have q3 := M.szL_cases (a.pits.length + a.stores.length) left
 revert v_a; apply opn
 intro A1 c1 h1 bl1 bh1 A2 c2 h2 bl2 bh2
 refine enter @Try.func17 @Try.ntmps17 rfl rfl ?_
 refine zent ?_
 refine zS <| zb rfl fun b3 => Qa rfl <| zN <| Qf fh rfl <| Q0 0 rfl rfl rfl <| Qm rfl <| zv rfl (fun w hw => c_laws_szInt64S a.pits left (ok_ hw)) <| Qa rfl <| zJ <| zS <| Qm rfl <| Ql rfl rfl <| JL.nil ?_
 refine zi (fun h4 h4' => ?_) fun h4 h4' => ?_
 ·
  refine zS <| Qa rfl <| JL.nil ?_
  refine zR (Up.refl _ _) ?_
  refine congrArg (fun n => Ending.returned (Value.int .i64 n)) ?_; unfold M.szP; omega
 refine Js.skip <| zS <| Qf fh rfl <| Q0 0 rfl rfl rfl <| Qm rfl <| zv rfl (fun w hw => c_laws_szInt64S a.stores (M.szL a.pits.length left) (ok_ hw)) <| Qa rfl <| zJ <| zS <| Qm rfl <| Ql rfl rfl <| JL.nil ?_
 refine zi (fun h5 h5' => ?_) fun h5 h5' => ?_
 ·
  refine zS <| Qa rfl <| JL.nil ?_
  refine zR (Up.refl _ _) ?_
  refine congrArg (fun n => Ending.returned (Value.int .i64 n)) ?_; unfold M.szP; omega
 refine Js.skip <| zS <| Qm rfl <| Qa rfl <| JL.nil ?_
 refine zR (Up.refl _ _) ?_
 refine congrArg (fun n => Ending.returned (Value.int .i64 n)) ?_; unfold M.szP; omega

set_option maxHeartbeats 1000000 in
theorem c_laws_toInt64S (a : List Int) {v_a : Value} {w : World} (h_a : (Ty.ints 2 a).ok w v_a) (r0 : a.length ≤ 4194304 := by exact om_) : Ret Try.prog 48 [v_a] w (Ty.ints 2 a) := by
 revert v_a; apply opn
 intro A1 c1 h1 bl1 bh1
 have h_a := h1
 refine enter @Try.func48 @Try.ntmps48 rfl rfl ?_
 refine zent ?_
 refine zS <| Qa rfl <| zN <| Qm rfl <| Qz rfl <| zmk (a0 := (a.length : Int)) (m := a.length) (by omega) (by omega) fun b2 => Qa rfl <| zJ <| zS <| Qa rfl <| JL.nil <| Js.block ?_
 refine zl [0, 3] (fun F U l os u m => ∃ (k : Nat) (xs : List Int), l = F [(4, .int .i64 (k : Int))] ∧ os = U [some (rowO 2 1 (.slice (some ⟨b2, 0, none⟩) a.length a.length) a.length (ints_ xs) [])] ∧ (xs = M.cp a k) ∧ (k ≤ a.length) ∧ (xs.length = a.length) ∧ m = a.length - k) ⟨0, List.replicate a.length 0, rfl, rfl, by exact M.cp_zero a, zt, by simp, rfl⟩ ?_
 rintro _ _ u3 _ ⟨k, xs, rfl, rfl, hX, hk, hl, rfl⟩ x3
 refine zn ?_
 refine Js.seq <| zS <| Qm rfl <| Qm rfl <| Qz rfl <| Ql rfl rfl <| JL.nil ?_
 refine zi (fun h4 h4' => ?_) fun h4 h4' => ?_
 ·
  obtain ⟨b5, o5, he5, hc5⟩ := ints_elem (Ty.mono _ h1 x3.vis) (i := k) (by omega)
  refine Js.skip <| Js.seq <| Js.block <| Js.region <| Qm rfl <| Qm rfl <| Qm rfl <| Qm rfl <| Qq (p_indexAddr el_40 rfl rfl (by omega) (by omega) he5) <| QC hc5 rfl <| Qq (p_indexAddr el_40 rfl rfl (by omega) (by omega) rfl) ?_
  refine JL.s (e_storeRow (i := 0) (xs' := ints_ (xs.set k (M.nth a k))) ty_2.h rfl rfl rfl rfl rfl rfl (ints_lt (i := k) (by omega)) (ints_setL (i := k) (by omega))) ?_
  rintro _ _ _ ⟨rfl, rfl⟩ _
  refine znl ?_
  refine JL.nil <| Js.blockEnd <| Js.region <| Qm rfl <| Qp rfl rfl <| Qa rfl <| JL.nil ?_
  exact zag ⟨k + 1, xs.set k (M.nth a k), rfl, rfl, by rw [hX]; exact M.cp_step (by omega), zt, by rw [List.length_set]; exact hl, rfl⟩ x3
 have hE : xs = a := by rw [hX]; exact M.cp_all a (by have := h4'; omega)
 refine zx ?_
 have hq0 : xs = a := by exact hE
 refine zS <| Qm rfl <| Qa rfl <| JL.nil ?_
 exact zro x3

set_option maxHeartbeats 1000000 in
theorem c_laws_toPosition (a : M.Pos) {v_a : Value} {w : World} (h_a : (Ty.agg (cPosition a)).ok w v_a) (r0 : a.pits.length ≤ 4194304 := by exact om_) (r1 : a.stores.length ≤ 4194304 := by exact om_) : Ret Try.prog 19 [v_a] w (Ty.agg (cPosition a)) := by
 revert v_a; apply opn
 intro A1 c1 h1 bl1 bh1 A2 c2 h2 bl2 bh2
 refine enter @Try.func19 @Try.ntmps19 rfl rfl ?_
 refine zent ?_
 refine zS <| zb rfl fun b3 => za zeh fun b4 => zN <| za zeh fun b5 => zN <| Qf fh rfl <| Q0 2 rfl rfl rfl <| zcs rfl (fun w hw => c_laws_toInt64S a.pits (ok_ hw)) ?_
 intro A6 c6 bl6 bh6
 refine Qf fh rfl <| zw 1 rfl rfl rfl ?_
 refine zN <| Qf fh rfl <| Q0 3 rfl rfl rfl <| zcs rfl (fun w hw => c_laws_toInt64S a.stores (ok_ hw)) ?_
 intro A7 c7 bl7 bh7
 refine Qf fh rfl <| zw 2 rfl rfl rfl ?_
 refine zN <| Qf fh rfl <| Q0 4 rfl rfl rfl <| Qf fh rfl <| zw 2 rfl rfl rfl ?_
 refine zN <| Q9 2 rfl rfl ?_
 refine zw 3 rfl rfl rfl ?_
 refine JL.nil ?_
 exact zro (Up.refl _ _)

set_option maxHeartbeats 8000000 in
theorem c_laws_toRules (a : M.Rul) {v_a : Value} {w : World} (h_a : (Ty.agg (cRules a)).ok w v_a) : Ret Try.prog 32 [v_a] w (Ty.agg (cRules a)) := by
 revert v_a; apply opn
 refine enter @Try.func32 @Try.ntmps32 rfl rfl ?_
 refine zent ?_
 refine zS <| zb rfl fun b1 => za zeh fun b2 => zN <| za zeh fun b3 => zN <| Qf fh rfl <| Q0 2 rfl rfl rfl <| Qf fh rfl <| zw 0 rfl rfl rfl ?_
 refine zN <| Qf fh rfl <| Q0 2 rfl rfl rfl <| Qf fh rfl <| zw 0 rfl rfl rfl ?_
 refine zN <| Qf fh rfl <| Q0 2 rfl rfl rfl <| Qf fh rfl <| zw 0 rfl rfl rfl ?_
 refine zN <| Qf fh rfl <| Q0 2 rfl rfl rfl <| Qf fh rfl <| zw 0 rfl rfl rfl ?_
 refine zN <| Qf fh rfl <| Q0 2 rfl rfl rfl <| Qf fh rfl <| zw 0 rfl rfl rfl ?_
 refine zN <| Qf fh rfl <| Q0 2 rfl rfl rfl <| Qf fh rfl <| zw 0 rfl rfl rfl ?_
 refine zN <| Qf fh rfl <| Q0 2 rfl rfl rfl <| Qf fh rfl <| zw 0 rfl rfl rfl ?_
 refine zN <| Qf fh rfl <| Q0 2 rfl rfl rfl <| Qf fh rfl <| zw 0 rfl rfl rfl ?_
 refine zN <| Qf fh rfl <| Q0 2 rfl rfl rfl <| Qf fh rfl <| zw 0 rfl rfl rfl ?_
 refine zN <| Q9 0 rfl rfl ?_
 refine zw 1 rfl rfl rfl ?_
 refine JL.nil ?_
 exact zro (Up.refl _ _)

set_option maxHeartbeats 1000000 in
theorem c_laws_eqInt64S (a : List Int) {v_a : Value} (b : List Int) {v_b : Value} {w : World} (h_a : (Ty.ints 2 a).ok w v_a) (h_b : (Ty.ints 2 b).ok w v_b) (r0 : a.length ≤ 4194304 := by exact om_) (r1 : b.length ≤ 4194304 := by exact om_) : RetV Try.prog 50 [v_a, v_b] w (.bool (decide (a = b))) := by
 revert v_a; apply opn
 intro A1 c1 h1 bl1 bh1
 have h_a := h1
 revert v_b; apply opn
 intro A2 c2 h2 bl2 bh2
 have h_b := h2
 refine enter @Try.func50 @Try.ntmps50 rfl rfl ?_
 refine zent ?_
 refine zS <| Qa rfl <| zJ <| zS <| Qm rfl <| Qz rfl <| Qm rfl <| Qz rfl <| Qd rfl rfl <| JL.nil ?_
 refine zi (fun h3 h3' => ?_) fun h3 h3' => ?_
 ·
  have e1 : decide (a = b) = false := by simp; rintro rfl; simp at h3
  refine zS <| Qa rfl <| JL.nil ?_
  refine zR (Up.refl _ _) ?_
  simp [outV, e1]
 have hlen : a.length = b.length := by have := h3'; omega
 refine Js.skip <| Js.seq <| zS <| Qa rfl <| JL.nil <| Js.block ?_
 refine zl [0, 1] (fun F U l os u m => ∃ (k : Nat), l = F [(5, .int .i64 (k : Int))] ∧ os = U [] ∧ (k ≤ a.length) ∧ (M.Upto a b k) ∧ m = a.length - k) ⟨0, rfl, rfl, zt, by exact M.Upto.zero _ _, rfl⟩ ?_
 rintro _ _ u4 _ ⟨k, rfl, rfl, hk, hU, rfl⟩ x4
 refine zn ?_
 refine Js.seq <| zS <| Qm rfl <| Qm rfl <| Qz rfl <| Ql rfl rfl <| JL.nil ?_
 refine zi (fun h5 h5' => ?_) fun h5 h5' => ?_
 ·
  refine Js.skip <| Js.seq <| Js.block <| Js.seq ?_
  refine zdr [] ?_
  refine JH.p 0 rfl (p_move rfl) ?_
  refine JH.p 1 rfl (p_move rfl) ?_
  obtain ⟨b6, o6, he6, hc6⟩ := ints_elem (Ty.mono _ h1 x4.vis) (i := k) (by omega)
  refine JH.p 2 rfl (p_indexAddr el_40 rfl rfl (by omega) (by omega) he6) ?_
  refine JH.w 3 rfl (fun os' u' hv => q_load1 ty_2.h rfl (Mem.pub (hc6.vis hv))) ?_
  refine JH.p 4 rfl (p_move rfl) ?_
  refine JH.p 5 rfl (p_move rfl) ?_
  obtain ⟨b7, o7, he7, hc7⟩ := ints_elem (Ty.mono _ h2 x4.vis) (i := k) (by omega)
  refine JH.p 6 rfl (p_indexAddr el_40 rfl rfl (by omega) (by omega) he7) ?_
  refine JH.w 7 rfl (fun os' u' hv => q_load1 ty_2.h rfl (Mem.pub (hc7.vis hv))) ?_
  refine JH.p 8 rfl (p_neq rfl rfl) ?_
  refine yd ?_
  refine zi (fun h8 h8' => ?_) fun h8 h8' => ?_
  ·
   have e1 : decide (a = b) = false := by simpa using M.ne_of_nth (a := a) (b := b) (k := k) (by simpa using h8)
   refine zS <| Qa rfl <| JL.nil ?_
   refine zR x4 ?_
   simp [outV, e1]
  have hab : M.nth a k = M.nth b k := by simpa using h8
  refine Js.skip <| Js.blockEnd <| Js.region <| Qm rfl <| Qp rfl rfl <| Qa rfl <| JL.nil ?_
  exact zag ⟨k + 1, rfl, rfl, zt, by exact hU.step (by omega) (by omega) hab, rfl⟩ x4
 have e1 : a = b := hU.done (by omega) (by omega)
 refine zx ?_
 refine zS <| Qa rfl <| JL.nil ?_
 refine zR x4 ?_
 simp [outV, e1]

set_option maxHeartbeats 1000000 in
theorem c_laws_eqPosition (a : M.Pos) {v_a : Value} (b : M.Pos) {v_b : Value} {w : World} (h_a : (Ty.agg (cPosition a)).ok w v_a) (h_b : (Ty.agg (cPosition b)).ok w v_b) (r0 : a.pits.length ≤ 4194304 := by exact om_) (r1 : a.stores.length ≤ 4194304 := by exact om_) (r2 : b.pits.length ≤ 4194304 := by exact om_) (r3 : b.stores.length ≤ 4194304 := by exact om_) : RetV Try.prog 21 [v_a, v_b] w (.bool (decide (a = b))) := by
 revert v_a; apply opn
 intro A1 c1 h1 bl1 bh1 A2 c2 h2 bl2 bh2
 revert v_b; apply opn
 intro A3 c3 h3 bl3 bh3 A4 c4 h4 bl4 bh4
 refine enter @Try.func21 @Try.ntmps21 rfl rfl ?_
 refine zent ?_
 refine zS <| zb rfl fun b5 => zb rfl fun b6 => Qa rfl <| zJ <| zS <| Qf fh rfl <| Q0 1 rfl rfl rfl <| Qf fh rfl <| Q0 0 rfl rfl rfl <| zv rfl (fun w hw => c_laws_eqInt64S a.pits b.pits (ok_ hw) (ok_ hw)) <| Qt rfl <| JL.nil ?_
 refine zi (fun h7 h7' => ?_) fun h7 h7' => ?_
 ·
  have hne : a ≠ b := by rintro rfl; simp at h7
  refine zS <| Qa rfl <| JL.nil ?_
  refine zR (Up.refl _ _) ?_
  first | (rw [decide_eq_false hne]; rfl) | (rw [decide_eq_true (M.pos_ext q0 q1 q2)]; rfl)
 have q0 : a.pits = b.pits := by simpa using h7
 refine Js.skip <| Js.seq <| zS <| Qf fh rfl <| Q0 1 rfl rfl rfl <| Qf fh rfl <| Q0 0 rfl rfl rfl <| zv rfl (fun w hw => c_laws_eqInt64S a.stores b.stores (ok_ hw) (ok_ hw)) <| Qt rfl <| JL.nil ?_
 refine zi (fun h8 h8' => ?_) fun h8 h8' => ?_
 ·
  have hne : a ≠ b := by rintro rfl; simp at h8
  refine zS <| Qa rfl <| JL.nil ?_
  refine zR (Up.refl _ _) ?_
  first | (rw [decide_eq_false hne]; rfl) | (rw [decide_eq_true (M.pos_ext q0 q1 q2)]; rfl)
 have q1 : a.stores = b.stores := by simpa using h8
 refine Js.skip <| Js.seq <| zS <| Qf fh rfl <| Q0 1 rfl rfl rfl <| Qf fh rfl <| Q0 0 rfl rfl rfl <| Qd rfl rfl <| JL.nil ?_
 refine zi (fun h9 h9' => ?_) fun h9 h9' => ?_
 ·
  have hne : a ≠ b := by rintro rfl; simp at h9
  refine zS <| Qa rfl <| JL.nil ?_
  refine zR (Up.refl _ _) ?_
  first | (rw [decide_eq_false hne]; rfl) | (rw [decide_eq_true (M.pos_ext q0 q1 q2)]; rfl)
 have q2 : a.player = b.player := by simpa using h9
 refine Js.skip <| zS <| Qa rfl <| JL.nil ?_
 refine zR (Up.refl _ _) ?_
 first | (rw [decide_eq_false hne]; rfl) | (rw [decide_eq_true (M.pos_ext q0 q1 q2)]; rfl)

set_option maxHeartbeats 1000000 in
theorem c_laws_eqRules (a : M.Rul) {v_a : Value} (b : M.Rul) {v_b : Value} {w : World} (h_a : (Ty.agg (cRules a)).ok w v_a) (h_b : (Ty.agg (cRules b)).ok w v_b) : RetV Try.prog 37 [v_a, v_b] w (.bool (decide (a = b))) := by
 revert v_a; apply opn
 revert v_b; apply opn
 refine enter @Try.func37 @Try.ntmps37 rfl rfl ?_
 refine zent ?_
 refine zS <| zb rfl fun b1 => zb rfl fun b2 => Qa rfl <| zJ <| zS <| Qf fh rfl <| Q0 1 rfl rfl rfl <| Qf fh rfl <| Q0 0 rfl rfl rfl <| Qd rfl rfl <| JL.nil ?_
 refine zi (fun h3 h3' => ?_) fun h3 h3' => ?_
 ·
  have hne : a ≠ b := by rintro rfl; simp at h3
  refine zS <| Qa rfl <| JL.nil ?_
  refine zR (Up.refl _ _) ?_
  first | (rw [decide_eq_false hne]; rfl) | (rw [decide_eq_true (M.rul_ext q0 q1 q2 q3 q4 q5 q6 q7 q8)]; rfl)
 have q0 : a.pits = b.pits := by simpa using h3
 refine Js.skip <| Js.seq <| zS <| Qf fh rfl <| Q0 1 rfl rfl rfl <| Qf fh rfl <| Q0 0 rfl rfl rfl <| Qd rfl rfl <| JL.nil ?_
 refine zi (fun h4 h4' => ?_) fun h4 h4' => ?_
 ·
  have hne : a ≠ b := by rintro rfl; simp at h4
  refine zS <| Qa rfl <| JL.nil ?_
  refine zR (Up.refl _ _) ?_
  first | (rw [decide_eq_false hne]; rfl) | (rw [decide_eq_true (M.rul_ext q0 q1 q2 q3 q4 q5 q6 q7 q8)]; rfl)
 have q1 : a.seeds = b.seeds := by simpa using h4
 refine Js.skip <| Js.seq <| zS <| Qf fh rfl <| Q0 1 rfl rfl rfl <| Qf fh rfl <| Q0 0 rfl rfl rfl <| Qq (p_neqB und_4 rfl rfl) <| JL.nil ?_
 refine zi (fun h5 h5' => ?_) fun h5 h5' => ?_
 ·
  have hne : a ≠ b := by rintro rfl; simp at h5
  refine zS <| Qa rfl <| JL.nil ?_
  refine zR (Up.refl _ _) ?_
  first | (rw [decide_eq_false hne]; rfl) | (rw [decide_eq_true (M.rul_ext q0 q1 q2 q3 q4 q5 q6 q7 q8)]; rfl)
 have q2 : a.stores = b.stores := by simpa using h5
 refine Js.skip <| Js.seq <| zS <| Qf fh rfl <| Q0 1 rfl rfl rfl <| Qf fh rfl <| Q0 0 rfl rfl rfl <| Qq (p_neqB und_4 rfl rfl) <| JL.nil ?_
 refine zi (fun h6 h6' => ?_) fun h6 h6' => ?_
 ·
  have hne : a ≠ b := by rintro rfl; simp at h6
  refine zS <| Qa rfl <| JL.nil ?_
  refine zR (Up.refl _ _) ?_
  first | (rw [decide_eq_false hne]; rfl) | (rw [decide_eq_true (M.rul_ext q0 q1 q2 q3 q4 q5 q6 q7 q8)]; rfl)
 have q3 : a.skip = b.skip := by simpa using h6
 refine Js.skip <| Js.seq <| zS <| Qf fh rfl <| Q0 1 rfl rfl rfl <| Qf fh rfl <| Q0 0 rfl rfl rfl <| Qq (p_neqB und_4 rfl rfl) <| JL.nil ?_
 refine zi (fun h7 h7' => ?_) fun h7 h7' => ?_
 ·
  have hne : a ≠ b := by rintro rfl; simp at h7
  refine zS <| Qa rfl <| JL.nil ?_
  refine zR (Up.refl _ _) ?_
  first | (rw [decide_eq_false hne]; rfl) | (rw [decide_eq_true (M.rul_ext q0 q1 q2 q3 q4 q5 q6 q7 q8)]; rfl)
 have q4 : a.relay = b.relay := by simpa using h7
 refine Js.skip <| Js.seq <| zS <| Qf fh rfl <| Q0 1 rfl rfl rfl <| Qf fh rfl <| Q0 0 rfl rfl rfl <| Qq (p_neqB und_4 rfl rfl) <| JL.nil ?_
 refine zi (fun h8 h8' => ?_) fun h8 h8' => ?_
 ·
  have hne : a ≠ b := by rintro rfl; simp at h8
  refine zS <| Qa rfl <| JL.nil ?_
  refine zR (Up.refl _ _) ?_
  first | (rw [decide_eq_false hne]; rfl) | (rw [decide_eq_true (M.rul_ext q0 q1 q2 q3 q4 q5 q6 q7 q8)]; rfl)
 have q5 : a.feed = b.feed := by simpa using h8
 refine Js.skip <| Js.seq <| zS <| Qf fh rfl <| Q0 1 rfl rfl rfl <| Qf fh rfl <| Q0 0 rfl rfl rfl <| Qq (p_neqB und_4 rfl rfl) <| JL.nil ?_
 refine zi (fun h9 h9' => ?_) fun h9 h9' => ?_
 ·
  have hne : a ≠ b := by rintro rfl; simp at h9
  refine zS <| Qa rfl <| JL.nil ?_
  refine zR (Up.refl _ _) ?_
  first | (rw [decide_eq_false hne]; rfl) | (rw [decide_eq_true (M.rul_ext q0 q1 q2 q3 q4 q5 q6 q7 q8)]; rfl)
 have q6 : a.again = b.again := by simpa using h9
 refine Js.skip <| Js.seq <| zS <| Qf fh rfl <| Q0 1 rfl rfl rfl <| Qf fh rfl <| Q0 0 rfl rfl rfl <| Qd rfl rfl <| JL.nil ?_
 refine zi (fun h10 h10' => ?_) fun h10 h10' => ?_
 ·
  have hne : a ≠ b := by rintro rfl; simp at h10
  refine zS <| Qa rfl <| JL.nil ?_
  refine zR (Up.refl _ _) ?_
  first | (rw [decide_eq_false hne]; rfl) | (rw [decide_eq_true (M.rul_ext q0 q1 q2 q3 q4 q5 q6 q7 q8)]; rfl)
 have q7 : a.capture = b.capture := by simpa using h10
 refine Js.skip <| Js.seq <| zS <| Qf fh rfl <| Q0 1 rfl rfl rfl <| Qf fh rfl <| Q0 0 rfl rfl rfl <| Qd rfl rfl <| JL.nil ?_
 refine zi (fun h11 h11' => ?_) fun h11 h11' => ?_
 ·
  have hne : a ≠ b := by rintro rfl; simp at h11
  refine zS <| Qa rfl <| JL.nil ?_
  refine zR (Up.refl _ _) ?_
  first | (rw [decide_eq_false hne]; rfl) | (rw [decide_eq_true (M.rul_ext q0 q1 q2 q3 q4 q5 q6 q7 q8)]; rfl)
 have q8 : a.slam = b.slam := by simpa using h11
 refine Js.skip <| zS <| Qa rfl <| JL.nil ?_
 refine zR (Up.refl _ _) ?_
 first | (rw [decide_eq_false hne]; rfl) | (rw [decide_eq_true (M.rul_ext q0 q1 q2 q3 q4 q5 q6 q7 q8)]; rfl)

end Go.Proofs.Ytcmfnlleikcpnaa

namespace Go.Proofs.Ytcmfnlleikcpnaa
open Go.RowKit

set_option maxHeartbeats 1000000 in
theorem c_laws_markInt64S (a : List Int) {Aa_0 : Option Addr} {ca_0 : Nat} {ga_0 : List Nat} (k : Int) {w : World} (hb : Bw w [rowO 2 1 (.slice Aa_0 a.length ca_0) a.length (ints_ a) ga_0]) (bd0 : a.length ≤ ca_0 := by exact om_) (bd1 : ca_0 ≤ 9223372036854775807 := by exact om_) (r0 : a.length ≤ 4194304 := by exact om_) (r1 : 0 ≤ k := by exact om_) (r2 : k ≤ 100000000 := by exact om_) : RetB Try.prog 55 [.slice Aa_0 a.length ca_0, .int .i64 k] w [rowO 2 1 (.slice Aa_0 a.length ca_0) a.length (ints_ a) ga_0] (fun v bs' => v = .int .i64 (k + (a.length : Int)) ∧ bs' = [rowO 2 1 (.slice Aa_0 a.length ca_0) a.length (ints_ (M.up k a.length)) ga_0]) := by
 refine enterB hb @Try.func55 @Try.ntmps55 rfl rfl ?_
 refine zent ?_
 refine Js.trashE ?_
 refine zn ?_
 refine zS <| Qa rfl <| zJ <| zS <| Qa rfl <| JL.nil <| Js.block ?_
 refine zl [0] (fun F U l os u m => ∃ (i : Nat) (kk : Int) (xs : List Int) (G1_1 : List Nat), l = F [(1, .int .i64 kk), (5, .int .i64 (i : Int))] ∧ os = U [some (rowO 2 1 (.slice Aa_0 a.length ca_0) a.length (ints_ xs) ga_0), some (anyO G1_1)] ∧ (xs = M.mkd a k i) ∧ (i ≤ a.length) ∧ (xs.length = a.length) ∧ (kk = k + (i : Int)) ∧ m = a.length - i) ⟨0, k, a, _, rfl, rfl, by exact M.mkd_zero a k, zt, by rfl, by simp, rfl⟩ ?_
 rintro _ _ u1 _ ⟨i, kk, xs, G1_1, rfl, rfl, hX, hi, hl, hkk, rfl⟩ x1
 refine zn ?_
 refine Js.seq <| zS <| Qm rfl <| Qm rfl <| Qz rfl <| Ql rfl rfl <| JL.nil ?_
 refine zi (fun h2 h2' => ?_) fun h2 h2' => ?_
 ·
  refine Js.skip <| Js.seq <| Js.block <| zS <| Qm rfl <| Qm rfl <| Qm rfl ?_
  refine JL.fact (row_some (i := 0) rfl (by omega)) (fun hf4 => ?_)
  obtain ⟨b4, rfl⟩ := hf4
  refine Qq (p_indexAddr el_40 rfl rfl (by omega) (by omega) rfl) ?_
  refine JL.s (e_storeRow (i := 0) (xs' := ints_ (xs.set i kk)) ty_2.h rfl rfl rfl rfl rfl rfl (ints_lt (i := i) (by omega)) (ints_setL (i := i) (by omega))) ?_
  rintro _ _ _ ⟨rfl, rfl⟩ _
  refine znl ?_
  refine zG <| Qm rfl <| Qp rfl rfl <| Qa rfl <| JL.nil <| Js.blockEnd <| Js.region <| Qm rfl <| Qp rfl rfl <| Qa rfl <| JL.nil ?_
  exact zag ⟨i + 1, kk + 1, xs.set i kk, _, rfl, rfl, by rw [hX, hkk]; exact M.mkd_step (by omega), zt, by rw [List.length_set]; exact hl, zt, rfl⟩ x1
 have hi2 : i = a.length := by have := h2'; omega
 have hM : M.up k a.length = xs := by rw [hX]; exact (M.mkd_end hi2).symm
 refine zx ?_
 refine zS <| Qm rfl <| Qa rfl <| JL.nil ?_
 refine zrb [0] hb x1 ?_
 have hE : (.int .i64 kk : Value) = .int .i64 (k + (a.length : Int)) := by first | exact hM | (refine congrArg (Value.int .i64) ?_; omega)
 have hE1 : M.up k a.length = xs := by first | exact hM | (refine congrArg (Value.int .i64) ?_; omega)
 refine ⟨hE, ?_⟩
 · rw [hE1]

set_option maxHeartbeats 1000000 in
theorem c_laws_markPosition (a_pits a_stores : List Int) (a_player : Int) {Aa_0 : Option Addr} {ca_0 : Nat} {ga_0 : List Nat} {Aa_1 : Option Addr} {ca_1 : Nat} {ga_1 : List Nat} (k : Int) {w : World} (hb : Bw w [rowO 2 1 (.slice Aa_0 a_pits.length ca_0) a_pits.length (ints_ a_pits) ga_0, rowO 2 1 (.slice Aa_1 a_stores.length ca_1) a_stores.length (ints_ a_stores) ga_1]) (bd0 : a_pits.length ≤ ca_0 := by exact om_) (bd1 : ca_0 ≤ 9223372036854775807 := by exact om_) (bd2 : a_stores.length ≤ ca_1 := by exact om_) (bd3 : ca_1 ≤ 9223372036854775807 := by exact om_) (r0 : a_pits.length ≤ 4194304 := by exact om_) (r1 : a_stores.length ≤ 4194304 := by exact om_) (r2 : 0 ≤ k := by exact om_) (r3 : k ≤ 50000000 := by exact om_) : RetB Try.prog 25 [.agg #[.slice Aa_0 a_pits.length ca_0, .slice Aa_1 a_stores.length ca_1, .int .i64 a_player], .int .i64 k] w [rowO 2 1 (.slice Aa_0 a_pits.length ca_0) a_pits.length (ints_ a_pits) ga_0, rowO 2 1 (.slice Aa_1 a_stores.length ca_1) a_stores.length (ints_ a_stores) ga_1] (fun v bs' => v = .int .i64 (k + (a_pits.length : Int) + (a_stores.length : Int)) ∧ bs' = [rowO 2 1 (.slice Aa_0 a_pits.length ca_0) a_pits.length (ints_ (M.up k a_pits.length)) ga_0, rowO 2 1 (.slice Aa_1 a_stores.length ca_1) a_stores.length (ints_ (M.up (k + (a_pits.length : Int)) a_stores.length)) ga_1]) := by
 refine enterB hb @Try.func25 @Try.ntmps25 rfl rfl ?_
 refine zent ?_
 refine Js.trashE ?_
 refine zn ?_
 refine zS <| zb rfl fun b1 => Qa rfl <| zN <| Qf fh rfl <| Q0 0 rfl rfl rfl <| Qm rfl ?_
 refine zhl [1] ?_
 refine zBB 1 sp_ rfl (fun w hb _ hw => c_laws_markInt64S a_pits k hb) ?_
 rintro _ _ G2 ⟨rfl, rfl⟩
 refine znl ?_
 refine Qa rfl <| zN <| Qf fh rfl <| Q0 2 rfl rfl rfl <| Qm rfl ?_
 refine zhl [3] ?_
 refine zBB 1 sp_ rfl (fun w hb _ hw => c_laws_markInt64S a_stores (k + (a_pits.length : Int)) hb) ?_
 rintro _ _ G3 ⟨rfl, rfl⟩
 refine znl ?_
 refine Qa rfl <| zN <| Qm rfl <| Qa rfl <| JL.nil ?_
 refine zrb [2, 0] hb (Up.refl _ _) ?_
 have hE : (.int .i64 ((k + (a_pits.length : Int)) + (a_stores.length : Int)) : Value) = .int .i64 (k + (a_pits.length : Int) + (a_stores.length : Int)) := by rfl
 exact ⟨hE, rfl⟩

end Go.Proofs.Ytcmfnlleikcpnaa

namespace Go.Proofs.Ytcmfnlleikcpnaa
open Go.RowKit

set_option maxHeartbeats 1000000 in
theorem c_laws_toChoice (a : M.Cho) {v_a : Value} {w : World} (h_a : (Ty.agg (cChoice a)).ok w v_a) : Ret Try.prog 92 [v_a] w (Ty.agg (cChoice a)) := by
 revert v_a; apply opn
 refine enter @Try.func92 @Try.ntmps92 rfl rfl ?_
 refine zent ?_
 refine zS <| zb rfl fun b1 => za zeh fun b2 => zN <| za zeh fun b3 => zN <| Qf fh rfl <| Q0 2 rfl rfl rfl <| Qf fh rfl <| zw 0 rfl rfl rfl ?_
 refine zN <| Qf fh rfl <| Q0 2 rfl rfl rfl <| Qf fh rfl <| zw 0 rfl rfl rfl ?_
 refine zN <| Qf fh rfl <| Q0 2 rfl rfl rfl <| Qf fh rfl <| zw 0 rfl rfl rfl ?_
 refine zN <| Q9 0 rfl rfl ?_
 refine zw 1 rfl rfl rfl ?_
 refine JL.nil ?_
 exact zro (Up.refl _ _)

set_option maxHeartbeats 1000000 in
theorem c_laws_toChoiceS (a : List M.Cho) {v_a : Value} {w : World} (h_a : (Ty.sl 73 3 a.length (lChoice a)).ok w v_a) (r0 : a.length ≤ 4194304 := by exact om_) : Ret Try.prog 85 [v_a] w (Ty.sl 73 3 a.length (lChoice a)) := by
 revert v_a; apply opn
 intro A1 c1 h1 bl1 bh1
 have h_a := h1
 refine enter @Try.func85 @Try.ntmps85 rfl rfl ?_
 refine zent ?_
 refine zS <| Qa rfl <| zN <| Qm rfl <| Qz rfl <| zmkF vcChoice M.Cho.zero (a0 := (a.length : Int)) (m := a.length) (by omega) (by omega) fun b2 => Qa rfl <| zJ <| zS <| Qa rfl <| JL.nil <| Js.block ?_
 refine zl [0, 3] (fun F U l os u m => ∃ (i : Nat) (xs : List M.Cho), l = F [(4, .int .i64 (i : Int))] ∧ os = U [some (rowO 73 3 (.slice (some ⟨b2, 0, none⟩) a.length a.length) a.length (fltV vcChoice xs) [])] ∧ (xs = M.cpS M.Cho.zero a i) ∧ (i ≤ a.length) ∧ (xs.length = a.length) ∧ m = a.length - i) ⟨0, List.replicate a.length M.Cho.zero, rfl, rfl, by exact M.cpS_zero _ _, zt, by simp, rfl⟩ ?_
 rintro _ _ u3 _ ⟨i, xs, rfl, rfl, hX, hi, hl, rfl⟩ x3
 refine zn ?_
 refine Js.seq <| zS <| Qm rfl <| Qm rfl <| Qz rfl <| Ql rfl rfl <| JL.nil ?_
 refine zi (fun h4 h4' => ?_) fun h4 h4' => ?_
 ·
  have hgt : a[i]? = some (M.cho a i) := M.cho_get (by omega)
  have hy5 : a[i]? = some (M.cho a i) := M.cho_get (by omega)
  obtain ⟨b5, o5, he5, hr5⟩ := elem_Choice (Ty.mono _ h1 x3.vis) hy5
  refine Js.skip <| Js.seq <| Js.block <| Js.region <| Qm rfl <| Qm rfl <| Qm rfl <| Qm rfl <| Qq (p_indexAddr el_96 rfl rfl (by omega) (by omega) he5) <| QS 0 hr5 rfl ?_
  refine zp rfl (fun w hw => c_laws_toChoice (M.cho a i) (ok_ hw)) ?_
  intro u6 x6
  have hy7 : xs[i]? = some (M.cho xs i) := M.cho_get (by first | omega | (simp only [List.length_set, List.length_append, List.length_cons, List.length_nil, List.length_take, List.length_drop, List.length_replicate]; omega))
  refine Qq (p_indexAddr el_50 rfl rfl (by omega) (by omega) rfl) ?_
  refine JL.s (e_storeRow (i := 0) (xs' := fltV vcChoice (xs.set i (M.cho a i))) ty_73.h rfl rfl rfl rfl rfl rfl (fltV_lt (C := vcChoice) (j := 0) (fun _ => rfl) (by first | omega | (simp only [List.length_set, List.length_append, List.length_cons, List.length_nil, List.length_take, List.length_drop, List.length_replicate]; omega)) (by decide)) (fltV_set (C := vcChoice) (y := (M.cho a i)) (fun _ => rfl) (by first | omega | (simp only [List.length_set, List.length_append, List.length_cons, List.length_nil, List.length_take, List.length_drop, List.length_replicate]; omega)))) ?_
  rintro _ _ _ ⟨rfl, rfl⟩ _
  refine znl ?_
  refine JL.nil <| Js.blockEnd <| Js.region <| Qm rfl <| Qp rfl rfl <| Qa rfl <| JL.nil ?_
  exact zag ⟨i + 1, xs.set i (M.cho a i), rfl, rfl, by rw [hX]; exact M.cpS_step hgt, zt, by rw [List.length_set]; exact hl, rfl⟩ (x3.trans x6)
 have hE : xs = a := by rw [hX]; exact M.cpS_all (by have := h4'; omega)
 refine zx ?_
 have hq0 : xs = a := by exact hE
 refine zS <| Qm rfl <| Qa rfl <| JL.nil ?_
 exact zro x3 (g := by exact (gv_flat lChoice (xs := xs) po_ (by first | rfl | (simp [fltV]; done)) (by first | with_reducible rfl | assumption | rfl)))

set_option maxHeartbeats 1000000 in
theorem c_laws_toBookEntry (a : M.Ent) {v_a : Value} {w : World} (h_a : (Ty.agg (cBookEntry a)).ok w v_a) (r0 : a.pits.length ≤ 4194304 := by exact om_) (r1 : a.choices.length ≤ 4194304 := by exact om_) : Ret Try.prog 66 [v_a] w (Ty.agg (cBookEntry a)) := by
 revert v_a; apply opn
 intro A1 c1 h1 bl1 bh1 A2 c2 h2 bl2 bh2
 refine enter @Try.func66 @Try.ntmps66 rfl rfl ?_
 refine zent ?_
 refine zS <| zb rfl fun b3 => za zeh fun b4 => zN <| za zeh fun b5 => zN <| Qf fh rfl <| Q0 2 rfl rfl rfl <| zcs rfl (fun w hw => c_laws_toInt64S a.pits (ok_ hw)) ?_
 intro A6 c6 bl6 bh6
 refine Qf fh rfl <| zw 1 rfl rfl rfl ?_
 refine zN <| Qf fh rfl <| Q0 3 rfl rfl rfl <| zcs rfl (fun w hw => c_laws_toChoiceS a.choices (ok_ hw)) ?_
 intro A7 c7 bl7 bh7
 refine Qf fh rfl <| zw 2 rfl rfl rfl ?_
 refine zN <| Q9 2 rfl rfl ?_
 refine zw 3 rfl rfl rfl ?_
 refine JL.nil ?_
 exact zro (Up.refl _ _) (g := by exact (gv_agg (gvc gv_ (gvc (gv_flat lChoice (xs := a.choices) po_ (by first | rfl | (simp [fltV]; done)) (by first | with_reducible rfl | assumption | rfl)) gvn))))

set_option maxHeartbeats 1000000 in
theorem c_laws_toBookEntryS (a : List M.Ent) {v_a : Value} {w : World} (h_a : (Ty.sl 65 2 a.length (lBookEntry a)).ok w v_a) (r0 : a.length ≤ 4194304 := by exact om_) (r1 : ∀ x ∈ a, x.pits.length ≤ 4194304 ∧ x.choices.length ≤ 4194304 := by exact om_) : Ret Try.prog 33 [v_a] w (Ty.sl 65 2 a.length (lBookEntry a)) := by
 revert v_a; apply opn
 intro A1 c1 h1 bl1 bh1
 have h_a := h1
 refine enter @Try.func33 @Try.ntmps33 rfl rfl ?_
 refine zent ?_
 refine zS <| Qa rfl <| zN <| Qm rfl <| Qz rfl <| zmkN cBookEntry M.Ent.zero (a0 := (a.length : Int)) (m := a.length) (by omega) (by omega) zown_BookEntry fun b2 => Qa rfl <| zJ <| zS <| Qa rfl <| JL.nil <| Js.block ?_
 refine zl [0, 3] (fun F U l os u m => ∃ (i : Nat) (xs : List M.Ent) (vs3_0 : List Value) (fl3_0 : List Nat), l = F [(4, .int .i64 (i : Int))] ∧ os = U [some (rowO 65 2 (.slice (some ⟨b2, 0, none⟩) a.length a.length) a.length vs3_0 []), some (ownC (lBookEntry xs) vs3_0 fl3_0)] ∧ (xs = M.cpS M.Ent.zero a i) ∧ (i ≤ a.length) ∧ (xs.length = a.length) ∧ m = a.length - i) ⟨0, List.replicate a.length M.Ent.zero, _, _, rfl, rfl, by exact M.cpS_zero _ _, zt, by simp, rfl⟩ ?_
 rintro _ _ u3 _ ⟨i, xs, vs3_0, fl3_0, rfl, rfl, hX, hi, hl, rfl⟩ x3
 refine zn ?_
 refine Js.seq <| zS <| Qm rfl <| Qm rfl <| Qz rfl <| Ql rfl rfl <| JL.nil ?_
 refine zi (fun h4 h4' => ?_) fun h4 h4' => ?_
 ·
  have hgt : a[i]? = some (M.ent a i) := M.ent_get (by omega)
  obtain ⟨e1_, e2_⟩ := r1 _ (List.mem_of_getElem? hgt)
  have hy5 : a[i]? = some (M.ent a i) := M.ent_get (by omega)
  obtain ⟨b5, o5, A5_0, c5_0, A5_1, c5_1, he5, hr5, h5_0, h5_1, bl5_0, bh5_0, bl5_1, bh5_1⟩ := elem_BookEntry (Ty.mono _ h1 x3.vis) hy5
  refine Js.skip <| Js.seq <| Js.block <| Js.region <| Qm rfl <| Qm rfl <| Qm rfl <| Qm rfl <| Qq (p_indexAddr el_24 rfl rfl (by omega) (by omega) he5) <| QS 0 hr5 rfl ?_
  refine zcs rfl (fun w hw => c_laws_toBookEntry (M.ent a i) (ok_ hw)) ?_
  intro A6_0 c6_0 bl6_0 bh6_0 A6_1 c6_1 bl6_1 bh6_1 f6
  have hy7 : xs[i]? = some (M.ent xs i) := M.ent_get (by first | omega | (simp only [List.length_set, List.length_append, List.length_cons, List.length_nil, List.length_take, List.length_drop, List.length_replicate]; omega))
  refine JL.fact (fun w hw => elemv_BookEntry (Mem.ownC (i := 2) rfl w hw) hy7) (fun hf7 => ?_)
  obtain ⟨A7_0, c7_0, A7_1, c7_1, he7, bl7_0, bh7_0, bl7_1, bh7_1⟩ := hf7
  refine Qq (p_indexAddr el_30 rfl rfl (by omega) (by omega) rfl) ?_
  refine JL.fact (fun w hw => elem_in cBookEntry (m := 2) (k := i) (xs := xs) (fun _ => rfl) (Mem.ownC (i := 2) rfl w hw) (by first | omega | (simp only [List.length_set, List.length_append, List.length_cons, List.length_nil, List.length_take, List.length_drop, List.length_replicate]; omega))) (fun hl8 => ?_)
  refine JL.ex3 (fun w hw => St.elemS cBookEntry (m := 2) (i := 2) (xs := xs) (fun _ => rfl) rfl hy7 he7 hw) (fun f8_1 f8_2 f8_3 => ?_)
  refine znl ?_
  refine JL.pk (cBookEntry (M.ent a i)) [.slice A6_0 (((M.ent a i).pits).length) c6_0, .slice A6_1 (((M.ent a i).choices).length) c6_1] (fun f9 G9 => ?_)
  refine znl ?_
  refine JL.s (e_storeRow (i := 5) (xs' := setL vs3_0 (0 + i * 2) [.slice A6_0 (((M.ent a i).pits).length) c6_0, .slice A6_1 (((M.ent a i).choices).length) c6_1]) ty_65.h rfl rfl rfl rfl rfl rfl (by omega) rfl) ?_
  rintro _ _ _ ⟨rfl, rfl⟩ _
  refine zhl [4, 0, 2] ?_
  refine JL.conv (fun w hw => St.closeE cBookEntry (k := i) (m := 2) (xs := xs) (y := (M.ent a i)) (vs := vs3_0) (vs' := (setL vs3_0 (0 + i * 2) [.slice A6_0 (((M.ent a i).pits).length) c6_0, .slice A6_1 (((M.ent a i).choices).length) c6_1])) (by first | omega | (simp only [List.length_set, List.length_append, List.length_cons, List.length_nil, List.length_take, List.length_drop, List.length_replicate]; omega)) rfl rfl hw) ?_
  refine znl ?_
  refine znl ?_
  refine JL.nil <| Js.blockEnd <| Js.region <| Qm rfl <| Qp rfl rfl <| Qa rfl <| JL.nil ?_
  refine zd [3, 0] rfl fun u10 x10 => ?_
  exact zag ⟨i + 1, xs.set i (M.ent a i), _, _, rfl, rfl, by rw [hX]; exact M.cpS_step hgt, zt, by rw [List.length_set]; exact hl, rfl⟩ (x3.trans x10)
 have hE : xs = a := by rw [hX]; exact M.cpS_all (by have := h4'; omega)
 refine zx ?_
 have hq0 : xs = a := by exact hE
 refine zS <| Qm rfl <| Qa rfl <| JL.nil ?_
 exact zro x3

set_option maxHeartbeats 2000000 in
theorem c_laws_toBook (a : M.Boo) {v_a : Value} {w : World} (h_a : (Ty.agg (cBook a)).ok w v_a) (r0 : a.entries.length ≤ 4194304 := by exact om_) (r1 : ∀ x ∈ a.entries, x.pits.length ≤ 4194304 ∧ x.choices.length ≤ 4194304 := by exact om_) : Ret Try.prog 10 [v_a] w (Ty.agg (cBook a)) := by
 revert v_a; apply opn
 intro A1 c1 h1 bl1 bh1
 refine enter @Try.func10 @Try.ntmps10 rfl rfl ?_
 refine zent ?_
 refine zS <| zb rfl fun b2 => za zeh fun b3 => zN <| za zeh fun b4 => zN <| Qf fh rfl <| Q9 2 rfl rfl ?_
 refine zc rfl (fun w hw => c_laws_toRules a.rules (ok_ hw)) <| Qf fh rfl <| zw 0 rfl rfl rfl ?_
 refine zN <| Qf fh rfl <| Q0 2 rfl rfl rfl <| zcs rfl (fun w hw => c_laws_toBookEntryS a.entries (ok_ hw) (r1 := r1)) ?_
 intro A6 c6 vs6 f6 bl6 bh6
 refine Qf fh rfl <| zw 2 rfl rfl rfl ?_
 refine zN <| Q9 2 rfl rfl ?_
 refine zw 3 rfl rfl rfl ?_
 refine JL.nil ?_
 exact zro (Up.refl _ _)

set_option maxHeartbeats 1000000 in
theorem c_laws_szChoiceS (a : List M.Cho) {v_a : Value} (left : Int) {w : World} (h_a : (Ty.sl 73 3 a.length (lChoice a)).ok w v_a) (r0 : -1 ≤ left := by exact om_) (r1 : left ≤ 1048576 := by exact om_) : RetV Try.prog 82 [v_a, .int .i64 left] w (.int .i64 (M.szL a.length left)) := by
 have q1 := M.szL_cases a.length left
 revert v_a; apply opn
 intro A1 c1 h1 bl1 bh1
 have h_a := h1
 refine enter @Try.func82 @Try.ntmps82 rfl rfl ?_
 refine zent ?_
 refine zS <| Qa rfl <| zN <| Qm rfl <| Qm rfl <| Qz rfl <| Qs rfl rfl <| Qa rfl <| zJ <| zS <| Qm rfl <| Ql rfl rfl <| JL.nil ?_
 refine zi (fun h2 h2' => ?_) fun h2 h2' => ?_
 ·
  refine zS <| Qa rfl <| JL.nil ?_
  refine zR (Up.refl _ _) ?_
  refine congrArg (fun n => Ending.returned (Value.int .i64 n)) ?_; omega
 refine Js.skip <| zS <| Qm rfl <| Qa rfl <| JL.nil ?_
 refine zR (Up.refl _ _) ?_
 refine congrArg (fun n => Ending.returned (Value.int .i64 n)) ?_; omega

set_option maxHeartbeats 1000000 in
theorem c_laws_szBookEntry (a : M.Ent) {v_a : Value} (left : Int) {w : World} (h_a : (Ty.agg (cBookEntry a)).ok w v_a) (r0 : -1 ≤ left := by exact om_) (r1 : left ≤ 1048576 := by exact om_) : RetV Try.prog 62 [v_a, .int .i64 left] w (.int .i64 (M.szL (a.pits.length + a.choices.length) left)) := by
 have q1 := M.szL_cases a.pits.length left
 have q2 := M.szL_cases a.choices.length (M.szL a.pits.length left)
 have q3 := M.szL_cases (a.pits.length + a.choices.length) left
 revert v_a; apply opn
 intro A1 c1 h1 bl1 bh1 A2 c2 h2 bl2 bh2
 refine enter @Try.func62 @Try.ntmps62 rfl rfl ?_
 refine zent ?_
 refine zS <| zb rfl fun b3 => Qa rfl <| zN <| Qf fh rfl <| Q0 0 rfl rfl rfl <| Qm rfl <| zv rfl (fun w hw => c_laws_szInt64S a.pits left (ok_ hw)) <| Qa rfl <| zJ <| zS <| Qm rfl <| Ql rfl rfl <| JL.nil ?_
 refine zi (fun h4 h4' => ?_) fun h4 h4' => ?_
 ·
  refine zS <| Qa rfl <| JL.nil ?_
  refine zR (Up.refl _ _) ?_
  refine congrArg (fun n => Ending.returned (Value.int .i64 n)) ?_; omega
 refine Js.skip <| zS <| Qf fh rfl <| Q0 0 rfl rfl rfl <| Qm rfl <| zv rfl (fun w hw => c_laws_szChoiceS a.choices (M.szL a.pits.length left) (ok_ hw)) <| Qa rfl <| zJ <| zS <| Qm rfl <| Ql rfl rfl <| JL.nil ?_
 refine zi (fun h5 h5' => ?_) fun h5 h5' => ?_
 ·
  refine zS <| Qa rfl <| JL.nil ?_
  refine zR (Up.refl _ _) ?_
  refine congrArg (fun n => Ending.returned (Value.int .i64 n)) ?_; omega
 refine Js.skip <| zS <| Qm rfl <| Qa rfl <| JL.nil ?_
 refine zR (Up.refl _ _) ?_
 refine congrArg (fun n => Ending.returned (Value.int .i64 n)) ?_; omega

set_option maxHeartbeats 1000000 in
theorem c_laws_szBookEntryS (a : List M.Ent) {v_a : Value} (left : Int) {w : World} (h_a : (Ty.sl 65 2 a.length (lBookEntry a)).ok w v_a) (r0 : -1 ≤ left := by exact om_) (r1 : left ≤ 1048576 := by exact om_) : RetV Try.prog 30 [v_a, .int .i64 left] w (.int .i64 (M.szL (a.length + M.totE a) left)) := by
 have q1 := M.szL_cases (a.length + M.totE a) left
 revert v_a; apply opn
 intro A1 c1 h1 bl1 bh1
 have h_a := h1
 refine enter @Try.func30 @Try.ntmps30 rfl rfl ?_
 refine zent ?_
 refine zS <| Qa rfl <| zN <| Qm rfl <| Qm rfl <| Qz rfl <| Qs rfl rfl <| Qa rfl <| zJ <| zS <| Qm rfl <| Ql rfl rfl <| JL.nil ?_
 refine zi (fun h2 h2' => ?_) fun h2 h2' => ?_
 ·
  refine zS <| Qa rfl <| JL.nil ?_
  refine zR (Up.refl _ _) ?_
  refine congrArg (fun n => Ending.returned (Value.int .i64 n)) ?_; omega
 refine Js.skip <| Js.seq <| zS <| Qa rfl <| JL.nil <| Js.block ?_
 refine zl [0] (fun F U l os u m => ∃ (i : Nat) (ll : Int), l = F [(1, .int .i64 ll), (5, .int .i64 (i : Int))] ∧ os = U [] ∧ (ll = left - (a.length : Int) - (M.totE (a.take i) : Int)) ∧ (0 ≤ ll) ∧ (i ≤ a.length) ∧ (ll ≤ 1048576) ∧ m = a.length - i) ⟨0, left - (a.length : Int), rfl, rfl, by simp [M.totE], zt, zt, by omega, rfl⟩ ?_
 rintro _ _ u3 _ ⟨i, ll, rfl, rfl, hL, hge, hi, hle, rfl⟩ x3
 refine zn ?_
 refine Js.seq <| zS <| Qm rfl <| Qm rfl <| Qz rfl <| Ql rfl rfl <| JL.nil ?_
 refine zi (fun h4 h4' => ?_) fun h4 h4' => ?_
 ·
  have t1 := M.totE_step (es := a) (i := i) (by omega)
  have t2 := M.totE_le a (i + 1)
  have q2 := M.szL_cases ((M.ent a i).pits.length + (M.ent a i).choices.length) ll
  have hy5 : a[i]? = some (M.ent a i) := M.ent_get (by omega)
  obtain ⟨b5, o5, A5_0, c5_0, A5_1, c5_1, he5, hr5, h5_0, h5_1, bl5_0, bh5_0, bl5_1, bh5_1⟩ := elem_BookEntry (Ty.mono _ h1 x3.vis) hy5
  refine Js.skip <| Js.seq <| Js.block <| zS <| Qm rfl <| Qm rfl <| Qq (p_indexAddr el_24 rfl rfl (by omega) (by omega) he5) <| QS 0 hr5 rfl ?_
  refine Qm rfl <| zv rfl (fun w hw => c_laws_szBookEntry (M.ent a i) ll (ok_ hw)) <| Qa rfl <| zN <| Qm rfl <| Ql rfl rfl <| JL.nil ?_
  refine zi (fun h6 h6' => ?_) fun h6 h6' => ?_
  ·
   refine zS <| Qa rfl <| JL.nil ?_
   refine zR x3 ?_
   refine congrArg (fun n => Ending.returned (Value.int .i64 n)) ?_; omega
  refine Js.skip <| Js.blockEnd <| Js.region <| Qm rfl <| Qp rfl rfl <| Qa rfl <| JL.nil ?_
  exact zag ⟨i + 1, M.szL ((M.ent a i).pits.length + (M.ent a i).choices.length) ll, rfl, rfl, by omega, by omega, zt, by omega, rfl⟩ x3
 have t3 : a.take i = a := List.take_of_length_le (by have := h4'; omega)
 rw [t3] at hL
 refine zx ?_
 refine zS <| Qm rfl <| Qa rfl <| JL.nil ?_
 refine zR x3 ?_
 refine congrArg (fun n => Ending.returned (Value.int .i64 n)) ?_; omega

set_option maxHeartbeats 1000000 in
theorem c_laws_szBook (a : M.Boo) {v_a : Value} (left : Int) {w : World} (h_a : (Ty.agg (cBook a)).ok w v_a) (r0 : -1 ≤ left := by exact om_) (r1 : left ≤ 1048576 := by exact om_) : RetV Try.prog 8 [v_a, .int .i64 left] w (.int .i64 (M.szL (a.entries.length + M.totE a.entries) left)) := by
 have q1 := M.szL_cases (a.entries.length + M.totE a.entries) left
 revert v_a; apply opn
 intro A1 c1 h1 bl1 bh1
 refine enter @Try.func8 @Try.ntmps8 rfl rfl ?_
 refine zent ?_
 refine zS <| zb rfl fun b2 => Qa rfl <| zN <| Qf fh rfl <| Q0 0 rfl rfl rfl <| Qm rfl <| zv rfl (fun w hw => c_laws_szBookEntryS a.entries left (ok_ hw)) <| Qa rfl <| zJ <| zS <| Qm rfl <| Ql rfl rfl <| JL.nil ?_
 refine zi (fun h3 h3' => ?_) fun h3 h3' => ?_
 ·
  refine zS <| Qa rfl <| JL.nil ?_
  refine zR (Up.refl _ _) ?_
  refine congrArg (fun n => Ending.returned (Value.int .i64 n)) ?_; omega
 refine Js.skip <| zS <| Qm rfl <| Qa rfl <| JL.nil ?_
 refine zR (Up.refl _ _) ?_
 refine congrArg (fun n => Ending.returned (Value.int .i64 n)) ?_; omega

set_option maxHeartbeats 1000000 in
theorem c_laws_eqChoice (a : M.Cho) {v_a : Value} (b : M.Cho) {v_b : Value} {w : World} (h_a : (Ty.agg (cChoice a)).ok w v_a) (h_b : (Ty.agg (cChoice b)).ok w v_b) : RetV Try.prog 54 [v_a, v_b] w (.bool (decide (a = b))) := by
 revert v_a; apply opn
 revert v_b; apply opn
 refine enter @Try.func54 @Try.ntmps54 rfl rfl ?_
 refine zent ?_
 refine zS <| zb rfl fun b1 => zb rfl fun b2 => Qa rfl <| zJ <| zS <| Qf fh rfl <| Q0 1 rfl rfl rfl <| Qf fh rfl <| Q0 0 rfl rfl rfl <| Qd rfl rfl <| JL.nil ?_
 refine zi (fun h3 h3' => ?_) fun h3 h3' => ?_
 ·
  have hne : a ≠ b := by rintro rfl; simp at h3
  refine zS <| Qa rfl <| JL.nil ?_
  refine zR (Up.refl _ _) ?_
  first | (rw [decide_eq_false hne]; rfl) | (rw [decide_eq_true (M.cho_ext q0 q1 q2)]; rfl)
 have q0 : a.move = b.move := by simpa using h3
 refine Js.skip <| Js.seq <| zS <| Qf fh rfl <| Q0 1 rfl rfl rfl <| Qf fh rfl <| Q0 0 rfl rfl rfl <| Qd rfl rfl <| JL.nil ?_
 refine zi (fun h4 h4' => ?_) fun h4 h4' => ?_
 ·
  have hne : a ≠ b := by rintro rfl; simp at h4
  refine zS <| Qa rfl <| JL.nil ?_
  refine zR (Up.refl _ _) ?_
  first | (rw [decide_eq_false hne]; rfl) | (rw [decide_eq_true (M.cho_ext q0 q1 q2)]; rfl)
 have q1 : a.games = b.games := by simpa using h4
 refine Js.skip <| Js.seq <| zS <| Qf fh rfl <| Q0 1 rfl rfl rfl <| Qf fh rfl <| Q0 0 rfl rfl rfl <| Qd rfl rfl <| JL.nil ?_
 refine zi (fun h5 h5' => ?_) fun h5 h5' => ?_
 ·
  have hne : a ≠ b := by rintro rfl; simp at h5
  refine zS <| Qa rfl <| JL.nil ?_
  refine zR (Up.refl _ _) ?_
  first | (rw [decide_eq_false hne]; rfl) | (rw [decide_eq_true (M.cho_ext q0 q1 q2)]; rfl)
 have q2 : a.score = b.score := by simpa using h5
 refine Js.skip <| zS <| Qa rfl <| JL.nil ?_
 refine zR (Up.refl _ _) ?_
 first | (rw [decide_eq_false hne]; rfl) | (rw [decide_eq_true (M.cho_ext q0 q1 q2)]; rfl)

set_option maxHeartbeats 1000000 in
theorem c_laws_eqChoiceS (a : List M.Cho) {v_a : Value} (b : List M.Cho) {v_b : Value} {w : World} (h_a : (Ty.sl 73 3 a.length (lChoice a)).ok w v_a) (h_b : (Ty.sl 73 3 b.length (lChoice b)).ok w v_b) (r0 : a.length ≤ 4194304 := by exact om_) (r1 : b.length ≤ 4194304 := by exact om_) : RetV Try.prog 24 [v_a, v_b] w (.bool (decide (a = b))) := by
 revert v_a; apply opn
 intro A1 c1 h1 bl1 bh1
 have h_a := h1
 revert v_b; apply opn
 intro A2 c2 h2 bl2 bh2
 have h_b := h2
 refine enter @Try.func24 @Try.ntmps24 rfl rfl ?_
 refine zent ?_
 refine zS <| Qa rfl <| zJ <| zS <| Qm rfl <| Qz rfl <| Qm rfl <| Qz rfl <| Qd rfl rfl <| JL.nil ?_
 refine zi (fun h3 h3' => ?_) fun h3 h3' => ?_
 ·
  have e1 : decide (a = b) = false := by simp; rintro rfl; simp at h3
  refine zS <| Qa rfl <| JL.nil ?_
  refine zR (Up.refl _ _) ?_
  simp [outV, e1]
 have hlen : a.length = b.length := by have := h3'; omega
 refine Js.skip <| Js.seq <| zS <| Qa rfl <| JL.nil <| Js.block ?_
 refine zl [0, 1] (fun F U l os u m => ∃ (k : Nat), l = F [(5, .int .i64 (k : Int))] ∧ os = U [] ∧ (k ≤ a.length) ∧ (a.take k = b.take k) ∧ m = a.length - k) ⟨0, rfl, rfl, zt, by rfl, rfl⟩ ?_
 rintro _ _ u4 _ ⟨k, rfl, rfl, hk, hU, rfl⟩ x4
 refine zn ?_
 refine Js.seq <| zS <| Qm rfl <| Qm rfl <| Qz rfl <| Ql rfl rfl <| JL.nil ?_
 refine zi (fun h5 h5' => ?_) fun h5 h5' => ?_
 ·
  obtain ⟨ye6, hye6⟩ : ∃ x, a[k]? = some x := ⟨_, List.getElem?_eq_getElem (by omega)⟩
  obtain ⟨ye7, hye7⟩ : ∃ x, b[k]? = some x := ⟨_, List.getElem?_eq_getElem (by omega)⟩
  refine Js.skip <| Js.seq <| Js.block <| Js.seq ?_
  refine zdr [] ?_
  refine JH.p 0 rfl (p_move rfl) ?_
  refine JH.p 1 rfl (p_move rfl) ?_
  have hy8 := hye6
  obtain ⟨b8, o8, he8, hr8⟩ := elem_Choice (Ty.mono _ h1 x4.vis) hy8
  refine JH.p 2 rfl (p_indexAddr el_50 rfl rfl (by omega) (by omega) he8) ?_
  refine JH.w 3 rfl (fun os' u' hv => LS 0 (hr8.vis hv) rfl) ?_
  refine JH.p 4 rfl (p_move rfl) ?_
  refine JH.p 5 rfl (p_move rfl) ?_
  have hy9 := hye7
  obtain ⟨b9, o9, he9, hr9⟩ := elem_Choice (Ty.mono _ h2 x4.vis) hy9
  refine JH.p 6 rfl (p_indexAddr el_50 rfl rfl (by omega) (by omega) he9) ?_
  refine JH.w 7 rfl (fun os' u' hv => LS 0 (hr9.vis hv) rfl) ?_
  refine y1 8 ?_
  refine yv rfl rfl (fun w hw => c_laws_eqChoice ye6 ye7 (ok_ hw) (ok_ hw)) ?_
  refine JH.p 9 rfl (p_not rfl) ?_
  refine yd ?_
  refine zi (fun h10 h10' => ?_) fun h10 h10' => ?_
  ·
   have e1 : decide (a = b) = false := decide_eq_false (M.upto_ne hye6 hye7 (by simpa using h10))
   refine zS <| Qa rfl <| JL.nil ?_
   refine zR x4 ?_
   simp [outV, e1]
  have hab : ye6 = ye7 := by simpa using h10
  rw [← hab] at hye7
  have hU2 := M.upto_step hU hye6 hye7
  refine Js.skip <| Js.blockEnd <| Js.region <| Qm rfl <| Qp rfl rfl <| Qa rfl <| JL.nil ?_
  exact zag ⟨k + 1, rfl, rfl, zt, by exact hU2, rfl⟩ x4
 have e1 : a = b := M.upto_done hU (by have := h5'; omega) (by have := h5'; omega)
 refine zx ?_
 refine zS <| Qa rfl <| JL.nil ?_
 refine zR x4 ?_
 simp [outV, e1]

set_option maxHeartbeats 1000000 in
theorem c_laws_eqBookEntry (a : M.Ent) {v_a : Value} (b : M.Ent) {v_b : Value} {w : World} (h_a : (Ty.agg (cBookEntry a)).ok w v_a) (h_b : (Ty.agg (cBookEntry b)).ok w v_b) (r0 : a.pits.length ≤ 4194304 := by exact om_) (r1 : a.choices.length ≤ 4194304 := by exact om_) (r2 : b.pits.length ≤ 4194304 := by exact om_) (r3 : b.choices.length ≤ 4194304 := by exact om_) : RetV Try.prog 69 [v_a, v_b] w (.bool (decide (a = b))) := by
 revert v_a; apply opn
 intro A1 c1 h1 bl1 bh1 A2 c2 h2 bl2 bh2
 revert v_b; apply opn
 intro A3 c3 h3 bl3 bh3 A4 c4 h4 bl4 bh4
 refine enter @Try.func69 @Try.ntmps69 rfl rfl ?_
 refine zent ?_
 refine zS <| zb rfl fun b5 => zb rfl fun b6 => Qa rfl <| zJ <| zS <| Qf fh rfl <| Q0 1 rfl rfl rfl <| Qf fh rfl <| Q0 0 rfl rfl rfl <| zv rfl (fun w hw => c_laws_eqInt64S a.pits b.pits (ok_ hw) (ok_ hw)) <| Qt rfl <| JL.nil ?_
 refine zi (fun h7 h7' => ?_) fun h7 h7' => ?_
 ·
  have hne : a ≠ b := by rintro rfl; simp at h7
  refine zS <| Qa rfl <| JL.nil ?_
  refine zR (Up.refl _ _) ?_
  first | (rw [decide_eq_false hne]; rfl) | (rw [decide_eq_true (M.ent_ext q0 q1)]; rfl)
 have q0 : a.pits = b.pits := by simpa using h7
 refine Js.skip <| Js.seq <| zS <| Qf fh rfl <| Q0 1 rfl rfl rfl <| Qf fh rfl <| Q0 0 rfl rfl rfl <| zv rfl (fun w hw => c_laws_eqChoiceS a.choices b.choices (ok_ hw) (ok_ hw)) <| Qt rfl <| JL.nil ?_
 refine zi (fun h8 h8' => ?_) fun h8 h8' => ?_
 ·
  have hne : a ≠ b := by rintro rfl; simp at h8
  refine zS <| Qa rfl <| JL.nil ?_
  refine zR (Up.refl _ _) ?_
  first | (rw [decide_eq_false hne]; rfl) | (rw [decide_eq_true (M.ent_ext q0 q1)]; rfl)
 have q1 : a.choices = b.choices := by simpa using h8
 refine Js.skip <| zS <| Qa rfl <| JL.nil ?_
 refine zR (Up.refl _ _) ?_
 first | (rw [decide_eq_false hne]; rfl) | (rw [decide_eq_true (M.ent_ext q0 q1)]; rfl)

set_option maxHeartbeats 1000000 in
theorem c_laws_eqBookEntryS (a : List M.Ent) {v_a : Value} (b : List M.Ent) {v_b : Value} {w : World} (h_a : (Ty.sl 65 2 a.length (lBookEntry a)).ok w v_a) (h_b : (Ty.sl 65 2 b.length (lBookEntry b)).ok w v_b) (r0 : a.length ≤ 4194304 := by exact om_) (r1 : b.length ≤ 4194304 := by exact om_) (r2 : ∀ x ∈ a, x.pits.length ≤ 4194304 ∧ x.choices.length ≤ 4194304 := by exact om_) (r3 : ∀ x ∈ b, x.pits.length ≤ 4194304 ∧ x.choices.length ≤ 4194304 := by exact om_) : RetV Try.prog 38 [v_a, v_b] w (.bool (decide (a = b))) := by
 revert v_a; apply opn
 intro A1 c1 h1 bl1 bh1
 have h_a := h1
 revert v_b; apply opn
 intro A2 c2 h2 bl2 bh2
 have h_b := h2
 refine enter @Try.func38 @Try.ntmps38 rfl rfl ?_
 refine zent ?_
 refine zS <| Qa rfl <| zJ <| zS <| Qm rfl <| Qz rfl <| Qm rfl <| Qz rfl <| Qd rfl rfl <| JL.nil ?_
 refine zi (fun h3 h3' => ?_) fun h3 h3' => ?_
 ·
  have e1 : decide (a = b) = false := by simp; rintro rfl; simp at h3
  refine zS <| Qa rfl <| JL.nil ?_
  refine zR (Up.refl _ _) ?_
  simp [outV, e1]
 have hlen : a.length = b.length := by have := h3'; omega
 refine Js.skip <| Js.seq <| zS <| Qa rfl <| JL.nil <| Js.block ?_
 refine zl [0, 1] (fun F U l os u m => ∃ (k : Nat), l = F [(5, .int .i64 (k : Int))] ∧ os = U [] ∧ (k ≤ a.length) ∧ (a.take k = b.take k) ∧ m = a.length - k) ⟨0, rfl, rfl, zt, by rfl, rfl⟩ ?_
 rintro _ _ u4 _ ⟨k, rfl, rfl, hk, hU, rfl⟩ x4
 refine zn ?_
 refine Js.seq <| zS <| Qm rfl <| Qm rfl <| Qz rfl <| Ql rfl rfl <| JL.nil ?_
 refine zi (fun h5 h5' => ?_) fun h5 h5' => ?_
 ·
  obtain ⟨ye6, hye6⟩ : ∃ x, a[k]? = some x := ⟨_, List.getElem?_eq_getElem (by omega)⟩
  obtain ⟨ye7, hye7⟩ : ∃ x, b[k]? = some x := ⟨_, List.getElem?_eq_getElem (by omega)⟩
  refine Js.skip <| Js.seq <| Js.block <| Js.seq ?_
  refine zdr [] ?_
  refine JH.p 0 rfl (p_move rfl) ?_
  refine JH.p 1 rfl (p_move rfl) ?_
  have hy8 := hye6
  obtain ⟨b8, o8, A8_0, c8_0, A8_1, c8_1, he8, hr8, h8_0, h8_1, bl8_0, bh8_0, bl8_1, bh8_1⟩ := elem_BookEntry (Ty.mono _ h1 x4.vis) hy8
  refine JH.p 2 rfl (p_indexAddr el_30 rfl rfl (by omega) (by omega) he8) ?_
  refine JH.w 3 rfl (fun os' u' hv => LS 0 (hr8.vis hv) rfl) ?_
  refine JH.p 4 rfl (p_move rfl) ?_
  refine JH.p 5 rfl (p_move rfl) ?_
  have hy9 := hye7
  obtain ⟨b9, o9, A9_0, c9_0, A9_1, c9_1, he9, hr9, h9_0, h9_1, bl9_0, bh9_0, bl9_1, bh9_1⟩ := elem_BookEntry (Ty.mono _ h2 x4.vis) hy9
  refine JH.p 6 rfl (p_indexAddr el_30 rfl rfl (by omega) (by omega) he9) ?_
  refine JH.w 7 rfl (fun os' u' hv => LS 0 (hr9.vis hv) rfl) ?_
  refine y1 8 ?_
  refine yv rfl rfl (fun w hw => c_laws_eqBookEntry ye6 ye7 (ok_ hw) (ok_ hw) (r0 := (by have := r2 _ (List.mem_of_getElem? hye6); omega)) (r1 := (by have := r2 _ (List.mem_of_getElem? hye6); omega)) (r2 := (by have := r3 _ (List.mem_of_getElem? hye7); omega)) (r3 := (by have := r3 _ (List.mem_of_getElem? hye7); omega))) ?_
  refine JH.p 9 rfl (p_not rfl) ?_
  refine yd ?_
  refine zi (fun h10 h10' => ?_) fun h10 h10' => ?_
  ·
   have e1 : decide (a = b) = false := decide_eq_false (M.upto_ne hye6 hye7 (by simpa using h10))
   refine zS <| Qa rfl <| JL.nil ?_
   refine zR x4 ?_
   simp [outV, e1]
  have hab : ye6 = ye7 := by simpa using h10
  rw [← hab] at hye7
  have hU2 := M.upto_step hU hye6 hye7
  refine Js.skip <| Js.blockEnd <| Js.region <| Qm rfl <| Qp rfl rfl <| Qa rfl <| JL.nil ?_
  exact zag ⟨k + 1, rfl, rfl, zt, by exact hU2, rfl⟩ x4
 have e1 : a = b := M.upto_done hU (by have := h5'; omega) (by have := h5'; omega)
 refine zx ?_
 refine zS <| Qa rfl <| JL.nil ?_
 refine zR x4 ?_
 simp [outV, e1]

set_option maxHeartbeats 1000000 in
theorem c_laws_eqBook (a : M.Boo) {v_a : Value} (b : M.Boo) {v_b : Value} {w : World} (h_a : (Ty.agg (cBook a)).ok w v_a) (h_b : (Ty.agg (cBook b)).ok w v_b) (r0 : a.entries.length ≤ 4194304 := by exact om_) (r1 : ∀ x ∈ a.entries, x.pits.length ≤ 4194304 ∧ x.choices.length ≤ 4194304 := by exact om_) (r2 : b.entries.length ≤ 4194304 := by exact om_) (r3 : ∀ x ∈ b.entries, x.pits.length ≤ 4194304 ∧ x.choices.length ≤ 4194304 := by exact om_) : RetV Try.prog 12 [v_a, v_b] w (.bool (decide (a = b))) := by
 revert v_a; apply opn
 intro A1 c1 h1 bl1 bh1
 revert v_b; apply opn
 intro A2 c2 h2 bl2 bh2
 refine enter @Try.func12 @Try.ntmps12 rfl rfl ?_
 refine zent ?_
 refine zS <| zb rfl fun b3 => zb rfl fun b4 => Qa rfl <| zJ <| zS <| Qf fh rfl <| Q9 1 rfl rfl ?_
 refine Qf fh rfl <| Q9 0 rfl rfl ?_
 refine zv rfl (fun w hw => c_laws_eqRules a.rules b.rules (ok_ hw) (ok_ hw)) <| Qt rfl <| JL.nil ?_
 refine zi (fun h5 h5' => ?_) fun h5 h5' => ?_
 ·
  have hne : a ≠ b := by rintro rfl; simp at h5
  refine zS <| Qa rfl <| JL.nil ?_
  refine zR (Up.refl _ _) ?_
  first | (rw [decide_eq_false hne]; rfl) | (rw [decide_eq_true (M.boo_ext q0 q1)]; rfl)
 have q0 : a.rules = b.rules := by simpa using h5
 refine Js.skip <| Js.seq <| zS <| Qf fh rfl <| Q0 1 rfl rfl rfl <| Qf fh rfl <| Q0 0 rfl rfl rfl <| zv rfl (fun w hw => c_laws_eqBookEntryS a.entries b.entries (ok_ hw) (ok_ hw) (r2 := r1) (r3 := r3)) <| Qt rfl <| JL.nil ?_
 refine zi (fun h6 h6' => ?_) fun h6 h6' => ?_
 ·
  have hne : a ≠ b := by rintro rfl; simp at h6
  refine zS <| Qa rfl <| JL.nil ?_
  refine zR (Up.refl _ _) ?_
  first | (rw [decide_eq_false hne]; rfl) | (rw [decide_eq_true (M.boo_ext q0 q1)]; rfl)
 have q1 : a.entries = b.entries := by simpa using h6
 refine Js.skip <| zS <| Qa rfl <| JL.nil ?_
 refine zR (Up.refl _ _) ?_
 first | (rw [decide_eq_false hne]; rfl) | (rw [decide_eq_true (M.boo_ext q0 q1)]; rfl)

end Go.Proofs.Ytcmfnlleikcpnaa

namespace Go.Proofs.Ytcmfnlleikcpnaa
open Go.RowKit

set_option maxHeartbeats 4000000 in
theorem c_laws_FnExactChooseMove (aB : M.Boo) {v_aB : Value} (aP : M.Pos) {v_aP : Value} {w : World} (h_aB : (Ty.agg (cBook aB)).ok w v_aB) (h_aP : (Ty.agg (cPosition aP)).ok w v_aP) : RetV Try.prog 5 [v_aB, v_aP] w (.bool true) := by
 have q4 := M.szL_cases (aB.entries.length + M.totE aB.entries) 1048576
 have q5 := M.szL_cases (aP.pits.length + aP.stores.length) (M.szL (aB.entries.length + M.totE aB.entries) 1048576)
 change (_ < _ ∧ M.szP aP _ = -1) ∨ (_ ≤ _ ∧ M.szP aP _ = _) at q5
 revert v_aB; apply opn
 intro A1 c1 h1 bl1 bh1
 revert v_aP; apply opn
 intro A2 c2 h2 bl2 bh2 A3 c3 h3 bl3 bh3
 refine enter @Try.func5 @Try.ntmps5 rfl rfl ?_
 refine zent ?_
 refine zS <| zb rfl fun b4 => zb rfl fun b5 => Qa rfl <| zN <| Qa rfl <| zN <| Q9 1 rfl rfl ?_
 refine Qm rfl <| zv rfl (fun w hw => c_laws_szBook aB 1048576 (ok_ hw)) <| Qa rfl <| zJ <| zS <| Qm rfl <| Ql rfl rfl <| JL.nil ?_
 refine zi (fun h6 h6' => ?_) fun h6 h6' => ?_
 ·
  refine zS <| Qa rfl <| JL.nil ?_
  exact zr (Up.refl _ _)
 refine Js.skip <| zS <| Q9 0 rfl rfl ?_
 refine Qm rfl <| zv rfl (fun w hw => c_laws_szPosition aP (M.szL (aB.entries.length + M.totE aB.entries) 1048576) (ok_ hw)) <| Qa rfl <| zJ <| zS <| Qm rfl <| Ql rfl rfl <| JL.nil ?_
 refine zi (fun h7 h7' => ?_) fun h7 h7' => ?_
 ·
  refine zS <| Qa rfl <| JL.nil ?_
  exact zr (Up.refl _ _)
 refine Js.skip <| Js.seq ?_
 refine zdr [] ?_
 refine JH.q 0 rfl (L9 1 rfl rfl) ?_
 refine JH.q 2 rfl (L9 0 rfl rfl) ?_
 refine y1 1 ?_
 refine yp rfl rfl (fun w hw => c_laws_toBook aB (ok_ hw) (r1 := (M.totE_small (n := 4194304) (by omega)))) ?_
 intro u8 x8 A9 c9 h9 bl9 bh9
 refine y1 3 ?_
 refine yp rfl rfl (fun w hw => c_laws_toPosition aP (ok_ hw)) ?_
 intro u10 x10 A11 c11 h11 bl11 bh11 A12 c12 h12 bl12 bh12
 refine y1 4 ?_
 refine yv rfl rfl (fun w hw => c_spec_ChooseMove aB aP (ok_ hw) (ok_ hw) (r1 := (M.totE_small (n := 4194304) (by omega)))) ?_
 refine JH.p 5 rfl (p_move rfl) ?_
 refine JH.p 6 rfl (p_extract rfl rfl) ?_
 refine JH.p 7 rfl (p_extract rfl rfl) ?_
 refine JH.p 8 rfl (p_assign rfl) ?_
 refine JH.p 9 rfl (p_assign rfl) ?_
 refine yd ?_
 refine zS <| Q9 1 rfl rfl ?_
 refine zp rfl (fun w hw => c_laws_toBook aB (ok_ hw) (r1 := (M.totE_small (n := 4194304) (by omega)))) ?_
 intro u13 x13 A14 c14 h14 bl14 bh14
 refine za zeh fun b15 => zw 0 rfl rfl rfl ?_
 refine zN <| Q9 1 rfl rfl ?_
 refine zp rfl (fun w hw => c_laws_toPosition aP (ok_ hw)) ?_
 intro u16 x16 A17 c17 h17 bl17 bh17 A18 c18 h18 bl18 bh18
 refine za zeh fun b19 => zw 0 rfl rfl rfl ?_
 refine zN <| Q9 1 rfl rfl ?_
 refine Q9 0 rfl rfl ?_
 refine zv rfl (fun w hw => c_impl_ChooseMove aB aP (ok_ hw) (ok_ hw) (r1 := (M.totE_small (n := 4194304) (by omega)))) <| Qm rfl <| Qx rfl rfl <| Qx rfl rfl <| Qa rfl <| Qa rfl <| zJ <| zS <| Qm rfl <| Qm rfl <| Qd rfl rfl <| Qm rfl <| zg (Gd.f1 rfl rfl rfl) (fun hc => p_move rfl) <| zg (Gd.f1 rfl rfl rfl) (fun hc => p_move rfl) ?_
 refine zg (Gd.f1 rfl rfl rfl) (fun hc => p_neq (gh hc rfl) (gh hc rfl)) <| Qq (p_pickOr rfl rfl rfl) <| JL.nil ?_
 refine zi (fun h20 h20' => ?_) fun h20 h20' => ?_
 · exact absurd h20 (by simp)
 refine Js.skip <| Js.seq <| Js.seq ?_
 refine zdr [] ?_
 refine JH.q 0 rfl (L9 1 rfl rfl) ?_
 refine JH.q 1 rfl (L9 3 rfl rfl) ?_
 refine y1 2 ?_
 refine yp rfl rfl (fun w hw => c_laws_toBook aB (ok_ hw) (r1 := (M.totE_small (n := 4194304) (by omega)))) ?_
 intro u21 x21 A22 c22 h22 bl22 bh22
 refine y1 3 ?_
 refine yv rfl rfl (fun w hw => c_laws_eqBook aB aB (ok_ hw) (ok_ hw) (r1 := (M.totE_small (n := 4194304) (by omega))) (r3 := (M.totE_small (n := 4194304) (by omega)))) ?_
 refine JH.p 4 rfl (p_not rfl) ?_
 refine yd ?_
 refine zi (fun h23 h23' => ?_) fun h23 h23' => ?_
 · exact absurd h23 (by simp)
 refine Js.skip <| Js.seq <| Js.seq ?_
 refine zdr [] ?_
 refine JH.q 0 rfl (L9 0 rfl rfl) ?_
 refine JH.q 1 rfl (L9 2 rfl rfl) ?_
 refine y1 2 ?_
 refine yp rfl rfl (fun w hw => c_laws_toPosition aP (ok_ hw)) ?_
 intro u24 x24 A25 c25 h25 bl25 bh25 A26 c26 h26 bl26 bh26
 refine y1 3 ?_
 refine yv rfl rfl (fun w hw => c_laws_eqPosition aP aP (ok_ hw) (ok_ hw)) ?_
 refine JH.p 4 rfl (p_not rfl) ?_
 refine yd ?_
 refine zi (fun h27 h27' => ?_) fun h27 h27' => ?_
 · exact absurd h27 (by simp)
 refine Js.skip <| zS <| Qa rfl <| JL.nil ?_
 exact zr (((((x8.trans x10).trans x13).trans x16).trans x21).trans x24)

end Go.Proofs.Ytcmfnlleikcpnaa

namespace Go.Proofs.Ytcmfnlleikcpnaa
open Go.RowKit

set_option maxHeartbeats 1000000 in
theorem c_laws_markChoiceS (a : List M.Cho) {Aa_0 : Option Addr} {ca_0 : Nat} {ga_0 : List Nat} (k : Int) {w : World} (hb : Bw w [rowO 73 3 (.slice Aa_0 a.length ca_0) a.length (fltV vcChoice a) ga_0]) (bd0 : a.length ≤ ca_0 := by exact om_) (bd1 : ca_0 ≤ 9223372036854775807 := by exact om_) (r0 : a.length ≤ 4194304 := by exact om_) (r1 : 0 ≤ k := by exact om_) (r2 : k ≤ 50000000 := by exact om_) : RetB Try.prog 26 [.slice Aa_0 a.length ca_0, .int .i64 k] w [rowO 73 3 (.slice Aa_0 a.length ca_0) a.length (fltV vcChoice a) ga_0] (fun v bs' => v = .int .i64 (k + 3 * (a.length : Int)) ∧ bs' = [rowO 73 3 (.slice Aa_0 a.length ca_0) a.length (fltV vcChoice (M.mkL M.fC M.sC k a)) ga_0]) := by
 refine enterB hb @Try.func26 @Try.ntmps26 rfl rfl ?_
 refine zent ?_
 refine Js.trashE ?_
 refine zn ?_
 refine zS <| Qa rfl <| zJ <| zS <| Qa rfl <| JL.nil <| Js.block ?_
 refine zl [0] (fun F U l os u m => ∃ (i : Nat) (kk : Int) (xs : List M.Cho) (G1_1 : List Nat), l = F [(1, .int .i64 kk), (5, .int .i64 (i : Int))] ∧ os = U [some (rowO 73 3 (.slice Aa_0 a.length ca_0) a.length (fltV vcChoice xs) ga_0), some (anyO G1_1)] ∧ (xs = M.mkd2 M.fC M.sC k a i) ∧ (i ≤ a.length) ∧ (xs.length = a.length) ∧ (kk = k + 3 * (i : Int)) ∧ m = a.length - i) ⟨0, k, a, _, rfl, rfl, by exact M.mkd2_zero _ _ k a, zt, by rfl, by simp, rfl⟩ ?_
 rintro _ _ u1 _ ⟨i, kk, xs, G1_1, rfl, rfl, hX, hi, hl, hkk, rfl⟩ x1
 refine zn ?_
 refine Js.seq <| zS <| Qm rfl <| Qm rfl <| Qz rfl <| Ql rfl rfl <| JL.nil ?_
 refine zi (fun h2 h2' => ?_) fun h2 h2' => ?_
 ·
  have hxi : i < xs.length := by have := h2'; omega
  have hya9 := M.mkd2_get M.fC M.sC (k := k) (by rw [← hX]; exact M.cho_get hxi)
  have hs9 : M.szs M.sC (a.take i) = 3 * (i : Int) := by rw [M.szs_C, List.length_take]; omega
  have hq9 : xs.set i ⟨kk, kk + 1, kk + 1 + 1⟩ = M.mkd2 M.fC M.sC k a (i + 1) := by have h7 := M.mkd2_step M.fC M.sC (k := k) hya9; rw [← hX, hs9, ← hkk] at h7; rw [show kk + 1 + 1 = kk + 2 by omega]; exact h7
  refine Js.skip <| Js.seq <| Js.block <| zS <| Qm rfl <| Qm rfl <| Qm rfl ?_
  refine JL.fact (row_some (i := 0) rfl (by first | omega | (simp only [List.length_set, List.length_append, List.length_cons, List.length_nil, List.length_take, List.length_drop, List.length_replicate]; omega))) (fun hf4 => ?_)
  obtain ⟨b4, rfl⟩ := hf4
  have hy3 : xs[i]? = some (M.cho xs i) := M.cho_get (by first | omega | (simp only [List.length_set, List.length_append, List.length_cons, List.length_nil, List.length_take, List.length_drop, List.length_replicate]; omega))
  refine Qq (p_indexAddr el_50 rfl rfl (by omega) (by omega) rfl) <| Qf fh rfl ?_
  refine JL.s (e_storeRow (i := 0) (xs' := fltV vcChoice (xs.set i (M.Cho.mk kk ((M.cho xs i).games) ((M.cho xs i).score)))) ty_2.h rfl rfl rfl rfl rfl rfl (fltV_lt (C := vcChoice) (j := 0) (fun _ => rfl) (by first | omega | (simp only [List.length_set, List.length_append, List.length_cons, List.length_nil, List.length_take, List.length_drop, List.length_replicate]; omega)) (by decide)) (fltV_cell (C := vcChoice) (j := 0) (y' := (M.Cho.mk kk ((M.cho xs i).games) ((M.cho xs i).score))) (fun _ => rfl) hy3 (by decide) rfl)) ?_
  rintro _ _ _ ⟨rfl, rfl⟩ _
  refine znl ?_
  have hy5 : (xs.set i (M.Cho.mk kk ((M.cho xs i).games) ((M.cho xs i).score)))[i]? = some (M.cho (xs.set i (M.Cho.mk kk ((M.cho xs i).games) ((M.cho xs i).score))) i) := M.cho_get (by first | omega | (simp only [List.length_set, List.length_append, List.length_cons, List.length_nil, List.length_take, List.length_drop, List.length_replicate]; omega))
  refine zN <| Qm rfl <| Qp rfl rfl <| Qa rfl <| zN <| Qm rfl <| Qm rfl <| Qm rfl <| Qq (p_indexAddr el_50 rfl rfl (by omega) (by omega) rfl) <| Qf fh rfl ?_
  refine JL.s (e_storeRow (i := 0) (xs' := fltV vcChoice ((xs.set i (M.Cho.mk kk ((M.cho xs i).games) ((M.cho xs i).score))).set i (M.Cho.mk ((M.cho (xs.set i (M.Cho.mk kk ((M.cho xs i).games) ((M.cho xs i).score))) i).move) (kk + 1) ((M.cho (xs.set i (M.Cho.mk kk ((M.cho xs i).games) ((M.cho xs i).score))) i).score)))) ty_2.h rfl rfl rfl rfl rfl rfl (fltV_lt (C := vcChoice) (j := 1) (fun _ => rfl) (by first | omega | (simp only [List.length_set, List.length_append, List.length_cons, List.length_nil, List.length_take, List.length_drop, List.length_replicate]; omega)) (by decide)) (fltV_cell (C := vcChoice) (j := 1) (y' := (M.Cho.mk ((M.cho (xs.set i (M.Cho.mk kk ((M.cho xs i).games) ((M.cho xs i).score))) i).move) (kk + 1) ((M.cho (xs.set i (M.Cho.mk kk ((M.cho xs i).games) ((M.cho xs i).score))) i).score))) (fun _ => rfl) hy5 (by decide) rfl)) ?_
  rintro _ _ _ ⟨rfl, rfl⟩ _
  refine znl ?_
  have hy6 : ((xs.set i (M.Cho.mk kk ((M.cho xs i).games) ((M.cho xs i).score))).set i (M.Cho.mk ((M.cho (xs.set i (M.Cho.mk kk ((M.cho xs i).games) ((M.cho xs i).score))) i).move) (kk + 1) ((M.cho (xs.set i (M.Cho.mk kk ((M.cho xs i).games) ((M.cho xs i).score))) i).score)))[i]? = some (M.cho ((xs.set i (M.Cho.mk kk ((M.cho xs i).games) ((M.cho xs i).score))).set i (M.Cho.mk ((M.cho (xs.set i (M.Cho.mk kk ((M.cho xs i).games) ((M.cho xs i).score))) i).move) (kk + 1) ((M.cho (xs.set i (M.Cho.mk kk ((M.cho xs i).games) ((M.cho xs i).score))) i).score))) i) := M.cho_get (by first | omega | (simp only [List.length_set, List.length_append, List.length_cons, List.length_nil, List.length_take, List.length_drop, List.length_replicate]; omega))
  refine zN <| Qm rfl <| Qp rfl rfl <| Qa rfl <| zN <| Qm rfl <| Qm rfl <| Qm rfl <| Qq (p_indexAddr el_50 rfl rfl (by omega) (by omega) rfl) <| Qf fh rfl ?_
  refine JL.s (e_storeRow (i := 0) (xs' := fltV vcChoice (((xs.set i (M.Cho.mk kk ((M.cho xs i).games) ((M.cho xs i).score))).set i (M.Cho.mk ((M.cho (xs.set i (M.Cho.mk kk ((M.cho xs i).games) ((M.cho xs i).score))) i).move) (kk + 1) ((M.cho (xs.set i (M.Cho.mk kk ((M.cho xs i).games) ((M.cho xs i).score))) i).score))).set i (M.Cho.mk ((M.cho ((xs.set i (M.Cho.mk kk ((M.cho xs i).games) ((M.cho xs i).score))).set i (M.Cho.mk ((M.cho (xs.set i (M.Cho.mk kk ((M.cho xs i).games) ((M.cho xs i).score))) i).move) (kk + 1) ((M.cho (xs.set i (M.Cho.mk kk ((M.cho xs i).games) ((M.cho xs i).score))) i).score))) i).move) ((M.cho ((xs.set i (M.Cho.mk kk ((M.cho xs i).games) ((M.cho xs i).score))).set i (M.Cho.mk ((M.cho (xs.set i (M.Cho.mk kk ((M.cho xs i).games) ((M.cho xs i).score))) i).move) (kk + 1) ((M.cho (xs.set i (M.Cho.mk kk ((M.cho xs i).games) ((M.cho xs i).score))) i).score))) i).games) ((kk + 1) + 1)))) ty_2.h rfl rfl rfl rfl rfl rfl (fltV_lt (C := vcChoice) (j := 2) (fun _ => rfl) (by first | omega | (simp only [List.length_set, List.length_append, List.length_cons, List.length_nil, List.length_take, List.length_drop, List.length_replicate]; omega)) (by decide)) (fltV_cell (C := vcChoice) (j := 2) (y' := (M.Cho.mk ((M.cho ((xs.set i (M.Cho.mk kk ((M.cho xs i).games) ((M.cho xs i).score))).set i (M.Cho.mk ((M.cho (xs.set i (M.Cho.mk kk ((M.cho xs i).games) ((M.cho xs i).score))) i).move) (kk + 1) ((M.cho (xs.set i (M.Cho.mk kk ((M.cho xs i).games) ((M.cho xs i).score))) i).score))) i).move) ((M.cho ((xs.set i (M.Cho.mk kk ((M.cho xs i).games) ((M.cho xs i).score))).set i (M.Cho.mk ((M.cho (xs.set i (M.Cho.mk kk ((M.cho xs i).games) ((M.cho xs i).score))) i).move) (kk + 1) ((M.cho (xs.set i (M.Cho.mk kk ((M.cho xs i).games) ((M.cho xs i).score))) i).score))) i).games) ((kk + 1) + 1))) (fun _ => rfl) hy6 (by decide) rfl)) ?_
  rintro _ _ _ ⟨rfl, rfl⟩ _
  refine znl ?_
  refine zG <| Qm rfl <| Qp rfl rfl <| Qa rfl <| JL.nil <| Js.blockEnd <| Js.region <| Qm rfl <| Qp rfl rfl <| Qa rfl <| JL.nil ?_
  exact zag ⟨i + 1, ((kk + 1) + 1) + 1, ((xs.set i (M.Cho.mk kk ((M.cho xs i).games) ((M.cho xs i).score))).set i (M.Cho.mk ((M.cho (xs.set i (M.Cho.mk kk ((M.cho xs i).games) ((M.cho xs i).score))) i).move) (kk + 1) ((M.cho (xs.set i (M.Cho.mk kk ((M.cho xs i).games) ((M.cho xs i).score))) i).score))).set i (M.Cho.mk ((M.cho ((xs.set i (M.Cho.mk kk ((M.cho xs i).games) ((M.cho xs i).score))).set i (M.Cho.mk ((M.cho (xs.set i (M.Cho.mk kk ((M.cho xs i).games) ((M.cho xs i).score))) i).move) (kk + 1) ((M.cho (xs.set i (M.Cho.mk kk ((M.cho xs i).games) ((M.cho xs i).score))) i).score))) i).move) ((M.cho ((xs.set i (M.Cho.mk kk ((M.cho xs i).games) ((M.cho xs i).score))).set i (M.Cho.mk ((M.cho (xs.set i (M.Cho.mk kk ((M.cho xs i).games) ((M.cho xs i).score))) i).move) (kk + 1) ((M.cho (xs.set i (M.Cho.mk kk ((M.cho xs i).games) ((M.cho xs i).score))) i).score))) i).games) ((kk + 1) + 1)), _, rfl, rfl, by rw [M.cho_set (by omega), M.cho_set (by simp; omega), List.set_set, List.set_set]; exact hq9, zt, by simp; exact hl, zt, rfl⟩ x1
 have hi2 : i = a.length := by have := h2'; omega
 have hM : M.mkL M.fC M.sC k a = xs := by rw [hX]; exact (M.mkd2_end _ _ hi2).symm
 refine zx ?_
 refine zS <| Qm rfl <| Qa rfl <| JL.nil ?_
 refine zrb [0] hb x1 ?_
 have hE : (.int .i64 kk : Value) = .int .i64 (k + 3 * (a.length : Int)) := by first | exact hM | (refine congrArg (Value.int .i64) ?_; omega)
 have hE1 : M.mkL M.fC M.sC k a = xs := by first | exact hM | (refine congrArg (Value.int .i64) ?_; omega)
 refine ⟨hE, ?_⟩
 · rw [hE1]

set_option maxHeartbeats 1000000 in
theorem c_laws_heldChoiceS (a : List M.Cho) {v_a : Value} (k : Int) {w : World} (h_a : (Ty.sl 73 3 a.length (lChoice a)).ok w v_a) (r0 : a.length ≤ 4194304 := by exact om_) (r1 : 0 ≤ k := by exact om_) (r2 : k ≤ 50000000 := by exact om_) : RetV Try.prog 27 [v_a, .int .i64 k] w (.int .i64 (M.heldL M.hC k a)) := by
 revert v_a; apply opn
 intro A1 c1 h1 bl1 bh1
 have h_a := h1
 refine enter @Try.func27 @Try.ntmps27 rfl rfl ?_
 refine zent ?_
 refine zS <| Qa rfl <| zJ <| zS <| Qa rfl <| JL.nil <| Js.block ?_
 refine zl [0] (fun F U l os u m => ∃ (i : Nat) (kk : Int), l = F [(1, .int .i64 kk), (5, .int .i64 (i : Int))] ∧ os = U [] ∧ (M.heldL M.hC kk (a.drop i) = M.heldL M.hC k a) ∧ (i ≤ a.length) ∧ (kk = k + 3 * (i : Int)) ∧ m = a.length - i) ⟨0, k, rfl, rfl, by rfl, zt, by simp, rfl⟩ ?_
 rintro _ _ u2 _ ⟨i, kk, rfl, rfl, hS, hi, hkk, rfl⟩ x2
 refine zn ?_
 refine Js.seq <| zS <| Qm rfl <| Qm rfl <| Qz rfl <| Ql rfl rfl <| JL.nil ?_
 refine zi (fun h3 h3' => ?_) fun h3 h3' => ?_
 ·
  have hia : i < a.length := by have := h3'; omega
  have hY := M.cho_get hia
  have hy4 : a[i]? = some (M.cho a i) := M.cho_get (by omega)
  obtain ⟨b4, o4, he4, hr4⟩ := elem_Choice (Ty.mono _ h1 x2.vis) hy4
  refine Js.skip <| Js.seq <| Js.block <| Js.seq <| zS <| Qm rfl <| Qm rfl <| Qq (p_indexAddr el_50 rfl rfl (by omega) (by omega) he4) <| Qf fh rfl <| QC (hr4 0 _ rfl) rfl <| Qm rfl <| Qd rfl rfl <| JL.nil ?_
  refine zi (fun h5 h5' => ?_) fun h5 h5' => ?_
  ·
   have hE := M.heldL_no M.hC hS hY (by rw [M.hC_1 (by simpa using h5)]; decide)
   refine zS <| Qa rfl <| JL.nil ?_
   refine zR x2 ?_
   first | (rw [hE]; rfl)
  have q1 : (M.cho a i).move = kk := by simpa using h5
  have hy6 : a[i]? = some (M.cho a i) := M.cho_get (by omega)
  obtain ⟨b6, o6, he6, hr6⟩ := elem_Choice (Ty.mono _ h1 x2.vis) hy6
  refine Js.skip <| zS <| Qm rfl <| Qp rfl rfl <| Qa rfl <| zJ <| zS <| Qm rfl <| Qm rfl <| Qq (p_indexAddr el_50 rfl rfl (by omega) (by omega) he6) <| Qf fh rfl <| QC (hr6 1 _ rfl) rfl <| Qm rfl <| Qd rfl rfl ?_
  refine JL.nil ?_
  refine zi (fun h7 h7' => ?_) fun h7 h7' => ?_
  ·
   have hE := M.heldL_no M.hC hS hY (by rw [M.hC_2 q1 (by simpa using h7)]; decide)
   refine zS <| Qa rfl <| JL.nil ?_
   refine zR x2 ?_
   first | (rw [hE]; rfl)
  have q2 : (M.cho a i).games = kk + 1 := by simpa using h7
  have hy8 : a[i]? = some (M.cho a i) := M.cho_get (by omega)
  obtain ⟨b8, o8, he8, hr8⟩ := elem_Choice (Ty.mono _ h1 x2.vis) hy8
  refine Js.skip <| zS <| Qm rfl <| Qp rfl rfl <| Qa rfl <| zJ <| zS <| Qm rfl <| Qm rfl <| Qq (p_indexAddr el_50 rfl rfl (by omega) (by omega) he8) <| Qf fh rfl <| QC (hr8 2 _ rfl) rfl <| Qm rfl <| Qd rfl rfl ?_
  refine JL.nil ?_
  refine zi (fun h9 h9' => ?_) fun h9 h9' => ?_
  ·
   have hE := M.heldL_no M.hC hS hY (by rw [M.hC_3 q1 q2 (by have := h9'; omega)]; decide)
   refine zS <| Qa rfl <| JL.nil ?_
   refine zR x2 ?_
   first | (rw [hE]; rfl)
  have q3 : (M.cho a i).score = kk + 2 := by have := h9'; omega
  have q4 := M.hC_0 q1 q2 q3
  have hS2 := M.heldL_step M.hC hS hY (by omega)
  rw [q4] at hS2
  have q5 : kk + 1 + 1 + 1 = kk + 3 := by omega
  rw [← q5] at hS2
  refine Js.skip <| Js.region <| Qm rfl <| Qp rfl rfl <| Qa rfl <| JL.nil <| Js.blockEnd <| Js.region <| Qm rfl <| Qp rfl rfl <| Qa rfl <| JL.nil ?_
  exact zag ⟨i + 1, ((kk + 1) + 1) + 1, rfl, rfl, by exact hS2, zt, zt, rfl⟩ x2
 have hE := M.heldL_end M.hC hS (by have := h3'; omega)
 refine zx ?_
 refine zS <| Qm rfl <| Qa rfl <| JL.nil ?_
 refine zR x2 ?_
 first | (rw [hE]; rfl)

set_option maxHeartbeats 1000000 in
theorem c_laws_markBookEntryS (a : List M.Ent) {Aa_0 : Option Addr} {ca_0 : Nat} {ga_0 : List Nat} {vsa_0 : List Value} {fa_0 : List Nat} (k : Int) {w : World} (hb : Bw w [rowO 65 2 (.slice Aa_0 a.length ca_0) a.length vsa_0 ga_0, ownC (lBookEntry a) vsa_0 fa_0]) (bd0 : a.length ≤ ca_0 := by exact om_) (bd1 : ca_0 ≤ 9223372036854775807 := by exact om_) (r0 : a.length ≤ 4194304 := by exact om_) (r1 : M.totE a ≤ 4194304 := by exact om_) (r2 : 0 ≤ k := by exact om_) (r3 : k ≤ 20000000 := by exact om_) : RetB Try.prog 43 [.slice Aa_0 a.length ca_0, .int .i64 k] w [rowO 65 2 (.slice Aa_0 a.length ca_0) a.length vsa_0 ga_0, ownC (lBookEntry a) vsa_0 fa_0] (fun v bs' => ∃ (vsxa : List Value) (fxa : List Nat), v = .int .i64 (k + M.szs M.sE a) ∧ bs' = [rowO 65 2 (.slice Aa_0 a.length ca_0) a.length vsxa ga_0, ownC (lBookEntry (M.mkL M.fE M.sE k a)) vsxa fxa]) := by
 refine enterB hb @Try.func43 @Try.ntmps43 rfl rfl ?_
 refine zent ?_
 refine Js.trashE ?_
 refine zn ?_
 refine zS <| Qa rfl <| zJ <| zS <| Qa rfl <| JL.nil <| Js.block ?_
 refine zl [0] (fun F U l os u m => ∃ (i : Nat) (kk : Int) (xs : List M.Ent) (vs1_0 : List Value) (fl1_0 : List Nat) (G1_2 : List Nat), l = F [(1, .int .i64 kk), (5, .int .i64 (i : Int))] ∧ os = U [some (rowO 65 2 (.slice Aa_0 a.length ca_0) a.length vs1_0 ga_0), some (ownC (lBookEntry xs) vs1_0 fl1_0), some (anyO G1_2)] ∧ (xs = M.mkd2 M.fE M.sE k a i) ∧ (i ≤ a.length) ∧ (xs.length = a.length) ∧ (kk = k + M.szs M.sE (a.take i)) ∧ (0 ≤ kk) ∧ (kk ≤ 33000000) ∧ m = a.length - i) ⟨0, k, a, _, _, _, rfl, rfl, by exact M.mkd2_zero _ _ k a, zt, by rfl, by simp [M.szs], zt, zt, rfl⟩ ?_
 rintro _ _ u1 _ ⟨i, kk, xs, vs1_0, fl1_0, G1_2, rfl, rfl, hX, hi, hl, hkk, hk0, hk1, rfl⟩ x1
 refine zn ?_
 refine Js.seq <| zS <| Qm rfl <| Qm rfl <| Qz rfl <| Ql rfl rfl <| JL.nil ?_
 refine zi (fun h2 h2' => ?_) fun h2 h2' => ?_
 ·
  have hxi : i < xs.length := by have := h2'; omega
  have hya9 := M.mkd2_get M.fE M.sE (k := k) (by rw [← hX]; exact M.ent_get hxi)
  have hyl9 := M.totE_mem (List.mem_of_getElem? hya9)
  have hsq9 : M.sE (M.ent xs i) = ((M.ent xs i).pits.length : Int) + 3 * ((M.ent xs i).choices.length : Int) := rfl
  have hst9 := M.szs_step M.sE _ _ _ hya9
  have hsl9 := M.szs_E_take a (i + 1)
  have hq9 : xs.set i ⟨M.up kk (M.ent xs i).pits.length, M.mkL M.fC M.sC (kk + ((M.ent xs i).pits.length : Int)) (M.ent xs i).choices⟩ = M.mkd2 M.fE M.sE k a (i + 1) := by have h7 := M.mkd2_step M.fE M.sE (k := k) hya9; rw [← hX, ← hkk] at h7; exact h7
  refine Js.skip <| Js.seq <| Js.block <| zS <| Qm rfl <| Qm rfl ?_
  refine JL.fact (row_some (i := 0) rfl (by omega)) (fun hf4 => ?_)
  obtain ⟨b4, rfl⟩ := hf4
  have hy3 : xs[i]? = some (M.ent xs i) := M.ent_get (by first | omega | (simp only [List.length_set, List.length_append, List.length_cons, List.length_nil, List.length_take, List.length_drop, List.length_replicate]; omega))
  refine JL.fact (fun w hw => elemv_BookEntry (Mem.ownC (i := 1) rfl w hw) hy3) (fun hf3 => ?_)
  obtain ⟨A3_0, c3_0, A3_1, c3_1, he3, bl3_0, bh3_0, bl3_1, bh3_1⟩ := hf3
  refine Qq (p_indexAddr el_30 rfl rfl (by omega) (by omega) rfl) <| Qf fh rfl <| Qw (q_load1 ty_40.h rfl (fun w hw => (Mem.rowR' (i := 0) rfl he3 w hw) 0 _ rfl)) <| Qm rfl ?_
  refine JL.fact (fun w hw => elem_in cBookEntry (m := 2) (k := i) (xs := xs) (fun _ => rfl) (Mem.ownC (i := 1) rfl w hw) (by omega)) (fun hl5 => ?_)
  refine JL.ex3 (fun w hw => St.elemS cBookEntry (m := 2) (i := 1) (xs := xs) (fun _ => rfl) rfl hy3 he3 hw) (fun f5_1 f5_2 f5_3 => ?_)
  refine JL.unp 0 ?_
  refine znl ?_
  refine zhl [1] ?_
  refine zBB 1 sp_ rfl (fun w hb _ hw => c_laws_markInt64S ((M.ent xs i).pits) kk hb) ?_
  rintro _ _ G6 ⟨rfl, rfl⟩
  refine znl ?_
  refine Qa rfl <| zG <| Qm rfl <| Qm rfl <| Qq (p_indexAddr el_30 rfl rfl (by omega) (by omega) rfl) <| Qf fh rfl <| Qw (q_load1 ty_50.h rfl (fun w hw => (Mem.rowR' (i := 5) rfl he3 w hw) 1 _ rfl)) <| Qm rfl ?_
  refine zhl [2] ?_
  refine zBB 1 sp_ rfl (fun w hb _ hw => c_laws_markChoiceS ((M.ent xs i).choices) (kk + (((M.ent xs i).pits).length : Int)) hb) ?_
  rintro _ _ G8 ⟨rfl, rfl⟩
  refine znl ?_
  refine Qa rfl <| JL.nil <| Js.blockEnd <| Js.region <| Qm rfl <| Qp rfl rfl <| Qa rfl <| JL.nil ?_
  refine Js.pk (cBookEntry (M.Ent.mk (M.up kk ((M.ent xs i).pits).length) (M.mkL M.fC M.sC (kk + (((M.ent xs i).pits).length : Int)) ((M.ent xs i).choices)))) [.slice A3_0 (((M.ent xs i).pits).length) c3_0, .slice A3_1 (((M.ent xs i).choices).length) c3_1] (fun f10 G10 => ?_) (by exact (gv_agg (gvc gv_ (gvc (gv_flat lChoice (xs := (M.mkL M.fC M.sC (kk + (((M.ent xs i).pits).length : Int)) ((M.ent xs i).choices))) po_ (by first | rfl | (simp [fltV]; done)) (by first | with_reducible rfl | assumption | rfl)) gvn))))
  refine Js.front (i := 4) rfl ?_
  refine zn ?_
  refine Js.front (i := 1) rfl ?_
  refine zn ?_
  refine Js.front (i := 5) rfl ?_
  refine zn ?_
  refine Js.conv (fun w hw => St.closeE cBookEntry (k := i) (m := 2) (xs := xs) (y := (M.Ent.mk (M.up kk ((M.ent xs i).pits).length) (M.mkL M.fC M.sC (kk + (((M.ent xs i).pits).length : Int)) ((M.ent xs i).choices)))) (vs := vs1_0) (vs' := vs1_0) (by omega) rfl (setL_same he3 rfl) hw) ?_
  refine zn ?_
  refine zf [4, 0] fun GG11 => ?_
  refine zn ?_
  exact zag ⟨i + 1, (kk + (((M.ent xs i).pits).length : Int)) + 3 * (((M.ent xs i).choices).length : Int), xs.set i (M.Ent.mk (M.up kk ((M.ent xs i).pits).length) (M.mkL M.fC M.sC (kk + (((M.ent xs i).pits).length : Int)) ((M.ent xs i).choices))), _, _, _, rfl, rfl, by exact hq9, zt, by rw [List.length_set]; exact hl, by omega, by omega, by omega, rfl⟩ x1
 have hi2 : i = a.length := by have := h2'; omega
 have hM : M.mkL M.fE M.sE k a = xs := by rw [hX]; exact (M.mkd2_end _ _ hi2).symm
 have hN : kk = k + M.szs M.sE a := by rw [hkk, List.take_of_length_le (by omega)]
 refine zx ?_
 refine zS <| Qm rfl <| Qa rfl <| JL.nil ?_
 refine zrb [0, 0] hb x1 ?_
 have hE : (.int .i64 kk : Value) = .int .i64 (k + M.szs M.sE a) := by first | exact hM | (rw [hN]; rfl) | (refine congrArg (Value.int .i64) ?_; omega)
 have hE1 : M.mkL M.fE M.sE k a = xs := by first | exact hM | (rw [hN]; rfl) | (refine congrArg (Value.int .i64) ?_; omega)
 refine ⟨vs1_0, fl1_0, hE, ?_⟩
 · rw [hE1]

set_option maxHeartbeats 1000000 in
theorem c_laws_markBook (a_rules : M.Rul) (a_entries : List M.Ent) {Aa_9 : Option Addr} {ca_9 : Nat} {ga_9 : List Nat} {vsa_9 : List Value} {fa_9 : List Nat} (k : Int) {w : World} (hb : Bw w [rowO 65 2 (.slice Aa_9 a_entries.length ca_9) a_entries.length vsa_9 ga_9, ownC (lBookEntry a_entries) vsa_9 fa_9]) (bd0 : a_entries.length ≤ ca_9 := by exact om_) (bd1 : ca_9 ≤ 9223372036854775807 := by exact om_) (r0 : a_entries.length ≤ 4194304 := by exact om_) (r1 : M.totE a_entries ≤ 4194304 := by exact om_) (r2 : 0 ≤ k := by exact om_) (r3 : k ≤ 20000000 := by exact om_) : RetB Try.prog 15 [.agg #[.int .i64 a_rules.pits, .int .i64 a_rules.seeds, .bool a_rules.stores, .bool a_rules.skip, .bool a_rules.relay, .bool a_rules.feed, .bool a_rules.again, .int .i64 a_rules.capture, .int .i64 a_rules.slam, .slice Aa_9 a_entries.length ca_9], .int .i64 k] w [rowO 65 2 (.slice Aa_9 a_entries.length ca_9) a_entries.length vsa_9 ga_9, ownC (lBookEntry a_entries) vsa_9 fa_9] (fun v bs' => ∃ (vsxa_w0 : List Value) (fxa_w0 : List Nat), v = .int .i64 (k + M.szs M.sE a_entries) ∧ bs' = [rowO 65 2 (.slice Aa_9 a_entries.length ca_9) a_entries.length vsxa_w0 ga_9, ownC (lBookEntry (M.mkL M.fE M.sE k a_entries)) vsxa_w0 fxa_w0]) := by
 refine enterB hb @Try.func15 @Try.ntmps15 rfl rfl ?_
 refine zent ?_
 refine Js.trashE ?_
 refine zn ?_
 refine zS <| zb rfl fun b1 => Qa rfl <| zN <| Qf fh rfl <| Q0 0 rfl rfl rfl <| Qm rfl ?_
 refine zhl [1, 1] ?_
 refine zBB 2 sp_ rfl (fun w hb _ hw => c_laws_markBookEntryS a_entries k hb) ?_
 rintro _ _ G2 ⟨vs2_a, f2_a, rfl, rfl⟩
 refine znl ?_
 refine Qa rfl <| zN <| Qm rfl <| Qa rfl <| JL.nil ?_
 refine zrb [0, 0] hb (Up.refl _ _) ?_
 exact ⟨_, _, rfl, rfl⟩

end Go.Proofs.Ytcmfnlleikcpnaa


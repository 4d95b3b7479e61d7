/- Walks: K38. -/
import Derived.Test.YtcmfnlleikcpnaaGreatZvA3
import Derived.Test.YtcmfnlleikcpnaaGreatZvA6
import Derived.Test.YtcmfnlleikcpnaaGreatZvA2
import Derived.Test.YtcmfnlleikcpnaaGreatZvA7
import Derived.Test.YtcmfnlleikcpnaaGreatZvA4
set_option linter.unusedSimpArgs false
set_option linter.unusedVariables false
set_option maxRecDepth 100000
attribute [local irreducible] Go.Proofs.YtcmfnlleikcpnaaGreat.gv
namespace Go.Proofs.YtcmfnlleikcpnaaGreat
open Go.RowKit

set_option maxHeartbeats 1000000 in
theorem c_spec_NewBook (r : M.Rul) {v_r : Value} {w : World} (h_r : (Ty.agg (cRules r)).ok w v_r) : Ret Tryz.prog 39 [v_r] w (Ty.tup [Ty.agg (cBook ((M.newB r).1)), Ty.int ((M.newB r).2)]) := by
 revert v_r; apply opn
 refine enter @Tryz.func39 @Tryz.ntmps39 rfl rfl ?_
 refine zent ?_
 refine zS <| zb rfl fun b1 => za zeh fun b2 => Qa rfl <| zJ <| zS <| zv rfl (fun w hw => c_spec_l02Ok r (ok_ hw)) <| Qt rfl <| JL.nil ?_
 refine zi (fun h3 h3' => ?_) fun h3 h3' => ?_
 ·
  have hE := M.newB_1 (by simpa using h3)
  have hq0 : 0 = (((M.newB r).1).rules).pits := by first | (rw [hE]; done) | (rw [hE]; rfl)
  have hq1 : 0 = (((M.newB r).1).rules).seeds := by first | (rw [hE]; done) | (rw [hE]; rfl)
  have hq2 : false = (((M.newB r).1).rules).stores := by first | (rw [hE]; done) | (rw [hE]; rfl)
  have hq3 : false = (((M.newB r).1).rules).skip := by first | (rw [hE]; done) | (rw [hE]; rfl)
  have hq4 : false = (((M.newB r).1).rules).relay := by first | (rw [hE]; done) | (rw [hE]; rfl)
  have hq5 : false = (((M.newB r).1).rules).feed := by first | (rw [hE]; done) | (rw [hE]; rfl)
  have hq6 : false = (((M.newB r).1).rules).again := by first | (rw [hE]; done) | (rw [hE]; rfl)
  have hq7 : 0 = (((M.newB r).1).rules).capture := by first | (rw [hE]; done) | (rw [hE]; rfl)
  have hq8 : 0 = (((M.newB r).1).rules).slam := by first | (rw [hE]; done) | (rw [hE]; rfl)
  have hq9 : [] = ((M.newB r).1).entries := by first | (rw [hE]; done) | (rw [hE]; rfl)
  have hq10 : 1 = (M.newB r).2 := by first | (rw [hE]; done) | (rw [hE]; rfl)
  refine zS <| Qb ?_
  refine zw 0 rfl rfl rfl ?_
  refine Qa rfl <| JL.nil ?_
  exact zro (Up.refl _ _)
 have hE := M.newB_0 (by simpa using h3)
 have hq0 : r.pits = (((M.newB r).1).rules).pits := by first | (rw [hE]; done) | (rw [hE]; rfl)
 have hq1 : r.seeds = (((M.newB r).1).rules).seeds := by first | (rw [hE]; done) | (rw [hE]; rfl)
 have hq2 : r.stores = (((M.newB r).1).rules).stores := by first | (rw [hE]; done) | (rw [hE]; rfl)
 have hq3 : r.skip = (((M.newB r).1).rules).skip := by first | (rw [hE]; done) | (rw [hE]; rfl)
 have hq4 : r.relay = (((M.newB r).1).rules).relay := by first | (rw [hE]; done) | (rw [hE]; rfl)
 have hq5 : r.feed = (((M.newB r).1).rules).feed := by first | (rw [hE]; done) | (rw [hE]; rfl)
 have hq6 : r.again = (((M.newB r).1).rules).again := by first | (rw [hE]; done) | (rw [hE]; rfl)
 have hq7 : r.capture = (((M.newB r).1).rules).capture := by first | (rw [hE]; done) | (rw [hE]; rfl)
 have hq8 : r.slam = (((M.newB r).1).rules).slam := by first | (rw [hE]; done) | (rw [hE]; rfl)
 have hq9 : [] = ((M.newB r).1).entries := by first | (rw [hE]; done) | (rw [hE]; rfl)
 have hq10 : 0 = (M.newB r).2 := by first | (rw [hE]; done) | (rw [hE]; rfl)
 refine Js.skip <| zS <| Q9 1 rfl rfl ?_
 refine Qb ?_
 refine zw 0 rfl rfl rfl ?_
 refine Qa rfl <| JL.nil ?_
 exact zro (Up.refl _ _)

set_option maxHeartbeats 1000000 in
theorem c_spec_l20Same (a : M.Ent) {v_a : Value} (b : M.Ent) {v_b : Value} {w : World} (h_a : (Ty.ref (cBookEntry a)).ok w v_a) (h_b : (Ty.ref (cBookEntry b)).ok w v_b) (r0 : a.pits.length ≤ 4194304 := by exact om_) (r1 : a.choices.length ≤ 4194304 := by exact om_) (r2 : b.pits.length ≤ 4194304 := by exact om_) (r3 : b.choices.length ≤ 4194304 := by exact om_) : RetV Tryz.prog 100 [v_a, v_b] w (.bool (decide (a = b))) := by
 revert v_a; apply opn
 intro b3 o3 A1 c1 h1 bl1 bh1 A2 c2 h2 bl2 bh2 hr3
 revert v_b; apply opn
 intro b6 o6 A4 c4 h4 bl4 bh4 A5 c5 h5 bl5 bh5 hr6
 refine enter @Tryz.func100 @Tryz.ntmps100 rfl rfl ?_
 refine zent ?_
 refine zS <| Qa rfl <| zJ <| Js.seq ?_
 refine zdr [] ?_
 refine JH.p 0 rfl (p_move rfl) ?_
 refine JH.p 1 rfl (p_nilCheck rfl) ?_
 refine JH.p 2 rfl (p_fieldAddr fld_89_0.h rfl) ?_
 refine JH.w 3 rfl (fun os' u' hv => q_load1 ty_27.h rfl (Mem.pub ((hr3.vis hv) 0 _ rfl))) ?_
 refine JH.p 4 rfl (p_move rfl) ?_
 refine JH.p 5 rfl (p_nilCheck rfl) ?_
 refine JH.p 6 rfl (p_fieldAddr fld_89_0.h rfl) ?_
 refine JH.w 7 rfl (fun os' u' hv => q_load1 ty_27.h rfl (Mem.pub ((hr6.vis hv) 0 _ rfl))) ?_
 refine y1 8 ?_
 refine yv rfl rfl (fun w hw => c_spec_l00Same a.pits b.pits (ok_ hw) (ok_ hw)) ?_
 refine JH.p 9 rfl (p_not rfl) ?_
 refine JH.p 10 rfl (p_move rfl) ?_
 refine JH.pg 11 rfl (Gd.f1 rfl rfl rfl) (fun hc => p_move rfl) ?_
 refine JH.pg 12 rfl (Gd.f1 rfl rfl rfl) (fun hc => p_nilCheck (gvt rfl hc)) ?_
 refine JH.pg 13 rfl (Gd.f1 rfl rfl rfl) (fun hc => p_fieldAddr fld_89_1.h (gvt rfl hc)) ?_
 refine JH.wg 14 rfl (Gd.f1 rfl rfl rfl) (fun hc os' u' hv => q_load1 ty_67.h (gvt rfl hc) (Mem.pub ((hr3.vis hv) 1 _ rfl))) ?_
 refine JH.pg 15 rfl (Gd.f1 rfl rfl rfl) (fun hc => p_len el_67 (gvt rfl hc)) ?_
 refine JH.pg 16 rfl (Gd.f1 rfl rfl rfl) (fun hc => p_move rfl) ?_
 refine JH.pg 17 rfl (Gd.f1 rfl rfl rfl) (fun hc => p_nilCheck (gvt rfl hc)) ?_
 refine JH.pg 18 rfl (Gd.f1 rfl rfl rfl) (fun hc => p_fieldAddr fld_89_1.h (gvt rfl hc)) ?_
 refine JH.wg 19 rfl (Gd.f1 rfl rfl rfl) (fun hc os' u' hv => q_load1 ty_67.h (gvt rfl hc) (Mem.pub ((hr6.vis hv) 1 _ rfl))) ?_
 refine JH.pg 20 rfl (Gd.f1 rfl rfl rfl) (fun hc => p_len el_67 (gvt rfl hc)) ?_
 refine JH.pg 21 rfl (Gd.f1 rfl rfl rfl) (fun hc => p_neq (gvt rfl hc) (gvt rfl hc)) ?_
 refine JH.p 22 rfl (p_pickOr rfl rfl rfl) ?_
 refine yd ?_
 refine zi (fun h7 h7' => ?_) fun h7 h7' => ?_
 ·
  have e1 : decide (a = b) = false := decide_eq_false (by rintro rfl; simp at h7)
  refine zS <| Qa rfl <| JL.nil ?_
  refine zR (Up.refl _ _) ?_
  simp [outV, e1]
 have h9 := h7
 simp at h9
 have hpp := h9.1
 have hlen : a.choices.length = b.choices.length := by omega
 refine Js.skip <| Js.seq <| zS <| Qa rfl <| JL.nil <| Js.block ?_
 refine zl [0, 1] (fun F U l os u m => ∃ (k : Nat), l = F [(5, .int .i64 (k : Int))] ∧ os = U [] ∧ (k ≤ a.choices.length) ∧ (a.choices.take k = b.choices.take k) ∧ m = a.choices.length - k) ⟨0, rfl, rfl, zt, by rfl, rfl⟩ ?_
 rintro _ _ u8 _ ⟨k, rfl, rfl, hk, hU, rfl⟩ x8
 refine zn ?_
 refine Js.seq <| zS <| Qm rfl <| Qm rfl <| Qc rfl <| Qf fh rfl <| QC ((hr3.vis x8.vis) 1 _ rfl) rfl <| Qz rfl <| Ql rfl rfl <| JL.nil ?_
 refine zi (fun h9 h9' => ?_) fun h9 h9' => ?_
 ·
  have hkk : k < a.choices.length := by have := h9'; omega
  refine Js.skip <| Js.seq <| Js.block <| Js.seq ?_
  refine zdr [] ?_
  refine JH.p 0 rfl (p_move rfl) ?_
  refine JH.p 1 rfl (p_nilCheck rfl) ?_
  refine JH.p 2 rfl (p_fieldAddr fld_89_1.h rfl) ?_
  refine JH.w 3 rfl (fun os' u' hv => q_load1 ty_67.h rfl (Mem.pub ((hr3.vis (x8.vis.trans hv)) 1 _ rfl))) ?_
  refine JH.p 4 rfl (p_move rfl) ?_
  have hy10 : a.choices[k]? = some (M.cho a.choices k) := M.cho_get (by omega)
  obtain ⟨b10, o10, he10, hr10⟩ := elem_Choice (Ty.mono _ h2 x8.vis) hy10
  refine JH.p 5 rfl (p_indexAddr el_67 rfl rfl (by omega) (by omega) he10) ?_
  refine JH.w 6 rfl (fun os' u' hv => LS 0 (hr10.vis hv) rfl) ?_
  refine JH.p 7 rfl (p_move rfl) ?_
  refine JH.p 8 rfl (p_nilCheck rfl) ?_
  refine JH.p 9 rfl (p_fieldAddr fld_89_1.h rfl) ?_
  refine JH.w 10 rfl (fun os' u' hv => q_load1 ty_67.h rfl (Mem.pub ((hr6.vis (x8.vis.trans hv)) 1 _ rfl))) ?_
  refine JH.p 11 rfl (p_move rfl) ?_
  have hy11 : b.choices[k]? = some (M.cho b.choices k) := M.cho_get (by omega)
  obtain ⟨b11, o11, he11, hr11⟩ := elem_Choice (Ty.mono _ h5 x8.vis) hy11
  refine JH.p 12 rfl (p_indexAddr el_67 rfl rfl (by omega) (by omega) he11) ?_
  refine JH.w 13 rfl (fun os' u' hv => LS 0 (hr11.vis hv) rfl) ?_
  refine JH.p 14 rfl (p_neqS (by kernel_rfl) (fun w => eqs_Choice (M.cho a.choices k) (M.cho b.choices k) w) rfl rfl) ?_
  refine yd ?_
  refine zi (fun h12 h12' => ?_) fun h12 h12' => ?_
  ·
   have e1 : decide (a = b) = false := decide_eq_false (fun q => M.upto_ne (M.cho_get hkk) (M.cho_get (by omega)) (by simpa using h12) (congrArg M.Ent.choices q))
   refine zS <| Qa rfl <| JL.nil ?_
   refine zR x8 ?_
   simp [outV, e1]
  have hab : M.cho a.choices k = M.cho b.choices k := by simpa using h12
  have hU2 := M.upto_step hU (M.cho_get hkk) (by rw [hab]; exact M.cho_get (by omega))
  refine Js.skip <| Js.blockEnd <| Js.region <| Qm rfl <| Qp rfl rfl <| Qa rfl <| JL.nil ?_
  exact zag ⟨k + 1, rfl, rfl, zt, by exact hU2, rfl⟩ x8
 have e2 : a.choices = b.choices := M.upto_done hU (by have := h9'; omega) (by have := h9'; omega)
 have e1 : a = b := M.ent_ext hpp e2
 refine zx ?_
 refine zS <| Qa rfl <| JL.nil ?_
 refine zR x8 ?_
 simp [outV, e1]

set_option maxHeartbeats 4000000 in
theorem c_spec_SameBook (a : M.Boo) {v_a : Value} (b : M.Boo) {v_b : Value} {w : World} (h_a : (Ty.agg (cBook a)).ok w v_a) (h_b : (Ty.agg (cBook b)).ok w v_b) (r0 : a.entries.length ≤ 4194304 := by exact om_) (r1 : ∀ x ∈ a.entries, x.pits.length ≤ 4194304 ∧ x.choices.length ≤ 4194304 := by exact om_) (r2 : b.entries.length ≤ 4194304 := by exact om_) (r3 : ∀ x ∈ b.entries, x.pits.length ≤ 4194304 ∧ x.choices.length ≤ 4194304 := by exact om_) : RetV Tryz.prog 42 [v_a, v_b] w (.bool (decide (a = b))) := by
 revert v_a; apply opn
 intro A1 c1 h1 bl1 bh1
 revert v_b; apply opn
 intro A2 c2 h2 bl2 bh2
 refine enter @Tryz.func42 @Tryz.ntmps42 rfl rfl ?_
 refine zent ?_
 refine zS <| zb rfl fun b3 => zb rfl fun b4 => Qa rfl <| zJ <| zS <| Qf fh rfl <| Q9 1 rfl rfl ?_
 refine Qf fh rfl <| Q9 0 rfl rfl ?_
 refine Qq (p_neqS (by kernel_rfl) (fun w => eqs_Rules a.rules b.rules w) rfl rfl) <| Qm rfl <| zg (Gd.f1 rfl rfl rfl) (fun hc => p_fieldAddr fld_37_1.h rfl) <| zgq (Gd.f1 rfl rfl rfl) (fun hc => q_load1 ty_35.h (gh hc rfl) (Mem.box (i := 1) rfl rfl)) <| zg (Gd.f1 rfl rfl rfl) (fun hc => p_len el_35 (gh hc rfl)) <| zg (Gd.f1 rfl rfl rfl) (fun hc => p_fieldAddr fld_37_1.h rfl) <| zgq (Gd.f1 rfl rfl rfl) (fun hc => q_load1 ty_35.h (gh hc rfl) (Mem.box (i := 0) rfl rfl)) <| zg (Gd.f1 rfl rfl rfl) (fun hc => p_len el_35 (gh hc rfl)) <| zg (Gd.f1 rfl rfl rfl) (fun hc => p_neq (gh hc rfl) (gh hc rfl)) <| Qq (p_pickOr rfl rfl rfl) <| JL.nil ?_
 refine zi (fun h5 h5' => ?_) fun h5 h5' => ?_
 ·
  have e1 : decide (a = b) = false := decide_eq_false (by rintro rfl; simp at h5)
  refine zS <| Qa rfl <| JL.nil ?_
  refine zR (Up.refl _ _) ?_
  simp [outV, e1]
 have h9 := h5
 simp at h9
 have hru := h9.1
 have hlen : a.entries.length = b.entries.length := by omega
 refine Js.skip <| Js.seq <| zS <| Qa rfl <| JL.nil <| Js.block ?_
 refine zl [2, 3] (fun F U l os u m => ∃ (k : Nat), l = F [(5, .int .i64 (k : Int))] ∧ os = U [] ∧ (k ≤ a.entries.length) ∧ (a.entries.take k = b.entries.take k) ∧ m = a.entries.length - k) ⟨0, rfl, rfl, zt, by rfl, rfl⟩ ?_
 rintro _ _ u6 _ ⟨k, rfl, rfl, hk, hU, rfl⟩ x6
 refine zn ?_
 refine Js.seq <| zS <| Qm rfl <| Qf fh rfl <| Q0 1 rfl rfl rfl <| Qz rfl <| Ql rfl rfl <| JL.nil ?_
 refine zi (fun h7 h7' => ?_) fun h7 h7' => ?_
 ·
  have hkk : k < a.entries.length := by have := h7'; omega
  obtain ⟨e1a_, e2a_⟩ := r1 _ (M.ent_mem (es := a.entries) (k := k) (by omega))
  obtain ⟨e1b_, e2b_⟩ := r3 _ (M.ent_mem (es := b.entries) (k := k) (by omega))
  refine Js.skip <| Js.seq <| Js.block <| Js.seq ?_
  refine zdr [] ?_
  refine JH.p 0 rfl (p_fieldAddr fld_37_1.h rfl) ?_
  refine JH.q 1 rfl (q_load1 ty_35.h rfl (Mem.box (i := 1) rfl rfl)) ?_
  refine JH.p 2 rfl (p_move rfl) ?_
  have hy8 : a.entries[k]? = some (M.ent a.entries k) := M.ent_get (by omega)
  obtain ⟨b8, o8, A8_0, c8_0, A8_1, c8_1, he8, hr8, h8_0, h8_1, bl8_0, bh8_0, bl8_1, bh8_1⟩ := elem_BookEntry (Ty.mono _ h1 x6.vis) hy8
  refine JH.p 3 rfl (p_indexAddr el_35 rfl rfl (by omega) (by omega) he8) ?_
  refine JH.p 4 rfl (p_fieldAddr fld_37_1.h rfl) ?_
  refine JH.q 5 rfl (q_load1 ty_35.h rfl (Mem.box (i := 0) rfl rfl)) ?_
  refine JH.p 6 rfl (p_move rfl) ?_
  have hy9 : b.entries[k]? = some (M.ent b.entries k) := M.ent_get (by omega)
  obtain ⟨b9, o9, A9_0, c9_0, A9_1, c9_1, he9, hr9, h9_0, h9_1, bl9_0, bh9_0, bl9_1, bh9_1⟩ := elem_BookEntry (Ty.mono _ h2 x6.vis) hy9
  refine JH.p 7 rfl (p_indexAddr el_35 rfl rfl (by omega) (by omega) he9) ?_
  refine y1 8 ?_
  refine yv rfl rfl (fun w hw => c_spec_l20Same (M.ent a.entries k) (M.ent b.entries k) (ok_ hw) (ok_ hw)) ?_
  refine JH.p 9 rfl (p_not rfl) ?_
  refine yd ?_
  refine zi (fun h10 h10' => ?_) fun h10 h10' => ?_
  ·
   have e1 : decide (a = b) = false := decide_eq_false (fun q => by have hq : M.ent a.entries k = M.ent b.entries k := (by rw [q]); rw [hq] at h10; simp at h10)
   refine zS <| Qa rfl <| JL.nil ?_
   refine zR x6 ?_
   simp [outV, e1]
  have hab : M.ent a.entries k = M.ent b.entries k := by simpa using h10
  have hU2 := M.upto_step hU (M.ent_get hkk) (by rw [hab]; exact M.ent_get (by omega))
  refine Js.skip <| Js.blockEnd <| Js.region <| Qm rfl <| Qp rfl rfl <| Qa rfl <| JL.nil ?_
  exact zag ⟨k + 1, rfl, rfl, zt, by exact hU2, rfl⟩ x6
 have e2 : a.entries = b.entries := M.upto_done hU (by have := h7'; omega) (by have := h7'; omega)
 have e1 : a = b := M.boo_ext hru e2
 refine zx ?_
 refine zS <| Qa rfl <| JL.nil ?_
 refine zR x6 ?_
 simp [outV, e1]

end Go.Proofs.YtcmfnlleikcpnaaGreat

namespace Go.Proofs.YtcmfnlleikcpnaaGreat
open Go.RowKit

set_option maxHeartbeats 16000000 in
theorem c_spec_l20Bent (s_code : Nat) (s_at s_seed : Int) {As_0 : Option Addr} {cs_0 bs : Nat} {w : World} (hb : Bw w [boxO bs [.slice As_0 s_code cs_0, .int .i64 s_at, .int .u64 s_seed] 189]) (hps_0 : (Ty.bytes 5 s_code).ok (offW w (([boxO bs [.slice As_0 s_code cs_0, .int .i64 s_at, .int .u64 s_seed] 189] : List Own).flatMap (·.fp))) (.slice As_0 s_code cs_0)) (r0 : 0 ≤ s_at := by exact om_) (r1 : s_at ≤ 999999100 := by exact om_) (r2 : s_code ≤ 1048576 := by exact om_) : RetB Tryz.prog 92 [.pointer (some ⟨bs, 0, none⟩)] w [boxO bs [.slice As_0 s_code cs_0, .int .i64 s_at, .int .u64 s_seed] 189] (fun v bs' => ∃ (BX : M.Boo) (PX : M.Pos) (AT SD : Int) (Axra_9 : Option Addr) (cxra_9 : Nat) (gxra_9 : List Nat) (vsxra_9 : List Value) (fxra_9 : List Nat) (Axrb_0 : Option Addr) (cxrb_0 : Nat) (gxrb_0 : List Nat) (Axrb_1 : Option Addr) (cxrb_1 : Nat) (gxrb_1 : List Nat), v = .tuple #[.agg #[.int .i64 BX.rules.pits, .int .i64 BX.rules.seeds, .bool BX.rules.stores, .bool BX.rules.skip, .bool BX.rules.relay, .bool BX.rules.feed, .bool BX.rules.again, .int .i64 BX.rules.capture, .int .i64 BX.rules.slam, .slice Axra_9 BX.entries.length cxra_9], .agg #[.slice Axrb_0 PX.pits.length cxrb_0, .slice Axrb_1 PX.stores.length cxrb_1, .int .i64 PX.player]] ∧ bs' = [boxO bs [.slice As_0 s_code cs_0, .int .i64 AT, .int .u64 SD] 189, rowO 89 2 (.slice Axra_9 BX.entries.length cxra_9) BX.entries.length vsxra_9 gxra_9, ownC (lBookEntry BX.entries) vsxra_9 fxra_9, rowO 2 1 (.slice Axrb_0 PX.pits.length cxrb_0) PX.pits.length (ints_ PX.pits) gxrb_0, rowO 2 1 (.slice Axrb_1 PX.stores.length cxrb_1) PX.stores.length (ints_ PX.stores) gxrb_1] ∧ BX.entries.length ≤ cxra_9 ∧ cxra_9 ≤ 9223372036854775807 ∧ PX.pits.length ≤ cxrb_0 ∧ cxrb_0 ≤ 9223372036854775807 ∧ PX.stores.length ≤ cxrb_1 ∧ cxrb_1 ≤ 9223372036854775807 ∧ (BX.entries.length + M.totE BX.entries ≤ 400000) ∧ (PX.pits.length ≤ 16 ∧ PX.stores.length = 2) ∧ (s_at ≤ AT) ∧ (AT ≤ s_at + 900)) := by
 refine enterB hb @Tryz.func92 @Tryz.ntmps92 rfl rfl ?_
 refine zent ?_
 refine Js.trashE ?_
 refine zn ?_
 refine zS <| za zeh fun b1 => za zeh fun b2 => zN <| Qm rfl ?_
 refine zhl [2] ?_
 refine zBB 1 sp_ rfl (fun w hb _ hw => c_spec_l20Draw s_code s_at s_seed hb (ok_ hw)) ?_
 rintro _ _ G3 ⟨X3BX, X3PX, X3AT, X3SD, A3ra_9, c3ra_9, g3ra_9, vs3ra_9, f3ra_9, A3rb_0, c3rb_0, g3rb_0, A3rb_1, c3rb_1, g3rb_1, rfl, rfl, bl3_0, bl3_1, bl3_2, bl3_3, bl3_4, bl3_5, hX3_0, hX3_1, hX3_2, hX3_3⟩
 refine znl ?_
 refine Qm rfl <| Qx rfl rfl <| Qx rfl rfl <| za zeh fun b4 => za zeh fun b5 => zw 1 rfl rfl rfl ?_
 refine zw 0 rfl rfl rfl ?_
 refine JL.nil ?_
 refine zf [0, 0, 0, 0, 0, 0, 0, 1, 1] fun GG6 => ?_
 refine zn ?_
 refine Js.seq <| zS <| Qm rfl ?_
 refine zhl [2] ?_
 refine zBB 1 sp_ rfl (fun w hb _ hw => c_spec_l00Src_one s_code X3AT X3SD 24 hb (ok_ hw)) ?_
 rintro _ _ G7 ⟨X7BX, X7AT, X7SD, rfl, rfl, hX7_0, hX7_1⟩
 refine znl ?_
 refine JL.nil ?_
 refine zf [0, 1, 1, 1, 1, 1, 1, 1, 1] fun GG8 => ?_
 refine zn ?_
 refine zk [0, 2, 3, 4, 5] (fun F U l os u => ∃ (rr : M.Rul) (acc : List M.Ent) (pp : M.Pos) (at5 sd5 : Int) (A9_4_9 : Option Addr) (c9_4_9 : Nat) (g9_4_9 : List Nat) (vs9_4_9 : List Value) (fl9_4_9 : List Nat) (A9_5_0 : Option Addr) (c9_5_0 : Nat) (g9_5_0 : List Nat) (A9_5_1 : Option Addr) (c9_5_1 : Nat) (g9_5_1 : List Nat) (G9_9 : List Nat), l = F [] ∧ os = U [some (boxO bs [.slice As_0 s_code cs_0, .int .i64 at5, .int .u64 sd5] 189), some (boxO b5 [.slice A9_5_0 pp.pits.length c9_5_0, .slice A9_5_1 pp.stores.length c9_5_1, .int .i64 pp.player] 39), some (boxO b4 [.int .i64 rr.pits, .int .i64 rr.seeds, .bool rr.stores, .bool rr.skip, .bool rr.relay, .bool rr.feed, .bool rr.again, .int .i64 rr.capture, .int .i64 rr.slam, .slice A9_4_9 acc.length c9_4_9] 37), some (rowO 89 2 (.slice A9_4_9 acc.length c9_4_9) acc.length vs9_4_9 g9_4_9), some (ownC (lBookEntry acc) vs9_4_9 fl9_4_9), some (rowO 2 1 (.slice A9_5_0 pp.pits.length c9_5_0) pp.pits.length (ints_ pp.pits) g9_5_0), some (rowO 2 1 (.slice A9_5_1 pp.stores.length c9_5_1) pp.stores.length (ints_ pp.stores) g9_5_1), nO, nO, some (anyO G9_9)] ∧ (M.BE 300 acc) ∧ (pp.pits.length ≤ 16 ∧ pp.stores.length = 2) ∧ (s_at ≤ at5) ∧ (at5 ≤ s_at + 820) ∧ (acc.length ≤ c9_4_9) ∧ (c9_4_9 ≤ 9223372036854775807) ∧ (pp.pits.length ≤ c9_5_0) ∧ (c9_5_0 ≤ 9223372036854775807) ∧ (pp.stores.length ≤ c9_5_1) ∧ (c9_5_1 ≤ 9223372036854775807)) ?_ ?_
 ·
  refine zi (fun h10 h10' => ?_) fun h10 h10' => ?_
  ·
   refine zS <| Qm rfl <| zBB 1 sp_ rfl (fun w hb _ hw => c_spec_l00Src_pick s_code X7AT X7SD 2 hb (ok_ hw)) ?_
   rintro _ _ G11 ⟨X11KX, X11AT, X11SD, rfl, rfl, hX11_0, hX11_1, hX11_2, hX11_3⟩
   refine znl ?_
   refine Qp rfl rfl <| zc rfl (fun w hw => c_spec_l20Wide (200 + X11KX)) ?_
   intro X12 hX12 A14 c14 vs14 f14 bl14 bh14
   refine zw 5 rfl rfl rfl ?_
   refine JL.nil ?_
   refine zf [0, 0, 0, 1, 1, 1, 1, 1, 1, 1, 1] fun GG15 => ?_
   refine zn ?_
   refine Js.region <| Qm rfl ?_
   refine zhl [2] ?_
   refine zBB 1 sp_ rfl (fun w hb _ hw => c_spec_l00Src_pick s_code X11AT X11SD 6 hb (ok_ hw)) ?_
   rintro _ _ G16 ⟨X16KX, X16AT, X16SD, rfl, rfl, hX16_0, hX16_1, hX16_2, hX16_3⟩
   refine znl ?_
   refine Qm rfl <| zBB 1 sp_ rfl (fun w hb _ hw => c_spec_l00Src_pick s_code X16AT X16SD 41 hb (ok_ hw)) ?_
   rintro _ _ G17 ⟨X17KX, X17AT, X17SD, rfl, rfl, hX17_0, hX17_1, hX17_2, hX17_3⟩
   refine znl ?_
   refine zbs fun b18 => ?_
   refine zbs fun b20 => ?_
   refine Qb ?_
   refine zw 7 rfl rfl rfl ?_
   refine JL.nil ?_
   refine zf [0, 0, 0, 2, 2, 2, 2, 2, 2, 2, 2, 2, 2] fun GG22 => ?_
   refine zn ?_
   refine zf [2, 4, 4, 2, 2, 1, 0, 4, 4] fun GG23 => ?_
   refine zn ?_
   exact zm ⟨(X12.rules), (X12.entries), ((M.Pos.mk [1, X16KX, X17KX, 0] [0, 0] 0)), (X17AT), (X17SD), _, _, _, _, _, _, _, _, _, _, _, _, rfl, rfl, by first | assumption | exact M.BE.mono (by assumption : M.BE 24 _) (by omega), by first | (constructor <;> omega) | exact ⟨by simp, by simp⟩, by first | assumption | omega | rfl | (dsimp only; omega) | (simp; done), by first | assumption | omega | rfl | (dsimp only; omega) | (simp; done), by first | assumption | omega | rfl | (dsimp only; omega) | (simp; done), by first | assumption | omega | rfl | (dsimp only; omega) | (simp; done), by first | assumption | omega | rfl | (dsimp only; omega) | (simp; done), by first | assumption | omega | rfl | (dsimp only; omega) | (simp; done), by first | assumption | omega | rfl | (dsimp only; omega) | (simp; done), by first | assumption | omega | rfl | (dsimp only; omega) | (simp; done)⟩ (Up.refl _ _)
  refine Js.skip ?_
  exact zm ⟨(X3BX.rules), (X3BX.entries), (X3PX), (X7AT), (X7SD), _, _, _, _, _, _, _, _, _, _, _, _, rfl, rfl, by first | assumption | exact M.BE.mono (by assumption : M.BE 24 _) (by omega), by first | (constructor <;> omega) | exact ⟨by simp, by simp⟩, by first | assumption | omega | rfl | (dsimp only; omega) | (simp; done), by first | assumption | omega | rfl | (dsimp only; omega) | (simp; done), by first | assumption | omega | rfl | (dsimp only; omega) | (simp; done), by first | assumption | omega | rfl | (dsimp only; omega) | (simp; done), by first | assumption | omega | rfl | (dsimp only; omega) | (simp; done), by first | assumption | omega | rfl | (dsimp only; omega) | (simp; done), by first | assumption | omega | rfl | (dsimp only; omega) | (simp; done), by first | assumption | omega | rfl | (dsimp only; omega) | (simp; done)⟩ (Up.refl _ _)
 rintro _ _ u9 ⟨rr, acc, pp, at5, sd5, A9_4_9, c9_4_9, g9_4_9, vs9_4_9, fl9_4_9, A9_5_0, c9_5_0, g9_5_0, A9_5_1, c9_5_1, g9_5_1, G9_9, rfl, rfl, hB, hp9, hc0, hc1, f9_4, f9_5, f9_6, f9_7, f9_8, f9_9⟩ x9
 refine zn ?_
 refine Js.seq <| zS <| Qf fh rfl <| Q0 2 rfl rfl rfl <| Qz rfl <| Qe rfl rfl <| JL.nil ?_
 refine zi (fun h24 h24' => ?_) fun h24 h24' => ?_
 ·
  refine Js.seq ?_
  refine zk [2, 3] (fun F U l os u => l = F [] ∧ os = U [nO, nO, nO, nO, nO, nO, nO, some (boxO b2 [.slice A9_5_0 pp.pits.length c9_5_0, .slice A9_5_1 pp.stores.length c9_5_1, .int .i64 pp.player] 39), some (boxO b1 [.int .i64 rr.pits, .int .i64 rr.seeds, .bool rr.stores, .bool rr.skip, .bool rr.relay, .bool rr.feed, .bool rr.again, .int .i64 rr.capture, .int .i64 rr.slam, .slice A9_4_9 acc.length c9_4_9] 37)]) ?_ ?_
  ·
   refine zdr [2, 3] ?_
   refine JH.q 0 rfl (L9 2 rfl rfl) ?_
   refine y2 1 2 ?_ ?_
   ·
    refine JHo.q rfl (L9 1 rfl rfl) ?_
    refine y1 2 ?_
    refine yst rfl rfl rfl ?_
    refine y1 3 ?_
    refine yst rfl rfl rfl ?_
    refine yd ?_
    exact zm ⟨rfl, rfl⟩ (Up.refl _ _)
   refine yst rfl rfl rfl ?_
   refine y1 1 ?_
   refine JHo.q rfl (L9 1 rfl rfl) ?_
   refine y1 3 ?_
   refine yst rfl rfl rfl ?_
   refine yd ?_
   exact zm ⟨rfl, rfl⟩ (Up.refl _ _)
  rintro _ _ u25 ⟨rfl, rfl⟩ x25
  refine zn ?_
  refine zf [0, 2, 2, 2, 2, 2, 2] fun GG26 => ?_
  refine zn ?_
  refine zrb [0, 0, 0, 0, 0] hb (x9.trans x25) ?_
  refine ⟨((M.Boo.mk rr acc)), (pp), (at5), (sd5), A9_4_9, c9_4_9, g9_4_9, vs9_4_9, fl9_4_9, A9_5_0, c9_5_0, g9_5_0, A9_5_1, c9_5_1, g9_5_1, rfl, ?_, ?_, ?_, ?_, ?_, ?_, ?_, by first | trivial | assumption | omega | exact Nat.le_trans (hB.tot (by omega)) (by omega) | (dsimp only; exact Nat.le_trans (hB.tot (by omega)) (by omega)) | (dsimp only; exact M.bent_set (hB.tot (by omega)) (by dsimp only; (try simp only [List.length_set, List.length_nil]); omega)) | (dsimp only; exact M.bent_app (hB.tot (by omega)) (by (try dsimp only); omega)), by first | trivial | assumption | omega | exact Nat.le_trans (hB.tot (by omega)) (by omega) | (dsimp only; exact Nat.le_trans (hB.tot (by omega)) (by omega)) | (dsimp only; exact M.bent_set (hB.tot (by omega)) (by dsimp only; (try simp only [List.length_set, List.length_nil]); omega)) | (dsimp only; exact M.bent_app (hB.tot (by omega)) (by (try dsimp only); omega)), by first | trivial | assumption | omega | exact Nat.le_trans (hB.tot (by omega)) (by omega) | (dsimp only; exact Nat.le_trans (hB.tot (by omega)) (by omega)) | (dsimp only; exact M.bent_set (hB.tot (by omega)) (by dsimp only; (try simp only [List.length_set, List.length_nil]); omega)) | (dsimp only; exact M.bent_app (hB.tot (by omega)) (by (try dsimp only); omega)), by first | trivial | assumption | omega | exact Nat.le_trans (hB.tot (by omega)) (by omega) | (dsimp only; exact Nat.le_trans (hB.tot (by omega)) (by omega)) | (dsimp only; exact M.bent_set (hB.tot (by omega)) (by dsimp only; (try simp only [List.length_set, List.length_nil]); omega)) | (dsimp only; exact M.bent_app (hB.tot (by omega)) (by (try dsimp only); omega))⟩
  · rfl
  all_goals (try dsimp only)
  all_goals (first | (omega) | omega | (simp only [*]; omega))
 have hbl := hB.len
 refine Js.skip <| zS <| Qm rfl <| Qf fh rfl <| Q0 2 rfl rfl rfl <| Qz rfl <| zBB 1 sp_ rfl (fun w hb _ hw => c_spec_l00Src_pick s_code at5 sd5 (acc.length : Int) hb (ok_ hw)) ?_
 rintro _ _ G27 ⟨X27KX, X27AT, X27SD, rfl, rfl, hX27_0, hX27_1, hX27_2, hX27_3⟩
 refine znl ?_
 refine Qa rfl <| JL.nil ?_
 refine zf [0, 1, 1, 1, 1, 1, 1, 1, 1] fun GG28 => ?_
 refine zn ?_
 refine zS <| Qf fh rfl <| Q0 2 rfl rfl rfl <| Qm rfl ?_
 refine JL.fact (row_some (i := 3) rfl (by omega)) (fun hf30 => ?_)
 obtain ⟨b30, rfl⟩ := hf30
 have hy29 : acc[X27KX.toNat]? = some (M.ent acc X27KX.toNat) := M.ent_get (by first | omega | (simp only [List.length_set, List.length_append, List.length_cons, List.length_nil, List.length_take, List.length_drop, List.length_replicate]; omega))
 refine JL.fact (fun w hw => elemv_BookEntry (Mem.ownC (i := 4) rfl w hw) hy29) (fun hf29 => ?_)
 obtain ⟨A29_0, c29_0, A29_1, c29_1, he29, bl29_0, bh29_0, bl29_1, bh29_1⟩ := hf29
 have hsz := hB.sz _ (List.mem_of_getElem? hy29)
 refine Qq (p_indexAddr el_35 rfl rfl (by omega) (by omega) rfl) <| Qa rfl <| zJ <| zS <| Qm rfl <| zBB 1 sp_ rfl (fun w hb _ hw => c_spec_l00Src_pick s_code X27AT X27SD 24 hb (ok_ hw)) ?_
 rintro _ _ G31 ⟨X31KX, X31AT, X31SD, rfl, rfl, hX31_0, hX31_1, hX31_2, hX31_3⟩
 refine znl ?_
 refine JL.nil ?_
 refine zf [0, 1, 1, 1, 1, 1, 1, 1, 1] fun GG32 => ?_
 refine zn ?_
 refine Js.block <| zS <| Qe rfl rfl <| Qa rfl <| JL.nil ?_
 refine zi (fun h33 h33' => ?_) fun h33 h33' => ?_
 ·
  refine Js.fact (fun w hw => elem_in cBookEntry (m := 2) (k := X27KX.toNat) (xs := acc) (fun _ => rfl) (Mem.ownC (i := 4) rfl w hw) (by omega)) (fun hl34 => ?_)
  refine Js.ex3 (fun w hw => St.elemS cBookEntry (m := 2) (i := 4) (xs := acc) (fun _ => rfl) rfl hy29 he29 hw) (fun f34_1 f34_2 f34_3 => ?_)
  refine Js.unp 0 ?_
  refine zn ?_
  refine Js.fact (row_some (i := 1) rfl (by first | omega | (simp only [List.length_set, List.length_append, List.length_cons, List.length_nil, List.length_take, List.length_drop, List.length_replicate]; omega))) (fun hf35 => ?_)
  obtain ⟨b35, rfl⟩ := hf35
  refine Js.fact (row_some (i := 0) rfl (by first | omega | (simp only [List.length_set, List.length_append, List.length_cons, List.length_nil, List.length_take, List.length_drop, List.length_replicate]; omega))) (fun hf36 => ?_)
  obtain ⟨b36, rfl⟩ := hf36
  refine zk [2, 3, 4, 5] (fun F U l os u => ∃ (G39 : List Nat) (b37 : Nat) (X39KX X39AT X39SD : Int), l = F [] ∧ os = [anyO G39, rowO 2 1 (.slice (some ⟨b37, 0, none⟩) 3 3) 3 [.int .i64 0, .int .i64 1000000, .int .i64 1000001] []] ++ U [some (rowO 81 3 (.slice (some ⟨b36, 0, none⟩) (((M.ent acc X27KX.toNat).choices).length) c29_1) (((M.ent acc X27KX.toNat).choices).length) (fltV vcChoice (((M.ent acc X27KX.toNat).choices).set 0 (M.Cho.mk ((M.cho ((M.ent acc X27KX.toNat).choices) 0).move) X39KX ((M.cho ((M.ent acc X27KX.toNat).choices) 0).score)))) []), nO, nO, nO, some (boxO bs [.slice As_0 s_code cs_0, .int .i64 X39AT, .int .u64 X39SD] 189)] ∧ (X39KX ∈ [0, 1000000, 1000001]) ∧ (X31AT ≤ X39AT) ∧ (X39AT ≤ X31AT + 2)) ?_ ?_
  ·
   refine zdr [6, 9] ?_
   refine JH.p 0 rfl (p_move rfl) ?_
   refine JH.p 1 rfl (p_nilCheck rfl) ?_
   refine JH.p 2 rfl (p_fieldAddr fld_89_1.h rfl) ?_
   refine JH.p 4 rfl (p_move rfl) ?_
   refine y2 3 5 ?_ ?_
   ·
    refine JHo.q rfl (q_load1 ty_67.h rfl (fun w hw => (Mem.rowR' (i := 7) rfl he29 w hw) 1 _ rfl)) ?_
    refine y1 5 ?_
    refine ybs rfl fun b48 => ?_
    refine y1 6 ?_
    refine zhh [5] ?_
    refine yBB 1 sp_ rfl rfl (fun w hb _ hw => c_spec_l00Src_among s_code X31AT X31SD [0, 1000000, 1000001] hb (ok_ hw) (ints_rowok (xs := [0, 1000000, 1000001]) (hw.pr (i := 0) rfl)) (r3 := (by simp)) (r4 := (by simp))) ?_
    rintro _ _ G50 ⟨X50KX, X50AT, X50SD, rfl, rfl, hX50_0, hX50_1, hX50_2⟩
    refine znh ?_
    have hy51 : ((M.ent acc X27KX.toNat).choices)[0]? = some (M.cho ((M.ent acc X27KX.toNat).choices) 0) := M.cho_get (by first | omega | (simp only [List.length_set, List.length_append, List.length_cons, List.length_nil, List.length_take, List.length_drop, List.length_replicate]; omega))
    refine JH.p 7 rfl (p_indexAddr el_67 rfl rfl (by first | omega | (simp only [List.length_set, List.length_append, List.length_cons, List.length_nil, List.length_take, List.length_drop, List.length_replicate]; omega)) (by first | omega | (simp only [List.length_set, List.length_append, List.length_cons, List.length_nil, List.length_take, List.length_drop, List.length_replicate]; omega)) rfl) ?_
    refine JH.p 8 rfl (p_fieldAddr fld_81_1.h rfl) ?_
    refine y1 9 ?_
    refine JHo.s rfl (e_storeRow (i := 3) (xs' := fltV vcChoice (((M.ent acc X27KX.toNat).choices).set 0 (M.Cho.mk ((M.cho ((M.ent acc X27KX.toNat).choices) 0).move) X50KX ((M.cho ((M.ent acc X27KX.toNat).choices) 0).score)))) ty_2.h rfl rfl rfl rfl rfl rfl (fltV_lt (C := vcChoice) (j := 1) (fun _ => rfl) (by first | omega | (simp only [List.length_set, List.length_append, List.length_cons, List.length_nil, List.length_take, List.length_drop, List.length_replicate]; omega)) (by decide)) (fltV_cell (C := vcChoice) (j := 1) (y' := (M.Cho.mk ((M.cho ((M.ent acc X27KX.toNat).choices) 0).move) X50KX ((M.cho ((M.ent acc X27KX.toNat).choices) 0).score))) (fun _ => rfl) hy51 (by decide) rfl)) (.inr rfl) ?_
    rintro _ _ _ ⟨rfl, rfl⟩ _
    refine znh ?_
    refine yd ?_
    refine zh [1, 1, 1, 1, 1, 1, 0, 0, 0, 0, 0, 0, 0, 0, 0] ?_
    exact zm ⟨_, _, _, _, _, rfl, rfl, zt, zt, zt⟩ (Up.refl _ _) ⟨rfl, rfl, rfl, rfl, trivial⟩
   refine ybs rfl fun b52 => ?_
   refine y2 3 6 ?_ ?_
   ·
    refine JHo.q rfl (q_load1 ty_67.h rfl (fun w hw => (Mem.rowR' (i := 8) rfl he29 w hw) 1 _ rfl)) ?_
    refine y1 6 ?_
    refine zhh [5] ?_
    refine yBB 1 sp_ rfl rfl (fun w hb _ hw => c_spec_l00Src_among s_code X31AT X31SD [0, 1000000, 1000001] hb (ok_ hw) (ints_rowok (xs := [0, 1000000, 1000001]) (hw.pr (i := 0) rfl)) (r3 := (by simp)) (r4 := (by simp))) ?_
    rintro _ _ G54 ⟨X54KX, X54AT, X54SD, rfl, rfl, hX54_0, hX54_1, hX54_2⟩
    refine znh ?_
    have hy55 : ((M.ent acc X27KX.toNat).choices)[0]? = some (M.cho ((M.ent acc X27KX.toNat).choices) 0) := M.cho_get (by first | omega | (simp only [List.length_set, List.length_append, List.length_cons, List.length_nil, List.length_take, List.length_drop, List.length_replicate]; omega))
    refine JH.p 7 rfl (p_indexAddr el_67 rfl rfl (by first | omega | (simp only [List.length_set, List.length_append, List.length_cons, List.length_nil, List.length_take, List.length_drop, List.length_replicate]; omega)) (by first | omega | (simp only [List.length_set, List.length_append, List.length_cons, List.length_nil, List.length_take, List.length_drop, List.length_replicate]; omega)) rfl) ?_
    refine JH.p 8 rfl (p_fieldAddr fld_81_1.h rfl) ?_
    refine y1 9 ?_
    refine JHo.s rfl (e_storeRow (i := 3) (xs' := fltV vcChoice (((M.ent acc X27KX.toNat).choices).set 0 (M.Cho.mk ((M.cho ((M.ent acc X27KX.toNat).choices) 0).move) X54KX ((M.cho ((M.ent acc X27KX.toNat).choices) 0).score)))) ty_2.h rfl rfl rfl rfl rfl rfl (fltV_lt (C := vcChoice) (j := 1) (fun _ => rfl) (by first | omega | (simp only [List.length_set, List.length_append, List.length_cons, List.length_nil, List.length_take, List.length_drop, List.length_replicate]; omega)) (by decide)) (fltV_cell (C := vcChoice) (j := 1) (y' := (M.Cho.mk ((M.cho ((M.ent acc X27KX.toNat).choices) 0).move) X54KX ((M.cho ((M.ent acc X27KX.toNat).choices) 0).score))) (fun _ => rfl) hy55 (by decide) rfl)) (.inr rfl) ?_
    rintro _ _ _ ⟨rfl, rfl⟩ _
    refine znh ?_
    refine yd ?_
    refine zh [1, 1, 1, 1, 1, 1, 0, 0, 0, 0, 0, 0, 0, 0, 0] ?_
    exact zm ⟨_, _, _, _, _, rfl, rfl, zt, zt, zt⟩ (Up.refl _ _) ⟨rfl, rfl, rfl, rfl, trivial⟩
   refine zhh [5] ?_
   refine yBB 1 sp_ rfl rfl (fun w hb _ hw => c_spec_l00Src_among s_code X31AT X31SD [0, 1000000, 1000001] hb (ok_ hw) (ints_rowok (xs := [0, 1000000, 1000001]) (hw.pr (i := 0) rfl)) (r3 := (by simp)) (r4 := (by simp))) ?_
   rintro _ _ G56 ⟨X56KX, X56AT, X56SD, rfl, rfl, hX56_0, hX56_1, hX56_2⟩
   refine znh ?_
   refine y1 3 ?_
   refine JHo.q rfl (q_load1 ty_67.h rfl (fun w hw => (Mem.rowR' (i := 9) rfl he29 w hw) 1 _ rfl)) ?_
   have hy57 : ((M.ent acc X27KX.toNat).choices)[0]? = some (M.cho ((M.ent acc X27KX.toNat).choices) 0) := M.cho_get (by first | omega | (simp only [List.length_set, List.length_append, List.length_cons, List.length_nil, List.length_take, List.length_drop, List.length_replicate]; omega))
   refine JH.p 7 rfl (p_indexAddr el_67 rfl rfl (by first | omega | (simp only [List.length_set, List.length_append, List.length_cons, List.length_nil, List.length_take, List.length_drop, List.length_replicate]; omega)) (by first | omega | (simp only [List.length_set, List.length_append, List.length_cons, List.length_nil, List.length_take, List.length_drop, List.length_replicate]; omega)) rfl) ?_
   refine JH.p 8 rfl (p_fieldAddr fld_81_1.h rfl) ?_
   refine y1 9 ?_
   refine JHo.s rfl (e_storeRow (i := 3) (xs' := fltV vcChoice (((M.ent acc X27KX.toNat).choices).set 0 (M.Cho.mk ((M.cho ((M.ent acc X27KX.toNat).choices) 0).move) X56KX ((M.cho ((M.ent acc X27KX.toNat).choices) 0).score)))) ty_2.h rfl rfl rfl rfl rfl rfl (fltV_lt (C := vcChoice) (j := 1) (fun _ => rfl) (by first | omega | (simp only [List.length_set, List.length_append, List.length_cons, List.length_nil, List.length_take, List.length_drop, List.length_replicate]; omega)) (by decide)) (fltV_cell (C := vcChoice) (j := 1) (y' := (M.Cho.mk ((M.cho ((M.ent acc X27KX.toNat).choices) 0).move) X56KX ((M.cho ((M.ent acc X27KX.toNat).choices) 0).score))) (fun _ => rfl) hy57 (by decide) rfl)) (.inr rfl) ?_
   rintro _ _ _ ⟨rfl, rfl⟩ _
   refine znh ?_
   refine yd ?_
   refine zh [1, 1, 1, 1, 1, 1, 0, 0, 0, 0, 0, 0, 0, 0, 0] ?_
   exact zm ⟨_, _, _, _, _, rfl, rfl, zt, zt, zt⟩ (Up.refl _ _) ⟨rfl, rfl, rfl, rfl, trivial⟩
  rintro _ _ u47 ⟨G39, b37, X39KX, X39AT, X39SD, rfl, rfl, f47_0, f47_1, f47_2⟩ x47
  refine zn ?_
  refine zf [2, 2, 2, 2, 2, 2, 2, 2, 2, 2, 2, 2] fun GG58 => ?_
  refine zn ?_
  refine Js.blockEnd <| Js.seq ?_
  refine zk [2, 3] (fun F U l os u => l = F [] ∧ os = U [nO, nO, nO, nO, nO, nO, nO, nO, nO, nO, some (boxO b2 [.slice A9_5_0 pp.pits.length c9_5_0, .slice A9_5_1 pp.stores.length c9_5_1, .int .i64 pp.player] 39), some (boxO b1 [.int .i64 rr.pits, .int .i64 rr.seeds, .bool rr.stores, .bool rr.skip, .bool rr.relay, .bool rr.feed, .bool rr.again, .int .i64 rr.capture, .int .i64 rr.slam, .slice (some ⟨b30, 0, none⟩) acc.length c9_4_9] 37)]) ?_ ?_
  ·
   refine zdr [2, 3] ?_
   refine JH.q 0 rfl (L9 6 rfl rfl) ?_
   refine y2 1 2 ?_ ?_
   ·
    refine JHo.q rfl (L9 5 rfl rfl) ?_
    refine y1 2 ?_
    refine yst rfl rfl rfl ?_
    refine y1 3 ?_
    refine yst rfl rfl rfl ?_
    refine yd ?_
    exact zm ⟨rfl, rfl⟩ (Up.refl _ _)
   refine yst rfl rfl rfl ?_
   refine y1 1 ?_
   refine JHo.q rfl (L9 5 rfl rfl) ?_
   refine y1 3 ?_
   refine yst rfl rfl rfl ?_
   refine yd ?_
   exact zm ⟨rfl, rfl⟩ (Up.refl _ _)
  rintro _ _ u59 ⟨rfl, rfl⟩ x59
  refine zn ?_
  refine zf [0, 0, 0, 0, 0, 2, 2, 2, 2, 2] fun GG60 => ?_
  refine zn ?_
  refine Js.pk (cBookEntry (M.Ent.mk ((M.ent acc X27KX.toNat).pits) (((M.ent acc X27KX.toNat).choices).set 0 (M.Cho.mk ((M.cho ((M.ent acc X27KX.toNat).choices) 0).move) X39KX ((M.cho ((M.ent acc X27KX.toNat).choices) 0).score))))) [.slice (some ⟨b35, 0, none⟩) (((M.ent acc X27KX.toNat).pits).length) c29_0, .slice (some ⟨b36, 0, none⟩) (((M.ent acc X27KX.toNat).choices).length) c29_1] (fun f62 G62 => ?_) (by exact (gv_agg (gvc gv_ (gvc (gv_flat lChoice (xs := (((M.ent acc X27KX.toNat).choices).set 0 (M.Cho.mk ((M.cho ((M.ent acc X27KX.toNat).choices) 0).move) X39KX ((M.cho ((M.ent acc X27KX.toNat).choices) 0).score)))) po_ (by first | rfl | (simp [fltV]; done)) (by first | with_reducible rfl | assumption | rfl)) gvn))))
  refine Js.front (i := 2) rfl ?_
  refine zn ?_
  refine Js.front (i := 1) rfl ?_
  refine zn ?_
  refine Js.front (i := 3) rfl ?_
  refine zn ?_
  refine Js.conv (fun w hw => St.closeE cBookEntry (k := X27KX.toNat) (m := 2) (xs := acc) (y := (M.Ent.mk ((M.ent acc X27KX.toNat).pits) (((M.ent acc X27KX.toNat).choices).set 0 (M.Cho.mk ((M.cho ((M.ent acc X27KX.toNat).choices) 0).move) X39KX ((M.cho ((M.ent acc X27KX.toNat).choices) 0).score))))) (vs := vs9_4_9) (vs' := vs9_4_9) (by omega) rfl (setL_same he29 rfl) hw) ?_
  refine zn ?_
  refine zrb [2, 2, 0, 1, 1] hb ((x9.trans x47).trans x59) ?_
  have hNr0_9 : (acc.set X27KX.toNat (M.Ent.mk ((M.ent acc X27KX.toNat).pits) (((M.ent acc X27KX.toNat).choices).set 0 (M.Cho.mk ((M.cho ((M.ent acc X27KX.toNat).choices) 0).move) X39KX ((M.cho ((M.ent acc X27KX.toNat).choices) 0).score))))).length = acc.length := by first | rfl | assumption | omega | (simp only [List.length_set, M.setI_length]; done) | (simp only [List.length_set, M.setI_length]; first | rfl | assumption | omega) | (simp only [List.length_drop]; first | done | rfl | omega) | (simp; done) | (simp; omega)
  refine ⟨((M.Boo.mk rr (acc.set X27KX.toNat (M.Ent.mk ((M.ent acc X27KX.toNat).pits) (((M.ent acc X27KX.toNat).choices).set 0 (M.Cho.mk ((M.cho ((M.ent acc X27KX.toNat).choices) 0).move) X39KX ((M.cho ((M.ent acc X27KX.toNat).choices) 0).score))))))), (pp), (X39AT), (X39SD), (some ⟨b30, 0, none⟩), c9_4_9, g9_4_9, vs9_4_9, (f34_3 ++ f62 ++ f34_2), A9_5_0, c9_5_0, g9_5_0, A9_5_1, c9_5_1, g9_5_1, (show (.tuple #[.agg #[.int .i64 rr.pits, .int .i64 rr.seeds, .bool rr.stores, .bool rr.skip, .bool rr.relay, .bool rr.feed, .bool rr.again, .int .i64 rr.capture, .int .i64 rr.slam, .slice (some ⟨b30, 0, none⟩) acc.length c9_4_9], .agg #[.slice A9_5_0 pp.pits.length c9_5_0, .slice A9_5_1 pp.stores.length c9_5_1, .int .i64 pp.player]] : Value) = .tuple #[.agg #[.int .i64 rr.pits, .int .i64 rr.seeds, .bool rr.stores, .bool rr.skip, .bool rr.relay, .bool rr.feed, .bool rr.again, .int .i64 rr.capture, .int .i64 rr.slam, .slice (some ⟨b30, 0, none⟩) (acc.set X27KX.toNat (M.Ent.mk ((M.ent acc X27KX.toNat).pits) (((M.ent acc X27KX.toNat).choices).set 0 (M.Cho.mk ((M.cho ((M.ent acc X27KX.toNat).choices) 0).move) X39KX ((M.cho ((M.ent acc X27KX.toNat).choices) 0).score))))).length c9_4_9], .agg #[.slice A9_5_0 pp.pits.length c9_5_0, .slice A9_5_1 pp.stores.length c9_5_1, .int .i64 pp.player]] by rw [hNr0_9]), ?_, ?_, ?_, ?_, ?_, ?_, ?_, by first | trivial | assumption | omega | exact Nat.le_trans (hB.tot (by omega)) (by omega) | (dsimp only; exact Nat.le_trans (hB.tot (by omega)) (by omega)) | (dsimp only; exact M.bent_set (hB.tot (by omega)) (by dsimp only; (try simp only [List.length_set, List.length_nil]); omega)) | (dsimp only; exact M.bent_app (hB.tot (by omega)) (by (try dsimp only); omega)), by first | trivial | assumption | omega | exact Nat.le_trans (hB.tot (by omega)) (by omega) | (dsimp only; exact Nat.le_trans (hB.tot (by omega)) (by omega)) | (dsimp only; exact M.bent_set (hB.tot (by omega)) (by dsimp only; (try simp only [List.length_set, List.length_nil]); omega)) | (dsimp only; exact M.bent_app (hB.tot (by omega)) (by (try dsimp only); omega)), by first | trivial | assumption | omega | exact Nat.le_trans (hB.tot (by omega)) (by omega) | (dsimp only; exact Nat.le_trans (hB.tot (by omega)) (by omega)) | (dsimp only; exact M.bent_set (hB.tot (by omega)) (by dsimp only; (try simp only [List.length_set, List.length_nil]); omega)) | (dsimp only; exact M.bent_app (hB.tot (by omega)) (by (try dsimp only); omega)), by first | trivial | assumption | omega | exact Nat.le_trans (hB.tot (by omega)) (by omega) | (dsimp only; exact Nat.le_trans (hB.tot (by omega)) (by omega)) | (dsimp only; exact M.bent_set (hB.tot (by omega)) (by dsimp only; (try simp only [List.length_set, List.length_nil]); omega)) | (dsimp only; exact M.bent_app (hB.tot (by omega)) (by (try dsimp only); omega))⟩
  · first | rfl | (dsimp only; rw [hNr0_9]; done) | (dsimp only; rw [hNr0_9]; rfl) | (dsimp only; simp only [hNr0_9]) | (rw [hNr0_9]; done) | (rw [hNr0_9]; rfl)
  all_goals (try dsimp only)
  all_goals (first | (rw [hNr0_9]; omega) | omega | (simp only [*]; omega))
 refine zS <| Qe rfl rfl <| Qa rfl <| JL.nil ?_
 refine zi (fun h63 h63' => ?_) fun h63 h63' => ?_
 ·
  refine Js.fact (fun w hw => elem_in cBookEntry (m := 2) (k := X27KX.toNat) (xs := acc) (fun _ => rfl) (Mem.ownC (i := 4) rfl w hw) (by omega)) (fun hl64 => ?_)
  refine Js.ex3 (fun w hw => St.elemS cBookEntry (m := 2) (i := 4) (xs := acc) (fun _ => rfl) rfl hy29 he29 hw) (fun f64_1 f64_2 f64_3 => ?_)
  refine Js.unp 0 ?_
  refine zn ?_
  refine Js.fact (row_some (i := 1) rfl (by first | omega | (simp only [List.length_set, List.length_append, List.length_cons, List.length_nil, List.length_take, List.length_drop, List.length_replicate]; omega))) (fun hf65 => ?_)
  obtain ⟨b65, rfl⟩ := hf65
  refine Js.fact (row_some (i := 0) rfl (by first | omega | (simp only [List.length_set, List.length_append, List.length_cons, List.length_nil, List.length_take, List.length_drop, List.length_replicate]; omega))) (fun hf66 => ?_)
  obtain ⟨b66, rfl⟩ := hf66
  refine zk [2, 3, 4, 5] (fun F U l os u => ∃ (G71 : List Nat) (b69 : Nat) (X71KX X71AT X71SD : Int), l = F [] ∧ os = [anyO G71, rowO 2 1 (.slice (some ⟨b69, 0, none⟩) 3 3) 3 [.int .i64 (-1), .int .i64 (IntKind.i64.wrap (2 * ((M.cho ((M.ent acc X27KX.toNat).choices) 0).games))), .int .i64 (IntKind.i64.wrap ((IntKind.i64.wrap (2 * ((M.cho ((M.ent acc X27KX.toNat).choices) 0).games))) + 1))] []] ++ U [some (rowO 81 3 (.slice (some ⟨b66, 0, none⟩) (((M.ent acc X27KX.toNat).choices).length) c29_1) (((M.ent acc X27KX.toNat).choices).length) (fltV vcChoice (((M.ent acc X27KX.toNat).choices).set 0 (M.Cho.mk ((M.cho ((M.ent acc X27KX.toNat).choices) 0).move) ((M.cho ((M.ent acc X27KX.toNat).choices) 0).games) X71KX))) []), nO, nO, nO, some (boxO bs [.slice As_0 s_code cs_0, .int .i64 X71AT, .int .u64 X71SD] 189)] ∧ (X71KX ∈ [(-1), (IntKind.i64.wrap (2 * ((M.cho ((M.ent acc X27KX.toNat).choices) 0).games))), (IntKind.i64.wrap ((IntKind.i64.wrap (2 * ((M.cho ((M.ent acc X27KX.toNat).choices) 0).games))) + 1))]) ∧ (X31AT ≤ X71AT) ∧ (X71AT ≤ X31AT + 2)) ?_ ?_
  ·
   refine zdr [23, 26] ?_
   refine JH.p 0 rfl (p_move rfl) ?_
   refine JH.p 1 rfl (p_nilCheck rfl) ?_
   refine JH.p 2 rfl (p_fieldAddr fld_89_1.h rfl) ?_
   refine JH.p 4 rfl (p_move rfl) ?_
   refine JH.p 5 rfl (p_move rfl) ?_
   refine JH.p 6 rfl (p_nilCheck rfl) ?_
   refine JH.p 7 rfl (p_fieldAddr fld_89_1.h rfl) ?_
   refine JH.q 8 rfl (q_load1 ty_67.h rfl (fun w hw => (Mem.rowR' (i := 7) rfl he29 w hw) 1 _ rfl)) ?_
   have hy80 : ((M.ent acc X27KX.toNat).choices)[0]? = some (M.cho ((M.ent acc X27KX.toNat).choices) 0) := M.cho_get (by first | omega | (simp only [List.length_set, List.length_append, List.length_cons, List.length_nil, List.length_take, List.length_drop, List.length_replicate]; omega))
   refine JH.p 9 rfl (p_indexAddr el_67 rfl rfl (by first | omega | (simp only [List.length_set, List.length_append, List.length_cons, List.length_nil, List.length_take, List.length_drop, List.length_replicate]; omega)) (by first | omega | (simp only [List.length_set, List.length_append, List.length_cons, List.length_nil, List.length_take, List.length_drop, List.length_replicate]; omega)) rfl) ?_
   refine JH.p 10 rfl (p_fieldAddr fld_81_1.h rfl) ?_
   refine JH.q 11 rfl (q_load1 ty_2.h rfl (fun w hw => (Mem.rowR' (i := 0) rfl (fltV_at (C := vcChoice) (fun _ => rfl) hy80) w hw) 1 _ rfl)) ?_
   refine JH.p 12 rfl (p_mul rfl rfl rfl) ?_
   refine JH.p 13 rfl (p_move rfl) ?_
   refine JH.p 14 rfl (p_nilCheck rfl) ?_
   refine JH.p 15 rfl (p_fieldAddr fld_89_1.h rfl) ?_
   refine JH.q 16 rfl (q_load1 ty_67.h rfl (fun w hw => (Mem.rowR' (i := 7) rfl he29 w hw) 1 _ rfl)) ?_
   have hy81 : ((M.ent acc X27KX.toNat).choices)[0]? = some (M.cho ((M.ent acc X27KX.toNat).choices) 0) := M.cho_get (by first | omega | (simp only [List.length_set, List.length_append, List.length_cons, List.length_nil, List.length_take, List.length_drop, List.length_replicate]; omega))
   refine JH.p 17 rfl (p_indexAddr el_67 rfl rfl (by first | omega | (simp only [List.length_set, List.length_append, List.length_cons, List.length_nil, List.length_take, List.length_drop, List.length_replicate]; omega)) (by first | omega | (simp only [List.length_set, List.length_append, List.length_cons, List.length_nil, List.length_take, List.length_drop, List.length_replicate]; omega)) rfl) ?_
   refine JH.p 18 rfl (p_fieldAddr fld_81_1.h rfl) ?_
   refine JH.q 19 rfl (q_load1 ty_2.h rfl (fun w hw => (Mem.rowR' (i := 0) rfl (fltV_at (C := vcChoice) (fun _ => rfl) hy81) w hw) 1 _ rfl)) ?_
   refine JH.p 20 rfl (p_mul rfl rfl rfl) ?_
   refine JH.p 21 rfl (p_add rfl rfl rfl) ?_
   refine y2 3 22 ?_ ?_
   ·
    refine JHo.q rfl (q_load1 ty_67.h rfl (fun w hw => (Mem.rowR' (i := 7) rfl he29 w hw) 1 _ rfl)) ?_
    refine y1 22 ?_
    refine ybs rfl fun b82 => ?_
    refine y1 23 ?_
    refine zhh [5] ?_
    refine yBB 1 sp_ rfl rfl (fun w hb _ hw => c_spec_l00Src_among s_code X31AT X31SD [(-1), (IntKind.i64.wrap (2 * ((M.cho ((M.ent acc X27KX.toNat).choices) 0).games))), (IntKind.i64.wrap ((IntKind.i64.wrap (2 * ((M.cho ((M.ent acc X27KX.toNat).choices) 0).games))) + 1))] hb (ok_ hw) (ints_rowok (xs := [(-1), (IntKind.i64.wrap (2 * ((M.cho ((M.ent acc X27KX.toNat).choices) 0).games))), (IntKind.i64.wrap ((IntKind.i64.wrap (2 * ((M.cho ((M.ent acc X27KX.toNat).choices) 0).games))) + 1))]) (hw.pr (i := 0) rfl)) (r3 := (by simp)) (r4 := (by simp))) ?_
    rintro _ _ G84 ⟨X84KX, X84AT, X84SD, rfl, rfl, hX84_0, hX84_1, hX84_2⟩
    refine znh ?_
    have hy85 : ((M.ent acc X27KX.toNat).choices)[0]? = some (M.cho ((M.ent acc X27KX.toNat).choices) 0) := M.cho_get (by first | omega | (simp only [List.length_set, List.length_append, List.length_cons, List.length_nil, List.length_take, List.length_drop, List.length_replicate]; omega))
    refine JH.p 24 rfl (p_indexAddr el_67 rfl rfl (by first | omega | (simp only [List.length_set, List.length_append, List.length_cons, List.length_nil, List.length_take, List.length_drop, List.length_replicate]; omega)) (by first | omega | (simp only [List.length_set, List.length_append, List.length_cons, List.length_nil, List.length_take, List.length_drop, List.length_replicate]; omega)) rfl) ?_
    refine JH.p 25 rfl (p_fieldAddr fld_81_2.h rfl) ?_
    refine y1 26 ?_
    refine JHo.s rfl (e_storeRow (i := 3) (xs' := fltV vcChoice (((M.ent acc X27KX.toNat).choices).set 0 (M.Cho.mk ((M.cho ((M.ent acc X27KX.toNat).choices) 0).move) ((M.cho ((M.ent acc X27KX.toNat).choices) 0).games) X84KX))) ty_2.h rfl rfl rfl rfl rfl rfl (fltV_lt (C := vcChoice) (j := 2) (fun _ => rfl) (by first | omega | (simp only [List.length_set, List.length_append, List.length_cons, List.length_nil, List.length_take, List.length_drop, List.length_replicate]; omega)) (by decide)) (fltV_cell (C := vcChoice) (j := 2) (y' := (M.Cho.mk ((M.cho ((M.ent acc X27KX.toNat).choices) 0).move) ((M.cho ((M.ent acc X27KX.toNat).choices) 0).games) X84KX)) (fun _ => rfl) hy85 (by decide) rfl)) (.inr rfl) ?_
    rintro _ _ _ ⟨rfl, rfl⟩ _
    refine znh ?_
    refine yd ?_
    refine zh [1, 1, 1, 1, 1, 1, 0, 0, 0, 0, 0, 0, 0, 0, 0] ?_
    exact zm ⟨_, _, _, _, _, rfl, rfl, zt, zt, zt⟩ (Up.refl _ _) ⟨rfl, rfl, rfl, rfl, trivial⟩
   refine ybs rfl fun b86 => ?_
   refine y2 3 23 ?_ ?_
   ·
    refine JHo.q rfl (q_load1 ty_67.h rfl (fun w hw => (Mem.rowR' (i := 8) rfl he29 w hw) 1 _ rfl)) ?_
    refine y1 23 ?_
    refine zhh [5] ?_
    refine yBB 1 sp_ rfl rfl (fun w hb _ hw => c_spec_l00Src_among s_code X31AT X31SD [(-1), (IntKind.i64.wrap (2 * ((M.cho ((M.ent acc X27KX.toNat).choices) 0).games))), (IntKind.i64.wrap ((IntKind.i64.wrap (2 * ((M.cho ((M.ent acc X27KX.toNat).choices) 0).games))) + 1))] hb (ok_ hw) (ints_rowok (xs := [(-1), (IntKind.i64.wrap (2 * ((M.cho ((M.ent acc X27KX.toNat).choices) 0).games))), (IntKind.i64.wrap ((IntKind.i64.wrap (2 * ((M.cho ((M.ent acc X27KX.toNat).choices) 0).games))) + 1))]) (hw.pr (i := 0) rfl)) (r3 := (by simp)) (r4 := (by simp))) ?_
    rintro _ _ G88 ⟨X88KX, X88AT, X88SD, rfl, rfl, hX88_0, hX88_1, hX88_2⟩
    refine znh ?_
    have hy89 : ((M.ent acc X27KX.toNat).choices)[0]? = some (M.cho ((M.ent acc X27KX.toNat).choices) 0) := M.cho_get (by first | omega | (simp only [List.length_set, List.length_append, List.length_cons, List.length_nil, List.length_take, List.length_drop, List.length_replicate]; omega))
    refine JH.p 24 rfl (p_indexAddr el_67 rfl rfl (by first | omega | (simp only [List.length_set, List.length_append, List.length_cons, List.length_nil, List.length_take, List.length_drop, List.length_replicate]; omega)) (by first | omega | (simp only [List.length_set, List.length_append, List.length_cons, List.length_nil, List.length_take, List.length_drop, List.length_replicate]; omega)) rfl) ?_
    refine JH.p 25 rfl (p_fieldAddr fld_81_2.h rfl) ?_
    refine y1 26 ?_
    refine JHo.s rfl (e_storeRow (i := 3) (xs' := fltV vcChoice (((M.ent acc X27KX.toNat).choices).set 0 (M.Cho.mk ((M.cho ((M.ent acc X27KX.toNat).choices) 0).move) ((M.cho ((M.ent acc X27KX.toNat).choices) 0).games) X88KX))) ty_2.h rfl rfl rfl rfl rfl rfl (fltV_lt (C := vcChoice) (j := 2) (fun _ => rfl) (by first | omega | (simp only [List.length_set, List.length_append, List.length_cons, List.length_nil, List.length_take, List.length_drop, List.length_replicate]; omega)) (by decide)) (fltV_cell (C := vcChoice) (j := 2) (y' := (M.Cho.mk ((M.cho ((M.ent acc X27KX.toNat).choices) 0).move) ((M.cho ((M.ent acc X27KX.toNat).choices) 0).games) X88KX)) (fun _ => rfl) hy89 (by decide) rfl)) (.inr rfl) ?_
    rintro _ _ _ ⟨rfl, rfl⟩ _
    refine znh ?_
    refine yd ?_
    refine zh [1, 1, 1, 1, 1, 1, 0, 0, 0, 0, 0, 0, 0, 0, 0] ?_
    exact zm ⟨_, _, _, _, _, rfl, rfl, zt, zt, zt⟩ (Up.refl _ _) ⟨rfl, rfl, rfl, rfl, trivial⟩
   refine zhh [5] ?_
   refine yBB 1 sp_ rfl rfl (fun w hb _ hw => c_spec_l00Src_among s_code X31AT X31SD [(-1), (IntKind.i64.wrap (2 * ((M.cho ((M.ent acc X27KX.toNat).choices) 0).games))), (IntKind.i64.wrap ((IntKind.i64.wrap (2 * ((M.cho ((M.ent acc X27KX.toNat).choices) 0).games))) + 1))] hb (ok_ hw) (ints_rowok (xs := [(-1), (IntKind.i64.wrap (2 * ((M.cho ((M.ent acc X27KX.toNat).choices) 0).games))), (IntKind.i64.wrap ((IntKind.i64.wrap (2 * ((M.cho ((M.ent acc X27KX.toNat).choices) 0).games))) + 1))]) (hw.pr (i := 0) rfl)) (r3 := (by simp)) (r4 := (by simp))) ?_
   rintro _ _ G90 ⟨X90KX, X90AT, X90SD, rfl, rfl, hX90_0, hX90_1, hX90_2⟩
   refine znh ?_
   refine y1 3 ?_
   refine JHo.q rfl (q_load1 ty_67.h rfl (fun w hw => (Mem.rowR' (i := 9) rfl he29 w hw) 1 _ rfl)) ?_
   have hy91 : ((M.ent acc X27KX.toNat).choices)[0]? = some (M.cho ((M.ent acc X27KX.toNat).choices) 0) := M.cho_get (by first | omega | (simp only [List.length_set, List.length_append, List.length_cons, List.length_nil, List.length_take, List.length_drop, List.length_replicate]; omega))
   refine JH.p 24 rfl (p_indexAddr el_67 rfl rfl (by first | omega | (simp only [List.length_set, List.length_append, List.length_cons, List.length_nil, List.length_take, List.length_drop, List.length_replicate]; omega)) (by first | omega | (simp only [List.length_set, List.length_append, List.length_cons, List.length_nil, List.length_take, List.length_drop, List.length_replicate]; omega)) rfl) ?_
   refine JH.p 25 rfl (p_fieldAddr fld_81_2.h rfl) ?_
   refine y1 26 ?_
   refine JHo.s rfl (e_storeRow (i := 3) (xs' := fltV vcChoice (((M.ent acc X27KX.toNat).choices).set 0 (M.Cho.mk ((M.cho ((M.ent acc X27KX.toNat).choices) 0).move) ((M.cho ((M.ent acc X27KX.toNat).choices) 0).games) X90KX))) ty_2.h rfl rfl rfl rfl rfl rfl (fltV_lt (C := vcChoice) (j := 2) (fun _ => rfl) (by first | omega | (simp only [List.length_set, List.length_append, List.length_cons, List.length_nil, List.length_take, List.length_drop, List.length_replicate]; omega)) (by decide)) (fltV_cell (C := vcChoice) (j := 2) (y' := (M.Cho.mk ((M.cho ((M.ent acc X27KX.toNat).choices) 0).move) ((M.cho ((M.ent acc X27KX.toNat).choices) 0).games) X90KX)) (fun _ => rfl) hy91 (by decide) rfl)) (.inr rfl) ?_
   rintro _ _ _ ⟨rfl, rfl⟩ _
   refine znh ?_
   refine yd ?_
   refine zh [1, 1, 1, 1, 1, 1, 0, 0, 0, 0, 0, 0, 0, 0, 0] ?_
   exact zm ⟨_, _, _, _, _, rfl, rfl, zt, zt, zt⟩ (Up.refl _ _) ⟨rfl, rfl, rfl, rfl, trivial⟩
  rintro _ _ u79 ⟨G71, b69, X71KX, X71AT, X71SD, rfl, rfl, f79_0, f79_1, f79_2⟩ x79
  refine zn ?_
  refine zf [2, 2, 2, 2, 2, 2, 2, 2, 2, 2, 2, 2] fun GG92 => ?_
  refine zn ?_
  refine Js.blockEnd <| Js.seq ?_
  refine zk [2, 3] (fun F U l os u => l = F [] ∧ os = U [nO, nO, nO, nO, nO, nO, nO, nO, nO, nO, some (boxO b2 [.slice A9_5_0 pp.pits.length c9_5_0, .slice A9_5_1 pp.stores.length c9_5_1, .int .i64 pp.player] 39), some (boxO b1 [.int .i64 rr.pits, .int .i64 rr.seeds, .bool rr.stores, .bool rr.skip, .bool rr.relay, .bool rr.feed, .bool rr.again, .int .i64 rr.capture, .int .i64 rr.slam, .slice (some ⟨b30, 0, none⟩) acc.length c9_4_9] 37)]) ?_ ?_
  ·
   refine zdr [2, 3] ?_
   refine JH.q 0 rfl (L9 6 rfl rfl) ?_
   refine y2 1 2 ?_ ?_
   ·
    refine JHo.q rfl (L9 5 rfl rfl) ?_
    refine y1 2 ?_
    refine yst rfl rfl rfl ?_
    refine y1 3 ?_
    refine yst rfl rfl rfl ?_
    refine yd ?_
    exact zm ⟨rfl, rfl⟩ (Up.refl _ _)
   refine yst rfl rfl rfl ?_
   refine y1 1 ?_
   refine JHo.q rfl (L9 5 rfl rfl) ?_
   refine y1 3 ?_
   refine yst rfl rfl rfl ?_
   refine yd ?_
   exact zm ⟨rfl, rfl⟩ (Up.refl _ _)
  rintro _ _ u93 ⟨rfl, rfl⟩ x93
  refine zn ?_
  refine zf [0, 0, 0, 0, 0, 2, 2, 2, 2, 2] fun GG94 => ?_
  refine zn ?_
  refine Js.pk (cBookEntry (M.Ent.mk ((M.ent acc X27KX.toNat).pits) (((M.ent acc X27KX.toNat).choices).set 0 (M.Cho.mk ((M.cho ((M.ent acc X27KX.toNat).choices) 0).move) ((M.cho ((M.ent acc X27KX.toNat).choices) 0).games) X71KX)))) [.slice (some ⟨b65, 0, none⟩) (((M.ent acc X27KX.toNat).pits).length) c29_0, .slice (some ⟨b66, 0, none⟩) (((M.ent acc X27KX.toNat).choices).length) c29_1] (fun f96 G96 => ?_) (by exact (gv_agg (gvc gv_ (gvc (gv_flat lChoice (xs := (((M.ent acc X27KX.toNat).choices).set 0 (M.Cho.mk ((M.cho ((M.ent acc X27KX.toNat).choices) 0).move) ((M.cho ((M.ent acc X27KX.toNat).choices) 0).games) X71KX))) po_ (by first | rfl | (simp [fltV]; done)) (by first | with_reducible rfl | assumption | rfl)) gvn))))
  refine Js.front (i := 2) rfl ?_
  refine zn ?_
  refine Js.front (i := 1) rfl ?_
  refine zn ?_
  refine Js.front (i := 3) rfl ?_
  refine zn ?_
  refine Js.conv (fun w hw => St.closeE cBookEntry (k := X27KX.toNat) (m := 2) (xs := acc) (y := (M.Ent.mk ((M.ent acc X27KX.toNat).pits) (((M.ent acc X27KX.toNat).choices).set 0 (M.Cho.mk ((M.cho ((M.ent acc X27KX.toNat).choices) 0).move) ((M.cho ((M.ent acc X27KX.toNat).choices) 0).games) X71KX)))) (vs := vs9_4_9) (vs' := vs9_4_9) (by omega) rfl (setL_same he29 rfl) hw) ?_
  refine zn ?_
  refine zrb [2, 2, 0, 1, 1] hb ((x9.trans x79).trans x93) ?_
  have hNr0_9 : (acc.set X27KX.toNat (M.Ent.mk ((M.ent acc X27KX.toNat).pits) (((M.ent acc X27KX.toNat).choices).set 0 (M.Cho.mk ((M.cho ((M.ent acc X27KX.toNat).choices) 0).move) ((M.cho ((M.ent acc X27KX.toNat).choices) 0).games) X71KX)))).length = acc.length := by first | rfl | assumption | omega | (simp only [List.length_set, M.setI_length]; done) | (simp only [List.length_set, M.setI_length]; first | rfl | assumption | omega) | (simp only [List.length_drop]; first | done | rfl | omega) | (simp; done) | (simp; omega)
  refine ⟨((M.Boo.mk rr (acc.set X27KX.toNat (M.Ent.mk ((M.ent acc X27KX.toNat).pits) (((M.ent acc X27KX.toNat).choices).set 0 (M.Cho.mk ((M.cho ((M.ent acc X27KX.toNat).choices) 0).move) ((M.cho ((M.ent acc X27KX.toNat).choices) 0).games) X71KX)))))), (pp), (X71AT), (X71SD), (some ⟨b30, 0, none⟩), c9_4_9, g9_4_9, vs9_4_9, (f64_3 ++ f96 ++ f64_2), A9_5_0, c9_5_0, g9_5_0, A9_5_1, c9_5_1, g9_5_1, (show (.tuple #[.agg #[.int .i64 rr.pits, .int .i64 rr.seeds, .bool rr.stores, .bool rr.skip, .bool rr.relay, .bool rr.feed, .bool rr.again, .int .i64 rr.capture, .int .i64 rr.slam, .slice (some ⟨b30, 0, none⟩) acc.length c9_4_9], .agg #[.slice A9_5_0 pp.pits.length c9_5_0, .slice A9_5_1 pp.stores.length c9_5_1, .int .i64 pp.player]] : Value) = .tuple #[.agg #[.int .i64 rr.pits, .int .i64 rr.seeds, .bool rr.stores, .bool rr.skip, .bool rr.relay, .bool rr.feed, .bool rr.again, .int .i64 rr.capture, .int .i64 rr.slam, .slice (some ⟨b30, 0, none⟩) (acc.set X27KX.toNat (M.Ent.mk ((M.ent acc X27KX.toNat).pits) (((M.ent acc X27KX.toNat).choices).set 0 (M.Cho.mk ((M.cho ((M.ent acc X27KX.toNat).choices) 0).move) ((M.cho ((M.ent acc X27KX.toNat).choices) 0).games) X71KX)))).length c9_4_9], .agg #[.slice A9_5_0 pp.pits.length c9_5_0, .slice A9_5_1 pp.stores.length c9_5_1, .int .i64 pp.player]] by rw [hNr0_9]), ?_, ?_, ?_, ?_, ?_, ?_, ?_, by first | trivial | assumption | omega | exact Nat.le_trans (hB.tot (by omega)) (by omega) | (dsimp only; exact Nat.le_trans (hB.tot (by omega)) (by omega)) | (dsimp only; exact M.bent_set (hB.tot (by omega)) (by dsimp only; (try simp only [List.length_set, List.length_nil]); omega)) | (dsimp only; exact M.bent_app (hB.tot (by omega)) (by (try dsimp only); omega)), by first | trivial | assumption | omega | exact Nat.le_trans (hB.tot (by omega)) (by omega) | (dsimp only; exact Nat.le_trans (hB.tot (by omega)) (by omega)) | (dsimp only; exact M.bent_set (hB.tot (by omega)) (by dsimp only; (try simp only [List.length_set, List.length_nil]); omega)) | (dsimp only; exact M.bent_app (hB.tot (by omega)) (by (try dsimp only); omega)), by first | trivial | assumption | omega | exact Nat.le_trans (hB.tot (by omega)) (by omega) | (dsimp only; exact Nat.le_trans (hB.tot (by omega)) (by omega)) | (dsimp only; exact M.bent_set (hB.tot (by omega)) (by dsimp only; (try simp only [List.length_set, List.length_nil]); omega)) | (dsimp only; exact M.bent_app (hB.tot (by omega)) (by (try dsimp only); omega)), by first | trivial | assumption | omega | exact Nat.le_trans (hB.tot (by omega)) (by omega) | (dsimp only; exact Nat.le_trans (hB.tot (by omega)) (by omega)) | (dsimp only; exact M.bent_set (hB.tot (by omega)) (by dsimp only; (try simp only [List.length_set, List.length_nil]); omega)) | (dsimp only; exact M.bent_app (hB.tot (by omega)) (by (try dsimp only); omega))⟩
  · first | rfl | (dsimp only; rw [hNr0_9]; done) | (dsimp only; rw [hNr0_9]; rfl) | (dsimp only; simp only [hNr0_9]) | (rw [hNr0_9]; done) | (rw [hNr0_9]; rfl)
  all_goals (try dsimp only)
  all_goals (first | (rw [hNr0_9]; omega) | omega | (simp only [*]; omega))
 refine zS <| Qe rfl rfl <| Qa rfl <| JL.nil ?_
 refine zi (fun h97 h97' => ?_) fun h97 h97' => ?_
 ·
  refine Js.fact (fun w hw => elem_in cBookEntry (m := 2) (k := X27KX.toNat) (xs := acc) (fun _ => rfl) (Mem.ownC (i := 4) rfl w hw) (by omega)) (fun hl98 => ?_)
  refine Js.ex3 (fun w hw => St.elemS cBookEntry (m := 2) (i := 4) (xs := acc) (fun _ => rfl) rfl hy29 he29 hw) (fun f98_1 f98_2 f98_3 => ?_)
  refine Js.unp 0 ?_
  refine zn ?_
  refine Js.fact (row_some (i := 1) rfl (by first | omega | (simp only [List.length_set, List.length_append, List.length_cons, List.length_nil, List.length_take, List.length_drop, List.length_replicate]; omega))) (fun hf99 => ?_)
  obtain ⟨b99, rfl⟩ := hf99
  refine Js.fact (row_some (i := 0) rfl (by first | omega | (simp only [List.length_set, List.length_append, List.length_cons, List.length_nil, List.length_take, List.length_drop, List.length_replicate]; omega))) (fun hf100 => ?_)
  obtain ⟨b100, rfl⟩ := hf100
  refine zk [2, 3, 4, 5] (fun F U l os u => ∃ (G101 : List Nat) (X101KX X101AT X101SD : Int), l = F [] ∧ os = [anyO G101] ++ U [some (rowO 81 3 (.slice (some ⟨b100, 0, none⟩) (((M.ent acc X27KX.toNat).choices).length) c29_1) (((M.ent acc X27KX.toNat).choices).length) (fltV vcChoice (((M.ent acc X27KX.toNat).choices).set 0 (M.Cho.mk (X101KX - 1) ((M.cho ((M.ent acc X27KX.toNat).choices) 0).games) ((M.cho ((M.ent acc X27KX.toNat).choices) 0).score)))) []), nO, nO, nO, some (boxO bs [.slice As_0 s_code cs_0, .int .i64 X101AT, .int .u64 X101SD] 189)] ∧ (0 ≤ X101KX) ∧ (X101KX = 0 ∨ X101KX < 10) ∧ (X31AT ≤ X101AT) ∧ (X101AT ≤ X31AT + 2)) ?_ ?_
  ·
   refine zdr [5, 9] ?_
   refine JH.p 0 rfl (p_move rfl) ?_
   refine JH.p 1 rfl (p_nilCheck rfl) ?_
   refine JH.p 2 rfl (p_fieldAddr fld_89_1.h rfl) ?_
   refine JH.p 4 rfl (p_move rfl) ?_
   refine y2 3 5 ?_ ?_
   ·
    refine JHo.q rfl (q_load1 ty_67.h rfl (fun w hw => (Mem.rowR' (i := 7) rfl he29 w hw) 1 _ rfl)) ?_
    refine y1 5 ?_
    refine zhh [4] ?_
    refine yBB 1 sp_ rfl rfl (fun w hb _ hw => c_spec_l00Src_pick s_code X31AT X31SD 10 hb (ok_ hw)) ?_
    rintro _ _ G106 ⟨X106KX, X106AT, X106SD, rfl, rfl, hX106_0, hX106_1, hX106_2, hX106_3⟩
    refine znh ?_
    refine JH.p 6 rfl (p_sub rfl rfl (IntWalk.i64_in _ (by omega))) ?_
    have hy107 : ((M.ent acc X27KX.toNat).choices)[0]? = some (M.cho ((M.ent acc X27KX.toNat).choices) 0) := M.cho_get (by first | omega | (simp only [List.length_set, List.length_append, List.length_cons, List.length_nil, List.length_take, List.length_drop, List.length_replicate]; omega))
    refine JH.p 7 rfl (p_indexAddr el_67 rfl rfl (by first | omega | (simp only [List.length_set, List.length_append, List.length_cons, List.length_nil, List.length_take, List.length_drop, List.length_replicate]; omega)) (by first | omega | (simp only [List.length_set, List.length_append, List.length_cons, List.length_nil, List.length_take, List.length_drop, List.length_replicate]; omega)) rfl) ?_
    refine JH.p 8 rfl (p_fieldAddr fld_81_0.h rfl) ?_
    refine y1 9 ?_
    refine JHo.s rfl (e_storeRow (i := 2) (xs' := fltV vcChoice (((M.ent acc X27KX.toNat).choices).set 0 (M.Cho.mk (X106KX - 1) ((M.cho ((M.ent acc X27KX.toNat).choices) 0).games) ((M.cho ((M.ent acc X27KX.toNat).choices) 0).score)))) ty_2.h rfl rfl rfl rfl rfl rfl (fltV_lt (C := vcChoice) (j := 0) (fun _ => rfl) (by first | omega | (simp only [List.length_set, List.length_append, List.length_cons, List.length_nil, List.length_take, List.length_drop, List.length_replicate]; omega)) (by decide)) (fltV_cell (C := vcChoice) (j := 0) (y' := (M.Cho.mk (X106KX - 1) ((M.cho ((M.ent acc X27KX.toNat).choices) 0).games) ((M.cho ((M.ent acc X27KX.toNat).choices) 0).score))) (fun _ => rfl) hy107 (by decide) rfl)) (.inr rfl) ?_
    rintro _ _ _ ⟨rfl, rfl⟩ _
    refine znh ?_
    refine yd ?_
    refine zh [1, 1, 1, 1, 1, 0, 0, 0, 0, 0, 0, 0, 0, 0] ?_
    exact zm ⟨_, _, _, _, rfl, rfl, zt, zt, zt, zt⟩ (Up.refl _ _) ⟨rfl, rfl, rfl, rfl, trivial⟩
   refine zhh [4] ?_
   refine yBB 1 sp_ rfl rfl (fun w hb _ hw => c_spec_l00Src_pick s_code X31AT X31SD 10 hb (ok_ hw)) ?_
   rintro _ _ G108 ⟨X108KX, X108AT, X108SD, rfl, rfl, hX108_0, hX108_1, hX108_2, hX108_3⟩
   refine znh ?_
   refine JH.p 6 rfl (p_sub rfl rfl (IntWalk.i64_in _ (by omega))) ?_
   refine y1 3 ?_
   refine JHo.q rfl (q_load1 ty_67.h rfl (fun w hw => (Mem.rowR' (i := 8) rfl he29 w hw) 1 _ rfl)) ?_
   have hy109 : ((M.ent acc X27KX.toNat).choices)[0]? = some (M.cho ((M.ent acc X27KX.toNat).choices) 0) := M.cho_get (by first | omega | (simp only [List.length_set, List.length_append, List.length_cons, List.length_nil, List.length_take, List.length_drop, List.length_replicate]; omega))
   refine JH.p 7 rfl (p_indexAddr el_67 rfl rfl (by first | omega | (simp only [List.length_set, List.length_append, List.length_cons, List.length_nil, List.length_take, List.length_drop, List.length_replicate]; omega)) (by first | omega | (simp only [List.length_set, List.length_append, List.length_cons, List.length_nil, List.length_take, List.length_drop, List.length_replicate]; omega)) rfl) ?_
   refine JH.p 8 rfl (p_fieldAddr fld_81_0.h rfl) ?_
   refine y1 9 ?_
   refine JHo.s rfl (e_storeRow (i := 2) (xs' := fltV vcChoice (((M.ent acc X27KX.toNat).choices).set 0 (M.Cho.mk (X108KX - 1) ((M.cho ((M.ent acc X27KX.toNat).choices) 0).games) ((M.cho ((M.ent acc X27KX.toNat).choices) 0).score)))) ty_2.h rfl rfl rfl rfl rfl rfl (fltV_lt (C := vcChoice) (j := 0) (fun _ => rfl) (by first | omega | (simp only [List.length_set, List.length_append, List.length_cons, List.length_nil, List.length_take, List.length_drop, List.length_replicate]; omega)) (by decide)) (fltV_cell (C := vcChoice) (j := 0) (y' := (M.Cho.mk (X108KX - 1) ((M.cho ((M.ent acc X27KX.toNat).choices) 0).games) ((M.cho ((M.ent acc X27KX.toNat).choices) 0).score))) (fun _ => rfl) hy109 (by decide) rfl)) (.inr rfl) ?_
   rintro _ _ _ ⟨rfl, rfl⟩ _
   refine znh ?_
   refine yd ?_
   refine zh [1, 1, 1, 1, 1, 0, 0, 0, 0, 0, 0, 0, 0, 0] ?_
   exact zm ⟨_, _, _, _, rfl, rfl, zt, zt, zt, zt⟩ (Up.refl _ _) ⟨rfl, rfl, rfl, rfl, trivial⟩
  rintro _ _ u105 ⟨G101, X101KX, X101AT, X101SD, rfl, rfl, f105_0, f105_1, f105_2, f105_3⟩ x105
  refine zn ?_
  refine zf [1, 1, 1, 1, 1, 1, 1, 1, 1, 1, 1, 1] fun GG110 => ?_
  refine zn ?_
  refine Js.blockEnd <| Js.seq ?_
  refine zk [2, 3] (fun F U l os u => l = F [] ∧ os = U [nO, nO, nO, nO, nO, nO, nO, nO, nO, nO, some (boxO b2 [.slice A9_5_0 pp.pits.length c9_5_0, .slice A9_5_1 pp.stores.length c9_5_1, .int .i64 pp.player] 39), some (boxO b1 [.int .i64 rr.pits, .int .i64 rr.seeds, .bool rr.stores, .bool rr.skip, .bool rr.relay, .bool rr.feed, .bool rr.again, .int .i64 rr.capture, .int .i64 rr.slam, .slice (some ⟨b30, 0, none⟩) acc.length c9_4_9] 37)]) ?_ ?_
  ·
   refine zdr [2, 3] ?_
   refine JH.q 0 rfl (L9 6 rfl rfl) ?_
   refine y2 1 2 ?_ ?_
   ·
    refine JHo.q rfl (L9 5 rfl rfl) ?_
    refine y1 2 ?_
    refine yst rfl rfl rfl ?_
    refine y1 3 ?_
    refine yst rfl rfl rfl ?_
    refine yd ?_
    exact zm ⟨rfl, rfl⟩ (Up.refl _ _)
   refine yst rfl rfl rfl ?_
   refine y1 1 ?_
   refine JHo.q rfl (L9 5 rfl rfl) ?_
   refine y1 3 ?_
   refine yst rfl rfl rfl ?_
   refine yd ?_
   exact zm ⟨rfl, rfl⟩ (Up.refl _ _)
  rintro _ _ u111 ⟨rfl, rfl⟩ x111
  refine zn ?_
  refine zf [0, 0, 0, 0, 0, 2, 2, 2, 2, 2] fun GG112 => ?_
  refine zn ?_
  refine Js.pk (cBookEntry (M.Ent.mk ((M.ent acc X27KX.toNat).pits) (((M.ent acc X27KX.toNat).choices).set 0 (M.Cho.mk (X101KX - 1) ((M.cho ((M.ent acc X27KX.toNat).choices) 0).games) ((M.cho ((M.ent acc X27KX.toNat).choices) 0).score))))) [.slice (some ⟨b99, 0, none⟩) (((M.ent acc X27KX.toNat).pits).length) c29_0, .slice (some ⟨b100, 0, none⟩) (((M.ent acc X27KX.toNat).choices).length) c29_1] (fun f114 G114 => ?_) (by exact (gv_agg (gvc gv_ (gvc (gv_flat lChoice (xs := (((M.ent acc X27KX.toNat).choices).set 0 (M.Cho.mk (X101KX - 1) ((M.cho ((M.ent acc X27KX.toNat).choices) 0).games) ((M.cho ((M.ent acc X27KX.toNat).choices) 0).score)))) po_ (by first | rfl | (simp [fltV]; done)) (by first | with_reducible rfl | assumption | rfl)) gvn))))
  refine Js.front (i := 2) rfl ?_
  refine zn ?_
  refine Js.front (i := 1) rfl ?_
  refine zn ?_
  refine Js.front (i := 3) rfl ?_
  refine zn ?_
  refine Js.conv (fun w hw => St.closeE cBookEntry (k := X27KX.toNat) (m := 2) (xs := acc) (y := (M.Ent.mk ((M.ent acc X27KX.toNat).pits) (((M.ent acc X27KX.toNat).choices).set 0 (M.Cho.mk (X101KX - 1) ((M.cho ((M.ent acc X27KX.toNat).choices) 0).games) ((M.cho ((M.ent acc X27KX.toNat).choices) 0).score))))) (vs := vs9_4_9) (vs' := vs9_4_9) (by omega) rfl (setL_same he29 rfl) hw) ?_
  refine zn ?_
  refine zrb [2, 2, 0, 1, 1] hb ((x9.trans x105).trans x111) ?_
  have hNr0_9 : (acc.set X27KX.toNat (M.Ent.mk ((M.ent acc X27KX.toNat).pits) (((M.ent acc X27KX.toNat).choices).set 0 (M.Cho.mk (X101KX - 1) ((M.cho ((M.ent acc X27KX.toNat).choices) 0).games) ((M.cho ((M.ent acc X27KX.toNat).choices) 0).score))))).length = acc.length := by first | rfl | assumption | omega | (simp only [List.length_set, M.setI_length]; done) | (simp only [List.length_set, M.setI_length]; first | rfl | assumption | omega) | (simp only [List.length_drop]; first | done | rfl | omega) | (simp; done) | (simp; omega)
  refine ⟨((M.Boo.mk rr (acc.set X27KX.toNat (M.Ent.mk ((M.ent acc X27KX.toNat).pits) (((M.ent acc X27KX.toNat).choices).set 0 (M.Cho.mk (X101KX - 1) ((M.cho ((M.ent acc X27KX.toNat).choices) 0).games) ((M.cho ((M.ent acc X27KX.toNat).choices) 0).score))))))), (pp), (X101AT), (X101SD), (some ⟨b30, 0, none⟩), c9_4_9, g9_4_9, vs9_4_9, (f98_3 ++ f114 ++ f98_2), A9_5_0, c9_5_0, g9_5_0, A9_5_1, c9_5_1, g9_5_1, (show (.tuple #[.agg #[.int .i64 rr.pits, .int .i64 rr.seeds, .bool rr.stores, .bool rr.skip, .bool rr.relay, .bool rr.feed, .bool rr.again, .int .i64 rr.capture, .int .i64 rr.slam, .slice (some ⟨b30, 0, none⟩) acc.length c9_4_9], .agg #[.slice A9_5_0 pp.pits.length c9_5_0, .slice A9_5_1 pp.stores.length c9_5_1, .int .i64 pp.player]] : Value) = .tuple #[.agg #[.int .i64 rr.pits, .int .i64 rr.seeds, .bool rr.stores, .bool rr.skip, .bool rr.relay, .bool rr.feed, .bool rr.again, .int .i64 rr.capture, .int .i64 rr.slam, .slice (some ⟨b30, 0, none⟩) (acc.set X27KX.toNat (M.Ent.mk ((M.ent acc X27KX.toNat).pits) (((M.ent acc X27KX.toNat).choices).set 0 (M.Cho.mk (X101KX - 1) ((M.cho ((M.ent acc X27KX.toNat).choices) 0).games) ((M.cho ((M.ent acc X27KX.toNat).choices) 0).score))))).length c9_4_9], .agg #[.slice A9_5_0 pp.pits.length c9_5_0, .slice A9_5_1 pp.stores.length c9_5_1, .int .i64 pp.player]] by rw [hNr0_9]), ?_, ?_, ?_, ?_, ?_, ?_, ?_, by first | trivial | assumption | omega | exact Nat.le_trans (hB.tot (by omega)) (by omega) | (dsimp only; exact Nat.le_trans (hB.tot (by omega)) (by omega)) | (dsimp only; exact M.bent_set (hB.tot (by omega)) (by dsimp only; (try simp only [List.length_set, List.length_nil]); omega)) | (dsimp only; exact M.bent_app (hB.tot (by omega)) (by (try dsimp only); omega)), by first | trivial | assumption | omega | exact Nat.le_trans (hB.tot (by omega)) (by omega) | (dsimp only; exact Nat.le_trans (hB.tot (by omega)) (by omega)) | (dsimp only; exact M.bent_set (hB.tot (by omega)) (by dsimp only; (try simp only [List.length_set, List.length_nil]); omega)) | (dsimp only; exact M.bent_app (hB.tot (by omega)) (by (try dsimp only); omega)), by first | trivial | assumption | omega | exact Nat.le_trans (hB.tot (by omega)) (by omega) | (dsimp only; exact Nat.le_trans (hB.tot (by omega)) (by omega)) | (dsimp only; exact M.bent_set (hB.tot (by omega)) (by dsimp only; (try simp only [List.length_set, List.length_nil]); omega)) | (dsimp only; exact M.bent_app (hB.tot (by omega)) (by (try dsimp only); omega)), by first | trivial | assumption | omega | exact Nat.le_trans (hB.tot (by omega)) (by omega) | (dsimp only; exact Nat.le_trans (hB.tot (by omega)) (by omega)) | (dsimp only; exact M.bent_set (hB.tot (by omega)) (by dsimp only; (try simp only [List.length_set, List.length_nil]); omega)) | (dsimp only; exact M.bent_app (hB.tot (by omega)) (by (try dsimp only); omega))⟩
  · first | rfl | (dsimp only; rw [hNr0_9]; done) | (dsimp only; rw [hNr0_9]; rfl) | (dsimp only; simp only [hNr0_9]) | (rw [hNr0_9]; done) | (rw [hNr0_9]; rfl)
  all_goals (try dsimp only)
  all_goals (first | (rw [hNr0_9]; omega) | omega | (simp only [*]; omega))
 refine zS <| Qe rfl rfl <| Qa rfl <| JL.nil ?_
 refine zi (fun h115 h115' => ?_) fun h115 h115' => ?_
 ·
  refine Js.fact (fun w hw => elem_in cBookEntry (m := 2) (k := X27KX.toNat) (xs := acc) (fun _ => rfl) (Mem.ownC (i := 4) rfl w hw) (by omega)) (fun hl116 => ?_)
  refine Js.ex3 (fun w hw => St.elemS cBookEntry (m := 2) (i := 4) (xs := acc) (fun _ => rfl) rfl hy29 he29 hw) (fun f116_1 f116_2 f116_3 => ?_)
  refine Js.unp 0 ?_
  refine zn ?_
  refine Js.fact (row_some (i := 1) rfl (by first | omega | (simp only [List.length_set, List.length_append, List.length_cons, List.length_nil, List.length_take, List.length_drop, List.length_replicate]; omega))) (fun hf117 => ?_)
  obtain ⟨b117, rfl⟩ := hf117
  refine Js.fact (row_some (i := 0) rfl (by first | omega | (simp only [List.length_set, List.length_append, List.length_cons, List.length_nil, List.length_take, List.length_drop, List.length_replicate]; omega))) (fun hf118 => ?_)
  obtain ⟨b118, rfl⟩ := hf118
  refine zk [2, 3, 4, 5] (fun F U l os u => ∃ (G121 : List Nat) (b119 : Nat) (X121KX X121AT X121SD : Int), l = F [] ∧ os = [anyO G121, rowO 2 1 (.slice (some ⟨b119, 0, none⟩) 3 3) 3 [.int .i64 (-1), .int .i64 0, .int .i64 97] []] ++ U [nO, some (rowO 2 1 (.slice (some ⟨b117, 0, none⟩) (((M.ent acc X27KX.toNat).pits).length) c29_0) (((M.ent acc X27KX.toNat).pits).length) (ints_ (((M.ent acc X27KX.toNat).pits).set 0 X121KX)) []), nO, nO, some (boxO bs [.slice As_0 s_code cs_0, .int .i64 X121AT, .int .u64 X121SD] 189)] ∧ (X121KX ∈ [(-1), 0, 97]) ∧ (X31AT ≤ X121AT) ∧ (X121AT ≤ X31AT + 2)) ?_ ?_
  ·
   refine zdr [6, 8] ?_
   refine JH.p 0 rfl (p_move rfl) ?_
   refine JH.p 1 rfl (p_nilCheck rfl) ?_
   refine JH.p 2 rfl (p_fieldAddr fld_89_0.h rfl) ?_
   refine JH.p 4 rfl (p_move rfl) ?_
   refine y2 3 5 ?_ ?_
   ·
    refine JHo.q rfl (q_load1 ty_27.h rfl (fun w hw => (Mem.rowR' (i := 7) rfl he29 w hw) 0 _ rfl)) ?_
    refine y1 5 ?_
    refine ybs rfl fun b130 => ?_
    refine y1 6 ?_
    refine zhh [5] ?_
    refine yBB 1 sp_ rfl rfl (fun w hb _ hw => c_spec_l00Src_among s_code X31AT X31SD [(-1), 0, 97] hb (ok_ hw) (ints_rowok (xs := [(-1), 0, 97]) (hw.pr (i := 0) rfl)) (r3 := (by simp)) (r4 := (by simp))) ?_
    rintro _ _ G132 ⟨X132KX, X132AT, X132SD, rfl, rfl, hX132_0, hX132_1, hX132_2⟩
    refine znh ?_
    refine JH.p 7 rfl (p_indexAddr el_27 rfl rfl (by omega) (by omega) rfl) ?_
    refine y1 8 ?_
    refine JHo.s rfl (e_storeRow (i := 4) (xs' := ints_ (((M.ent acc X27KX.toNat).pits).set 0 X132KX)) ty_2.h rfl rfl rfl rfl rfl rfl (ints_lt (i := 0) (by omega)) (ints_setL (i := 0) (by omega))) (.inr rfl) ?_
    rintro _ _ _ ⟨rfl, rfl⟩ _
    refine znh ?_
    refine yd ?_
    refine zh [1, 1, 1, 1, 1, 1, 0, 0, 0, 0, 0, 0, 0, 0, 0] ?_
    exact zm ⟨_, _, _, _, _, rfl, rfl, zt, zt, zt⟩ (Up.refl _ _) ⟨rfl, rfl, rfl, rfl, trivial⟩
   refine ybs rfl fun b134 => ?_
   refine y2 3 6 ?_ ?_
   ·
    refine JHo.q rfl (q_load1 ty_27.h rfl (fun w hw => (Mem.rowR' (i := 8) rfl he29 w hw) 0 _ rfl)) ?_
    refine y1 6 ?_
    refine zhh [5] ?_
    refine yBB 1 sp_ rfl rfl (fun w hb _ hw => c_spec_l00Src_among s_code X31AT X31SD [(-1), 0, 97] hb (ok_ hw) (ints_rowok (xs := [(-1), 0, 97]) (hw.pr (i := 0) rfl)) (r3 := (by simp)) (r4 := (by simp))) ?_
    rintro _ _ G136 ⟨X136KX, X136AT, X136SD, rfl, rfl, hX136_0, hX136_1, hX136_2⟩
    refine znh ?_
    refine JH.p 7 rfl (p_indexAddr el_27 rfl rfl (by omega) (by omega) rfl) ?_
    refine y1 8 ?_
    refine JHo.s rfl (e_storeRow (i := 4) (xs' := ints_ (((M.ent acc X27KX.toNat).pits).set 0 X136KX)) ty_2.h rfl rfl rfl rfl rfl rfl (ints_lt (i := 0) (by omega)) (ints_setL (i := 0) (by omega))) (.inr rfl) ?_
    rintro _ _ _ ⟨rfl, rfl⟩ _
    refine znh ?_
    refine yd ?_
    refine zh [1, 1, 1, 1, 1, 1, 0, 0, 0, 0, 0, 0, 0, 0, 0] ?_
    exact zm ⟨_, _, _, _, _, rfl, rfl, zt, zt, zt⟩ (Up.refl _ _) ⟨rfl, rfl, rfl, rfl, trivial⟩
   refine zhh [5] ?_
   refine yBB 1 sp_ rfl rfl (fun w hb _ hw => c_spec_l00Src_among s_code X31AT X31SD [(-1), 0, 97] hb (ok_ hw) (ints_rowok (xs := [(-1), 0, 97]) (hw.pr (i := 0) rfl)) (r3 := (by simp)) (r4 := (by simp))) ?_
   rintro _ _ G138 ⟨X138KX, X138AT, X138SD, rfl, rfl, hX138_0, hX138_1, hX138_2⟩
   refine znh ?_
   refine y1 3 ?_
   refine JHo.q rfl (q_load1 ty_27.h rfl (fun w hw => (Mem.rowR' (i := 9) rfl he29 w hw) 0 _ rfl)) ?_
   refine JH.p 7 rfl (p_indexAddr el_27 rfl rfl (by omega) (by omega) rfl) ?_
   refine y1 8 ?_
   refine JHo.s rfl (e_storeRow (i := 4) (xs' := ints_ (((M.ent acc X27KX.toNat).pits).set 0 X138KX)) ty_2.h rfl rfl rfl rfl rfl rfl (ints_lt (i := 0) (by omega)) (ints_setL (i := 0) (by omega))) (.inr rfl) ?_
   rintro _ _ _ ⟨rfl, rfl⟩ _
   refine znh ?_
   refine yd ?_
   refine zh [1, 1, 1, 1, 1, 1, 0, 0, 0, 0, 0, 0, 0, 0, 0] ?_
   exact zm ⟨_, _, _, _, _, rfl, rfl, zt, zt, zt⟩ (Up.refl _ _) ⟨rfl, rfl, rfl, rfl, trivial⟩
  rintro _ _ u129 ⟨G121, b119, X121KX, X121AT, X121SD, rfl, rfl, f129_0, f129_1, f129_2⟩ x129
  refine zn ?_
  refine zf [2, 2, 2, 2, 2, 2, 2, 2, 2, 2, 2, 2] fun GG140 => ?_
  refine zn ?_
  refine Js.blockEnd <| Js.seq ?_
  refine zk [2, 3] (fun F U l os u => l = F [] ∧ os = U [nO, nO, nO, nO, nO, nO, nO, nO, nO, nO, some (boxO b2 [.slice A9_5_0 pp.pits.length c9_5_0, .slice A9_5_1 pp.stores.length c9_5_1, .int .i64 pp.player] 39), some (boxO b1 [.int .i64 rr.pits, .int .i64 rr.seeds, .bool rr.stores, .bool rr.skip, .bool rr.relay, .bool rr.feed, .bool rr.again, .int .i64 rr.capture, .int .i64 rr.slam, .slice (some ⟨b30, 0, none⟩) acc.length c9_4_9] 37)]) ?_ ?_
  ·
   refine zdr [2, 3] ?_
   refine JH.q 0 rfl (L9 6 rfl rfl) ?_
   refine y2 1 2 ?_ ?_
   ·
    refine JHo.q rfl (L9 5 rfl rfl) ?_
    refine y1 2 ?_
    refine yst rfl rfl rfl ?_
    refine y1 3 ?_
    refine yst rfl rfl rfl ?_
    refine yd ?_
    exact zm ⟨rfl, rfl⟩ (Up.refl _ _)
   refine yst rfl rfl rfl ?_
   refine y1 1 ?_
   refine JHo.q rfl (L9 5 rfl rfl) ?_
   refine y1 3 ?_
   refine yst rfl rfl rfl ?_
   refine yd ?_
   exact zm ⟨rfl, rfl⟩ (Up.refl _ _)
  rintro _ _ u141 ⟨rfl, rfl⟩ x141
  refine zn ?_
  refine zf [0, 0, 0, 0, 0, 2, 2, 2, 2, 2] fun GG142 => ?_
  refine zn ?_
  refine Js.pk (cBookEntry (M.Ent.mk (((M.ent acc X27KX.toNat).pits).set 0 X121KX) ((M.ent acc X27KX.toNat).choices))) [.slice (some ⟨b117, 0, none⟩) (((M.ent acc X27KX.toNat).pits).length) c29_0, .slice (some ⟨b118, 0, none⟩) (((M.ent acc X27KX.toNat).choices).length) c29_1] (fun f144 G144 => ?_) (by exact (gv_agg (gvc gv_ (gvc (gv_flat lChoice (xs := ((M.ent acc X27KX.toNat).choices)) po_ (by first | rfl | (simp [fltV]; done)) (by first | with_reducible rfl | assumption | rfl)) gvn))))
  refine Js.front (i := 2) rfl ?_
  refine zn ?_
  refine Js.front (i := 1) rfl ?_
  refine zn ?_
  refine Js.front (i := 3) rfl ?_
  refine zn ?_
  refine Js.conv (fun w hw => St.closeE cBookEntry (k := X27KX.toNat) (m := 2) (xs := acc) (y := (M.Ent.mk (((M.ent acc X27KX.toNat).pits).set 0 X121KX) ((M.ent acc X27KX.toNat).choices))) (vs := vs9_4_9) (vs' := vs9_4_9) (by omega) rfl (setL_same he29 rfl) hw) ?_
  refine zn ?_
  refine zrb [2, 2, 0, 1, 1] hb ((x9.trans x129).trans x141) ?_
  have hNr0_9 : (acc.set X27KX.toNat (M.Ent.mk (((M.ent acc X27KX.toNat).pits).set 0 X121KX) ((M.ent acc X27KX.toNat).choices))).length = acc.length := by first | rfl | assumption | omega | (simp only [List.length_set, M.setI_length]; done) | (simp only [List.length_set, M.setI_length]; first | rfl | assumption | omega) | (simp only [List.length_drop]; first | done | rfl | omega) | (simp; done) | (simp; omega)
  refine ⟨((M.Boo.mk rr (acc.set X27KX.toNat (M.Ent.mk (((M.ent acc X27KX.toNat).pits).set 0 X121KX) ((M.ent acc X27KX.toNat).choices))))), (pp), (X121AT), (X121SD), (some ⟨b30, 0, none⟩), c9_4_9, g9_4_9, vs9_4_9, (f116_3 ++ f144 ++ f116_2), A9_5_0, c9_5_0, g9_5_0, A9_5_1, c9_5_1, g9_5_1, (show (.tuple #[.agg #[.int .i64 rr.pits, .int .i64 rr.seeds, .bool rr.stores, .bool rr.skip, .bool rr.relay, .bool rr.feed, .bool rr.again, .int .i64 rr.capture, .int .i64 rr.slam, .slice (some ⟨b30, 0, none⟩) acc.length c9_4_9], .agg #[.slice A9_5_0 pp.pits.length c9_5_0, .slice A9_5_1 pp.stores.length c9_5_1, .int .i64 pp.player]] : Value) = .tuple #[.agg #[.int .i64 rr.pits, .int .i64 rr.seeds, .bool rr.stores, .bool rr.skip, .bool rr.relay, .bool rr.feed, .bool rr.again, .int .i64 rr.capture, .int .i64 rr.slam, .slice (some ⟨b30, 0, none⟩) (acc.set X27KX.toNat (M.Ent.mk (((M.ent acc X27KX.toNat).pits).set 0 X121KX) ((M.ent acc X27KX.toNat).choices))).length c9_4_9], .agg #[.slice A9_5_0 pp.pits.length c9_5_0, .slice A9_5_1 pp.stores.length c9_5_1, .int .i64 pp.player]] by rw [hNr0_9]), ?_, ?_, ?_, ?_, ?_, ?_, ?_, by first | trivial | assumption | omega | exact Nat.le_trans (hB.tot (by omega)) (by omega) | (dsimp only; exact Nat.le_trans (hB.tot (by omega)) (by omega)) | (dsimp only; exact M.bent_set (hB.tot (by omega)) (by dsimp only; (try simp only [List.length_set, List.length_nil]); omega)) | (dsimp only; exact M.bent_app (hB.tot (by omega)) (by (try dsimp only); omega)), by first | trivial | assumption | omega | exact Nat.le_trans (hB.tot (by omega)) (by omega) | (dsimp only; exact Nat.le_trans (hB.tot (by omega)) (by omega)) | (dsimp only; exact M.bent_set (hB.tot (by omega)) (by dsimp only; (try simp only [List.length_set, List.length_nil]); omega)) | (dsimp only; exact M.bent_app (hB.tot (by omega)) (by (try dsimp only); omega)), by first | trivial | assumption | omega | exact Nat.le_trans (hB.tot (by omega)) (by omega) | (dsimp only; exact Nat.le_trans (hB.tot (by omega)) (by omega)) | (dsimp only; exact M.bent_set (hB.tot (by omega)) (by dsimp only; (try simp only [List.length_set, List.length_nil]); omega)) | (dsimp only; exact M.bent_app (hB.tot (by omega)) (by (try dsimp only); omega)), by first | trivial | assumption | omega | exact Nat.le_trans (hB.tot (by omega)) (by omega) | (dsimp only; exact Nat.le_trans (hB.tot (by omega)) (by omega)) | (dsimp only; exact M.bent_set (hB.tot (by omega)) (by dsimp only; (try simp only [List.length_set, List.length_nil]); omega)) | (dsimp only; exact M.bent_app (hB.tot (by omega)) (by (try dsimp only); omega))⟩
  · first | rfl | (dsimp only; rw [hNr0_9]; done) | (dsimp only; rw [hNr0_9]; rfl) | (dsimp only; simp only [hNr0_9]) | (rw [hNr0_9]; done) | (rw [hNr0_9]; rfl)
  all_goals (try dsimp only)
  all_goals (first | (rw [hNr0_9]; omega) | omega | (simp only [*]; omega))
 refine zS <| Qe rfl rfl <| Qa rfl <| JL.nil ?_
 refine zi (fun h145 h145' => ?_) fun h145 h145' => ?_
 ·
  refine Js.fact (fun w hw => elem_in cBookEntry (m := 2) (k := X27KX.toNat) (xs := acc) (fun _ => rfl) (Mem.ownC (i := 4) rfl w hw) (by omega)) (fun hl146 => ?_)
  refine Js.ex3 (fun w hw => St.elemS cBookEntry (m := 2) (i := 4) (xs := acc) (fun _ => rfl) rfl hy29 he29 hw) (fun f146_1 f146_2 f146_3 => ?_)
  refine Js.unp 0 ?_
  refine zn ?_
  refine Js.fact (row_some (i := 1) rfl (by first | omega | (simp only [List.length_set, List.length_append, List.length_cons, List.length_nil, List.length_take, List.length_drop, List.length_replicate]; omega))) (fun hf147 => ?_)
  obtain ⟨b147, rfl⟩ := hf147
  refine Js.fact (row_some (i := 0) rfl (by first | omega | (simp only [List.length_set, List.length_append, List.length_cons, List.length_nil, List.length_take, List.length_drop, List.length_replicate]; omega))) (fun hf148 => ?_)
  obtain ⟨b148, rfl⟩ := hf148
  refine Js.region <| Qm rfl <| Qc rfl <| Qf fh rfl ?_
  refine JL.s (e_storeRow (i := 7) (xs' := setL vs9_4_9 (0 + X27KX.toNat * 2) [.slice (some ⟨b147, 0, none⟩) (((M.ent acc X27KX.toNat).pits).length) c29_0, .slice none 0 0]) ty_67.h rfl rfl rfl rfl rfl rfl (by omega) (setL_at (j := 1) he29 (by decide) hl146 rfl)) ?_
  rintro _ _ _ ⟨rfl, rfl⟩ _
  refine znl ?_
  refine JL.nil <| Js.blockEnd <| Js.seq ?_
  refine zk [2, 3] (fun F U l os u => l = F [] ∧ os = U [nO, nO, nO, nO, nO, nO, nO, nO, nO, nO, some (boxO b2 [.slice A9_5_0 pp.pits.length c9_5_0, .slice A9_5_1 pp.stores.length c9_5_1, .int .i64 pp.player] 39), some (boxO b1 [.int .i64 rr.pits, .int .i64 rr.seeds, .bool rr.stores, .bool rr.skip, .bool rr.relay, .bool rr.feed, .bool rr.again, .int .i64 rr.capture, .int .i64 rr.slam, .slice (some ⟨b30, 0, none⟩) acc.length c9_4_9] 37)]) ?_ ?_
  ·
   refine zdr [2, 3] ?_
   refine JH.q 0 rfl (L9 6 rfl rfl) ?_
   refine y2 1 2 ?_ ?_
   ·
    refine JHo.q rfl (L9 5 rfl rfl) ?_
    refine y1 2 ?_
    refine yst rfl rfl rfl ?_
    refine y1 3 ?_
    refine yst rfl rfl rfl ?_
    refine yd ?_
    exact zm ⟨rfl, rfl⟩ (Up.refl _ _)
   refine yst rfl rfl rfl ?_
   refine y1 1 ?_
   refine JHo.q rfl (L9 5 rfl rfl) ?_
   refine y1 3 ?_
   refine yst rfl rfl rfl ?_
   refine yd ?_
   exact zm ⟨rfl, rfl⟩ (Up.refl _ _)
  rintro _ _ u149 ⟨rfl, rfl⟩ x149
  refine zn ?_
  refine zf [0, 0, 0, 0, 0, 2, 2, 2, 2, 2] fun GG150 => ?_
  refine zn ?_
  refine Js.pk (cBookEntry (M.Ent.mk ((M.ent acc X27KX.toNat).pits) [])) [.slice (some ⟨b147, 0, none⟩) (((M.ent acc X27KX.toNat).pits).length) c29_0, .slice none 0 0] (fun f152 G152 => ?_)
  refine Js.front (i := 3) rfl ?_
  refine zn ?_
  refine Js.front (i := 1) rfl ?_
  refine zn ?_
  refine Js.front (i := 4) rfl ?_
  refine zn ?_
  refine Js.conv (fun w hw => St.closeE cBookEntry (k := X27KX.toNat) (m := 2) (xs := acc) (y := (M.Ent.mk ((M.ent acc X27KX.toNat).pits) [])) (vs := vs9_4_9) (vs' := (setL vs9_4_9 (0 + X27KX.toNat * 2) [.slice (some ⟨b147, 0, none⟩) (((M.ent acc X27KX.toNat).pits).length) c29_0, .slice none 0 0])) (by omega) rfl rfl hw) ?_
  refine zn ?_
  refine zrb [3, 3, 0, 2, 2] hb (x9.trans x149) ?_
  have hNr0_9 : (acc.set X27KX.toNat (M.Ent.mk ((M.ent acc X27KX.toNat).pits) [])).length = acc.length := by first | rfl | assumption | omega | (simp only [List.length_set, M.setI_length]; done) | (simp only [List.length_set, M.setI_length]; first | rfl | assumption | omega) | (simp only [List.length_drop]; first | done | rfl | omega) | (simp; done) | (simp; omega)
  refine ⟨((M.Boo.mk rr (acc.set X27KX.toNat (M.Ent.mk ((M.ent acc X27KX.toNat).pits) [])))), (pp), (X31AT), (X31SD), (some ⟨b30, 0, none⟩), c9_4_9, g9_4_9, (setL vs9_4_9 (0 + X27KX.toNat * 2) [.slice (some ⟨b147, 0, none⟩) (((M.ent acc X27KX.toNat).pits).length) c29_0, .slice none 0 0]), (f146_3 ++ f152 ++ f146_2), A9_5_0, c9_5_0, g9_5_0, A9_5_1, c9_5_1, g9_5_1, (show (.tuple #[.agg #[.int .i64 rr.pits, .int .i64 rr.seeds, .bool rr.stores, .bool rr.skip, .bool rr.relay, .bool rr.feed, .bool rr.again, .int .i64 rr.capture, .int .i64 rr.slam, .slice (some ⟨b30, 0, none⟩) acc.length c9_4_9], .agg #[.slice A9_5_0 pp.pits.length c9_5_0, .slice A9_5_1 pp.stores.length c9_5_1, .int .i64 pp.player]] : Value) = .tuple #[.agg #[.int .i64 rr.pits, .int .i64 rr.seeds, .bool rr.stores, .bool rr.skip, .bool rr.relay, .bool rr.feed, .bool rr.again, .int .i64 rr.capture, .int .i64 rr.slam, .slice (some ⟨b30, 0, none⟩) (acc.set X27KX.toNat (M.Ent.mk ((M.ent acc X27KX.toNat).pits) [])).length c9_4_9], .agg #[.slice A9_5_0 pp.pits.length c9_5_0, .slice A9_5_1 pp.stores.length c9_5_1, .int .i64 pp.player]] by rw [hNr0_9]), ?_, ?_, ?_, ?_, ?_, ?_, ?_, by first | trivial | assumption | omega | exact Nat.le_trans (hB.tot (by omega)) (by omega) | (dsimp only; exact Nat.le_trans (hB.tot (by omega)) (by omega)) | (dsimp only; exact M.bent_set (hB.tot (by omega)) (by dsimp only; (try simp only [List.length_set, List.length_nil]); omega)) | (dsimp only; exact M.bent_app (hB.tot (by omega)) (by (try dsimp only); omega)), by first | trivial | assumption | omega | exact Nat.le_trans (hB.tot (by omega)) (by omega) | (dsimp only; exact Nat.le_trans (hB.tot (by omega)) (by omega)) | (dsimp only; exact M.bent_set (hB.tot (by omega)) (by dsimp only; (try simp only [List.length_set, List.length_nil]); omega)) | (dsimp only; exact M.bent_app (hB.tot (by omega)) (by (try dsimp only); omega)), by first | trivial | assumption | omega | exact Nat.le_trans (hB.tot (by omega)) (by omega) | (dsimp only; exact Nat.le_trans (hB.tot (by omega)) (by omega)) | (dsimp only; exact M.bent_set (hB.tot (by omega)) (by dsimp only; (try simp only [List.length_set, List.length_nil]); omega)) | (dsimp only; exact M.bent_app (hB.tot (by omega)) (by (try dsimp only); omega)), by first | trivial | assumption | omega | exact Nat.le_trans (hB.tot (by omega)) (by omega) | (dsimp only; exact Nat.le_trans (hB.tot (by omega)) (by omega)) | (dsimp only; exact M.bent_set (hB.tot (by omega)) (by dsimp only; (try simp only [List.length_set, List.length_nil]); omega)) | (dsimp only; exact M.bent_app (hB.tot (by omega)) (by (try dsimp only); omega))⟩
  · first | rfl | (dsimp only; rw [hNr0_9]; done) | (dsimp only; rw [hNr0_9]; rfl) | (dsimp only; simp only [hNr0_9]) | (rw [hNr0_9]; done) | (rw [hNr0_9]; rfl)
  all_goals (try dsimp only)
  all_goals (first | (rw [hNr0_9]; omega) | omega | (simp only [*]; omega))
 refine zS <| Qe rfl rfl <| Qa rfl <| JL.nil ?_
 refine zi (fun h153 h153' => ?_) fun h153 h153' => ?_
 ·
  refine zdr [5, 7] ?_
  refine JH.p 0 rfl (p_fieldAddr fld_37_1.h rfl) ?_
  refine JH.q 1 rfl (q_load1 ty_35.h rfl (Mem.box (i := 2) rfl rfl)) ?_
  refine JH.p 2 rfl (p_move rfl) ?_
  refine y1 3 ?_
  refine yc rfl rfl (fun w hw => c_spec_l20Own (M.ent acc X27KX.toNat) ⟨_, _, [.slice A29_0 (((M.ent acc X27KX.toNat).pits).length) c29_0, .slice A29_1 (((M.ent acc X27KX.toNat).choices).length) c29_1], rfl, ⟨(elemOk cBookEntry (m := 2) (k := X27KX.toNat) (xs := acc) (fun _ => rfl) (Mem.ownC (i := 4) rfl w hw) hy29 he29).1, (elemOk cBookEntry (m := 2) (k := X27KX.toNat) (xs := acc) (fun _ => rfl) (Mem.ownC (i := 4) rfl w hw) hy29 he29).2.1, trivial⟩, (Mem.rowR' (i := 3) rfl he29 w hw)⟩) ?_
  intro A155 c155 bl155 bh155 A156 c156 bl156 bh156
  refine y1 4 ?_
  refine ybs rfl fun b157 => ?_
  refine y1 5 ?_
  refine JHo.e rfl (e_append (i := 6) (n' := (acc ++ [(M.ent acc X27KX.toNat)]).length) (vs' := vs9_4_9 ++ [.slice A155 (((M.ent acc X27KX.toNat).pits).length) c155, .slice A156 (((M.ent acc X27KX.toNat).choices).length) c156]) el_35 rfl rfl rfl rfl (src_row (i := 0) und_35 rfl rfl) (by omega) (by omega) (by first | omega | (simp only [List.length_append, List.length_cons, List.length_nil, List.length_take, List.length_drop] <;> omega)) (rfl)) (.inr rfl) ?_
  rintro v159 _ _ ⟨⟨g160, rfl⟩, rfl⟩ _
  refine JH.fact (row_form' (i := 6) rfl) (fun hf161 => ?_)
  obtain ⟨A161, c161, rfl, bl161, bh161⟩ := hf161
  refine znh ?_
  refine JH.p 6 rfl (p_fieldAddr fld_37_1.h rfl) ?_
  refine y1 7 ?_
  refine yst rfl rfl rfl ?_
  refine yd ?_
  refine Js.pk (cBookEntry (M.ent acc X27KX.toNat)) [.slice A155 (((M.ent acc X27KX.toNat).pits).length) c155, .slice A156 (((M.ent acc X27KX.toNat).choices).length) c156] (fun f163 G163 => ?_) (by exact (gv_agg (gvc gv_ (gvc (gv_flat lChoice (xs := ((M.ent acc X27KX.toNat).choices)) po_ (by first | rfl | (simp [fltV]; done)) (by first | with_reducible rfl | assumption | rfl)) gvn))))
  refine zn ?_
  refine Js.joinL (i := 7) (j := 0) (Vs := lBookEntry (acc ++ [(M.ent acc X27KX.toNat)])) rfl rfl (lBookEntry_snoc _ _) (fun f164 => ?_)
  refine zn ?_
  refine zf [0, 2, 2, 2, 2, 2, 2, 2, 2] fun GG165 => ?_
  refine zn ?_
  refine Js.blockEnd <| Js.seq ?_
  refine zk [2, 3] (fun F U l os u => l = F [] ∧ os = U [nO, nO, nO, nO, nO, nO, nO, some (boxO b2 [.slice A9_5_0 pp.pits.length c9_5_0, .slice A9_5_1 pp.stores.length c9_5_1, .int .i64 pp.player] 39), some (boxO b1 [.int .i64 rr.pits, .int .i64 rr.seeds, .bool rr.stores, .bool rr.skip, .bool rr.relay, .bool rr.feed, .bool rr.again, .int .i64 rr.capture, .int .i64 rr.slam, .slice A161 ((acc ++ [(M.ent acc X27KX.toNat)]).length) c161] 37)]) ?_ ?_
  ·
   refine zdr [2, 3] ?_
   refine JH.q 0 rfl (L9 3 rfl rfl) ?_
   refine y2 1 2 ?_ ?_
   ·
    refine JHo.q rfl (L9 2 rfl rfl) ?_
    refine y1 2 ?_
    refine yst rfl rfl rfl ?_
    refine y1 3 ?_
    refine yst rfl rfl rfl ?_
    refine yd ?_
    exact zm ⟨rfl, rfl⟩ (Up.refl _ _)
   refine yst rfl rfl rfl ?_
   refine y1 1 ?_
   refine JHo.q rfl (L9 2 rfl rfl) ?_
   refine y1 3 ?_
   refine yst rfl rfl rfl ?_
   refine yd ?_
   exact zm ⟨rfl, rfl⟩ (Up.refl _ _)
  rintro _ _ u166 ⟨rfl, rfl⟩ x166
  refine zn ?_
  refine zf [0, 0, 2, 2, 2, 2, 2] fun GG167 => ?_
  refine zn ?_
  refine zrb [1, 1, 0, 0, 0] hb (x9.trans x166) ?_
  refine ⟨((M.Boo.mk rr (acc ++ [(M.ent acc X27KX.toNat)]))), (pp), (X31AT), (X31SD), A161, c161, g160, (vs9_4_9 ++ [.slice A155 (((M.ent acc X27KX.toNat).pits).length) c155, .slice A156 (((M.ent acc X27KX.toNat).choices).length) c156]), f164, A9_5_0, c9_5_0, g9_5_0, A9_5_1, c9_5_1, g9_5_1, rfl, ?_, ?_, ?_, ?_, ?_, ?_, ?_, by first | trivial | assumption | omega | exact Nat.le_trans (hB.tot (by omega)) (by omega) | (dsimp only; exact Nat.le_trans (hB.tot (by omega)) (by omega)) | (dsimp only; exact M.bent_set (hB.tot (by omega)) (by dsimp only; (try simp only [List.length_set, List.length_nil]); omega)) | (dsimp only; exact M.bent_app (hB.tot (by omega)) (by (try dsimp only); omega)), by first | trivial | assumption | omega | exact Nat.le_trans (hB.tot (by omega)) (by omega) | (dsimp only; exact Nat.le_trans (hB.tot (by omega)) (by omega)) | (dsimp only; exact M.bent_set (hB.tot (by omega)) (by dsimp only; (try simp only [List.length_set, List.length_nil]); omega)) | (dsimp only; exact M.bent_app (hB.tot (by omega)) (by (try dsimp only); omega)), by first | trivial | assumption | omega | exact Nat.le_trans (hB.tot (by omega)) (by omega) | (dsimp only; exact Nat.le_trans (hB.tot (by omega)) (by omega)) | (dsimp only; exact M.bent_set (hB.tot (by omega)) (by dsimp only; (try simp only [List.length_set, List.length_nil]); omega)) | (dsimp only; exact M.bent_app (hB.tot (by omega)) (by (try dsimp only); omega)), by first | trivial | assumption | omega | exact Nat.le_trans (hB.tot (by omega)) (by omega) | (dsimp only; exact Nat.le_trans (hB.tot (by omega)) (by omega)) | (dsimp only; exact M.bent_set (hB.tot (by omega)) (by dsimp only; (try simp only [List.length_set, List.length_nil]); omega)) | (dsimp only; exact M.bent_app (hB.tot (by omega)) (by (try dsimp only); omega))⟩
  · rfl
  all_goals (try dsimp only)
  all_goals (first | (omega) | omega | (simp only [*]; omega))
 refine Js.skip <| Js.blockEnd <| Js.seq ?_
 refine zk [2, 3] (fun F U l os u => l = F [] ∧ os = U [nO, nO, nO, nO, nO, nO, nO, some (boxO b2 [.slice A9_5_0 pp.pits.length c9_5_0, .slice A9_5_1 pp.stores.length c9_5_1, .int .i64 pp.player] 39), some (boxO b1 [.int .i64 rr.pits, .int .i64 rr.seeds, .bool rr.stores, .bool rr.skip, .bool rr.relay, .bool rr.feed, .bool rr.again, .int .i64 rr.capture, .int .i64 rr.slam, .slice (some ⟨b30, 0, none⟩) acc.length c9_4_9] 37)]) ?_ ?_
 ·
  refine zdr [2, 3] ?_
  refine JH.q 0 rfl (L9 2 rfl rfl) ?_
  refine y2 1 2 ?_ ?_
  ·
   refine JHo.q rfl (L9 1 rfl rfl) ?_
   refine y1 2 ?_
   refine yst rfl rfl rfl ?_
   refine y1 3 ?_
   refine yst rfl rfl rfl ?_
   refine yd ?_
   exact zm ⟨rfl, rfl⟩ (Up.refl _ _)
  refine yst rfl rfl rfl ?_
  refine y1 1 ?_
  refine JHo.q rfl (L9 1 rfl rfl) ?_
  refine y1 3 ?_
  refine yst rfl rfl rfl ?_
  refine yd ?_
  exact zm ⟨rfl, rfl⟩ (Up.refl _ _)
 rintro _ _ u168 ⟨rfl, rfl⟩ x168
 refine zn ?_
 refine zf [0, 2, 2, 2, 2, 2, 2] fun GG169 => ?_
 refine zn ?_
 refine zrb [0, 0, 0, 0, 0] hb (x9.trans x168) ?_
 refine ⟨((M.Boo.mk rr acc)), (pp), (X31AT), (X31SD), (some ⟨b30, 0, none⟩), c9_4_9, g9_4_9, vs9_4_9, fl9_4_9, A9_5_0, c9_5_0, g9_5_0, A9_5_1, c9_5_1, g9_5_1, rfl, ?_, ?_, ?_, ?_, ?_, ?_, ?_, by first | trivial | assumption | omega | exact Nat.le_trans (hB.tot (by omega)) (by omega) | (dsimp only; exact Nat.le_trans (hB.tot (by omega)) (by omega)) | (dsimp only; exact M.bent_set (hB.tot (by omega)) (by dsimp only; (try simp only [List.length_set, List.length_nil]); omega)) | (dsimp only; exact M.bent_app (hB.tot (by omega)) (by (try dsimp only); omega)), by first | trivial | assumption | omega | exact Nat.le_trans (hB.tot (by omega)) (by omega) | (dsimp only; exact Nat.le_trans (hB.tot (by omega)) (by omega)) | (dsimp only; exact M.bent_set (hB.tot (by omega)) (by dsimp only; (try simp only [List.length_set, List.length_nil]); omega)) | (dsimp only; exact M.bent_app (hB.tot (by omega)) (by (try dsimp only); omega)), by first | trivial | assumption | omega | exact Nat.le_trans (hB.tot (by omega)) (by omega) | (dsimp only; exact Nat.le_trans (hB.tot (by omega)) (by omega)) | (dsimp only; exact M.bent_set (hB.tot (by omega)) (by dsimp only; (try simp only [List.length_set, List.length_nil]); omega)) | (dsimp only; exact M.bent_app (hB.tot (by omega)) (by (try dsimp only); omega)), by first | trivial | assumption | omega | exact Nat.le_trans (hB.tot (by omega)) (by omega) | (dsimp only; exact Nat.le_trans (hB.tot (by omega)) (by omega)) | (dsimp only; exact M.bent_set (hB.tot (by omega)) (by dsimp only; (try simp only [List.length_set, List.length_nil]); omega)) | (dsimp only; exact M.bent_app (hB.tot (by omega)) (by (try dsimp only); omega))⟩
 · rfl
 all_goals (try dsimp only)
 all_goals (first | (omega) | omega | (simp only [*]; omega))

end Go.Proofs.YtcmfnlleikcpnaaGreat


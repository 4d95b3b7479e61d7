/- Walks: K44. -/
import Derived.Test.YtmgnckfhghibeaaGreatZaA3
import Derived.Test.YtmgnckfhghibeaaGreatZaA6
import Derived.Test.YtmgnckfhghibeaaGreatZaA4
import Derived.Test.YtmgnckfhghibeaaGreatZaA5
set_option linter.unusedSimpArgs false
set_option linter.unusedVariables false
set_option maxRecDepth 100000
attribute [local irreducible] Go.Proofs.YtmgnckfhghibeaaGreat.gv
set_option maxHeartbeats 8000000
namespace Go.Proofs.YtmgnckfhghibeaaGreat
open Go.RowKit
theorem c_spec_l00MaxL (a b : Int) {w : World}  : RetV Tryz.prog 100 [.int .i64 a, .int .i64 b] w (.int .i64 (M.mx a b)) := by
 refine enter @Tryz.func100 @Tryz.ntmps100 rfl rfl ?_
 refine zent ?_
 refine zS <| Qa rfl <| zJ <| zS <| Qm rfl <| Qm rfl <| Qg rfl rfl <| JL.nil ?_
 refine zi (fun h1 h1' => ?_) fun h1 h1' => ?_
 ·
  refine zS <| Qm rfl <| Qa rfl <| JL.nil ?_
  refine zR (Up.refl _ _) ?_
  unfold M.mx; first | (rw [if_pos (by assumption)]; rfl) | (rw [if_neg (by assumption)]; rfl) | (simp only [outV]; split <;> simp_all <;> omega)
 refine Js.skip <| zS <| Qm rfl <| Qa rfl <| JL.nil ?_
 refine zR (Up.refl _ _) ?_
 unfold M.mx; first | (rw [if_pos (by assumption)]; rfl) | (rw [if_neg (by assumption)]; rfl) | (simp only [outV]; split <;> simp_all <;> omega)
def S_spec_l16S_visit (N : Nat) : Prop := ∀ (s_rules : M.Rul) (s_slots : List M.Slo) (s_hits : Int) (As_9 : Option Addr) (cs_9 : Nat) (gs_9 : List Nat) (vss_9 : List Value) (fs_9 : List Nat) (p : M.Pos) (v_p : Value) (depth : Int) (low : Int) (high : Int) (bs : Nat) (w : World) (hb : Bw w [boxO bs [.int .i64 s_rules.pits, .int .i64 s_rules.seeds, .bool s_rules.stores, .bool s_rules.skip, .bool s_rules.relay, .bool s_rules.feed, .bool s_rules.again, .int .i64 s_rules.capture, .int .i64 s_rules.slam, .slice As_9 s_slots.length cs_9, .int .i64 s_hits] 99, rowO 49 6 (.slice As_9 s_slots.length cs_9) s_slots.length vss_9 gs_9, ownC (lSlot s_slots) vss_9 fs_9]) (h_p : (Ty.ref (cPosition p)).ok (offW w (([boxO bs [.int .i64 s_rules.pits, .int .i64 s_rules.seeds, .bool s_rules.stores, .bool s_rules.skip, .bool s_rules.relay, .bool s_rules.feed, .bool s_rules.again, .int .i64 s_rules.capture, .int .i64 s_rules.slam, .slice As_9 s_slots.length cs_9, .int .i64 s_hits] 99, rowO 49 6 (.slice As_9 s_slots.length cs_9) s_slots.length vss_9 gs_9, ownC (lSlot s_slots) vss_9 fs_9] : List Own).flatMap (·.fp))) v_p) (bd0 : s_slots.length ≤ cs_9) (bd1 : cs_9 ≤ 9223372036854775807) (r0 : M.okP s_rules p = true) (r1 : 0 ≤ depth) (r2 : depth ≤ 8) (r3 : 0 < s_slots.length) (r4 : s_slots.length ≤ 4194304) (r5 : M.SzM 4194304 s_slots) (r6 : M.BdM s_slots) (r7 : 0 ≤ s_hits) (r8 : s_hits + M.e9 depth.toNat ≤ 1000000000000) (r9 : 96 * depth + low ≤ 3000) (r10 : 96 * depth - low ≤ 3000) (r11 : 96 * depth + high ≤ 3000) (r12 : 96 * depth - high ≤ 3000) (_ : depth.toNat = N), RetB Tryz.prog 51 [.pointer (some ⟨bs, 0, none⟩), v_p, .int .i64 depth, .int .i64 low, .int .i64 high] w [boxO bs [.int .i64 s_rules.pits, .int .i64 s_rules.seeds, .bool s_rules.stores, .bool s_rules.skip, .bool s_rules.relay, .bool s_rules.feed, .bool s_rules.again, .int .i64 s_rules.capture, .int .i64 s_rules.slam, .slice As_9 s_slots.length cs_9, .int .i64 s_hits] 99, rowO 49 6 (.slice As_9 s_slots.length cs_9) s_slots.length vss_9 gs_9, ownC (lSlot s_slots) vss_9 fs_9] (fun v bs' => ∃ (Axs_9 : Option Addr) (cxs_9 : Nat) (gxs_9 : List Nat) (vsxs_9 : List Value) (fxs_9 : List Nat), v = .int .i64 ((M.vis s_rules depth.toNat p low high (s_slots, s_hits)).1) ∧ bs' = [boxO bs [.int .i64 s_rules.pits, .int .i64 s_rules.seeds, .bool s_rules.stores, .bool s_rules.skip, .bool s_rules.relay, .bool s_rules.feed, .bool s_rules.again, .int .i64 s_rules.capture, .int .i64 s_rules.slam, .slice Axs_9 (((M.vis s_rules depth.toNat p low high (s_slots, s_hits)).2.1).length) cxs_9, .int .i64 ((M.vis s_rules depth.toNat p low high (s_slots, s_hits)).2.2)] 99, rowO 49 6 (.slice Axs_9 (((M.vis s_rules depth.toNat p low high (s_slots, s_hits)).2.1).length) cxs_9) (((M.vis s_rules depth.toNat p low high (s_slots, s_hits)).2.1).length) vsxs_9 gxs_9, ownC (lSlot ((M.vis s_rules depth.toNat p low high (s_slots, s_hits)).2.1)) vsxs_9 fxs_9] ∧ ((M.vis s_rules depth.toNat p low high (s_slots, s_hits)).2.1).length ≤ cxs_9 ∧ cxs_9 ≤ 9223372036854775807)
theorem c_spec_l16S_visit_ : ∀ N, S_spec_l16S_visit N := by
 intro N
 induction N using Nat.strongRecOn with
 | ind N ih =>
 intro s_rules s_slots s_hits As_9 cs_9 gs_9 vss_9 fs_9 p v_p depth low high bs w hb h_p bd0 bd1 r0 r1 r2 r3 r4 r5 r6 r7 r8 r9 r10 r11 r12 hN
 obtain ⟨g1, g2, g3, g4, g5, g6, g7⟩ := M.okP_bd r0
 have g8 := M.results_8 r0
 obtain ⟨hp1, hp2⟩ := M.plc_bd (n := s_slots.length) p.pits p.player r3
 have g9 := M.okP_len r0
 have g10 := M.e9_pos (depth - 1).toNat
 revert v_p; apply opn
 intro b3 o3 A1 c1 h1 bl1 bh1 A2 c2 h2 bl2 bh2 hr3
 refine enterB hb @Tryz.func51 @Tryz.ntmps51 rfl rfl ?_
 refine zent ?_
 refine Js.trashE ?_
 refine zn ?_
 refine zS <| Qa rfl <| zN <| Qm rfl <| Qc rfl <| Qf fh rfl <| Qf fh rfl <| Qm rfl <| zp rfl (fun w hw => c_spec_l07All s_rules p ⟨_, _, [.int .i64 s_rules.pits, .int .i64 s_rules.seeds, .bool s_rules.stores, .bool s_rules.skip, .bool s_rules.relay, .bool s_rules.feed, .bool s_rules.again, .int .i64 s_rules.capture, .int .i64 s_rules.slam], rfl, ⟨rfl, rfl, rfl, rfl, rfl, rfl, rfl, rfl, rfl, trivial⟩, Mem.boxR (i := 0) rfl 0 9 _ hw⟩ (ok_ hw) (r0 := r0)) ?_
 intro u4 x4 A5 c5 h5 bl5 bh5
 refine Qa rfl <| zJ <| zS <| Qm rfl <| Qz rfl <| Qe rfl rfl <| JL.nil ?_
 refine zi (fun h6 h6' => ?_) fun h6 h6' => ?_
 ·
  have hQ : (M.vis s_rules depth.toNat p low high (s_slots, s_hits)) = _ := M.vis_end (by have := h6'; omega)
  refine zS <| Qm rfl <| Qc rfl <| Qf fh rfl <| Qf fh rfl <| Qm rfl <| zv rfl (fun w hw => c_spec_l15End s_rules p ⟨_, _, [.int .i64 s_rules.pits, .int .i64 s_rules.seeds, .bool s_rules.stores, .bool s_rules.skip, .bool s_rules.relay, .bool s_rules.feed, .bool s_rules.again, .int .i64 s_rules.capture, .int .i64 s_rules.slam], rfl, ⟨rfl, rfl, rfl, rfl, rfl, rfl, rfl, rfl, rfl, trivial⟩, Mem.boxR (i := 0) rfl 0 9 _ hw⟩ (ok_ hw) (r0 := r0)) <| Qa rfl <| JL.nil ?_
  refine zrb [0, 0, 0] hb x4 ?_
  have hE : (.int .i64 (M.endV s_rules p) : Value) = .int .i64 ((M.vis s_rules depth.toNat p low high (s_slots, s_hits)).1) := by first | (rw [hQ]; done) | (rw [hQ]; rfl) | (rw [M.vis_d hd hne hfu hV hbn]; done)
  have hN10 : ((M.vis s_rules depth.toNat p low high (s_slots, s_hits)).2.1).length = s_slots.length := by first | (rw [hQ]; done) | (rw [hQ]; rfl) | (rw [M.vis_d hd hne hfu hV hbn]; done) | (rw [M.vis_d hd hne hfu hV hbn, M.stoS_len]; omega)
  have hE10 : (M.vis s_rules depth.toNat p low high (s_slots, s_hits)).2.1 = s_slots := by first | (rw [hQ]; done) | (rw [hQ]; rfl) | (rw [M.vis_d hd hne hfu hV hbn]; done)
  have hE11 : (M.vis s_rules depth.toNat p low high (s_slots, s_hits)).2.2 = s_hits := by first | (rw [hQ]; done) | (rw [hQ]; rfl) | (rw [M.vis_d hd hne hfu hV hbn]; done)
  refine ⟨As_9, cs_9, gs_9, vss_9, fs_9, hE, ?_, ?_, ?_⟩
  · rw [hN10, hE10, hE11]
  all_goals (first | (rw [hN10, hE10, hE11]; omega) | omega | (simp only [*]; omega) | (simp; done))
 have hne : (M.results s_rules p).length ≠ 0 := by have := h6'; omega
 refine Js.skip <| Js.seq <| zS <| Qm rfl <| Qe rfl rfl <| JL.nil ?_
 refine zi (fun h7 h7' => ?_) fun h7 h7' => ?_
 ·
  have hQ : (M.vis s_rules depth.toNat p low high (s_slots, s_hits)) = (0, (s_slots, s_hits)) := by rw [show depth.toNat = 0 by have := h7'; omega]; exact M.vis_0 hne
  refine zS <| Qa rfl <| JL.nil ?_
  refine zrb [0, 0, 0] hb x4 ?_
  have hE : (.int .i64 0 : Value) = .int .i64 ((M.vis s_rules depth.toNat p low high (s_slots, s_hits)).1) := by first | (rw [hQ]; done) | (rw [hQ]; rfl) | (rw [M.vis_d hd hne hfu hV hbn]; done)
  have hN10 : ((M.vis s_rules depth.toNat p low high (s_slots, s_hits)).2.1).length = s_slots.length := by first | (rw [hQ]; done) | (rw [hQ]; rfl) | (rw [M.vis_d hd hne hfu hV hbn]; done) | (rw [M.vis_d hd hne hfu hV hbn, M.stoS_len]; omega)
  have hE10 : (M.vis s_rules depth.toNat p low high (s_slots, s_hits)).2.1 = s_slots := by first | (rw [hQ]; done) | (rw [hQ]; rfl) | (rw [M.vis_d hd hne hfu hV hbn]; done)
  have hE11 : (M.vis s_rules depth.toNat p low high (s_slots, s_hits)).2.2 = s_hits := by first | (rw [hQ]; done) | (rw [hQ]; rfl) | (rw [M.vis_d hd hne hfu hV hbn]; done)
  refine ⟨As_9, cs_9, gs_9, vss_9, fs_9, hE, ?_, ?_, ?_⟩
  · rw [hN10, hE10, hE11]
  all_goals (first | (rw [hN10, hE10, hE11]; omega) | omega | (simp only [*]; omega) | (simp; done))
 have hd : 1 ≤ depth := by have := h7'; omega
 have he9 := M.e9_step hd
 refine Js.skip <| zS <| Qm rfl <| Qc rfl <| Qf fh rfl <| Qm rfl <| Qm rfl ?_
 refine JL.fact (row_some (i := 1) rfl (by omega)) (fun hf8 => ?_)
 obtain ⟨b8, rfl⟩ := hf8
 have hy9 : s_slots[(M.plc s_slots.length p.pits p.player).toNat]? = some (M.slo s_slots ((M.plc s_slots.length p.pits p.player).toNat)) := M.slo_get len_
 refine JL.fact (fun w hw => elemv_Slot (Mem.ownC (i := 2) rfl w hw) hy9) (fun hf9 => ?_)
 obtain ⟨A9_1, c9_1, he9, bl9_1, bh9_1⟩ := hf9
 refine zxc (fun v => v = .tuple #[.pointer (some ⟨b8, 0 + ((M.plc s_slots.length p.pits p.player).toNat) * 6, none⟩), .bool (M.fndB s_slots p depth)]) rfl (fun w hw => c_spec_l16Find (M.Mem.mk s_rules s_slots) p depth (srow_ok lSlot (xs := s_slots) (hw.pr (i := 1) rfl) (hw.pr (i := 2) rfl) (lSlot_length _)) (Mem.boxR (i := 0) rfl 0 10 _ hw) (ok_ hw) (r1 := r5) (r4 := r0)) (fun w9 v9 hw9 h9 => h9) ?_
 rintro _ rfl
 refine Qm rfl <| Qx rfl rfl <| Qx rfl rfl <| Qa rfl <| Qa rfl <| zJ <| zS <| Qm rfl <| Qm rfl <| zg (Gd.t1 rfl rfl rfl) (fun hc => p_move rfl) <| zg (Gd.t1 rfl rfl rfl) (fun hc => p_nilCheck (gh hc rfl)) <| zg (Gd.t1 rfl rfl rfl) (fun hc => p_fieldAddr fld_49_5.h (gh hc rfl)) <| zgq (Gd.t1 rfl rfl rfl) (fun hc => q_load1 ty_2.h (gh hc rfl) (fun w hw => (Mem.rowR' (i := 1) rfl he9 w hw) 5 _ rfl)) <| zg (Gd.t1 rfl rfl rfl) (fun hc => p_eql (gh hc rfl) rfl) ?_
 refine zg (Gd.t1 rfl rfl rfl) (fun hc => p_move (gh hc rfl)) <| zg (Gd.f2 rfl rfl rfl) (fun hc => p_move rfl) <| zg (Gd.f2 rfl rfl rfl) (fun hc => p_nilCheck (gh hc rfl)) <| zg (Gd.f2 rfl rfl rfl) (fun hc => p_fieldAddr fld_49_5.h (gh hc rfl)) <| zgq (Gd.f2 rfl rfl rfl) (fun hc => q_load1 ty_2.h (gh hc rfl) (fun w hw => (Mem.rowR' (i := 1) rfl he9 w hw) 5 _ rfl)) <| zg (Gd.f2 rfl rfl rfl) (fun hc => p_eql (gh hc rfl) rfl) <| zg (Gd.f2 rfl rfl rfl) (fun hc => p_move (gh hc rfl)) <| zg (Gd.t2 rfl rfl rfl) (fun hc => p_move rfl) <| zg (Gd.t2 rfl rfl rfl) (fun hc => p_nilCheck (gh hc rfl)) <| zg (Gd.t2 rfl rfl rfl) (fun hc => p_fieldAddr fld_49_4.h (gh hc rfl)) <| zgq (Gd.t2 rfl rfl rfl) (fun hc => q_load1 ty_2.h (gh hc rfl) (fun w hw => (Mem.rowR' (i := 1) rfl he9 w hw) 4 _ rfl)) <| zg (Gd.t2 rfl rfl rfl) (fun hc => p_move rfl) <| zg (Gd.t2 rfl rfl rfl) (fun hc => p_geq (gh hc rfl) (gh hc rfl)) <| zg (Gd.f2 rfl rfl rfl) (fun hc => p_pickAnd (gh hc rfl) (gvl rfl hc) rfl) ?_
 refine zg (Gd.t1 rfl rfl rfl) (fun hc => p_pickOr (gh hc rfl) rfl (gvl rfl hc)) <| zg (Gd.t1 rfl rfl rfl) (fun hc => p_move (gh hc rfl)) <| zg (Gd.f2 rfl rfl rfl) (fun hc => p_move rfl) <| zg (Gd.f2 rfl rfl rfl) (fun hc => p_nilCheck (gh hc rfl)) <| zg (Gd.f2 rfl rfl rfl) (fun hc => p_fieldAddr fld_49_5.h (gh hc rfl)) <| zgq (Gd.f2 rfl rfl rfl) (fun hc => q_load1 ty_2.h (gh hc rfl) (fun w hw => (Mem.rowR' (i := 1) rfl he9 w hw) 5 _ rfl)) <| zg (Gd.f2 rfl rfl rfl) (fun hc => p_eql (gh hc rfl) rfl) <| zg (Gd.f2 rfl rfl rfl) (fun hc => p_move (gh hc rfl)) <| zg (Gd.t2 rfl rfl rfl) (fun hc => p_move rfl) <| zg (Gd.t2 rfl rfl rfl) (fun hc => p_nilCheck (gh hc rfl)) <| zg (Gd.t2 rfl rfl rfl) (fun hc => p_fieldAddr fld_49_4.h (gh hc rfl)) <| zgq (Gd.t2 rfl rfl rfl) (fun hc => q_load1 ty_2.h (gh hc rfl) (fun w hw => (Mem.rowR' (i := 1) rfl he9 w hw) 4 _ rfl)) <| zg (Gd.t2 rfl rfl rfl) (fun hc => p_move rfl) <| zg (Gd.t2 rfl rfl rfl) (fun hc => p_leq (gh hc rfl) (gh hc rfl)) ?_
 refine zg (Gd.f2 rfl rfl rfl) (fun hc => p_pickAnd (gh hc rfl) (gvl rfl hc) rfl) <| zg (Gd.t1 rfl rfl rfl) (fun hc => p_pickOr (gh hc rfl) rfl (gvl rfl hc)) <| Qq (p_pickAnd rfl rfl rfl) <| JL.nil ?_
 refine zi (fun h10 h10' => ?_) fun h10 h10' => ?_
 ·
  have hfu : (M.fndB s_slots p depth && M.useS (M.fnd s_slots p) low high) = true := h10
  have hQ : (M.vis s_rules depth.toNat p low high (s_slots, s_hits)) = _ := M.vis_hit hd hne hfu
  have hfb := M.fnd_b (d := depth) r6 r3 (M.use_l hfu)
  refine zS <| Qm rfl <| Qc rfl <| Qf fh rfl <| Q0 0 rfl rfl rfl <| Qp rfl rfl <| Qc rfl <| Qf fh rfl <| zw 0 rfl rfl rfl ?_
  refine zN <| Qm rfl <| Qc rfl <| Qf fh rfl <| Qw (q_load1 ty_2.h rfl (fun w hw => (Mem.rowR' (i := 1) rfl he9 w hw) 4 _ rfl)) <| Qa rfl <| JL.nil ?_
  refine zrb [0, 0, 0] hb x4 ?_
  have hE : (.int .i64 ((M.slo s_slots ((M.plc s_slots.length p.pits p.player).toNat)).value) : Value) = .int .i64 ((M.vis s_rules depth.toNat p low high (s_slots, s_hits)).1) := by first | (rw [hQ]; done) | (rw [hQ]; rfl) | (rw [M.vis_d hd hne hfu hV hbn]; done)
  have hN10 : ((M.vis s_rules depth.toNat p low high (s_slots, s_hits)).2.1).length = s_slots.length := by first | (rw [hQ]; done) | (rw [hQ]; rfl) | (rw [M.vis_d hd hne hfu hV hbn]; done) | (rw [M.vis_d hd hne hfu hV hbn, M.stoS_len]; omega)
  have hE10 : (M.vis s_rules depth.toNat p low high (s_slots, s_hits)).2.1 = s_slots := by first | (rw [hQ]; done) | (rw [hQ]; rfl) | (rw [M.vis_d hd hne hfu hV hbn]; done)
  have hE11 : (M.vis s_rules depth.toNat p low high (s_slots, s_hits)).2.2 = (s_hits + 1) := by first | (rw [hQ]; done) | (rw [hQ]; rfl) | (rw [M.vis_d hd hne hfu hV hbn]; done)
  refine ⟨(some ⟨b8, 0, none⟩), cs_9, gs_9, vss_9, fs_9, hE, ?_, ?_, ?_⟩
  · rw [hN10, hE10, hE11]
  all_goals (first | (rw [hN10, hE10, hE11]; omega) | omega | (simp only [*]; omega) | (simp; done))
 have hfu0 : (M.fndB s_slots p depth && M.useS (M.fnd s_slots p) low high) = false := h10
 have hfu : ¬ (M.fndB s_slots p depth && M.useS (M.fnd s_slots p) low high) = true := by rw [hfu0]; decide
 refine Js.skip <| zS <| Qa rfl <| zJ <| zS <| Qa rfl <| JL.nil <| Js.block ?_
 refine zl [0, 1, 2, 3, 4, 11] (fun F U l os u m => ∃ (k : Nat) (b h : Int) (sl : List M.Slo) (A11_0_9 : Option Addr) (c11_0_9 : Nat) (g11_0_9 : List Nat) (vs11_0_9 : List Value) (fl11_0_9 : List Nat) (G11_3 : List Nat), l = F [(14, .int .i64 b), (15, .int .i64 (k : Int))] ∧ os = U [some (boxO bs [.int .i64 s_rules.pits, .int .i64 s_rules.seeds, .bool s_rules.stores, .bool s_rules.skip, .bool s_rules.relay, .bool s_rules.feed, .bool s_rules.again, .int .i64 s_rules.capture, .int .i64 s_rules.slam, .slice A11_0_9 sl.length c11_0_9, .int .i64 h] 99), some (rowO 49 6 (.slice A11_0_9 sl.length c11_0_9) sl.length vs11_0_9 g11_0_9), some (ownC (lSlot sl) vs11_0_9 fl11_0_9), some (anyO G11_3)] ∧ (M.vlp s_rules p depth low high b sl h k = M.vlp s_rules p depth low high (-1000) s_slots s_hits 0) ∧ (k ≤ (M.results s_rules p).length) ∧ (M.SzM 4194304 sl) ∧ (M.BdM sl) ∧ (sl.length = s_slots.length) ∧ (M.HB (M.e9 (depth - 1).toNat) s_hits k h) ∧ (-(1000 + 96 * depth) ≤ b) ∧ (b ≤ 1000 + 96 * depth) ∧ (sl.length ≤ c11_0_9) ∧ (c11_0_9 ≤ 9223372036854775807) ∧ m = (M.results s_rules p).length - k) ⟨0, (-1000), s_hits, s_slots, _, _, _, _, _, _, rfl, rfl, by rfl, zt, by exact r5, by exact r6, by rfl, by exact M.HB.zero _ _, by omega, by omega, zu, zu, rfl⟩ ?_
 rintro _ _ u11 _ ⟨k, b, h, sl, A11_0_9, c11_0_9, g11_0_9, vs11_0_9, fl11_0_9, G11_3, rfl, rfl, hS, hk, hsz, hbd, hln, hhb, b0, b1, f11_8, f11_9, rfl⟩ x11
 refine zn ?_
 have hhl := hhb.lim (by omega) g10
 refine Js.seq <| zS <| Qm rfl <| Qm rfl <| Qz rfl <| Ql rfl rfl <| Qm rfl <| zg (Gd.t1 rfl rfl rfl) (fun hc => p_move rfl) <| zg (Gd.t1 rfl rfl rfl) (fun hc => p_move rfl) <| zg (Gd.t1 rfl rfl rfl) (fun hc => p_lss (gh hc rfl) (gh hc rfl)) <| Qq (p_pickAnd rfl rfl rfl) <| JL.nil ?_
 refine zi (fun h12 h12' => ?_) fun h12 h12' => ?_
 ·
  obtain ⟨hkk, hbh⟩ : k < (M.results s_rules p).length ∧ ¬ high ≤ b := by have h9 := h12; simp only [Bool.and_eq_true, decide_eq_true_eq] at h9; omega
  obtain ⟨y13, hy13⟩ : ∃ x, (M.results s_rules p)[k]? = some x := ⟨_, List.getElem?_eq_getElem (by omega)⟩
  obtain ⟨b13, o13, A13_3, c13_3, A13_4, c13_4, he13, hr13, h13_3, h13_4, bl13_3, bh13_3, bl13_4, bh13_4⟩ := elem_Result (Ty.mono _ h5 x11.vis) hy13
  refine Js.skip <| Js.seq <| Js.block <| zS <| Qm rfl <| Qm rfl <| Qq (p_indexAddr el_111 rfl rfl (by omega) (by omega) he13) <| Qa rfl <| zN <| Qm rfl <| Qm rfl <| zv rfl (fun w hw => c_spec_l00MaxL low b) <| Qa rfl <| zN ?_
  refine Qa rfl <| zJ <| zS <| Qm rfl <| Qc rfl <| Qf fh rfl <| QC (hr13 2 _ rfl) rfl <| JL.nil ?_
  refine zi (fun h14 h14' => ?_) fun h14 h14' => ?_
  ·
   have hag : y13.again = true := h14
   have hS2 := M.vlp_t hS hy13 hbh hag
   have hx1 := M.mx_le low b
   have hgb9 := M.results_gain (M.results_get0 hy13)
   have hok9 := M.results_ok (M.results_get0 hy13)
   have hv9 := M.vis_b (r := s_rules) (d := (depth - 1).toNat) (p := y13.next) (low := M.mx low b - y13.gain) (high := high - y13.gain) (sl := sl) (h := h) (M.results_ok (M.results_get0 hy13)) hbd (by omega)
   obtain ⟨w1_, w2_, w3_, w4_, w5_, w6_, w7_⟩ := hv9
   have hx2 := M.mx_le b (y13.gain + (M.vis s_rules (depth - 1).toNat y13.next (M.mx low b - y13.gain) (high - y13.gain) (sl, h)).1)
   refine zdr [22] ?_
   refine jM 0 rfl rfl ?_
   refine jN 1 rfl rfl ?_
   refine jF 2 fld_114_1 rfl rfl ?_
   refine jW 3 ty_2 rfl rfl (fun hv => (hr13.vis hv) 1 _ rfl) ?_
   refine jM 4 rfl rfl ?_
   refine jM 5 rfl rfl ?_
   refine jN 6 rfl rfl ?_
   refine jF 7 fld_114_3 rfl rfl ?_
   refine jM 8 rfl rfl ?_
   refine JH.p 9 rfl (p_sub rfl rfl (IntWalk.i64_in _ (by omega))) ?_
   refine jM 10 rfl rfl ?_
   refine jM 11 rfl rfl ?_
   refine jN 12 rfl rfl ?_
   refine jF 13 fld_114_1 rfl rfl ?_
   refine jW 14 ty_2 rfl rfl (fun hv => (hr13.vis hv) 1 _ rfl) ?_
   refine JH.p 15 rfl (p_sub rfl rfl (IntWalk.i64_in _ (by omega))) ?_
   refine jM 16 rfl rfl ?_
   refine jM 17 rfl rfl ?_
   refine jN 18 rfl rfl ?_
   refine jF 19 fld_114_1 rfl rfl ?_
   refine jW 20 ty_2 rfl rfl (fun hv => (hr13.vis hv) 1 _ rfl) ?_
   refine JH.p 21 rfl (p_sub rfl rfl (IntWalk.i64_in _ (by omega))) ?_
   refine y1 22 ?_
   refine yBB 3 sp_ rfl rfl (fun w hb _ hw => ih ((depth - 1).toNat) (by omega) s_rules sl h A11_0_9 c11_0_9 g11_0_9 vs11_0_9 fl11_0_9 y13.next _ (depth - 1) ((M.mx low b) - y13.gain) (high - y13.gain) bs w hb (ok_ hw) (by omega) (by omega) (M.results_ok (M.results_get0 hy13)) (by omega) (by omega) (by omega) (by omega) hsz hbd (by omega) (by omega) (by omega) (by omega) (by omega) (by omega) rfl) ?_
   rintro _ _ G15 ⟨A15s_9, c15s_9, g15s_9, vs15s_9, f15s_9, rfl, rfl, bl15_0, bl15_1⟩
   refine znh ?_
   refine JH.p 23 rfl (p_add rfl rfl (IntWalk.i64_in _ (by omega))) ?_
   refine jA 24 rfl rfl ?_
   refine yd ?_
   refine Js.region <| Qm rfl <| Qm rfl <| zv rfl (fun w hw => c_spec_l00MaxL b (y13.gain + ((M.vis s_rules (depth - 1).toNat y13.next ((M.mx low b) - y13.gain) (high - y13.gain) (sl, h)).1))) <| Qa rfl <| JL.nil <| Js.blockEnd <| Js.region <| Qm rfl <| Qp rfl rfl <| Qa rfl <| JL.nil ?_
   refine zf [0, 0, 0] fun GG16 => ?_
   refine zn ?_
   exact zag ⟨k + 1, M.mx b (y13.gain + ((M.vis s_rules (depth - 1).toNat y13.next ((M.mx low b) - y13.gain) (high - y13.gain) (sl, h)).1)), (M.vis s_rules (depth - 1).toNat y13.next ((M.mx low b) - y13.gain) (high - y13.gain) (sl, h)).2.2, (M.vis s_rules (depth - 1).toNat y13.next ((M.mx low b) - y13.gain) (high - y13.gain) (sl, h)).2.1, _, _, _, _, _, _, rfl, rfl, by exact hS2, zt, by exact w2_ hsz, by exact w1_, by exact w7_.trans hln, by exact hhb.step w5_ w6_, by omega, by omega, zu, zu, rfl⟩ x11
  have hag : y13.again = false := h14
  have hS2 := M.vlp_f hS hy13 hbh hag
  have hx1 := M.mx_le low b
  have hgb9 := M.results_gain (M.results_get0 hy13)
  have hok9 := M.results_ok (M.results_get0 hy13)
  have hv9 := M.vis_b (r := s_rules) (d := (depth - 1).toNat) (p := y13.next) (low := y13.gain - high) (high := y13.gain - M.mx low b) (sl := sl) (h := h) (M.results_ok (M.results_get0 hy13)) hbd (by omega)
  obtain ⟨w1_, w2_, w3_, w4_, w5_, w6_, w7_⟩ := hv9
  have hx2 := M.mx_le b (y13.gain - (M.vis s_rules (depth - 1).toNat y13.next (y13.gain - high) (y13.gain - M.mx low b) (sl, h)).1)
  refine zdr [22] ?_
  refine jM 0 rfl rfl ?_
  refine jN 1 rfl rfl ?_
  refine jF 2 fld_114_1 rfl rfl ?_
  refine jW 3 ty_2 rfl rfl (fun hv => (hr13.vis hv) 1 _ rfl) ?_
  refine jM 4 rfl rfl ?_
  refine jM 5 rfl rfl ?_
  refine jN 6 rfl rfl ?_
  refine jF 7 fld_114_3 rfl rfl ?_
  refine jM 8 rfl rfl ?_
  refine JH.p 9 rfl (p_sub rfl rfl (IntWalk.i64_in _ (by omega))) ?_
  refine jM 10 rfl rfl ?_
  refine jN 11 rfl rfl ?_
  refine jF 12 fld_114_1 rfl rfl ?_
  refine jW 13 ty_2 rfl rfl (fun hv => (hr13.vis hv) 1 _ rfl) ?_
  refine jM 14 rfl rfl ?_
  refine JH.p 15 rfl (p_sub rfl rfl (IntWalk.i64_in _ (by omega))) ?_
  refine jM 16 rfl rfl ?_
  refine jN 17 rfl rfl ?_
  refine jF 18 fld_114_1 rfl rfl ?_
  refine jW 19 ty_2 rfl rfl (fun hv => (hr13.vis hv) 1 _ rfl) ?_
  refine jM 20 rfl rfl ?_
  refine JH.p 21 rfl (p_sub rfl rfl (IntWalk.i64_in _ (by omega))) ?_
  refine y1 22 ?_
  refine yBB 3 sp_ rfl rfl (fun w hb _ hw => ih ((depth - 1).toNat) (by omega) s_rules sl h A11_0_9 c11_0_9 g11_0_9 vs11_0_9 fl11_0_9 y13.next _ (depth - 1) (y13.gain - high) (y13.gain - (M.mx low b)) bs w hb (ok_ hw) (by omega) (by omega) (M.results_ok (M.results_get0 hy13)) (by omega) (by omega) (by omega) (by omega) hsz hbd (by omega) (by omega) (by omega) (by omega) (by omega) (by omega) rfl) ?_
  rintro _ _ G17 ⟨A17s_9, c17s_9, g17s_9, vs17s_9, f17s_9, rfl, rfl, bl17_0, bl17_1⟩
  refine znh ?_
  refine JH.p 23 rfl (p_sub rfl rfl (IntWalk.i64_in _ (by omega))) ?_
  refine jA 24 rfl rfl ?_
  refine yd ?_
  refine Js.region <| Qm rfl <| Qm rfl <| zv rfl (fun w hw => c_spec_l00MaxL b (y13.gain - ((M.vis s_rules (depth - 1).toNat y13.next (y13.gain - high) (y13.gain - (M.mx low b)) (sl, h)).1))) <| Qa rfl <| JL.nil <| Js.blockEnd <| Js.region <| Qm rfl <| Qp rfl rfl <| Qa rfl <| JL.nil ?_
  refine zf [0, 0, 0] fun GG18 => ?_
  refine zn ?_
  exact zag ⟨k + 1, M.mx b (y13.gain - ((M.vis s_rules (depth - 1).toNat y13.next (y13.gain - high) (y13.gain - (M.mx low b)) (sl, h)).1)), (M.vis s_rules (depth - 1).toNat y13.next (y13.gain - high) (y13.gain - (M.mx low b)) (sl, h)).2.2, (M.vis s_rules (depth - 1).toNat y13.next (y13.gain - high) (y13.gain - (M.mx low b)) (sl, h)).2.1, _, _, _, _, _, _, rfl, rfl, by exact hS2, zt, by exact w2_ hsz, by exact w1_, by exact w7_.trans hln, by exact hhb.step w5_ w6_, by omega, by omega, zu, zu, rfl⟩ x11
 have hV : M.vlp s_rules p depth low high (-1000) s_slots s_hits 0 = (b, (sl, h)) := by have h9 := h12; simp only [Bool.and_eq_false_iff, decide_eq_false_iff_not] at h9; rcases h9 with h9 | h9; (exact hS.symm.trans (M.vlp_e rfl (by omega))); exact hS.symm.trans (M.vlp_b rfl (by omega))
 have hln0 : 0 < sl.length := by omega
 have hps : M.okP s_rules (M.posS ⟨true, p.pits, p.player, depth, b, M.bndV b low high⟩) = true := M.okP_bare r0
 refine zx ?_
 refine zS <| Qa rfl <| zJ <| zS <| Qm rfl <| Qm rfl <| Qk rfl rfl <| JL.nil ?_
 refine zi (fun h19 h19' => ?_) fun h19 h19' => ?_
 ·
  have hbn := M.bndV_2 (high := high) h19'
  refine Js.region <| Qa rfl <| zJ ?_
  refine zdr [16] ?_
  refine jM 0 rfl rfl ?_
  refine jN 1 rfl rfl ?_
  refine jF 2 fld_99_0 rfl rfl ?_
  refine jM 3 rfl rfl ?_
  refine jN 4 rfl rfl ?_
  refine jF 5 fld_31_0 rfl rfl ?_
  refine JH.w 6 rfl (fun os' u' hv => q_load1 ty_29.h rfl (Mem.pub ((hr3.vis ((x4.vis.trans x11.vis).trans hv)) 0 _ rfl))) ?_
  refine jM 7 rfl rfl ?_
  refine jN 8 rfl rfl ?_
  refine jF 9 fld_31_2 rfl rfl ?_
  refine JH.w 10 rfl (fun os' u' hv => q_load1 ty_2.h rfl (Mem.pub ((hr3.vis ((x4.vis.trans x11.vis).trans hv)) 2 _ rfl))) ?_
  refine jM 11 rfl rfl ?_
  refine jM 12 rfl rfl ?_
  refine jM 13 rfl rfl ?_
  refine JH.p 14 rfl (q_bld) ?_
  refine y1 15 ?_
  refine yb rfl rfl fun b20 => ?_
  refine y1 16 ?_
  refine zhh [1, 1, 1] ?_
  refine yBB 3 sp_ rfl rfl (fun w hb _ hw => c_spec_l16StoreL s_rules sl h (M.Slo.mk true p.pits p.player depth b 2) hb (ok_ hw) (r0 := hps)) ?_
  rintro _ _ G21 ⟨A21mem_9, c21mem_9, g21mem_9, vs21mem_9, f21mem_9, rfl, rfl, bl21_0, bl21_1⟩
  refine znh ?_
  refine yd ?_
  refine zS <| Qm rfl <| Qa rfl <| JL.nil ?_
  refine zrb [0, 0, 0] hb (x4.trans x11) ?_
  have hE : (.int .i64 b : Value) = .int .i64 ((M.vis s_rules depth.toNat p low high (s_slots, s_hits)).1) := by first | (rw [hQ]; done) | (rw [hQ]; rfl) | (rw [M.vis_d hd hne hfu hV hbn]; done)
  have hN10 : ((M.vis s_rules depth.toNat p low high (s_slots, s_hits)).2.1).length = (M.stoS sl (M.Slo.mk true p.pits p.player depth b 2)).length := by first | (rw [hQ]; done) | (rw [hQ]; rfl) | (rw [M.vis_d hd hne hfu hV hbn]; done) | (rw [M.vis_d hd hne hfu hV hbn, M.stoS_len]; omega)
  have hE10 : (M.vis s_rules depth.toNat p low high (s_slots, s_hits)).2.1 = (M.stoS sl (M.Slo.mk true p.pits p.player depth b 2)) := by first | (rw [hQ]; done) | (rw [hQ]; rfl) | (rw [M.vis_d hd hne hfu hV hbn]; done)
  have hE11 : (M.vis s_rules depth.toNat p low high (s_slots, s_hits)).2.2 = h := by first | (rw [hQ]; done) | (rw [hQ]; rfl) | (rw [M.vis_d hd hne hfu hV hbn]; done)
  refine ⟨A21mem_9, c21mem_9, g21mem_9, vs21mem_9, f21mem_9, hE, ?_, ?_, ?_⟩
  · rw [hN10, hE10, hE11]
  all_goals (first | (rw [hN10, hE10, hE11]; omega) | omega | (simp only [*]; omega) | (simp; done))
 refine zS <| Qm rfl <| Qm rfl <| Qh rfl rfl <| JL.nil ?_
 refine zi (fun h22 h22' => ?_) fun h22 h22' => ?_
 ·
  have hbn := M.bndV_1 (b := b) (low := low) (by have := h22'; omega) (by omega)
  refine Js.region <| Qa rfl <| zJ ?_
  refine zdr [16] ?_
  refine jM 0 rfl rfl ?_
  refine jN 1 rfl rfl ?_
  refine jF 2 fld_99_0 rfl rfl ?_
  refine jM 3 rfl rfl ?_
  refine jN 4 rfl rfl ?_
  refine jF 5 fld_31_0 rfl rfl ?_
  refine JH.w 6 rfl (fun os' u' hv => q_load1 ty_29.h rfl (Mem.pub ((hr3.vis ((x4.vis.trans x11.vis).trans hv)) 0 _ rfl))) ?_
  refine jM 7 rfl rfl ?_
  refine jN 8 rfl rfl ?_
  refine jF 9 fld_31_2 rfl rfl ?_
  refine JH.w 10 rfl (fun os' u' hv => q_load1 ty_2.h rfl (Mem.pub ((hr3.vis ((x4.vis.trans x11.vis).trans hv)) 2 _ rfl))) ?_
  refine jM 11 rfl rfl ?_
  refine jM 12 rfl rfl ?_
  refine jM 13 rfl rfl ?_
  refine JH.p 14 rfl (q_bld) ?_
  refine y1 15 ?_
  refine yb rfl rfl fun b23 => ?_
  refine y1 16 ?_
  refine zhh [1, 1, 1] ?_
  refine yBB 3 sp_ rfl rfl (fun w hb _ hw => c_spec_l16StoreL s_rules sl h (M.Slo.mk true p.pits p.player depth b 1) hb (ok_ hw) (r0 := hps)) ?_
  rintro _ _ G24 ⟨A24mem_9, c24mem_9, g24mem_9, vs24mem_9, f24mem_9, rfl, rfl, bl24_0, bl24_1⟩
  refine znh ?_
  refine yd ?_
  refine zS <| Qm rfl <| Qa rfl <| JL.nil ?_
  refine zrb [0, 0, 0] hb (x4.trans x11) ?_
  have hE : (.int .i64 b : Value) = .int .i64 ((M.vis s_rules depth.toNat p low high (s_slots, s_hits)).1) := by first | (rw [hQ]; done) | (rw [hQ]; rfl) | (rw [M.vis_d hd hne hfu hV hbn]; done)
  have hN10 : ((M.vis s_rules depth.toNat p low high (s_slots, s_hits)).2.1).length = (M.stoS sl (M.Slo.mk true p.pits p.player depth b 1)).length := by first | (rw [hQ]; done) | (rw [hQ]; rfl) | (rw [M.vis_d hd hne hfu hV hbn]; done) | (rw [M.vis_d hd hne hfu hV hbn, M.stoS_len]; omega)
  have hE10 : (M.vis s_rules depth.toNat p low high (s_slots, s_hits)).2.1 = (M.stoS sl (M.Slo.mk true p.pits p.player depth b 1)) := by first | (rw [hQ]; done) | (rw [hQ]; rfl) | (rw [M.vis_d hd hne hfu hV hbn]; done)
  have hE11 : (M.vis s_rules depth.toNat p low high (s_slots, s_hits)).2.2 = h := by first | (rw [hQ]; done) | (rw [hQ]; rfl) | (rw [M.vis_d hd hne hfu hV hbn]; done)
  refine ⟨A24mem_9, c24mem_9, g24mem_9, vs24mem_9, f24mem_9, hE, ?_, ?_, ?_⟩
  · rw [hN10, hE10, hE11]
  all_goals (first | (rw [hN10, hE10, hE11]; omega) | omega | (simp only [*]; omega) | (simp; done))
 have hbn := M.bndV_0 (b := b) (low := low) (high := high) (by have := h22'; omega) (by omega)
 refine Js.skip <| Js.seq ?_
 refine zdr [16] ?_
 refine jM 0 rfl rfl ?_
 refine jN 1 rfl rfl ?_
 refine jF 2 fld_99_0 rfl rfl ?_
 refine jM 3 rfl rfl ?_
 refine jN 4 rfl rfl ?_
 refine jF 5 fld_31_0 rfl rfl ?_
 refine JH.w 6 rfl (fun os' u' hv => q_load1 ty_29.h rfl (Mem.pub ((hr3.vis ((x4.vis.trans x11.vis).trans hv)) 0 _ rfl))) ?_
 refine jM 7 rfl rfl ?_
 refine jN 8 rfl rfl ?_
 refine jF 9 fld_31_2 rfl rfl ?_
 refine JH.w 10 rfl (fun os' u' hv => q_load1 ty_2.h rfl (Mem.pub ((hr3.vis ((x4.vis.trans x11.vis).trans hv)) 2 _ rfl))) ?_
 refine jM 11 rfl rfl ?_
 refine jM 12 rfl rfl ?_
 refine jM 13 rfl rfl ?_
 refine JH.p 14 rfl (q_bld) ?_
 refine y1 15 ?_
 refine yb rfl rfl fun b25 => ?_
 refine y1 16 ?_
 refine zhh [1, 1, 1] ?_
 refine yBB 3 sp_ rfl rfl (fun w hb _ hw => c_spec_l16StoreL s_rules sl h (M.Slo.mk true p.pits p.player depth b 0) hb (ok_ hw) (r0 := hps)) ?_
 rintro _ _ G26 ⟨A26mem_9, c26mem_9, g26mem_9, vs26mem_9, f26mem_9, rfl, rfl, bl26_0, bl26_1⟩
 refine znh ?_
 refine yd ?_
 refine zS <| Qm rfl <| Qa rfl <| JL.nil ?_
 refine zrb [0, 0, 0] hb (x4.trans x11) ?_
 have hE : (.int .i64 b : Value) = .int .i64 ((M.vis s_rules depth.toNat p low high (s_slots, s_hits)).1) := by first | (rw [hQ]; done) | (rw [hQ]; rfl) | (rw [M.vis_d hd hne hfu hV hbn]; done)
 have hN10 : ((M.vis s_rules depth.toNat p low high (s_slots, s_hits)).2.1).length = (M.stoS sl (M.Slo.mk true p.pits p.player depth b 0)).length := by first | (rw [hQ]; done) | (rw [hQ]; rfl) | (rw [M.vis_d hd hne hfu hV hbn]; done) | (rw [M.vis_d hd hne hfu hV hbn, M.stoS_len]; omega)
 have hE10 : (M.vis s_rules depth.toNat p low high (s_slots, s_hits)).2.1 = (M.stoS sl (M.Slo.mk true p.pits p.player depth b 0)) := by first | (rw [hQ]; done) | (rw [hQ]; rfl) | (rw [M.vis_d hd hne hfu hV hbn]; done)
 have hE11 : (M.vis s_rules depth.toNat p low high (s_slots, s_hits)).2.2 = h := by first | (rw [hQ]; done) | (rw [hQ]; rfl) | (rw [M.vis_d hd hne hfu hV hbn]; done)
 refine ⟨A26mem_9, c26mem_9, g26mem_9, vs26mem_9, f26mem_9, hE, ?_, ?_, ?_⟩
 · rw [hN10, hE10, hE11]
 all_goals (first | (rw [hN10, hE10, hE11]; omega) | omega | (simp only [*]; omega) | (simp; done))
theorem c_spec_l16S_visit (s_rules : M.Rul) (s_slots : List M.Slo) (s_hits : Int) {As_9 : Option Addr} {cs_9 : Nat} {gs_9 : List Nat} {vss_9 : List Value} {fs_9 : List Nat} (p : M.Pos) {v_p : Value} (depth low high : Int) {bs : Nat} {w : World} (hb : Bw w [boxO bs [.int .i64 s_rules.pits, .int .i64 s_rules.seeds, .bool s_rules.stores, .bool s_rules.skip, .bool s_rules.relay, .bool s_rules.feed, .bool s_rules.again, .int .i64 s_rules.capture, .int .i64 s_rules.slam, .slice As_9 s_slots.length cs_9, .int .i64 s_hits] 99, rowO 49 6 (.slice As_9 s_slots.length cs_9) s_slots.length vss_9 gs_9, ownC (lSlot s_slots) vss_9 fs_9]) (h_p : (Ty.ref (cPosition p)).ok (offW w (([boxO bs [.int .i64 s_rules.pits, .int .i64 s_rules.seeds, .bool s_rules.stores, .bool s_rules.skip, .bool s_rules.relay, .bool s_rules.feed, .bool s_rules.again, .int .i64 s_rules.capture, .int .i64 s_rules.slam, .slice As_9 s_slots.length cs_9, .int .i64 s_hits] 99, rowO 49 6 (.slice As_9 s_slots.length cs_9) s_slots.length vss_9 gs_9, ownC (lSlot s_slots) vss_9 fs_9] : List Own).flatMap (·.fp))) v_p) (bd0 : s_slots.length ≤ cs_9 := by exact om_) (bd1 : cs_9 ≤ 9223372036854775807 := by exact om_) (r0 : M.okP s_rules p = true := by exact om_) (r1 : 0 ≤ depth := by exact om_) (r2 : depth ≤ 8 := by exact om_) (r3 : 0 < s_slots.length := by exact om_) (r4 : s_slots.length ≤ 4194304 := by exact om_) (r5 : M.SzM 4194304 s_slots := by exact om_) (r6 : M.BdM s_slots := by exact om_) (r7 : 0 ≤ s_hits := by exact om_) (r8 : s_hits + M.e9 depth.toNat ≤ 1000000000000 := by exact om_) (r9 : 96 * depth + low ≤ 3000 := by exact om_) (r10 : 96 * depth - low ≤ 3000 := by exact om_) (r11 : 96 * depth + high ≤ 3000 := by exact om_) (r12 : 96 * depth - high ≤ 3000 := by exact om_) : RetB Tryz.prog 51 [.pointer (some ⟨bs, 0, none⟩), v_p, .int .i64 depth, .int .i64 low, .int .i64 high] w [boxO bs [.int .i64 s_rules.pits, .int .i64 s_rules.seeds, .bool s_rules.stores, .bool s_rules.skip, .bool s_rules.relay, .bool s_rules.feed, .bool s_rules.again, .int .i64 s_rules.capture, .int .i64 s_rules.slam, .slice As_9 s_slots.length cs_9, .int .i64 s_hits] 99, rowO 49 6 (.slice As_9 s_slots.length cs_9) s_slots.length vss_9 gs_9, ownC (lSlot s_slots) vss_9 fs_9] (fun v bs' => ∃ (Axs_9 : Option Addr) (cxs_9 : Nat) (gxs_9 : List Nat) (vsxs_9 : List Value) (fxs_9 : List Nat), v = .int .i64 ((M.vis s_rules depth.toNat p low high (s_slots, s_hits)).1) ∧ bs' = [boxO bs [.int .i64 s_rules.pits, .int .i64 s_rules.seeds, .bool s_rules.stores, .bool s_rules.skip, .bool s_rules.relay, .bool s_rules.feed, .bool s_rules.again, .int .i64 s_rules.capture, .int .i64 s_rules.slam, .slice Axs_9 (((M.vis s_rules depth.toNat p low high (s_slots, s_hits)).2.1).length) cxs_9, .int .i64 ((M.vis s_rules depth.toNat p low high (s_slots, s_hits)).2.2)] 99, rowO 49 6 (.slice Axs_9 (((M.vis s_rules depth.toNat p low high (s_slots, s_hits)).2.1).length) cxs_9) (((M.vis s_rules depth.toNat p low high (s_slots, s_hits)).2.1).length) vsxs_9 gxs_9, ownC (lSlot ((M.vis s_rules depth.toNat p low high (s_slots, s_hits)).2.1)) vsxs_9 fxs_9] ∧ ((M.vis s_rules depth.toNat p low high (s_slots, s_hits)).2.1).length ≤ cxs_9 ∧ cxs_9 ≤ 9223372036854775807) := c_spec_l16S_visit_ _ s_rules s_slots s_hits As_9 cs_9 gs_9 vss_9 fs_9 p v_p depth low high bs w hb h_p bd0 bd1 r0 r1 r2 r3 r4 r5 r6 r7 r8 r9 r10 r11 r12 rfl
theorem c_spec_SearchWith (mem : M.Mem) {v_mem : Value} (p : M.Pos) {v_p : Value} (depth : Int) {w : World} (h_mem : (Ty.agg (cMemory mem)).ok w v_mem) (h_p : (Ty.agg (cPosition p)).ok w v_p) (r0 : mem.slots.length ≤ 4194304 := by exact om_) (r1 : ∀ x ∈ mem.slots, x.pits.length ≤ 4194304 := by exact om_) (r2 : p.pits.length ≤ 4194304 := by exact om_) (r3 : p.stores.length ≤ 4194304 := by exact om_) : Ret Tryz.prog 9 [v_mem, v_p, .int .i64 depth] w (Ty.tup [Ty.int ((M.swM mem p depth).1), Ty.int ((M.swM mem p depth).2.1), Ty.agg (cMemory ((M.swM mem p depth).2.2.1)), Ty.int ((M.swM mem p depth).2.2.2)]) := by
 revert v_mem; apply opn
 intro A1 c1 h1 bl1 bh1
 revert v_p; apply opn
 intro A2 c2 h2 bl2 bh2 A3 c3 h3 bl3 bh3
 refine enter @Tryz.func9 @Tryz.ntmps9 rfl rfl ?_
 refine zent ?_
 refine zS <| zb rfl fun b4 => zb rfl fun b5 => Qa rfl <| Qa rfl <| za zeh fun b6 => Qa rfl <| zN <| zv rfl (fun w hw => c_spec_l16Code mem p (ok_ hw) (ok_ hw) (r1 := r1)) <| Qa rfl <| zJ <| zS <| Qm rfl <| Qe rfl rfl ?_
 refine JL.nil ?_
 refine zi (fun h7 h7' => ?_) fun h7 h7' => ?_
 ·
  have hrem := M.remC_eq (m := mem) (p := p) (by simpa using h7)
  obtain ⟨ho1, ho2, ho3, ho4, ho5⟩ := M.rem_parts hrem
  refine Js.region <| Qf fh rfl <| Qm rfl <| zv rfl (fun w hw => c_spec_l15Ask mem.rules p depth ⟨_, _, [.int .i64 mem.rules.pits, .int .i64 mem.rules.seeds, .bool mem.rules.stores, .bool mem.rules.skip, .bool mem.rules.relay, .bool mem.rules.feed, .bool mem.rules.again, .int .i64 mem.rules.capture, .int .i64 mem.rules.slam], rfl, ⟨rfl, rfl, rfl, rfl, rfl, rfl, rfl, rfl, rfl, trivial⟩, Mem.boxR (i := 2) rfl 0 9 _ hw⟩ (ok_ hw)) <| Qm rfl <| Qx rfl rfl <| Qx rfl rfl <| Qx rfl rfl <| Qa rfl <| zJ <| zS <| Qm rfl <| Qd rfl rfl <| JL.nil ?_
  refine zi (fun h8 h8' => ?_) fun h8 h8' => ?_
  ·
   have hE := M.swM_c hrem (by rw [← M.ask_c]; simpa using h8)
   have hac := M.ask_c mem.rules p depth
   have hq0 : 0 = (M.swM mem p depth).1 := by first | (rw [hE]; done) | (rw [hE]; rfl) | (rw [hE, hac]; done) | (rw [hE, ← hac]; done) | (rw [hE]; exact hac)
   have hq1 : 0 = (M.swM mem p depth).2.1 := by first | (rw [hE]; done) | (rw [hE]; rfl) | (rw [hE, hac]; done) | (rw [hE, ← hac]; done) | (rw [hE]; exact hac)
   have hq2 : 0 = (((M.swM mem p depth).2.2.1).rules).pits := by first | (rw [hE]; done) | (rw [hE]; rfl) | (rw [hE, hac]; done) | (rw [hE, ← hac]; done) | (rw [hE]; exact hac)
   have hq3 : 0 = (((M.swM mem p depth).2.2.1).rules).seeds := by first | (rw [hE]; done) | (rw [hE]; rfl) | (rw [hE, hac]; done) | (rw [hE, ← hac]; done) | (rw [hE]; exact hac)
   have hq4 : false = (((M.swM mem p depth).2.2.1).rules).stores := by first | (rw [hE]; done) | (rw [hE]; rfl) | (rw [hE, hac]; done) | (rw [hE, ← hac]; done) | (rw [hE]; exact hac)
   have hq5 : false = (((M.swM mem p depth).2.2.1).rules).skip := by first | (rw [hE]; done) | (rw [hE]; rfl) | (rw [hE, hac]; done) | (rw [hE, ← hac]; done) | (rw [hE]; exact hac)
   have hq6 : false = (((M.swM mem p depth).2.2.1).rules).relay := by first | (rw [hE]; done) | (rw [hE]; rfl) | (rw [hE, hac]; done) | (rw [hE, ← hac]; done) | (rw [hE]; exact hac)
   have hq7 : false = (((M.swM mem p depth).2.2.1).rules).feed := by first | (rw [hE]; done) | (rw [hE]; rfl) | (rw [hE, hac]; done) | (rw [hE, ← hac]; done) | (rw [hE]; exact hac)
   have hq8 : false = (((M.swM mem p depth).2.2.1).rules).again := by first | (rw [hE]; done) | (rw [hE]; rfl) | (rw [hE, hac]; done) | (rw [hE, ← hac]; done) | (rw [hE]; exact hac)
   have hq9 : 0 = (((M.swM mem p depth).2.2.1).rules).capture := by first | (rw [hE]; done) | (rw [hE]; rfl) | (rw [hE, hac]; done) | (rw [hE, ← hac]; done) | (rw [hE]; exact hac)
   have hq10 : 0 = (((M.swM mem p depth).2.2.1).rules).slam := by first | (rw [hE]; done) | (rw [hE]; rfl) | (rw [hE, hac]; done) | (rw [hE, ← hac]; done) | (rw [hE]; exact hac)
   have hq11 : [] = ((M.swM mem p depth).2.2.1).slots := by first | (rw [hE]; done) | (rw [hE]; rfl) | (rw [hE, hac]; done) | (rw [hE, ← hac]; done) | (rw [hE]; exact hac)
   have hq12 : ((M.ask mem.rules p depth).2.2) = (M.swM mem p depth).2.2.2 := by first | (rw [hE]; done) | (rw [hE]; rfl) | (rw [hE, hac]; done) | (rw [hE, ← hac]; done) | (rw [hE]; exact hac)
   refine zS <| Qb ?_
   refine Qm rfl <| Qa rfl <| Qa rfl <| zw 0 rfl rfl rfl ?_
   refine Qa rfl <| JL.nil ?_
   exact zro (Up.refl _ _)
  have hac := M.ask_c mem.rules p depth
  have hz : M.srchC mem.rules p depth = 0 := by rw [← hac]; simpa using h8
  have hsc := M.srchC_ok hz
  obtain ⟨hs1, hs2, hs3, hs4⟩ := hsc
  have hv9 := M.vis_b (d := depth.toNat) (low := -1000) (high := 1000) (h := 0) ho2 ho5 (by omega)
  obtain ⟨w1_, w2_, w3_, w4_, w5_, w6_, w7_⟩ := hv9
  have wz_ := w2_ r1
  have he8 := M.e9_8 (d := depth.toNat) (by omega)
  refine Js.skip <| zS <| zc rfl (fun w hw => c_spec_l16Own mem (ok_ hw) (r1 := r1)) ?_
  intro A10 c10 vs10 f10 bl10 bh10
  refine Qb ?_
  refine zb rfl fun b11 => Qa rfl <| zN <| Qm rfl <| Qm rfl <| zB 3 sp_ rfl (fun w hb hw => c_spec_l16S_visit mem.rules mem.slots 0 p depth (-1000) 1000 hb (ok_ hw) (r0 := ho2) (r5 := r1) (r6 := ho5)) ?_
  rintro _ _ G12 ⟨A12s_9, c12s_9, g12s_9, vs12s_9, f12s_9, rfl, rfl, bl12_0, bl12_1⟩
  refine znl ?_
  refine Qa rfl <| zJ <| zS <| Qm rfl <| zv rfl (fun w hw => c_spec_l16Value ((M.vis mem.rules depth.toNat p (-1000) 1000 (mem.slots, 0)).1)) <| Qt rfl <| Qm rfl <| zg (Gd.f1 rfl rfl rfl) (fun hc => p_move rfl) <| zg (Gd.f1 rfl rfl rfl) (fun hc => p_nilCheck (gh hc rfl)) <| zg (Gd.f1 rfl rfl rfl) (fun hc => p_fieldAddr fld_99_0.h (gh hc rfl)) <| zgv (Gd.f1 rfl rfl rfl) (fun hc => (opds_1 (gh hc rfl))) (fun hc => (fun w hw => c_spec_l16Ok (M.Mem.mk mem.rules ((M.vis mem.rules depth.toNat p (-1000) 1000 (mem.slots, 0)).2.1)) ⟨_, _, [.int .i64 mem.rules.pits, .int .i64 mem.rules.seeds, .bool mem.rules.stores, .bool mem.rules.skip, .bool mem.rules.relay, .bool mem.rules.feed, .bool mem.rules.again, .int .i64 mem.rules.capture, .int .i64 mem.rules.slam, .slice A12s_9 (((M.vis mem.rules depth.toNat p (-1000) 1000 (mem.slots, 0)).2.1).length) c12s_9], rfl, ⟨rfl, rfl, rfl, rfl, rfl, rfl, rfl, rfl, rfl, (srow_ok lSlot (xs := ((M.vis mem.rules depth.toNat p (-1000) 1000 (mem.slots, 0)).2.1)) (hw.pr (i := 1) rfl) (hw.pr (i := 2) rfl) (lSlot_length _)), trivial⟩, Mem.boxR (i := 0) rfl 0 10 _ hw⟩ (r0 := (by dsimp only; omega)) (r1 := wz_))) ?_
  refine zg (Gd.f1 rfl rfl rfl) (fun hc => p_not (gh hc rfl)) <| Qq (p_pickOr rfl rfl rfl) <| JL.nil ?_
  refine zi (fun h13 h13' => ?_) fun h13 h13' => ?_
  ·
   have hE := M.swM_6 hrem hz (M.swOk_n h13)
   have hq0 : 0 = (M.swM mem p depth).1 := by first | (rw [hE]; done) | (rw [hE]; rfl) | (rw [hE, hac]; done) | (rw [hE, ← hac]; done) | (rw [hE]; exact hac)
   have hq1 : 0 = (M.swM mem p depth).2.1 := by first | (rw [hE]; done) | (rw [hE]; rfl) | (rw [hE, hac]; done) | (rw [hE, ← hac]; done) | (rw [hE]; exact hac)
   have hq2 : 0 = (((M.swM mem p depth).2.2.1).rules).pits := by first | (rw [hE]; done) | (rw [hE]; rfl) | (rw [hE, hac]; done) | (rw [hE, ← hac]; done) | (rw [hE]; exact hac)
   have hq3 : 0 = (((M.swM mem p depth).2.2.1).rules).seeds := by first | (rw [hE]; done) | (rw [hE]; rfl) | (rw [hE, hac]; done) | (rw [hE, ← hac]; done) | (rw [hE]; exact hac)
   have hq4 : false = (((M.swM mem p depth).2.2.1).rules).stores := by first | (rw [hE]; done) | (rw [hE]; rfl) | (rw [hE, hac]; done) | (rw [hE, ← hac]; done) | (rw [hE]; exact hac)
   have hq5 : false = (((M.swM mem p depth).2.2.1).rules).skip := by first | (rw [hE]; done) | (rw [hE]; rfl) | (rw [hE, hac]; done) | (rw [hE, ← hac]; done) | (rw [hE]; exact hac)
   have hq6 : false = (((M.swM mem p depth).2.2.1).rules).relay := by first | (rw [hE]; done) | (rw [hE]; rfl) | (rw [hE, hac]; done) | (rw [hE, ← hac]; done) | (rw [hE]; exact hac)
   have hq7 : false = (((M.swM mem p depth).2.2.1).rules).feed := by first | (rw [hE]; done) | (rw [hE]; rfl) | (rw [hE, hac]; done) | (rw [hE, ← hac]; done) | (rw [hE]; exact hac)
   have hq8 : false = (((M.swM mem p depth).2.2.1).rules).again := by first | (rw [hE]; done) | (rw [hE]; rfl) | (rw [hE, hac]; done) | (rw [hE, ← hac]; done) | (rw [hE]; exact hac)
   have hq9 : 0 = (((M.swM mem p depth).2.2.1).rules).capture := by first | (rw [hE]; done) | (rw [hE]; rfl) | (rw [hE, hac]; done) | (rw [hE, ← hac]; done) | (rw [hE]; exact hac)
   have hq10 : 0 = (((M.swM mem p depth).2.2.1).rules).slam := by first | (rw [hE]; done) | (rw [hE]; rfl) | (rw [hE, hac]; done) | (rw [hE, ← hac]; done) | (rw [hE]; exact hac)
   have hq11 : [] = ((M.swM mem p depth).2.2.1).slots := by first | (rw [hE]; done) | (rw [hE]; rfl) | (rw [hE, hac]; done) | (rw [hE, ← hac]; done) | (rw [hE]; exact hac)
   have hq12 : 6 = (M.swM mem p depth).2.2.2 := by first | (rw [hE]; done) | (rw [hE]; rfl) | (rw [hE, hac]; done) | (rw [hE, ← hac]; done) | (rw [hE]; exact hac)
   refine zS <| Qb ?_
   refine Qa rfl <| Qa rfl <| zw 4 rfl rfl rfl ?_
   refine Qa rfl <| JL.nil ?_
   exact zro (Up.refl _ _)
  have hE := M.swM_0 hrem hz (M.swOk_y h13)
  refine Js.skip <| Js.seq ?_
  refine zdr [11] ?_
  refine jM 0 rfl rfl ?_
  refine jM 1 rfl rfl ?_
  refine jN 2 rfl rfl ?_
  refine jF 3 fld_99_1 rfl rfl ?_
  refine jB 4 0 ty_2 rfl rfl rfl rfl ?_
  refine jM 5 rfl rfl ?_
  refine jN 6 rfl rfl ?_
  refine jF 7 fld_99_0 rfl rfl ?_
  refine JH.q 8 rfl (L9 0 rfl rfl) ?_
  refine jA 9 rfl rfl ?_
  refine jA 10 rfl rfl ?_
  refine y1 11 ?_
  refine yst rfl rfl rfl ?_
  refine jA 12 rfl rfl ?_
  refine yd ?_
  have hq0 : ((M.vis mem.rules depth.toNat p (-1000) 1000 (mem.slots, 0)).1) = (M.swM mem p depth).1 := by first | (rw [hE]; done) | (rw [hE]; rfl) | (rw [hE, hac]; done) | (rw [hE, ← hac]; done) | (rw [hE]; exact hac)
  have hq1 : ((M.vis mem.rules depth.toNat p (-1000) 1000 (mem.slots, 0)).2.2) = (M.swM mem p depth).2.1 := by first | (rw [hE]; done) | (rw [hE]; rfl) | (rw [hE, hac]; done) | (rw [hE, ← hac]; done) | (rw [hE]; exact hac)
  have hq2 : mem.rules.pits = (((M.swM mem p depth).2.2.1).rules).pits := by first | (rw [hE]; done) | (rw [hE]; rfl) | (rw [hE, hac]; done) | (rw [hE, ← hac]; done) | (rw [hE]; exact hac)
  have hq3 : mem.rules.seeds = (((M.swM mem p depth).2.2.1).rules).seeds := by first | (rw [hE]; done) | (rw [hE]; rfl) | (rw [hE, hac]; done) | (rw [hE, ← hac]; done) | (rw [hE]; exact hac)
  have hq4 : mem.rules.stores = (((M.swM mem p depth).2.2.1).rules).stores := by first | (rw [hE]; done) | (rw [hE]; rfl) | (rw [hE, hac]; done) | (rw [hE, ← hac]; done) | (rw [hE]; exact hac)
  have hq5 : mem.rules.skip = (((M.swM mem p depth).2.2.1).rules).skip := by first | (rw [hE]; done) | (rw [hE]; rfl) | (rw [hE, hac]; done) | (rw [hE, ← hac]; done) | (rw [hE]; exact hac)
  have hq6 : mem.rules.relay = (((M.swM mem p depth).2.2.1).rules).relay := by first | (rw [hE]; done) | (rw [hE]; rfl) | (rw [hE, hac]; done) | (rw [hE, ← hac]; done) | (rw [hE]; exact hac)
  have hq7 : mem.rules.feed = (((M.swM mem p depth).2.2.1).rules).feed := by first | (rw [hE]; done) | (rw [hE]; rfl) | (rw [hE, hac]; done) | (rw [hE, ← hac]; done) | (rw [hE]; exact hac)
  have hq8 : mem.rules.again = (((M.swM mem p depth).2.2.1).rules).again := by first | (rw [hE]; done) | (rw [hE]; rfl) | (rw [hE, hac]; done) | (rw [hE, ← hac]; done) | (rw [hE]; exact hac)
  have hq9 : mem.rules.capture = (((M.swM mem p depth).2.2.1).rules).capture := by first | (rw [hE]; done) | (rw [hE]; rfl) | (rw [hE, hac]; done) | (rw [hE, ← hac]; done) | (rw [hE]; exact hac)
  have hq10 : mem.rules.slam = (((M.swM mem p depth).2.2.1).rules).slam := by first | (rw [hE]; done) | (rw [hE]; rfl) | (rw [hE, hac]; done) | (rw [hE, ← hac]; done) | (rw [hE]; exact hac)
  have hq11 : ((M.vis mem.rules depth.toNat p (-1000) 1000 (mem.slots, 0)).2.1) = ((M.swM mem p depth).2.2.1).slots := by first | (rw [hE]; done) | (rw [hE]; rfl) | (rw [hE, hac]; done) | (rw [hE, ← hac]; done) | (rw [hE]; exact hac)
  have hq12 : 0 = (M.swM mem p depth).2.2.2 := by first | (rw [hE]; done) | (rw [hE]; rfl) | (rw [hE, hac]; done) | (rw [hE, ← hac]; done) | (rw [hE]; exact hac)
  exact zro (Up.refl _ _)
 have hnr := M.remC_ne (m := mem) (p := p) (by simpa using h7)
 refine Js.skip <| Js.seq <| zS <| Qm rfl <| Qd rfl rfl <| JL.nil ?_
 refine zi (fun h14 h14' => ?_) fun h14 h14' => ?_
 ·
  have hE := M.swM_1 (d := depth) hnr
  have hac := M.remC_1 hnr
  have hq0 : 0 = (M.swM mem p depth).1 := by first | (rw [hE]; done) | (rw [hE]; rfl) | (rw [hE, hac]; done) | (rw [hE, ← hac]; done) | (rw [hE]; exact hac)
  have hq1 : 0 = (M.swM mem p depth).2.1 := by first | (rw [hE]; done) | (rw [hE]; rfl) | (rw [hE, hac]; done) | (rw [hE, ← hac]; done) | (rw [hE]; exact hac)
  have hq2 : 0 = (((M.swM mem p depth).2.2.1).rules).pits := by first | (rw [hE]; done) | (rw [hE]; rfl) | (rw [hE, hac]; done) | (rw [hE, ← hac]; done) | (rw [hE]; exact hac)
  have hq3 : 0 = (((M.swM mem p depth).2.2.1).rules).seeds := by first | (rw [hE]; done) | (rw [hE]; rfl) | (rw [hE, hac]; done) | (rw [hE, ← hac]; done) | (rw [hE]; exact hac)
  have hq4 : false = (((M.swM mem p depth).2.2.1).rules).stores := by first | (rw [hE]; done) | (rw [hE]; rfl) | (rw [hE, hac]; done) | (rw [hE, ← hac]; done) | (rw [hE]; exact hac)
  have hq5 : false = (((M.swM mem p depth).2.2.1).rules).skip := by first | (rw [hE]; done) | (rw [hE]; rfl) | (rw [hE, hac]; done) | (rw [hE, ← hac]; done) | (rw [hE]; exact hac)
  have hq6 : false = (((M.swM mem p depth).2.2.1).rules).relay := by first | (rw [hE]; done) | (rw [hE]; rfl) | (rw [hE, hac]; done) | (rw [hE, ← hac]; done) | (rw [hE]; exact hac)
  have hq7 : false = (((M.swM mem p depth).2.2.1).rules).feed := by first | (rw [hE]; done) | (rw [hE]; rfl) | (rw [hE, hac]; done) | (rw [hE, ← hac]; done) | (rw [hE]; exact hac)
  have hq8 : false = (((M.swM mem p depth).2.2.1).rules).again := by first | (rw [hE]; done) | (rw [hE]; rfl) | (rw [hE, hac]; done) | (rw [hE, ← hac]; done) | (rw [hE]; exact hac)
  have hq9 : 0 = (((M.swM mem p depth).2.2.1).rules).capture := by first | (rw [hE]; done) | (rw [hE]; rfl) | (rw [hE, hac]; done) | (rw [hE, ← hac]; done) | (rw [hE]; exact hac)
  have hq10 : 0 = (((M.swM mem p depth).2.2.1).rules).slam := by first | (rw [hE]; done) | (rw [hE]; rfl) | (rw [hE, hac]; done) | (rw [hE, ← hac]; done) | (rw [hE]; exact hac)
  have hq11 : [] = ((M.swM mem p depth).2.2.1).slots := by first | (rw [hE]; done) | (rw [hE]; rfl) | (rw [hE, hac]; done) | (rw [hE, ← hac]; done) | (rw [hE]; exact hac)
  have hq12 : (M.remC mem p) = (M.swM mem p depth).2.2.2 := by first | (rw [hE]; done) | (rw [hE]; rfl) | (rw [hE, hac]; done) | (rw [hE, ← hac]; done) | (rw [hE]; exact hac)
  refine zS <| Qb ?_
  refine Qm rfl <| Qa rfl <| Qa rfl <| zw 0 rfl rfl rfl ?_
  refine Qa rfl <| JL.nil ?_
  exact zro (Up.refl _ _)
 have h9 := h14; simp at h9; exact absurd h9 (by rw [M.remC_1 hnr]; decide)
theorem c_laws_szInt64S (a : List Int) {v_a : Value} (left : Int) {w : World} (h_a : (Ty.ints 2 a).ok w v_a) (r0 : -1 ≤ left := by exact om_) (r1 : left ≤ 1048576 := by exact om_) : RetV Tryz.prog 75 [v_a, .int .i64 left] w (.int .i64 (M.szL a.length left)) := by
 have q1 := M.szL_cases a.length left
 revert v_a; apply opn
 intro A1 c1 h1 bl1 bh1
 have h_a := h1
 refine enter @Tryz.func75 @Tryz.ntmps75 rfl rfl ?_
 refine zent ?_
 refine zS <| Qa rfl <| zN <| Qm rfl <| Qm rfl <| Qz rfl <| Qs rfl rfl <| Qa rfl <| zJ <| zS <| Qm rfl <| Ql rfl rfl <| JL.nil ?_
 refine zi (fun h2 h2' => ?_) fun h2 h2' => ?_
 ·
  refine zS <| Qa rfl <| JL.nil ?_
  refine zR (Up.refl _ _) ?_
  refine congrArg (fun n => Ending.returned (Value.int .i64 n)) ?_; omega
 refine Js.skip <| zS <| Qm rfl <| Qa rfl <| JL.nil ?_
 refine zR (Up.refl _ _) ?_
 refine congrArg (fun n => Ending.returned (Value.int .i64 n)) ?_; omega
theorem c_laws_szPosition (a : M.Pos) {v_a : Value} (left : Int) {w : World} (h_a : (Ty.agg (cPosition a)).ok w v_a) (r0 : -1 ≤ left := by exact om_) (r1 : left ≤ 1048576 := by exact om_) : RetV Tryz.prog 32 [v_a, .int .i64 left] w (.int .i64 (M.szP a left)) := by
 have q1 := M.szL_cases a.pits.length left
 have q2 := M.szL_cases a.stores.length (M.szL a.pits.length left)
 have q3 := M.szL_cases (a.pits.length + a.stores.length) left
 revert v_a; apply opn
 intro A1 c1 h1 bl1 bh1 A2 c2 h2 bl2 bh2
 refine enter @Tryz.func32 @Tryz.ntmps32 rfl rfl ?_
 refine zent ?_
 refine zS <| zb rfl fun b3 => Qa rfl <| zN <| Qf fh rfl <| Q0 0 rfl rfl rfl <| Qm rfl <| zv rfl (fun w hw => c_laws_szInt64S a.pits left (ok_ hw)) <| Qa rfl <| zJ <| zS <| Qm rfl <| Ql rfl rfl <| JL.nil ?_
 refine zi (fun h4 h4' => ?_) fun h4 h4' => ?_
 ·
  refine zS <| Qa rfl <| JL.nil ?_
  refine zR (Up.refl _ _) ?_
  refine congrArg (fun n => Ending.returned (Value.int .i64 n)) ?_; unfold M.szP; omega
 refine Js.skip <| zS <| Qf fh rfl <| Q0 0 rfl rfl rfl <| Qm rfl <| zv rfl (fun w hw => c_laws_szInt64S a.stores (M.szL a.pits.length left) (ok_ hw)) <| Qa rfl <| zJ <| zS <| Qm rfl <| Ql rfl rfl <| JL.nil ?_
 refine zi (fun h5 h5' => ?_) fun h5 h5' => ?_
 ·
  refine zS <| Qa rfl <| JL.nil ?_
  refine zR (Up.refl _ _) ?_
  refine congrArg (fun n => Ending.returned (Value.int .i64 n)) ?_; unfold M.szP; omega
 refine Js.skip <| zS <| Qm rfl <| Qa rfl <| JL.nil ?_
 refine zR (Up.refl _ _) ?_
 refine congrArg (fun n => Ending.returned (Value.int .i64 n)) ?_; unfold M.szP; omega
theorem c_laws_toInt64S (a : List Int) {v_a : Value} {w : World} (h_a : (Ty.ints 2 a).ok w v_a) (r0 : a.length ≤ 4194304 := by exact om_) : Ret Tryz.prog 78 [v_a] w (Ty.ints 2 a) := by
 revert v_a; apply opn
 intro A1 c1 h1 bl1 bh1
 have h_a := h1
 refine enter @Tryz.func78 @Tryz.ntmps78 rfl rfl ?_
 refine zent ?_
 refine zS <| Qa rfl <| zN <| Qm rfl <| Qz rfl <| zmk (a0 := (a.length : Int)) (m := a.length) (by omega) (by omega) fun b2 => Qa rfl <| zJ <| zS <| Qa rfl <| JL.nil <| Js.block ?_
 refine zl [0, 3] (fun F U l os u m => ∃ (k : Nat) (xs : List Int), l = F [(4, .int .i64 (k : Int))] ∧ os = U [some (rowO 2 1 (.slice (some ⟨b2, 0, none⟩) a.length a.length) a.length (ints_ xs) [])] ∧ (xs = M.cp a k) ∧ (k ≤ a.length) ∧ (xs.length = a.length) ∧ m = a.length - k) ⟨0, List.replicate a.length 0, rfl, rfl, by exact M.cp_zero a, zt, by simp, rfl⟩ ?_
 rintro _ _ u3 _ ⟨k, xs, rfl, rfl, hX, hk, hl, rfl⟩ x3
 refine zn ?_
 refine Js.seq <| zS <| Qm rfl <| Qm rfl <| Qz rfl <| Ql rfl rfl <| JL.nil ?_
 refine zi (fun h4 h4' => ?_) fun h4 h4' => ?_
 ·
  obtain ⟨b5, o5, he5, hc5⟩ := ints_elem (Ty.mono _ h1 x3.vis) (i := k) (by omega)
  refine Js.skip <| Js.seq <| Js.block <| Js.region <| Qm rfl <| Qm rfl <| Qm rfl <| Qm rfl <| Qq (p_indexAddr el_29 rfl rfl (by omega) (by omega) he5) <| QC hc5 rfl <| Qq (p_indexAddr el_29 rfl rfl (by omega) (by omega) rfl) ?_
  refine JL.s (e_storeRow (i := 0) (xs' := ints_ (xs.set k (M.nth a k))) ty_2.h rfl rfl rfl rfl rfl rfl (ints_lt (i := k) (by omega)) (ints_setL (i := k) (by omega))) ?_
  rintro _ _ _ ⟨rfl, rfl⟩ _
  refine znl ?_
  refine JL.nil <| Js.blockEnd <| Js.region <| Qm rfl <| Qp rfl rfl <| Qa rfl <| JL.nil ?_
  exact zag ⟨k + 1, xs.set k (M.nth a k), rfl, rfl, by rw [hX]; exact M.cp_step (by omega), zt, by rw [List.length_set]; exact hl, rfl⟩ x3
 have hE : xs = a := by rw [hX]; exact M.cp_all a (by have := h4'; omega)
 refine zx ?_
 have hq0 : xs = a := by exact hE
 refine zS <| Qm rfl <| Qa rfl <| JL.nil ?_
 exact zro x3
theorem c_laws_toPosition (a : M.Pos) {v_a : Value} {w : World} (h_a : (Ty.agg (cPosition a)).ok w v_a) (r0 : a.pits.length ≤ 4194304 := by exact om_) (r1 : a.stores.length ≤ 4194304 := by exact om_) : Ret Tryz.prog 34 [v_a] w (Ty.agg (cPosition a)) := by
 revert v_a; apply opn
 intro A1 c1 h1 bl1 bh1 A2 c2 h2 bl2 bh2
 refine enter @Tryz.func34 @Tryz.ntmps34 rfl rfl ?_
 refine zent ?_
 refine zS <| zb rfl fun b3 => za zeh fun b4 => zN <| za zeh fun b5 => zN <| Qf fh rfl <| Q0 2 rfl rfl rfl <| zcs rfl (fun w hw => c_laws_toInt64S a.pits (ok_ hw)) ?_
 intro A6 c6 bl6 bh6
 refine Qf fh rfl <| zw 1 rfl rfl rfl ?_
 refine zN <| Qf fh rfl <| Q0 3 rfl rfl rfl <| zcs rfl (fun w hw => c_laws_toInt64S a.stores (ok_ hw)) ?_
 intro A7 c7 bl7 bh7
 refine Qf fh rfl <| zw 2 rfl rfl rfl ?_
 refine zN <| Qf fh rfl <| Q0 4 rfl rfl rfl <| Qf fh rfl <| zw 2 rfl rfl rfl ?_
 refine zN <| Q9 2 rfl rfl ?_
 refine zw 3 rfl rfl rfl ?_
 refine JL.nil ?_
 exact zro (Up.refl _ _)
theorem c_laws_toRules (a : M.Rul) {v_a : Value} {w : World} (h_a : (Ty.agg (cRules a)).ok w v_a) : Ret Tryz.prog 76 [v_a] w (Ty.agg (cRules a)) := by
 revert v_a; apply opn
 refine enter @Tryz.func76 @Tryz.ntmps76 rfl rfl ?_
 refine zent ?_
 refine zS <| zb rfl fun b1 => za zeh fun b2 => zN <| za zeh fun b3 => zN <| Qf fh rfl <| Q0 2 rfl rfl rfl <| Qf fh rfl <| zw 0 rfl rfl rfl ?_
 refine zN <| Qf fh rfl <| Q0 2 rfl rfl rfl <| Qf fh rfl <| zw 0 rfl rfl rfl ?_
 refine zN <| Qf fh rfl <| Q0 2 rfl rfl rfl <| Qf fh rfl <| zw 0 rfl rfl rfl ?_
 refine zN <| Qf fh rfl <| Q0 2 rfl rfl rfl <| Qf fh rfl <| zw 0 rfl rfl rfl ?_
 refine zN <| Qf fh rfl <| Q0 2 rfl rfl rfl <| Qf fh rfl <| zw 0 rfl rfl rfl ?_
 refine zN <| Qf fh rfl <| Q0 2 rfl rfl rfl <| Qf fh rfl <| zw 0 rfl rfl rfl ?_
 refine zN <| Qf fh rfl <| Q0 2 rfl rfl rfl <| Qf fh rfl <| zw 0 rfl rfl rfl ?_
 refine zN <| Qf fh rfl <| Q0 2 rfl rfl rfl <| Qf fh rfl <| zw 0 rfl rfl rfl ?_
 refine zN <| Qf fh rfl <| Q0 2 rfl rfl rfl <| Qf fh rfl <| zw 0 rfl rfl rfl ?_
 refine zN <| Q9 0 rfl rfl ?_
 refine zw 1 rfl rfl rfl ?_
 refine JL.nil ?_
 exact zro (Up.refl _ _)
theorem c_laws_eqInt64S (a : List Int) {v_a : Value} (b : List Int) {v_b : Value} {w : World} (h_a : (Ty.ints 2 a).ok w v_a) (h_b : (Ty.ints 2 b).ok w v_b) (r0 : a.length ≤ 4194304 := by exact om_) (r1 : b.length ≤ 4194304 := by exact om_) : RetV Tryz.prog 81 [v_a, v_b] w (.bool (decide (a = b))) := by
 revert v_a; apply opn
 intro A1 c1 h1 bl1 bh1
 have h_a := h1
 revert v_b; apply opn
 intro A2 c2 h2 bl2 bh2
 have h_b := h2
 refine enter @Tryz.func81 @Tryz.ntmps81 rfl rfl ?_
 refine zent ?_
 refine zS <| Qa rfl <| zJ <| zS <| Qm rfl <| Qz rfl <| Qm rfl <| Qz rfl <| Qd rfl rfl <| JL.nil ?_
 refine zi (fun h3 h3' => ?_) fun h3 h3' => ?_
 ·
  have e1 : decide (a = b) = false := by simp; rintro rfl; simp at h3
  refine zS <| Qa rfl <| JL.nil ?_
  refine zR (Up.refl _ _) ?_
  simp [outV, e1]
 have hlen : a.length = b.length := by have := h3'; omega
 refine Js.skip <| Js.seq <| zS <| Qa rfl <| JL.nil <| Js.block ?_
 refine zl [0, 1] (fun F U l os u m => ∃ (k : Nat), l = F [(5, .int .i64 (k : Int))] ∧ os = U [] ∧ (k ≤ a.length) ∧ (M.Upto a b k) ∧ m = a.length - k) ⟨0, rfl, rfl, zt, by exact M.Upto.zero _ _, rfl⟩ ?_
 rintro _ _ u4 _ ⟨k, rfl, rfl, hk, hU, rfl⟩ x4
 refine zn ?_
 refine Js.seq <| zS <| Qm rfl <| Qm rfl <| Qz rfl <| Ql rfl rfl <| JL.nil ?_
 refine zi (fun h5 h5' => ?_) fun h5 h5' => ?_
 ·
  refine Js.skip <| Js.seq <| Js.block <| Js.seq ?_
  refine zdr [] ?_
  refine jM 0 rfl rfl ?_
  refine jM 1 rfl rfl ?_
  obtain ⟨b6, o6, he6, hc6⟩ := ints_elem (Ty.mono _ h1 x4.vis) (i := k) (by omega)
  refine jI 2 el_29 rfl rfl rfl he6 ?_
  refine jW 3 ty_2 rfl rfl hc6.vis ?_
  refine jM 4 rfl rfl ?_
  refine jM 5 rfl rfl ?_
  obtain ⟨b7, o7, he7, hc7⟩ := ints_elem (Ty.mono _ h2 x4.vis) (i := k) (by omega)
  refine jI 6 el_29 rfl rfl rfl he7 ?_
  refine jW 7 ty_2 rfl rfl hc7.vis ?_
  refine JH.p 8 rfl (p_neq rfl rfl) ?_
  refine yd ?_
  refine zi (fun h8 h8' => ?_) fun h8 h8' => ?_
  ·
   have e1 : decide (a = b) = false := by simpa using M.ne_of_nth (a := a) (b := b) (k := k) (by simpa using h8)
   refine zS <| Qa rfl <| JL.nil ?_
   refine zR x4 ?_
   simp [outV, e1]
  have hab : M.nth a k = M.nth b k := by simpa using h8
  refine Js.skip <| Js.blockEnd <| Js.region <| Qm rfl <| Qp rfl rfl <| Qa rfl <| JL.nil ?_
  exact zag ⟨k + 1, rfl, rfl, zt, by exact hU.step (by omega) (by omega) hab, rfl⟩ x4
 have e1 : a = b := hU.done (by omega) (by omega)
 refine zx ?_
 refine zS <| Qa rfl <| JL.nil ?_
 refine zR x4 ?_
 simp [outV, e1]
theorem c_laws_eqPosition (a : M.Pos) {v_a : Value} (b : M.Pos) {v_b : Value} {w : World} (h_a : (Ty.agg (cPosition a)).ok w v_a) (h_b : (Ty.agg (cPosition b)).ok w v_b) (r0 : a.pits.length ≤ 4194304 := by exact om_) (r1 : a.stores.length ≤ 4194304 := by exact om_) (r2 : b.pits.length ≤ 4194304 := by exact om_) (r3 : b.stores.length ≤ 4194304 := by exact om_) : RetV Tryz.prog 36 [v_a, v_b] w (.bool (decide (a = b))) := by
 revert v_a; apply opn
 intro A1 c1 h1 bl1 bh1 A2 c2 h2 bl2 bh2
 revert v_b; apply opn
 intro A3 c3 h3 bl3 bh3 A4 c4 h4 bl4 bh4
 refine enter @Tryz.func36 @Tryz.ntmps36 rfl rfl ?_
 refine zent ?_
 refine zS <| zb rfl fun b5 => zb rfl fun b6 => Qa rfl <| zJ <| zS <| Qf fh rfl <| Q0 1 rfl rfl rfl <| Qf fh rfl <| Q0 0 rfl rfl rfl <| zv rfl (fun w hw => c_laws_eqInt64S a.pits b.pits (ok_ hw) (ok_ hw)) <| Qt rfl <| JL.nil ?_
 refine zi (fun h7 h7' => ?_) fun h7 h7' => ?_
 ·
  have hne : a ≠ b := by rintro rfl; simp at h7
  refine zS <| Qa rfl <| JL.nil ?_
  refine zR (Up.refl _ _) ?_
  first | (rw [decide_eq_false hne]; rfl) | (rw [decide_eq_true (M.pos_ext q0 q1 q2)]; rfl)
 have q0 : a.pits = b.pits := by simpa using h7
 refine Js.skip <| Js.seq <| zS <| Qf fh rfl <| Q0 1 rfl rfl rfl <| Qf fh rfl <| Q0 0 rfl rfl rfl <| zv rfl (fun w hw => c_laws_eqInt64S a.stores b.stores (ok_ hw) (ok_ hw)) <| Qt rfl <| JL.nil ?_
 refine zi (fun h8 h8' => ?_) fun h8 h8' => ?_
 ·
  have hne : a ≠ b := by rintro rfl; simp at h8
  refine zS <| Qa rfl <| JL.nil ?_
  refine zR (Up.refl _ _) ?_
  first | (rw [decide_eq_false hne]; rfl) | (rw [decide_eq_true (M.pos_ext q0 q1 q2)]; rfl)
 have q1 : a.stores = b.stores := by simpa using h8
 refine Js.skip <| Js.seq <| zS <| Qf fh rfl <| Q0 1 rfl rfl rfl <| Qf fh rfl <| Q0 0 rfl rfl rfl <| Qd rfl rfl <| JL.nil ?_
 refine zi (fun h9 h9' => ?_) fun h9 h9' => ?_
 ·
  have hne : a ≠ b := by rintro rfl; simp at h9
  refine zS <| Qa rfl <| JL.nil ?_
  refine zR (Up.refl _ _) ?_
  first | (rw [decide_eq_false hne]; rfl) | (rw [decide_eq_true (M.pos_ext q0 q1 q2)]; rfl)
 have q2 : a.player = b.player := by simpa using h9
 refine Js.skip <| zS <| Qa rfl <| JL.nil ?_
 refine zR (Up.refl _ _) ?_
 first | (rw [decide_eq_false hne]; rfl) | (rw [decide_eq_true (M.pos_ext q0 q1 q2)]; rfl)
theorem c_laws_eqRules (a : M.Rul) {v_a : Value} (b : M.Rul) {v_b : Value} {w : World} (h_a : (Ty.agg (cRules a)).ok w v_a) (h_b : (Ty.agg (cRules b)).ok w v_b) : RetV Tryz.prog 79 [v_a, v_b] w (.bool (decide (a = b))) := by
 revert v_a; apply opn
 revert v_b; apply opn
 refine enter @Tryz.func79 @Tryz.ntmps79 rfl rfl ?_
 refine zent ?_
 refine zS <| zb rfl fun b1 => zb rfl fun b2 => Qa rfl <| zJ <| zS <| Qf fh rfl <| Q0 1 rfl rfl rfl <| Qf fh rfl <| Q0 0 rfl rfl rfl <| Qd rfl rfl <| JL.nil ?_
 refine zi (fun h3 h3' => ?_) fun h3 h3' => ?_
 ·
  have hne : a ≠ b := by rintro rfl; simp at h3
  refine zS <| Qa rfl <| JL.nil ?_
  refine zR (Up.refl _ _) ?_
  first | (rw [decide_eq_false hne]; rfl) | (rw [decide_eq_true (M.rul_ext q0 q1 q2 q3 q4 q5 q6 q7 q8)]; rfl)
 have q0 : a.pits = b.pits := by simpa using h3
 refine Js.skip <| Js.seq <| zS <| Qf fh rfl <| Q0 1 rfl rfl rfl <| Qf fh rfl <| Q0 0 rfl rfl rfl <| Qd rfl rfl <| JL.nil ?_
 refine zi (fun h4 h4' => ?_) fun h4 h4' => ?_
 ·
  have hne : a ≠ b := by rintro rfl; simp at h4
  refine zS <| Qa rfl <| JL.nil ?_
  refine zR (Up.refl _ _) ?_
  first | (rw [decide_eq_false hne]; rfl) | (rw [decide_eq_true (M.rul_ext q0 q1 q2 q3 q4 q5 q6 q7 q8)]; rfl)
 have q1 : a.seeds = b.seeds := by simpa using h4
 refine Js.skip <| Js.seq <| zS <| Qf fh rfl <| Q0 1 rfl rfl rfl <| Qf fh rfl <| Q0 0 rfl rfl rfl <| Qq (p_neqB und_4 rfl rfl) <| JL.nil ?_
 refine zi (fun h5 h5' => ?_) fun h5 h5' => ?_
 ·
  have hne : a ≠ b := by rintro rfl; simp at h5
  refine zS <| Qa rfl <| JL.nil ?_
  refine zR (Up.refl _ _) ?_
  first | (rw [decide_eq_false hne]; rfl) | (rw [decide_eq_true (M.rul_ext q0 q1 q2 q3 q4 q5 q6 q7 q8)]; rfl)
 have q2 : a.stores = b.stores := by simpa using h5
 refine Js.skip <| Js.seq <| zS <| Qf fh rfl <| Q0 1 rfl rfl rfl <| Qf fh rfl <| Q0 0 rfl rfl rfl <| Qq (p_neqB und_4 rfl rfl) <| JL.nil ?_
 refine zi (fun h6 h6' => ?_) fun h6 h6' => ?_
 ·
  have hne : a ≠ b := by rintro rfl; simp at h6
  refine zS <| Qa rfl <| JL.nil ?_
  refine zR (Up.refl _ _) ?_
  first | (rw [decide_eq_false hne]; rfl) | (rw [decide_eq_true (M.rul_ext q0 q1 q2 q3 q4 q5 q6 q7 q8)]; rfl)
 have q3 : a.skip = b.skip := by simpa using h6
 refine Js.skip <| Js.seq <| zS <| Qf fh rfl <| Q0 1 rfl rfl rfl <| Qf fh rfl <| Q0 0 rfl rfl rfl <| Qq (p_neqB und_4 rfl rfl) <| JL.nil ?_
 refine zi (fun h7 h7' => ?_) fun h7 h7' => ?_
 ·
  have hne : a ≠ b := by rintro rfl; simp at h7
  refine zS <| Qa rfl <| JL.nil ?_
  refine zR (Up.refl _ _) ?_
  first | (rw [decide_eq_false hne]; rfl) | (rw [decide_eq_true (M.rul_ext q0 q1 q2 q3 q4 q5 q6 q7 q8)]; rfl)
 have q4 : a.relay = b.relay := by simpa using h7
 refine Js.skip <| Js.seq <| zS <| Qf fh rfl <| Q0 1 rfl rfl rfl <| Qf fh rfl <| Q0 0 rfl rfl rfl <| Qq (p_neqB und_4 rfl rfl) <| JL.nil ?_
 refine zi (fun h8 h8' => ?_) fun h8 h8' => ?_
 ·
  have hne : a ≠ b := by rintro rfl; simp at h8
  refine zS <| Qa rfl <| JL.nil ?_
  refine zR (Up.refl _ _) ?_
  first | (rw [decide_eq_false hne]; rfl) | (rw [decide_eq_true (M.rul_ext q0 q1 q2 q3 q4 q5 q6 q7 q8)]; rfl)
 have q5 : a.feed = b.feed := by simpa using h8
 refine Js.skip <| Js.seq <| zS <| Qf fh rfl <| Q0 1 rfl rfl rfl <| Qf fh rfl <| Q0 0 rfl rfl rfl <| Qq (p_neqB und_4 rfl rfl) <| JL.nil ?_
 refine zi (fun h9 h9' => ?_) fun h9 h9' => ?_
 ·
  have hne : a ≠ b := by rintro rfl; simp at h9
  refine zS <| Qa rfl <| JL.nil ?_
  refine zR (Up.refl _ _) ?_
  first | (rw [decide_eq_false hne]; rfl) | (rw [decide_eq_true (M.rul_ext q0 q1 q2 q3 q4 q5 q6 q7 q8)]; rfl)
 have q6 : a.again = b.again := by simpa using h9
 refine Js.skip <| Js.seq <| zS <| Qf fh rfl <| Q0 1 rfl rfl rfl <| Qf fh rfl <| Q0 0 rfl rfl rfl <| Qd rfl rfl <| JL.nil ?_
 refine zi (fun h10 h10' => ?_) fun h10 h10' => ?_
 ·
  have hne : a ≠ b := by rintro rfl; simp at h10
  refine zS <| Qa rfl <| JL.nil ?_
  refine zR (Up.refl _ _) ?_
  first | (rw [decide_eq_false hne]; rfl) | (rw [decide_eq_true (M.rul_ext q0 q1 q2 q3 q4 q5 q6 q7 q8)]; rfl)
 have q7 : a.capture = b.capture := by simpa using h10
 refine Js.skip <| Js.seq <| zS <| Qf fh rfl <| Q0 1 rfl rfl rfl <| Qf fh rfl <| Q0 0 rfl rfl rfl <| Qd rfl rfl <| JL.nil ?_
 refine zi (fun h11 h11' => ?_) fun h11 h11' => ?_
 ·
  have hne : a ≠ b := by rintro rfl; simp at h11
  refine zS <| Qa rfl <| JL.nil ?_
  refine zR (Up.refl _ _) ?_
  first | (rw [decide_eq_false hne]; rfl) | (rw [decide_eq_true (M.rul_ext q0 q1 q2 q3 q4 q5 q6 q7 q8)]; rfl)
 have q8 : a.slam = b.slam := by simpa using h11
 refine Js.skip <| zS <| Qa rfl <| JL.nil ?_
 refine zR (Up.refl _ _) ?_
 first | (rw [decide_eq_false hne]; rfl) | (rw [decide_eq_true (M.rul_ext q0 q1 q2 q3 q4 q5 q6 q7 q8)]; rfl)
theorem c_laws_markInt64S (a : List Int) {Aa_0 : Option Addr} {ca_0 : Nat} {ga_0 : List Nat} (k : Int) {w : World} (hb : Bw w [rowO 2 1 (.slice Aa_0 a.length ca_0) a.length (ints_ a) ga_0]) (bd0 : a.length ≤ ca_0 := by exact om_) (bd1 : ca_0 ≤ 9223372036854775807 := by exact om_) (r0 : a.length ≤ 4194304 := by exact om_) (r1 : 0 ≤ k := by exact om_) (r2 : k ≤ 100000000 := by exact om_) : RetB Tryz.prog 83 [.slice Aa_0 a.length ca_0, .int .i64 k] w [rowO 2 1 (.slice Aa_0 a.length ca_0) a.length (ints_ a) ga_0] (fun v bs' => v = .int .i64 (k + (a.length : Int)) ∧ bs' = [rowO 2 1 (.slice Aa_0 a.length ca_0) a.length (ints_ (M.up k a.length)) ga_0]) := by
 refine enterB hb @Tryz.func83 @Tryz.ntmps83 rfl rfl ?_
 refine zent ?_
 refine Js.trashE ?_
 refine zn ?_
 refine zS <| Qa rfl <| zJ <| zS <| Qa rfl <| JL.nil <| Js.block ?_
 refine zl [0] (fun F U l os u m => ∃ (i : Nat) (kk : Int) (xs : List Int) (G1_1 : List Nat), l = F [(1, .int .i64 kk), (5, .int .i64 (i : Int))] ∧ os = U [some (rowO 2 1 (.slice Aa_0 a.length ca_0) a.length (ints_ xs) ga_0), some (anyO G1_1)] ∧ (xs = M.mkd a k i) ∧ (i ≤ a.length) ∧ (xs.length = a.length) ∧ (kk = k + (i : Int)) ∧ m = a.length - i) ⟨0, k, a, _, rfl, rfl, by exact M.mkd_zero a k, zt, by rfl, by simp, rfl⟩ ?_
 rintro _ _ u1 _ ⟨i, kk, xs, G1_1, rfl, rfl, hX, hi, hl, hkk, rfl⟩ x1
 refine zn ?_
 refine Js.seq <| zS <| Qm rfl <| Qm rfl <| Qz rfl <| Ql rfl rfl <| JL.nil ?_
 refine zi (fun h2 h2' => ?_) fun h2 h2' => ?_
 ·
  refine Js.skip <| Js.seq <| Js.block <| zS <| Qm rfl <| Qm rfl <| Qm rfl ?_
  refine JL.fact (row_some (i := 0) rfl (by omega)) (fun hf4 => ?_)
  obtain ⟨b4, rfl⟩ := hf4
  refine Qq (p_indexAddr el_29 rfl rfl (by omega) (by omega) rfl) ?_
  refine JL.s (e_storeRow (i := 0) (xs' := ints_ (xs.set i kk)) ty_2.h rfl rfl rfl rfl rfl rfl (ints_lt (i := i) (by omega)) (ints_setL (i := i) (by omega))) ?_
  rintro _ _ _ ⟨rfl, rfl⟩ _
  refine znl ?_
  refine zG <| Qm rfl <| Qp rfl rfl <| Qa rfl <| JL.nil <| Js.blockEnd <| Js.region <| Qm rfl <| Qp rfl rfl <| Qa rfl <| JL.nil ?_
  exact zag ⟨i + 1, kk + 1, xs.set i kk, _, rfl, rfl, by rw [hX, hkk]; exact M.mkd_step (by omega), zt, by rw [List.length_set]; exact hl, zt, rfl⟩ x1
 have hi2 : i = a.length := by have := h2'; omega
 have hM : M.up k a.length = xs := by rw [hX]; exact (M.mkd_end hi2).symm
 refine zx ?_
 refine zS <| Qm rfl <| Qa rfl <| JL.nil ?_
 refine zrb [0] hb x1 ?_
 have hE : (.int .i64 kk : Value) = .int .i64 (k + (a.length : Int)) := by first | exact hM | (refine congrArg (Value.int .i64) ?_; omega)
 have hE1 : M.up k a.length = xs := by first | exact hM | (refine congrArg (Value.int .i64) ?_; omega)
 refine ⟨hE, ?_⟩
 · rw [hE1]
theorem c_laws_heldInt64S (a : List Int) {v_a : Value} (k : Int) {w : World} (h_a : (Ty.ints 2 a).ok w v_a) (r0 : a.length ≤ 4194304 := by exact om_) (r1 : 0 ≤ k := by exact om_) (r2 : k ≤ 100000000 := by exact om_) : RetV Tryz.prog 125 [v_a, .int .i64 k] w (.int .i64 (M.held a k)) := by
 revert v_a; apply opn
 intro A1 c1 h1 bl1 bh1
 have h_a := h1
 refine enter @Tryz.func125 @Tryz.ntmps125 rfl rfl ?_
 refine zent ?_
 refine zS <| Qa rfl <| zJ <| zS <| Qa rfl <| JL.nil <| Js.block ?_
 refine zl [0] (fun F U l os u m => ∃ (i : Nat) (kk : Int), l = F [(1, .int .i64 kk), (5, .int .i64 (i : Int))] ∧ os = U [] ∧ (a.take i = M.up k i) ∧ (i ≤ a.length) ∧ (kk = k + (i : Int)) ∧ m = a.length - i) ⟨0, k, rfl, rfl, by rfl, zt, by simp, rfl⟩ ?_
 rintro _ _ u2 _ ⟨i, kk, rfl, rfl, hU, hi, hkk, rfl⟩ x2
 refine zn ?_
 refine Js.seq <| zS <| Qm rfl <| Qm rfl <| Qz rfl <| Ql rfl rfl <| JL.nil ?_
 refine zi (fun h3 h3' => ?_) fun h3 h3' => ?_
 ·
  obtain ⟨b4, o4, he4, hc4⟩ := ints_elem (Ty.mono _ h1 x2.vis) (i := i) (by omega)
  refine Js.skip <| Js.seq <| Js.block <| Js.seq <| zS <| Qm rfl <| Qm rfl <| Qq (p_indexAddr el_29 rfl rfl (by omega) (by omega) he4) <| QC hc4 rfl <| Qm rfl <| Qd rfl rfl <| JL.nil ?_
  refine zi (fun h5 h5' => ?_) fun h5 h5' => ?_
  ·
   have hE := M.held_no (a := a) (k := k) (i := i) (by omega) (by rw [← hkk]; simpa using h5)
   refine zS <| Qa rfl <| JL.nil ?_
   refine zR x2 ?_
   first | (rw [hE]; rfl) | (rw [hE, hkk]; rfl)
  have he : M.nth a i = k + (i : Int) := by rw [← hkk]; simpa using h5
  refine Js.skip <| Js.region <| Qm rfl <| Qp rfl rfl <| Qa rfl <| JL.nil <| Js.blockEnd <| Js.region <| Qm rfl <| Qp rfl rfl <| Qa rfl <| JL.nil ?_
  exact zag ⟨i + 1, kk + 1, rfl, rfl, by exact M.held_step (by omega) hU he, zt, zt, rfl⟩ x2
 have hE := M.held_yes (a := a) (k := k) (i := i) (by have := h3'; omega) hU
 refine zx ?_
 refine zS <| Qm rfl <| Qa rfl <| JL.nil ?_
 refine zR x2 ?_
 first | (rw [hE]; rfl) | (rw [hE, hkk]; rfl)
theorem c_laws_markPosition (a_pits a_stores : List Int) (a_player : Int) {Aa_0 : Option Addr} {ca_0 : Nat} {ga_0 : List Nat} {Aa_1 : Option Addr} {ca_1 : Nat} {ga_1 : List Nat} (k : Int) {w : World} (hb : Bw w [rowO 2 1 (.slice Aa_0 a_pits.length ca_0) a_pits.length (ints_ a_pits) ga_0, rowO 2 1 (.slice Aa_1 a_stores.length ca_1) a_stores.length (ints_ a_stores) ga_1]) (bd0 : a_pits.length ≤ ca_0 := by exact om_) (bd1 : ca_0 ≤ 9223372036854775807 := by exact om_) (bd2 : a_stores.length ≤ ca_1 := by exact om_) (bd3 : ca_1 ≤ 9223372036854775807 := by exact om_) (r0 : a_pits.length ≤ 4194304 := by exact om_) (r1 : a_stores.length ≤ 4194304 := by exact om_) (r2 : 0 ≤ k := by exact om_) (r3 : k ≤ 50000000 := by exact om_) : RetB Tryz.prog 38 [.agg #[.slice Aa_0 a_pits.length ca_0, .slice Aa_1 a_stores.length ca_1, .int .i64 a_player], .int .i64 k] w [rowO 2 1 (.slice Aa_0 a_pits.length ca_0) a_pits.length (ints_ a_pits) ga_0, rowO 2 1 (.slice Aa_1 a_stores.length ca_1) a_stores.length (ints_ a_stores) ga_1] (fun v bs' => v = .int .i64 (k + (a_pits.length : Int) + (a_stores.length : Int)) ∧ bs' = [rowO 2 1 (.slice Aa_0 a_pits.length ca_0) a_pits.length (ints_ (M.up k a_pits.length)) ga_0, rowO 2 1 (.slice Aa_1 a_stores.length ca_1) a_stores.length (ints_ (M.up (k + (a_pits.length : Int)) a_stores.length)) ga_1]) := by
 refine enterB hb @Tryz.func38 @Tryz.ntmps38 rfl rfl ?_
 refine zent ?_
 refine Js.trashE ?_
 refine zn ?_
 refine zS <| zb rfl fun b1 => Qa rfl <| zN <| Qf fh rfl <| Q0 0 rfl rfl rfl <| Qm rfl ?_
 refine zhl [1] ?_
 refine zBB 1 sp_ rfl (fun w hb _ hw => c_laws_markInt64S a_pits k hb) ?_
 rintro _ _ G2 ⟨rfl, rfl⟩
 refine znl ?_
 refine Qa rfl <| zN <| Qf fh rfl <| Q0 2 rfl rfl rfl <| Qm rfl ?_
 refine zhl [3] ?_
 refine zBB 1 sp_ rfl (fun w hb _ hw => c_laws_markInt64S a_stores (k + (a_pits.length : Int)) hb) ?_
 rintro _ _ G3 ⟨rfl, rfl⟩
 refine znl ?_
 refine Qa rfl <| zN <| Qm rfl <| Qa rfl <| JL.nil ?_
 refine zrb [2, 0] hb (Up.refl _ _) ?_
 have hE : (.int .i64 ((k + (a_pits.length : Int)) + (a_stores.length : Int)) : Value) = .int .i64 (k + (a_pits.length : Int) + (a_stores.length : Int)) := by rfl
 exact ⟨hE, rfl⟩
theorem c_laws_toSlot (a : M.Slo) {v_a : Value} {w : World} (h_a : (Ty.agg (cSlot a)).ok w v_a) (r0 : a.pits.length ≤ 4194304 := by exact om_) : Ret Tryz.prog 123 [v_a] w (Ty.agg (cSlot a)) := by
 revert v_a; apply opn
 intro A1 c1 h1 bl1 bh1
 refine enter @Tryz.func123 @Tryz.ntmps123 rfl rfl ?_
 refine zent ?_
 refine zS <| zb rfl fun b2 => za zeh fun b3 => zN <| za zeh fun b4 => zN <| Qf fh rfl <| Q0 2 rfl rfl rfl <| Qf fh rfl <| zw 0 rfl rfl rfl ?_
 refine zN <| Qf fh rfl <| Q0 2 rfl rfl rfl <| zcs rfl (fun w hw => c_laws_toInt64S a.pits (ok_ hw)) ?_
 intro A5 c5 bl5 bh5
 refine Qf fh rfl <| zw 1 rfl rfl rfl ?_
 refine zN <| Qf fh rfl <| Q0 3 rfl rfl rfl <| Qf fh rfl <| zw 1 rfl rfl rfl ?_
 refine zN <| Qf fh rfl <| Q0 3 rfl rfl rfl <| Qf fh rfl <| zw 1 rfl rfl rfl ?_
 refine zN <| Qf fh rfl <| Q0 3 rfl rfl rfl <| Qf fh rfl <| zw 1 rfl rfl rfl ?_
 refine zN <| Qf fh rfl <| Q0 3 rfl rfl rfl <| Qf fh rfl <| zw 1 rfl rfl rfl ?_
 refine zN <| Q9 1 rfl rfl ?_
 refine zw 2 rfl rfl rfl ?_
 refine JL.nil ?_
 exact zro (Up.refl _ _)
theorem c_laws_toSlotS (a : List M.Slo) {v_a : Value} {w : World} (h_a : (Ty.sl 49 6 a.length (lSlot a)).ok w v_a) (r0 : a.length ≤ 2000000 := by exact om_) (r1 : ∀ x ∈ a, x.pits.length ≤ 4194304 := by exact om_) : Ret Tryz.prog 77 [v_a] w (Ty.sl 49 6 a.length (lSlot a)) := by
 revert v_a; apply opn
 intro A1 c1 h1 bl1 bh1
 have h_a := h1
 refine enter @Tryz.func77 @Tryz.ntmps77 rfl rfl ?_
 refine zent ?_
 refine zS <| Qa rfl <| zN <| Qm rfl <| Qz rfl <| zmkN cSlot M.Slo.zero (a0 := (a.length : Int)) (m := a.length) (by omega) (by omega) zown_Slot fun b2 => Qa rfl <| zJ <| zS <| Qa rfl <| JL.nil <| Js.block ?_
 refine zl [0, 3] (fun F U l os u m => ∃ (i : Nat) (xs : List M.Slo) (vs3_0 : List Value) (fl3_0 : List Nat), l = F [(4, .int .i64 (i : Int))] ∧ os = U [some (rowO 49 6 (.slice (some ⟨b2, 0, none⟩) a.length a.length) a.length vs3_0 []), some (ownC (lSlot xs) vs3_0 fl3_0)] ∧ (xs = M.cpS M.Slo.zero a i) ∧ (i ≤ a.length) ∧ (xs.length = a.length) ∧ m = a.length - i) ⟨0, List.replicate a.length M.Slo.zero, _, _, rfl, rfl, by exact M.cpS_zero _ _, zt, by simp, rfl⟩ ?_
 rintro _ _ u3 _ ⟨i, xs, vs3_0, fl3_0, rfl, rfl, hX, hi, hl, rfl⟩ x3
 refine zn ?_
 refine Js.seq <| zS <| Qm rfl <| Qm rfl <| Qz rfl <| Ql rfl rfl <| JL.nil ?_
 refine zi (fun h4 h4' => ?_) fun h4 h4' => ?_
 ·
  have hgt : a[i]? = some (M.slo a i) := M.slo_get (by omega)
  have e1_ := r1 _ (List.mem_of_getElem? hgt)
  have hy5 : a[i]? = some (M.slo a i) := M.slo_get (by omega)
  obtain ⟨b5, o5, A5_1, c5_1, he5, hr5, h5_1, bl5_1, bh5_1⟩ := elem_Slot (Ty.mono _ h1 x3.vis) hy5
  refine Js.skip <| Js.seq <| Js.block <| Js.region <| Qm rfl <| Qm rfl <| Qm rfl <| Qm rfl <| Qq (p_indexAddr el_65 rfl rfl (by omega) (by omega) he5) <| QS 0 hr5 rfl ?_
  refine zcs rfl (fun w hw => c_laws_toSlot (M.slo a i) (ok_ hw)) ?_
  intro A6_1 c6_1 bl6_1 bh6_1 f6
  have hy7 : xs[i]? = some (M.slo xs i) := M.slo_get len_
  refine JL.fact (fun w hw => elemv_Slot (Mem.ownC (i := 2) rfl w hw) hy7) (fun hf7 => ?_)
  obtain ⟨A7_1, c7_1, he7, bl7_1, bh7_1⟩ := hf7
  refine Qq (p_indexAddr el_26 rfl rfl (by omega) (by omega) rfl) ?_
  refine JL.fact (fun w hw => elem_in cSlot (m := 6) (k := i) (xs := xs) (fun _ => rfl) (Mem.ownC (i := 2) rfl w hw) len_) (fun hl8 => ?_)
  refine JL.ex3 (fun w hw => St.elemS cSlot (m := 6) (i := 2) (xs := xs) (fun _ => rfl) rfl hy7 he7 hw) (fun f8_1 f8_2 f8_3 => ?_)
  refine znl ?_
  refine JL.pk (cSlot (M.slo a i)) [.bool ((M.slo a i).used), .slice A6_1 (((M.slo a i).pits).length) c6_1, .int .i64 ((M.slo a i).player), .int .i64 ((M.slo a i).depth), .int .i64 ((M.slo a i).value), .int .i64 ((M.slo a i).bound)] (fun f9 G9 => ?_)
  refine znl ?_
  refine JL.s (e_storeRow (i := 5) (xs' := setL vs3_0 (0 + i * 6) [.bool ((M.slo a i).used), .slice A6_1 (((M.slo a i).pits).length) c6_1, .int .i64 ((M.slo a i).player), .int .i64 ((M.slo a i).depth), .int .i64 ((M.slo a i).value), .int .i64 ((M.slo a i).bound)]) ty_49.h rfl rfl rfl rfl rfl rfl (by omega) rfl) ?_
  rintro _ _ _ ⟨rfl, rfl⟩ _
  refine zhl [4, 0, 2] ?_
  refine JL.conv (fun w hw => St.closeE cSlot (k := i) (m := 6) (xs := xs) (y := (M.slo a i)) (vs := vs3_0) (vs' := (setL vs3_0 (0 + i * 6) [.bool ((M.slo a i).used), .slice A6_1 (((M.slo a i).pits).length) c6_1, .int .i64 ((M.slo a i).player), .int .i64 ((M.slo a i).depth), .int .i64 ((M.slo a i).value), .int .i64 ((M.slo a i).bound)])) len_ rfl rfl hw) ?_
  refine znl ?_
  refine znl ?_
  refine JL.nil <| Js.blockEnd <| Js.region <| Qm rfl <| Qp rfl rfl <| Qa rfl <| JL.nil ?_
  refine zd [3, 0] rfl fun u10 x10 => ?_
  exact zag ⟨i + 1, xs.set i (M.slo a i), _, _, rfl, rfl, by rw [hX]; exact M.cpS_step hgt, zt, by rw [List.length_set]; exact hl, rfl⟩ (x3.trans x10)
 have hE : xs = a := by rw [hX]; exact M.cpS_all (by have := h4'; omega)
 refine zx ?_
 have hq0 : xs = a := by exact hE
 refine zS <| Qm rfl <| Qa rfl <| JL.nil ?_
 exact zro x3
theorem c_laws_toMemory (a : M.Mem) {v_a : Value} {w : World} (h_a : (Ty.agg (cMemory a)).ok w v_a) (r0 : a.slots.length ≤ 2000000 := by exact om_) (r1 : ∀ x ∈ a.slots, x.pits.length ≤ 4194304 := by exact om_) : Ret Tryz.prog 33 [v_a] w (Ty.agg (cMemory a)) := by
 revert v_a; apply opn
 intro A1 c1 h1 bl1 bh1
 refine enter @Tryz.func33 @Tryz.ntmps33 rfl rfl ?_
 refine zent ?_
 refine zS <| zb rfl fun b2 => za zeh fun b3 => zN <| za zeh fun b4 => zN <| Qf fh rfl <| Q9 2 rfl rfl ?_
 refine zc rfl (fun w hw => c_laws_toRules a.rules (ok_ hw)) <| Qf fh rfl <| zw 0 rfl rfl rfl ?_
 refine zN <| Qf fh rfl <| Q0 2 rfl rfl rfl <| zcs rfl (fun w hw => c_laws_toSlotS a.slots (ok_ hw) (r1 := r1)) ?_
 intro A6 c6 vs6 f6 bl6 bh6
 refine Qf fh rfl <| zw 2 rfl rfl rfl ?_
 refine zN <| Q9 2 rfl rfl ?_
 refine zw 3 rfl rfl rfl ?_
 refine JL.nil ?_
 exact zro (Up.refl _ _)
theorem c_laws_szSlot (a : M.Slo) {v_a : Value} (left : Int) {w : World} (h_a : (Ty.agg (cSlot a)).ok w v_a) (r0 : -1 ≤ left := by exact om_) (r1 : left ≤ 1048576 := by exact om_) : RetV Tryz.prog 122 [v_a, .int .i64 left] w (.int .i64 (M.szL a.pits.length left)) := by
 have q1 := M.szL_cases a.pits.length left
 revert v_a; apply opn
 intro A1 c1 h1 bl1 bh1
 refine enter @Tryz.func122 @Tryz.ntmps122 rfl rfl ?_
 refine zent ?_
 refine zS <| zb rfl fun b2 => Qa rfl <| zN <| Qf fh rfl <| Q0 0 rfl rfl rfl <| Qm rfl <| zv rfl (fun w hw => c_laws_szInt64S a.pits left (ok_ hw)) <| Qa rfl <| zJ <| zS <| Qm rfl <| Ql rfl rfl <| JL.nil ?_
 refine zi (fun h3 h3' => ?_) fun h3 h3' => ?_
 ·
  refine zS <| Qa rfl <| JL.nil ?_
  refine zR (Up.refl _ _) ?_
  refine congrArg (fun n => Ending.returned (Value.int .i64 n)) ?_; omega
 refine Js.skip <| zS <| Qm rfl <| Qa rfl <| JL.nil ?_
 refine zR (Up.refl _ _) ?_
 refine congrArg (fun n => Ending.returned (Value.int .i64 n)) ?_; omega
theorem c_laws_szSlotS (a : List M.Slo) {v_a : Value} (left : Int) {w : World} (h_a : (Ty.sl 49 6 a.length (lSlot a)).ok w v_a) (r0 : -1 ≤ left := by exact om_) (r1 : left ≤ 1048576 := by exact om_) : RetV Tryz.prog 74 [v_a, .int .i64 left] w (.int .i64 (M.szL (a.length + M.totM a) left)) := by
 have q1 := M.szL_cases (a.length + M.totM a) left
 revert v_a; apply opn
 intro A1 c1 h1 bl1 bh1
 have h_a := h1
 refine enter @Tryz.func74 @Tryz.ntmps74 rfl rfl ?_
 refine zent ?_
 refine zS <| Qa rfl <| zN <| Qm rfl <| Qm rfl <| Qz rfl <| Qs rfl rfl <| Qa rfl <| zJ <| zS <| Qm rfl <| Ql rfl rfl <| JL.nil ?_
 refine zi (fun h2 h2' => ?_) fun h2 h2' => ?_
 ·
  refine zS <| Qa rfl <| JL.nil ?_
  refine zR (Up.refl _ _) ?_
  refine congrArg (fun n => Ending.returned (Value.int .i64 n)) ?_; omega
 refine Js.skip <| Js.seq <| zS <| Qa rfl <| JL.nil <| Js.block ?_
 refine zl [0] (fun F U l os u m => ∃ (i : Nat) (ll : Int), l = F [(1, .int .i64 ll), (5, .int .i64 (i : Int))] ∧ os = U [] ∧ (ll = left - (a.length : Int) - (M.totM (a.take i) : Int)) ∧ (0 ≤ ll) ∧ (i ≤ a.length) ∧ (ll ≤ 1048576) ∧ m = a.length - i) ⟨0, left - (a.length : Int), rfl, rfl, by simp [M.totM], zt, zt, by omega, rfl⟩ ?_
 rintro _ _ u3 _ ⟨i, ll, rfl, rfl, hL, hge, hi, hle, rfl⟩ x3
 refine zn ?_
 refine Js.seq <| zS <| Qm rfl <| Qm rfl <| Qz rfl <| Ql rfl rfl <| JL.nil ?_
 refine zi (fun h4 h4' => ?_) fun h4 h4' => ?_
 ·
  have t1 := M.totM_step (l := a) (i := i) (by omega)
  have t2 := M.totM_le' a (i + 1)
  have q2 := M.szL_cases (M.slo a i).pits.length ll
  have hy5 : a[i]? = some (M.slo a i) := M.slo_get (by omega)
  obtain ⟨b5, o5, A5_1, c5_1, he5, hr5, h5_1, bl5_1, bh5_1⟩ := elem_Slot (Ty.mono _ h1 x3.vis) hy5
  refine Js.skip <| Js.seq <| Js.block <| zS <| Qm rfl <| Qm rfl <| Qq (p_indexAddr el_65 rfl rfl (by omega) (by omega) he5) <| QS 0 hr5 rfl ?_
  refine Qm rfl <| zv rfl (fun w hw => c_laws_szSlot (M.slo a i) ll (ok_ hw)) <| Qa rfl <| zN <| Qm rfl <| Ql rfl rfl <| JL.nil ?_
  refine zi (fun h6 h6' => ?_) fun h6 h6' => ?_
  ·
   refine zS <| Qa rfl <| JL.nil ?_
   refine zR x3 ?_
   refine congrArg (fun n => Ending.returned (Value.int .i64 n)) ?_; omega
  refine Js.skip <| Js.blockEnd <| Js.region <| Qm rfl <| Qp rfl rfl <| Qa rfl <| JL.nil ?_
  exact zag ⟨i + 1, M.szL (M.slo a i).pits.length ll, rfl, rfl, by omega, by omega, zt, by omega, rfl⟩ x3
 have t3 : a.take i = a := List.take_of_length_le (by have := h4'; omega)
 rw [t3] at hL
 refine zx ?_
 refine zS <| Qm rfl <| Qa rfl <| JL.nil ?_
 refine zR x3 ?_
 refine congrArg (fun n => Ending.returned (Value.int .i64 n)) ?_; omega
theorem c_laws_szMemory (a : M.Mem) {v_a : Value} (left : Int) {w : World} (h_a : (Ty.agg (cMemory a)).ok w v_a) (r0 : -1 ≤ left := by exact om_) (r1 : left ≤ 1048576 := by exact om_) : RetV Tryz.prog 31 [v_a, .int .i64 left] w (.int .i64 (M.szL (a.slots.length + M.totM a.slots) left)) := by
 have q1 := M.szL_cases (a.slots.length + M.totM a.slots) left
 revert v_a; apply opn
 intro A1 c1 h1 bl1 bh1
 refine enter @Tryz.func31 @Tryz.ntmps31 rfl rfl ?_
 refine zent ?_
 refine zS <| zb rfl fun b2 => Qa rfl <| zN <| Qf fh rfl <| Q0 0 rfl rfl rfl <| Qm rfl <| zv rfl (fun w hw => c_laws_szSlotS a.slots left (ok_ hw)) <| Qa rfl <| zJ <| zS <| Qm rfl <| Ql rfl rfl <| JL.nil ?_
 refine zi (fun h3 h3' => ?_) fun h3 h3' => ?_
 ·
  refine zS <| Qa rfl <| JL.nil ?_
  refine zR (Up.refl _ _) ?_
  refine congrArg (fun n => Ending.returned (Value.int .i64 n)) ?_; omega
 refine Js.skip <| zS <| Qm rfl <| Qa rfl <| JL.nil ?_
 refine zR (Up.refl _ _) ?_
 refine congrArg (fun n => Ending.returned (Value.int .i64 n)) ?_; omega
theorem c_laws_eqSlot (a : M.Slo) {v_a : Value} (b : M.Slo) {v_b : Value} {w : World} (h_a : (Ty.agg (cSlot a)).ok w v_a) (h_b : (Ty.agg (cSlot b)).ok w v_b) (r0 : a.pits.length ≤ 4194304 := by exact om_) (r1 : b.pits.length ≤ 4194304 := by exact om_) : RetV Tryz.prog 124 [v_a, v_b] w (.bool (decide (a = b))) := by
 revert v_a; apply opn
 intro A1 c1 h1 bl1 bh1
 revert v_b; apply opn
 intro A2 c2 h2 bl2 bh2
 refine enter @Tryz.func124 @Tryz.ntmps124 rfl rfl ?_
 refine zent ?_
 refine zS <| zb rfl fun b3 => zb rfl fun b4 => Qa rfl <| zJ <| zS <| Qf fh rfl <| Q0 1 rfl rfl rfl <| Qf fh rfl <| Q0 0 rfl rfl rfl <| Qq (p_neqB und_4 rfl rfl) <| JL.nil ?_
 refine zi (fun h5 h5' => ?_) fun h5 h5' => ?_
 ·
  have hne : a ≠ b := by rintro rfl; simp at h5
  refine zS <| Qa rfl <| JL.nil ?_
  refine zR (Up.refl _ _) ?_
  first | (rw [decide_eq_false hne]; rfl) | (rw [decide_eq_true (M.slo_ext q0 q1 q2 q3 q4 q5)]; rfl)
 have q0 : a.used = b.used := by simpa using h5
 refine Js.skip <| Js.seq <| zS <| Qf fh rfl <| Q0 1 rfl rfl rfl <| Qf fh rfl <| Q0 0 rfl rfl rfl <| zv rfl (fun w hw => c_laws_eqInt64S a.pits b.pits (ok_ hw) (ok_ hw)) <| Qt rfl <| JL.nil ?_
 refine zi (fun h6 h6' => ?_) fun h6 h6' => ?_
 ·
  have hne : a ≠ b := by rintro rfl; simp at h6
  refine zS <| Qa rfl <| JL.nil ?_
  refine zR (Up.refl _ _) ?_
  first | (rw [decide_eq_false hne]; rfl) | (rw [decide_eq_true (M.slo_ext q0 q1 q2 q3 q4 q5)]; rfl)
 have q1 : a.pits = b.pits := by simpa using h6
 refine Js.skip <| Js.seq <| zS <| Qf fh rfl <| Q0 1 rfl rfl rfl <| Qf fh rfl <| Q0 0 rfl rfl rfl <| Qd rfl rfl <| JL.nil ?_
 refine zi (fun h7 h7' => ?_) fun h7 h7' => ?_
 ·
  have hne : a ≠ b := by rintro rfl; simp at h7
  refine zS <| Qa rfl <| JL.nil ?_
  refine zR (Up.refl _ _) ?_
  first | (rw [decide_eq_false hne]; rfl) | (rw [decide_eq_true (M.slo_ext q0 q1 q2 q3 q4 q5)]; rfl)
 have q2 : a.player = b.player := by simpa using h7
 refine Js.skip <| Js.seq <| zS <| Qf fh rfl <| Q0 1 rfl rfl rfl <| Qf fh rfl <| Q0 0 rfl rfl rfl <| Qd rfl rfl <| JL.nil ?_
 refine zi (fun h8 h8' => ?_) fun h8 h8' => ?_
 ·
  have hne : a ≠ b := by rintro rfl; simp at h8
  refine zS <| Qa rfl <| JL.nil ?_
  refine zR (Up.refl _ _) ?_
  first | (rw [decide_eq_false hne]; rfl) | (rw [decide_eq_true (M.slo_ext q0 q1 q2 q3 q4 q5)]; rfl)
 have q3 : a.depth = b.depth := by simpa using h8
 refine Js.skip <| Js.seq <| zS <| Qf fh rfl <| Q0 1 rfl rfl rfl <| Qf fh rfl <| Q0 0 rfl rfl rfl <| Qd rfl rfl <| JL.nil ?_
 refine zi (fun h9 h9' => ?_) fun h9 h9' => ?_
 ·
  have hne : a ≠ b := by rintro rfl; simp at h9
  refine zS <| Qa rfl <| JL.nil ?_
  refine zR (Up.refl _ _) ?_
  first | (rw [decide_eq_false hne]; rfl) | (rw [decide_eq_true (M.slo_ext q0 q1 q2 q3 q4 q5)]; rfl)
 have q4 : a.value = b.value := by simpa using h9
 refine Js.skip <| Js.seq <| zS <| Qf fh rfl <| Q0 1 rfl rfl rfl <| Qf fh rfl <| Q0 0 rfl rfl rfl <| Qd rfl rfl <| JL.nil ?_
 refine zi (fun h10 h10' => ?_) fun h10 h10' => ?_
 ·
  have hne : a ≠ b := by rintro rfl; simp at h10
  refine zS <| Qa rfl <| JL.nil ?_
  refine zR (Up.refl _ _) ?_
  first | (rw [decide_eq_false hne]; rfl) | (rw [decide_eq_true (M.slo_ext q0 q1 q2 q3 q4 q5)]; rfl)
 have q5 : a.bound = b.bound := by simpa using h10
 refine Js.skip <| zS <| Qa rfl <| JL.nil ?_
 refine zR (Up.refl _ _) ?_
 first | (rw [decide_eq_false hne]; rfl) | (rw [decide_eq_true (M.slo_ext q0 q1 q2 q3 q4 q5)]; rfl)
theorem c_laws_eqSlotS (a : List M.Slo) {v_a : Value} (b : List M.Slo) {v_b : Value} {w : World} (h_a : (Ty.sl 49 6 a.length (lSlot a)).ok w v_a) (h_b : (Ty.sl 49 6 b.length (lSlot b)).ok w v_b) (r0 : a.length ≤ 4194304 := by exact om_) (r1 : b.length ≤ 4194304 := by exact om_) (r2 : ∀ x ∈ a, x.pits.length ≤ 4194304 := by exact om_) (r3 : ∀ x ∈ b, x.pits.length ≤ 4194304 := by exact om_) : RetV Tryz.prog 80 [v_a, v_b] w (.bool (decide (a = b))) := by
 revert v_a; apply opn
 intro A1 c1 h1 bl1 bh1
 have h_a := h1
 revert v_b; apply opn
 intro A2 c2 h2 bl2 bh2
 have h_b := h2
 refine enter @Tryz.func80 @Tryz.ntmps80 rfl rfl ?_
 refine zent ?_
 refine zS <| Qa rfl <| zJ <| zS <| Qm rfl <| Qz rfl <| Qm rfl <| Qz rfl <| Qd rfl rfl <| JL.nil ?_
 refine zi (fun h3 h3' => ?_) fun h3 h3' => ?_
 ·
  have e1 : decide (a = b) = false := by simp; rintro rfl; simp at h3
  refine zS <| Qa rfl <| JL.nil ?_
  refine zR (Up.refl _ _) ?_
  simp [outV, e1]
 have hlen : a.length = b.length := by have := h3'; omega
 refine Js.skip <| Js.seq <| zS <| Qa rfl <| JL.nil <| Js.block ?_
 refine zl [0, 1] (fun F U l os u m => ∃ (k : Nat), l = F [(5, .int .i64 (k : Int))] ∧ os = U [] ∧ (k ≤ a.length) ∧ (a.take k = b.take k) ∧ m = a.length - k) ⟨0, rfl, rfl, zt, by rfl, rfl⟩ ?_
 rintro _ _ u4 _ ⟨k, rfl, rfl, hk, hU, rfl⟩ x4
 refine zn ?_
 refine Js.seq <| zS <| Qm rfl <| Qm rfl <| Qz rfl <| Ql rfl rfl <| JL.nil ?_
 refine zi (fun h5 h5' => ?_) fun h5 h5' => ?_
 ·
  obtain ⟨ye6, hye6⟩ : ∃ x, a[k]? = some x := ⟨_, List.getElem?_eq_getElem (by omega)⟩
  obtain ⟨ye7, hye7⟩ : ∃ x, b[k]? = some x := ⟨_, List.getElem?_eq_getElem (by omega)⟩
  refine Js.skip <| Js.seq <| Js.block <| Js.seq ?_
  refine zdr [] ?_
  refine jM 0 rfl rfl ?_
  refine jM 1 rfl rfl ?_
  have hy8 := hye6
  obtain ⟨b8, o8, A8_1, c8_1, he8, hr8, h8_1, bl8_1, bh8_1⟩ := elem_Slot (Ty.mono _ h1 x4.vis) hy8
  refine jI 2 el_26 rfl rfl rfl he8 ?_
  refine JH.w 3 rfl (fun os' u' hv => LS 0 (hr8.vis hv) rfl) ?_
  refine jM 4 rfl rfl ?_
  refine jM 5 rfl rfl ?_
  have hy9 := hye7
  obtain ⟨b9, o9, A9_1, c9_1, he9, hr9, h9_1, bl9_1, bh9_1⟩ := elem_Slot (Ty.mono _ h2 x4.vis) hy9
  refine jI 6 el_26 rfl rfl rfl he9 ?_
  refine JH.w 7 rfl (fun os' u' hv => LS 0 (hr9.vis hv) rfl) ?_
  refine y1 8 ?_
  refine yv rfl rfl (fun w hw => c_laws_eqSlot ye6 ye7 (ok_ hw) (ok_ hw) (r0 := (by have := r2 _ (List.mem_of_getElem? hye6); omega)) (r1 := (by have := r3 _ (List.mem_of_getElem? hye7); omega))) ?_
  refine JH.p 9 rfl (p_not rfl) ?_
  refine yd ?_
  refine zi (fun h10 h10' => ?_) fun h10 h10' => ?_
  ·
   have e1 : decide (a = b) = false := decide_eq_false (M.upto_ne hye6 hye7 (by simpa using h10))
   refine zS <| Qa rfl <| JL.nil ?_
   refine zR x4 ?_
   simp [outV, e1]
  have hab : ye6 = ye7 := by simpa using h10
  rw [← hab] at hye7
  have hU2 := M.upto_step hU hye6 hye7
  refine Js.skip <| Js.blockEnd <| Js.region <| Qm rfl <| Qp rfl rfl <| Qa rfl <| JL.nil ?_
  exact zag ⟨k + 1, rfl, rfl, zt, by exact hU2, rfl⟩ x4
 have e1 : a = b := M.upto_done hU (by have := h5'; omega) (by have := h5'; omega)
 refine zx ?_
 refine zS <| Qa rfl <| JL.nil ?_
 refine zR x4 ?_
 simp [outV, e1]
theorem c_laws_eqMemory (a : M.Mem) {v_a : Value} (b : M.Mem) {v_b : Value} {w : World} (h_a : (Ty.agg (cMemory a)).ok w v_a) (h_b : (Ty.agg (cMemory b)).ok w v_b) (r0 : a.slots.length ≤ 4194304 := by exact om_) (r1 : ∀ x ∈ a.slots, x.pits.length ≤ 4194304 := by exact om_) (r2 : b.slots.length ≤ 4194304 := by exact om_) (r3 : ∀ x ∈ b.slots, x.pits.length ≤ 4194304 := by exact om_) : RetV Tryz.prog 35 [v_a, v_b] w (.bool (decide (a = b))) := by
 revert v_a; apply opn
 intro A1 c1 h1 bl1 bh1
 revert v_b; apply opn
 intro A2 c2 h2 bl2 bh2
 refine enter @Tryz.func35 @Tryz.ntmps35 rfl rfl ?_
 refine zent ?_
 refine zS <| zb rfl fun b3 => zb rfl fun b4 => Qa rfl <| zJ <| zS <| Qf fh rfl <| Q9 1 rfl rfl ?_
 refine Qf fh rfl <| Q9 0 rfl rfl ?_
 refine zv rfl (fun w hw => c_laws_eqRules a.rules b.rules (ok_ hw) (ok_ hw)) <| Qt rfl <| JL.nil ?_
 refine zi (fun h5 h5' => ?_) fun h5 h5' => ?_
 ·
  have hne : a ≠ b := by rintro rfl; simp at h5
  refine zS <| Qa rfl <| JL.nil ?_
  refine zR (Up.refl _ _) ?_
  first | (rw [decide_eq_false hne]; rfl) | (rw [decide_eq_true (M.mem_ext q0 q1)]; rfl)
 have q0 : a.rules = b.rules := by simpa using h5
 refine Js.skip <| Js.seq <| zS <| Qf fh rfl <| Q0 1 rfl rfl rfl <| Qf fh rfl <| Q0 0 rfl rfl rfl <| zv rfl (fun w hw => c_laws_eqSlotS a.slots b.slots (ok_ hw) (ok_ hw) (r2 := r1) (r3 := r3)) <| Qt rfl <| JL.nil ?_
 refine zi (fun h6 h6' => ?_) fun h6 h6' => ?_
 ·
  have hne : a ≠ b := by rintro rfl; simp at h6
  refine zS <| Qa rfl <| JL.nil ?_
  refine zR (Up.refl _ _) ?_
  first | (rw [decide_eq_false hne]; rfl) | (rw [decide_eq_true (M.mem_ext q0 q1)]; rfl)
 have q1 : a.slots = b.slots := by simpa using h6
 refine Js.skip <| zS <| Qa rfl <| JL.nil ?_
 refine zR (Up.refl _ _) ?_
 first | (rw [decide_eq_false hne]; rfl) | (rw [decide_eq_true (M.mem_ext q0 q1)]; rfl)
theorem c_laws_markSlotS (a : List M.Slo) {Aa_0 : Option Addr} {ca_0 : Nat} {ga_0 : List Nat} {vsa_0 : List Value} {fa_0 : List Nat} (k : Int) {w : World} (hb : Bw w [rowO 49 6 (.slice Aa_0 a.length ca_0) a.length vsa_0 ga_0, ownC (lSlot a) vsa_0 fa_0]) (bd0 : a.length ≤ ca_0 := by exact om_) (bd1 : ca_0 ≤ 9223372036854775807 := by exact om_) (r0 : a.length ≤ 4194304 := by exact om_) (r1 : M.totM a ≤ 4194304 := by exact om_) (r2 : 0 ≤ k := by exact om_) (r3 : k ≤ 20000000 := by exact om_) : RetB Tryz.prog 82 [.slice Aa_0 a.length ca_0, .int .i64 k] w [rowO 49 6 (.slice Aa_0 a.length ca_0) a.length vsa_0 ga_0, ownC (lSlot a) vsa_0 fa_0] (fun v bs' => ∃ (vsxa : List Value) (fxa : List Nat), v = .int .i64 (k + M.szs M.sS a) ∧ bs' = [rowO 49 6 (.slice Aa_0 a.length ca_0) a.length vsxa ga_0, ownC (lSlot (M.mkL M.fS M.sS k a)) vsxa fxa]) := by
 refine enterB hb @Tryz.func82 @Tryz.ntmps82 rfl rfl ?_
 refine zent ?_
 refine Js.trashE ?_
 refine zn ?_
 refine zS <| Qa rfl <| zJ <| zS <| Qa rfl <| JL.nil <| Js.block ?_
 refine zl [0] (fun F U l os u m => ∃ (i : Nat) (kk : Int) (xs : List M.Slo) (vs1_0 : List Value) (fl1_0 : List Nat) (G1_2 : List Nat), l = F [(1, .int .i64 kk), (5, .int .i64 (i : Int))] ∧ os = U [some (rowO 49 6 (.slice Aa_0 a.length ca_0) a.length vs1_0 ga_0), some (ownC (lSlot xs) vs1_0 fl1_0), some (anyO G1_2)] ∧ (xs = M.mkd2 M.fS M.sS k a i) ∧ (i ≤ a.length) ∧ (xs.length = a.length) ∧ (kk = k + M.szs M.sS (a.take i)) ∧ (0 ≤ kk) ∧ (kk ≤ 46000000) ∧ m = a.length - i) ⟨0, k, a, _, _, _, rfl, rfl, by exact M.mkd2_zero _ _ k a, zt, by rfl, by simp [M.szs], zt, zt, rfl⟩ ?_
 rintro _ _ u1 _ ⟨i, kk, xs, vs1_0, fl1_0, G1_2, rfl, rfl, hX, hi, hl, hkk, hk0, hk1, rfl⟩ x1
 refine zn ?_
 refine Js.seq <| zS <| Qm rfl <| Qm rfl <| Qz rfl <| Ql rfl rfl <| JL.nil ?_
 refine zi (fun h2 h2' => ?_) fun h2 h2' => ?_
 ·
  have hxi : i < xs.length := by have := h2'; omega
  have hya9 := M.mkd2_get M.fS M.sS (k := k) (by rw [← hX]; exact M.slo_get hxi)
  have hyl9 := M.totM_mem (List.mem_of_getElem? hya9)
  have hsq9 : M.sS (M.slo xs i) = ((M.slo xs i).pits.length : Int) + 5 := rfl
  have hst9 := M.szs_step M.sS _ _ _ hya9
  have hsl9 := M.szs_S_take a (i + 1)
  have hq9 : xs.set i (M.fS kk (M.slo xs i)) = M.mkd2 M.fS M.sS k a (i + 1) := by have h7 := M.mkd2_step M.fS M.sS (k := k) hya9; rw [← hX, ← hkk] at h7; exact h7
  refine Js.skip <| Js.seq <| Js.block <| zS <| Qm rfl <| Qm rfl <| Qm rfl <| Qq (p_rem rfl rfl (by omega) (Int.tmod_eq_emod_of_nonneg (by omega))) <| Qe rfl rfl ?_
  refine JL.fact (row_some (i := 0) rfl (by omega)) (fun hf4 => ?_)
  obtain ⟨b4, rfl⟩ := hf4
  have hy3 : xs[i]? = some (M.slo xs i) := M.slo_get len_
  refine JL.fact (fun w hw => elemv_Slot (Mem.ownC (i := 1) rfl w hw) hy3) (fun hf3 => ?_)
  obtain ⟨A3_1, c3_1, he3, bl3_1, bh3_1⟩ := hf3
  refine Qq (p_indexAddr el_26 rfl rfl (by omega) (by omega) rfl) <| Qf fh rfl ?_
  refine JL.fact (fun w hw => elem_in cSlot (m := 6) (k := i) (xs := xs) (fun _ => rfl) (Mem.ownC (i := 1) rfl w hw) (by omega)) (fun hl5 => ?_)
  refine JL.ex3 (fun w hw => St.elemS cSlot (m := 6) (i := 1) (xs := xs) (fun _ => rfl) rfl hy3 he3 hw) (fun f5_1 f5_2 f5_3 => ?_)
  refine JL.unp 0 ?_
  refine znl ?_
  refine JL.s (e_storeRow (i := 3) (xs' := setL vs1_0 (0 + i * 6) [.bool (decide (kk % 3 = 0)), .slice A3_1 (((M.slo xs i).pits).length) c3_1, .int .i64 ((M.slo xs i).player), .int .i64 ((M.slo xs i).depth), .int .i64 ((M.slo xs i).value), .int .i64 ((M.slo xs i).bound)]) ty_4.h rfl rfl rfl rfl rfl rfl (by omega) (setL_at (j := 0) he3 (by decide) hl5 rfl)) ?_
  rintro _ _ _ ⟨rfl, rfl⟩ _
  refine znl ?_
  refine zN <| Qm rfl <| Qp rfl rfl <| Qa rfl <| zN <| Qm rfl <| Qm rfl <| Qq (p_indexAddr el_26 rfl rfl (by omega) (by omega) rfl) <| Qf fh rfl <| Qw (q_load1 ty_29.h rfl (fun w hw => (Mem.rowR' (i := 3) rfl (setL_get (c := [.bool (decide (kk % 3 = 0)), .slice A3_1 (((M.slo xs i).pits).length) c3_1, .int .i64 ((M.slo xs i).player), .int .i64 ((M.slo xs i).depth), .int .i64 ((M.slo xs i).value), .int .i64 ((M.slo xs i).bound)]) (m := 6) rfl hl5) w hw) 1 _ rfl)) <| Qm rfl <| zBB 1 sp_ rfl (fun w hb _ hw => c_laws_markInt64S ((M.slo xs i).pits) (kk + 1) hb) ?_
  rintro _ _ G7 ⟨rfl, rfl⟩
  refine znl ?_
  refine Qa rfl <| zN <| Qm rfl <| Qm rfl <| Qm rfl <| Qq (p_indexAddr el_26 rfl rfl (by omega) (by omega) rfl) <| Qf fh rfl ?_
  refine JL.s (e_storeRow (i := 4) (xs' := setL vs1_0 (0 + i * 6) [.bool (decide (kk % 3 = 0)), .slice A3_1 (((M.slo xs i).pits).length) c3_1, .int .i64 ((kk + 1) + (((M.slo xs i).pits).length : Int)), .int .i64 ((M.slo xs i).depth), .int .i64 ((M.slo xs i).value), .int .i64 ((M.slo xs i).bound)]) ty_2.h rfl rfl rfl rfl rfl rfl (by rw [setL_len hl5]; omega) ((setL_at (j := 2) (setL_get (c := [.bool (decide (kk % 3 = 0)), .slice A3_1 (((M.slo xs i).pits).length) c3_1, .int .i64 ((M.slo xs i).player), .int .i64 ((M.slo xs i).depth), .int .i64 ((M.slo xs i).value), .int .i64 ((M.slo xs i).bound)]) (m := 6) rfl hl5) (by decide) (by rw [setL_len hl5]; exact hl5) rfl).trans (setL_twice rfl hl5))) ?_
  rintro _ _ _ ⟨rfl, rfl⟩ _
  refine znl ?_
  refine zN <| Qm rfl <| Qp rfl rfl <| Qa rfl <| zN <| Qm rfl <| Qm rfl <| Qm rfl <| Qq (p_indexAddr el_26 rfl rfl (by omega) (by omega) rfl) <| Qf fh rfl ?_
  refine JL.s (e_storeRow (i := 4) (xs' := setL vs1_0 (0 + i * 6) [.bool (decide (kk % 3 = 0)), .slice A3_1 (((M.slo xs i).pits).length) c3_1, .int .i64 ((kk + 1) + (((M.slo xs i).pits).length : Int)), .int .i64 (((kk + 1) + (((M.slo xs i).pits).length : Int)) + 1), .int .i64 ((M.slo xs i).value), .int .i64 ((M.slo xs i).bound)]) ty_2.h rfl rfl rfl rfl rfl rfl (by rw [setL_len hl5]; omega) ((setL_at (j := 3) (setL_get (c := [.bool (decide (kk % 3 = 0)), .slice A3_1 (((M.slo xs i).pits).length) c3_1, .int .i64 ((kk + 1) + (((M.slo xs i).pits).length : Int)), .int .i64 ((M.slo xs i).depth), .int .i64 ((M.slo xs i).value), .int .i64 ((M.slo xs i).bound)]) (m := 6) rfl hl5) (by decide) (by rw [setL_len hl5]; exact hl5) rfl).trans (setL_twice rfl hl5))) ?_
  rintro _ _ _ ⟨rfl, rfl⟩ _
  refine znl ?_
  refine zN <| Qm rfl <| Qp rfl rfl <| Qa rfl <| zN <| Qm rfl <| Qm rfl <| Qm rfl <| Qq (p_indexAddr el_26 rfl rfl (by omega) (by omega) rfl) <| Qf fh rfl ?_
  refine JL.s (e_storeRow (i := 4) (xs' := setL vs1_0 (0 + i * 6) [.bool (decide (kk % 3 = 0)), .slice A3_1 (((M.slo xs i).pits).length) c3_1, .int .i64 ((kk + 1) + (((M.slo xs i).pits).length : Int)), .int .i64 (((kk + 1) + (((M.slo xs i).pits).length : Int)) + 1), .int .i64 ((((kk + 1) + (((M.slo xs i).pits).length : Int)) + 1) + 1), .int .i64 ((M.slo xs i).bound)]) ty_2.h rfl rfl rfl rfl rfl rfl (by rw [setL_len hl5]; omega) ((setL_at (j := 4) (setL_get (c := [.bool (decide (kk % 3 = 0)), .slice A3_1 (((M.slo xs i).pits).length) c3_1, .int .i64 ((kk + 1) + (((M.slo xs i).pits).length : Int)), .int .i64 (((kk + 1) + (((M.slo xs i).pits).length : Int)) + 1), .int .i64 ((M.slo xs i).value), .int .i64 ((M.slo xs i).bound)]) (m := 6) rfl hl5) (by decide) (by rw [setL_len hl5]; exact hl5) rfl).trans (setL_twice rfl hl5))) ?_
  rintro _ _ _ ⟨rfl, rfl⟩ _
  refine znl ?_
  refine zN <| Qm rfl <| Qp rfl rfl <| Qa rfl <| zN <| Qm rfl <| Qm rfl <| Qm rfl <| Qq (p_indexAddr el_26 rfl rfl (by omega) (by omega) rfl) <| Qf fh rfl ?_
  refine JL.s (e_storeRow (i := 4) (xs' := setL vs1_0 (0 + i * 6) [.bool (decide (kk % 3 = 0)), .slice A3_1 (((M.slo xs i).pits).length) c3_1, .int .i64 ((kk + 1) + (((M.slo xs i).pits).length : Int)), .int .i64 (((kk + 1) + (((M.slo xs i).pits).length : Int)) + 1), .int .i64 ((((kk + 1) + (((M.slo xs i).pits).length : Int)) + 1) + 1), .int .i64 (((((kk + 1) + (((M.slo xs i).pits).length : Int)) + 1) + 1) + 1)]) ty_2.h rfl rfl rfl rfl rfl rfl (by rw [setL_len hl5]; omega) ((setL_at (j := 5) (setL_get (c := [.bool (decide (kk % 3 = 0)), .slice A3_1 (((M.slo xs i).pits).length) c3_1, .int .i64 ((kk + 1) + (((M.slo xs i).pits).length : Int)), .int .i64 (((kk + 1) + (((M.slo xs i).pits).length : Int)) + 1), .int .i64 ((((kk + 1) + (((M.slo xs i).pits).length : Int)) + 1) + 1), .int .i64 ((M.slo xs i).bound)]) (m := 6) rfl hl5) (by decide) (by rw [setL_len hl5]; exact hl5) rfl).trans (setL_twice rfl hl5))) ?_
  rintro _ _ _ ⟨rfl, rfl⟩ _
  refine znl ?_
  refine zG <| Qm rfl <| Qp rfl rfl <| Qa rfl <| JL.nil <| Js.blockEnd <| Js.region <| Qm rfl <| Qp rfl rfl <| Qa rfl <| JL.nil ?_
  refine Js.pk (cSlot (M.Slo.mk (decide (kk % 3 = 0)) (M.up (kk + 1) ((M.slo xs i).pits).length) ((kk + 1) + (((M.slo xs i).pits).length : Int)) (((kk + 1) + (((M.slo xs i).pits).length : Int)) + 1) ((((kk + 1) + (((M.slo xs i).pits).length : Int)) + 1) + 1) (((((kk + 1) + (((M.slo xs i).pits).length : Int)) + 1) + 1) + 1))) [.bool (decide (kk % 3 = 0)), .slice A3_1 (((M.slo xs i).pits).length) c3_1, .int .i64 ((kk + 1) + (((M.slo xs i).pits).length : Int)), .int .i64 (((kk + 1) + (((M.slo xs i).pits).length : Int)) + 1), .int .i64 ((((kk + 1) + (((M.slo xs i).pits).length : Int)) + 1) + 1), .int .i64 (((((kk + 1) + (((M.slo xs i).pits).length : Int)) + 1) + 1) + 1)] (fun f13 G13 => ?_)
  refine Js.front (i := 3) rfl ?_
  refine zn ?_
  refine Js.front (i := 1) rfl ?_
  refine zn ?_
  refine Js.front (i := 4) rfl ?_
  refine zn ?_
  refine Js.conv (fun w hw => St.closeE cSlot (k := i) (m := 6) (xs := xs) (y := (M.Slo.mk (decide (kk % 3 = 0)) (M.up (kk + 1) ((M.slo xs i).pits).length) ((kk + 1) + (((M.slo xs i).pits).length : Int)) (((kk + 1) + (((M.slo xs i).pits).length : Int)) + 1) ((((kk + 1) + (((M.slo xs i).pits).length : Int)) + 1) + 1) (((((kk + 1) + (((M.slo xs i).pits).length : Int)) + 1) + 1) + 1))) (vs := vs1_0) (vs' := (setL vs1_0 (0 + i * 6) [.bool (decide (kk % 3 = 0)), .slice A3_1 (((M.slo xs i).pits).length) c3_1, .int .i64 ((kk + 1) + (((M.slo xs i).pits).length : Int)), .int .i64 (((kk + 1) + (((M.slo xs i).pits).length : Int)) + 1), .int .i64 ((((kk + 1) + (((M.slo xs i).pits).length : Int)) + 1) + 1), .int .i64 (((((kk + 1) + (((M.slo xs i).pits).length : Int)) + 1) + 1) + 1)])) (by omega) rfl rfl hw) ?_
  refine zn ?_
  refine zf [3, 0] fun GG14 => ?_
  refine zn ?_
  exact zag ⟨i + 1, (((((kk + 1) + (((M.slo xs i).pits).length : Int)) + 1) + 1) + 1) + 1, xs.set i (M.Slo.mk (decide (kk % 3 = 0)) (M.up (kk + 1) ((M.slo xs i).pits).length) ((kk + 1) + (((M.slo xs i).pits).length : Int)) (((kk + 1) + (((M.slo xs i).pits).length : Int)) + 1) ((((kk + 1) + (((M.slo xs i).pits).length : Int)) + 1) + 1) (((((kk + 1) + (((M.slo xs i).pits).length : Int)) + 1) + 1) + 1)), _, _, _, rfl, rfl, by exact hq9, zt, by rw [List.length_set]; exact hl, by omega, by omega, by omega, rfl⟩ x1
 have hi2 : i = a.length := by have := h2'; omega
 have hM : M.mkL M.fS M.sS k a = xs := by rw [hX]; exact (M.mkd2_end _ _ hi2).symm
 have hN : kk = k + M.szs M.sS a := by rw [hkk, List.take_of_length_le (by omega)]
 refine zx ?_
 refine zS <| Qm rfl <| Qa rfl <| JL.nil ?_
 refine zrb [0, 0] hb x1 ?_
 have hE : (.int .i64 kk : Value) = .int .i64 (k + M.szs M.sS a) := by first | exact hM | (rw [hN]; rfl) | (refine congrArg (Value.int .i64) ?_; omega)
 have hE1 : M.mkL M.fS M.sS k a = xs := by first | exact hM | (rw [hN]; rfl) | (refine congrArg (Value.int .i64) ?_; omega)
 refine ⟨vs1_0, fl1_0, hE, ?_⟩
 · rw [hE1]
theorem c_laws_heldSlotS (a : List M.Slo) {v_a : Value} (k : Int) {w : World} (h_a : (Ty.sl 49 6 a.length (lSlot a)).ok w v_a) (r0 : a.length ≤ 4194304 := by exact om_) (r1 : M.totM a ≤ 4194304 := by exact om_) (r2 : 0 ≤ k := by exact om_) (r3 : k ≤ 20000000 := by exact om_) : RetV Tryz.prog 84 [v_a, .int .i64 k] w (.int .i64 (M.heldL M.hS k a)) := by
 revert v_a; apply opn
 intro A1 c1 h1 bl1 bh1
 have h_a := h1
 refine enter @Tryz.func84 @Tryz.ntmps84 rfl rfl ?_
 refine zent ?_
 refine zS <| Qa rfl <| zJ <| zS <| Qa rfl <| JL.nil <| Js.block ?_
 refine zl [0] (fun F U l os u m => ∃ (i : Nat) (kk : Int), l = F [(1, .int .i64 kk), (5, .int .i64 (i : Int))] ∧ os = U [] ∧ (M.heldL M.hS kk (a.drop i) = M.heldL M.hS k a) ∧ (i ≤ a.length) ∧ (0 ≤ kk) ∧ (kk ≤ k + (M.totM (a.take i) : Int) + 5 * (i : Int)) ∧ m = a.length - i) ⟨0, k, rfl, rfl, by rfl, zt, zt, by simp [M.totM], rfl⟩ ?_
 rintro _ _ u2 _ ⟨i, kk, rfl, rfl, hS, hi, hk0, hk1, rfl⟩ x2
 refine zn ?_
 refine Js.seq <| zS <| Qm rfl <| Qm rfl <| Qz rfl <| Ql rfl rfl <| JL.nil ?_
 refine zi (fun h3 h3' => ?_) fun h3 h3' => ?_
 ·
  have hia : i < a.length := by have := h3'; omega
  have hY := M.slo_get hia
  have hyl9 := M.totM_mem (List.mem_of_getElem? hY)
  have t1 := M.totM_step hia
  have t2 := M.totM_le' a i
  have t3 := M.totM_le' a (i + 1)
  have hb1 := M.held_bd (M.slo a i).pits (k := kk + 1) (by omega)
  have hy4 : a[i]? = some (M.slo a i) := M.slo_get (by omega)
  obtain ⟨b4, o4, A4_1, c4_1, he4, hr4, h4_1, bl4_1, bh4_1⟩ := elem_Slot (Ty.mono _ h1 x2.vis) hy4
  refine Js.skip <| Js.seq <| Js.block <| Js.seq <| zS <| Qm rfl <| Qm rfl <| Qq (p_indexAddr el_26 rfl rfl (by omega) (by omega) he4) <| Qf fh rfl <| QC (hr4 0 _ rfl) rfl <| Qm rfl <| Qq (p_rem rfl rfl (by omega) (Int.tmod_eq_emod_of_nonneg (by omega))) <| Qe rfl rfl <| Qq (p_neqB und_4 rfl rfl) ?_
  refine JL.nil ?_
  refine zi (fun h5 h5' => ?_) fun h5 h5' => ?_
  ·
   have hE := M.heldL_no M.hS hS hY (by rw [M.hS_1 (by simpa using h5)]; decide)
   refine zS <| Qa rfl <| JL.nil ?_
   refine zR x2 ?_
   first | (rw [hE]; rfl)
  have q1 : (M.slo a i).used = decide (kk % 3 = 0) := by simpa using h5
  have hy6 : a[i]? = some (M.slo a i) := M.slo_get (by omega)
  obtain ⟨b6, o6, A6_1, c6_1, he6, hr6, h6_1, bl6_1, bh6_1⟩ := elem_Slot (Ty.mono _ h1 x2.vis) hy6
  refine Js.skip <| zS <| Qm rfl <| Qp rfl rfl <| Qa rfl <| zN <| Qm rfl <| Qm rfl <| Qq (p_indexAddr el_26 rfl rfl (by omega) (by omega) he6) <| Qf fh rfl <| QC (hr6 1 _ rfl) rfl <| Qm rfl <| zv rfl (fun w hw => c_laws_heldInt64S ((M.slo a i).pits) (kk + 1) (ok_ hw)) <| Qa rfl ?_
  refine zJ <| zS <| Qm rfl <| Ql rfl rfl <| JL.nil ?_
  refine zi (fun h7 h7' => ?_) fun h7 h7' => ?_
  ·
   have hE := M.heldL_no M.hS hS hY (by rw [M.hS_2 q1 (by have := h7'; omega)]; decide)
   refine zS <| Qa rfl <| JL.nil ?_
   refine zR x2 ?_
   first | (rw [hE]; rfl)
  have q2 : ¬ M.held (M.slo a i).pits (kk + 1) < 0 := by have := h7'; omega
  have hy8 : a[i]? = some (M.slo a i) := M.slo_get (by omega)
  obtain ⟨b8, o8, A8_1, c8_1, he8, hr8, h8_1, bl8_1, bh8_1⟩ := elem_Slot (Ty.mono _ h1 x2.vis) hy8
  refine Js.skip <| Js.seq <| zS <| Qm rfl <| Qm rfl <| Qq (p_indexAddr el_26 rfl rfl (by omega) (by omega) he8) <| Qf fh rfl <| QC (hr8 2 _ rfl) rfl <| Qm rfl <| Qd rfl rfl <| JL.nil ?_
  refine zi (fun h9 h9' => ?_) fun h9 h9' => ?_
  ·
   have hE := M.heldL_no M.hS hS hY (by rw [M.hS_3 q1 q2 (by simpa using h9)]; decide)
   refine zS <| Qa rfl <| JL.nil ?_
   refine zR x2 ?_
   first | (rw [hE]; rfl)
  have q3 : (M.slo a i).player = M.held (M.slo a i).pits (kk + 1) := by simpa using h9
  have hy10 : a[i]? = some (M.slo a i) := M.slo_get (by omega)
  obtain ⟨b10, o10, A10_1, c10_1, he10, hr10, h10_1, bl10_1, bh10_1⟩ := elem_Slot (Ty.mono _ h1 x2.vis) hy10
  refine Js.skip <| zS <| Qm rfl <| Qp rfl rfl <| Qa rfl <| zJ <| zS <| Qm rfl <| Qm rfl <| Qq (p_indexAddr el_26 rfl rfl (by omega) (by omega) he10) <| Qf fh rfl <| QC (hr10 3 _ rfl) rfl <| Qm rfl <| Qd rfl rfl ?_
  refine JL.nil ?_
  refine zi (fun h11 h11' => ?_) fun h11 h11' => ?_
  ·
   have hE := M.heldL_no M.hS hS hY (by rw [M.hS_4 q1 q2 q3 (by simpa using h11)]; decide)
   refine zS <| Qa rfl <| JL.nil ?_
   refine zR x2 ?_
   first | (rw [hE]; rfl)
  have q4 : (M.slo a i).depth = M.held (M.slo a i).pits (kk + 1) + 1 := by simpa using h11
  have hy12 : a[i]? = some (M.slo a i) := M.slo_get (by omega)
  obtain ⟨b12, o12, A12_1, c12_1, he12, hr12, h12_1, bl12_1, bh12_1⟩ := elem_Slot (Ty.mono _ h1 x2.vis) hy12
  refine Js.skip <| zS <| Qm rfl <| Qp rfl rfl <| Qa rfl <| zJ <| zS <| Qm rfl <| Qm rfl <| Qq (p_indexAddr el_26 rfl rfl (by omega) (by omega) he12) <| Qf fh rfl <| QC (hr12 4 _ rfl) rfl <| Qm rfl <| Qd rfl rfl ?_
  refine JL.nil ?_
  refine zi (fun h13 h13' => ?_) fun h13 h13' => ?_
  ·
   have hE := M.heldL_no M.hS hS hY (by rw [M.hS_5 q1 q2 q3 q4 (by simpa using h13)]; decide)
   refine zS <| Qa rfl <| JL.nil ?_
   refine zR x2 ?_
   first | (rw [hE]; rfl)
  have q5 : (M.slo a i).value = M.held (M.slo a i).pits (kk + 1) + 1 + 1 := by simpa using h13
  have hy14 : a[i]? = some (M.slo a i) := M.slo_get (by omega)
  obtain ⟨b14, o14, A14_1, c14_1, he14, hr14, h14_1, bl14_1, bh14_1⟩ := elem_Slot (Ty.mono _ h1 x2.vis) hy14
  refine Js.skip <| zS <| Qm rfl <| Qp rfl rfl <| Qa rfl <| zJ <| zS <| Qm rfl <| Qm rfl <| Qq (p_indexAddr el_26 rfl rfl (by omega) (by omega) he14) <| Qf fh rfl <| QC (hr14 5 _ rfl) rfl <| Qm rfl <| Qd rfl rfl ?_
  refine JL.nil ?_
  refine zi (fun h15 h15' => ?_) fun h15 h15' => ?_
  ·
   have hE := M.heldL_no M.hS hS hY (by rw [M.hS_6 q1 q2 q3 q4 q5 (by simpa using h15)]; decide)
   refine zS <| Qa rfl <| JL.nil ?_
   refine zR x2 ?_
   first | (rw [hE]; rfl)
  have q6 : (M.slo a i).bound = M.held (M.slo a i).pits (kk + 1) + 1 + 1 + 1 := by simpa using h15
  have q7 := M.hS_0 q1 q2 q3 q4 q5 q6
  have hS2 := M.heldL_step M.hS hS hY (by rw [q7]; omega)
  rw [q7] at hS2
  refine Js.skip <| Js.region <| Qm rfl <| Qp rfl rfl <| Qa rfl <| JL.nil <| Js.blockEnd <| Js.region <| Qm rfl <| Qp rfl rfl <| Qa rfl <| JL.nil ?_
  exact zag ⟨i + 1, ((((M.held ((M.slo a i).pits) (kk + 1)) + 1) + 1) + 1) + 1, rfl, rfl, by exact hS2, zt, zt, zt, rfl⟩ x2
 have hE := M.heldL_end M.hS hS (by have := h3'; omega)
 refine zx ?_
 refine zS <| Qm rfl <| Qa rfl <| JL.nil ?_
 refine zR x2 ?_
 first | (rw [hE]; rfl)
theorem c_laws_markMemory (a_rules : M.Rul) (a_slots : List M.Slo) {Aa_9 : Option Addr} {ca_9 : Nat} {ga_9 : List Nat} {vsa_9 : List Value} {fa_9 : List Nat} (k : Int) {w : World} (hb : Bw w [rowO 49 6 (.slice Aa_9 a_slots.length ca_9) a_slots.length vsa_9 ga_9, ownC (lSlot a_slots) vsa_9 fa_9]) (bd0 : a_slots.length ≤ ca_9 := by exact om_) (bd1 : ca_9 ≤ 9223372036854775807 := by exact om_) (r0 : a_slots.length ≤ 4194304 := by exact om_) (r1 : M.totM a_slots ≤ 4194304 := by exact om_) (r2 : 0 ≤ k := by exact om_) (r3 : k ≤ 20000000 := by exact om_) : RetB Tryz.prog 37 [.agg #[.int .i64 a_rules.pits, .int .i64 a_rules.seeds, .bool a_rules.stores, .bool a_rules.skip, .bool a_rules.relay, .bool a_rules.feed, .bool a_rules.again, .int .i64 a_rules.capture, .int .i64 a_rules.slam, .slice Aa_9 a_slots.length ca_9], .int .i64 k] w [rowO 49 6 (.slice Aa_9 a_slots.length ca_9) a_slots.length vsa_9 ga_9, ownC (lSlot a_slots) vsa_9 fa_9] (fun v bs' => ∃ (vsxa_w0 : List Value) (fxa_w0 : List Nat), v = .int .i64 (k + M.szs M.sS a_slots) ∧ bs' = [rowO 49 6 (.slice Aa_9 a_slots.length ca_9) a_slots.length vsxa_w0 ga_9, ownC (lSlot (M.mkL M.fS M.sS k a_slots)) vsxa_w0 fxa_w0]) := by
 refine enterB hb @Tryz.func37 @Tryz.ntmps37 rfl rfl ?_
 refine zent ?_
 refine Js.trashE ?_
 refine zn ?_
 refine zS <| zb rfl fun b1 => Qa rfl <| zN <| Qf fh rfl <| Q0 0 rfl rfl rfl <| Qm rfl ?_
 refine zhl [1, 1] ?_
 refine zBB 2 sp_ rfl (fun w hb _ hw => c_laws_markSlotS a_slots k hb) ?_
 rintro _ _ G2 ⟨vs2_a, f2_a, rfl, rfl⟩
 refine znl ?_
 refine Qa rfl <| zN <| Qm rfl <| Qa rfl <| JL.nil ?_
 refine zrb [0, 0] hb (Up.refl _ _) ?_
 exact ⟨_, _, rfl, rfl⟩
theorem c_laws_heldMemory (a : M.Mem) {v_a : Value} (k : Int) {w : World} (h_a : (Ty.agg (cMemory a)).ok w v_a) (r0 : a.slots.length ≤ 4194304 := by exact om_) (r1 : M.totM a.slots ≤ 4194304 := by exact om_) (r2 : 0 ≤ k := by exact om_) (r3 : k ≤ 20000000 := by exact om_) : RetV Tryz.prog 39 [v_a, .int .i64 k] w (.int .i64 (M.heldL M.hS k a.slots)) := by
 have hbb := M.heldS_bd a.slots r2
 revert v_a; apply opn
 intro A1 c1 h1 bl1 bh1
 refine enter @Tryz.func39 @Tryz.ntmps39 rfl rfl ?_
 refine zent ?_
 refine zS <| zb rfl fun b2 => Qa rfl <| zN <| Qf fh rfl <| Q0 0 rfl rfl rfl <| Qm rfl <| zv rfl (fun w hw => c_laws_heldSlotS a.slots k (ok_ hw)) <| Qa rfl <| zJ <| zS <| Qm rfl <| Ql rfl rfl <| JL.nil ?_
 refine zi (fun h3 h3' => ?_) fun h3 h3' => ?_
 ·
  have hE : M.heldL M.hS k a.slots = -1 := by have := h3'; omega
  refine zS <| Qa rfl <| JL.nil ?_
  refine zR (Up.refl _ _) ?_
  first | (rw [hE]; rfl) | rfl
 refine Js.skip <| zS <| Qm rfl <| Qa rfl <| JL.nil ?_
 refine zR (Up.refl _ _) ?_
 first | (rw [hE]; rfl) | rfl
theorem c_laws_FnExactSearchWith (aM : M.Mem) {v_aM : Value} (aP : M.Pos) {v_aP : Value} (aDepth : Int) {w : World} (h_aM : (Ty.agg (cMemory aM)).ok w v_aM) (h_aP : (Ty.agg (cPosition aP)).ok w v_aP) : RetV Tryz.prog 5 [v_aM, v_aP, .int .i64 aDepth] w (.bool true) := by
 have q4 := M.szL_cases (aM.slots.length + M.totM aM.slots) 1048576
 have q5 := M.szL_cases (aP.pits.length + aP.stores.length) (M.szL (aM.slots.length + M.totM aM.slots) 1048576)
 change (_ < _ ∧ M.szP aP _ = -1) ∨ (_ ≤ _ ∧ M.szP aP _ = _) at q5
 have z1 := M.szs_S aM.slots
 have z2 := M.szs_S_nn aM.slots
 have z3 := M.szp_nn aP
 have z5 := M.mkL_len M.fS M.sS 1 (M.swM aM aP aDepth).2.2.1.slots
 have z6 := M.totM_mk (M.swM aM aP aDepth).2.2.1.slots 1
 have z7 := M.szs_S (M.swM aM aP aDepth).2.2.1.slots
 have z8 := M.szs_S_nn (M.swM aM aP aDepth).2.2.1.slots
 have z9 := M.swM_tot aM aP aDepth
 revert v_aM; apply opn
 intro A1 c1 h1 bl1 bh1
 revert v_aP; apply opn
 intro A2 c2 h2 bl2 bh2 A3 c3 h3 bl3 bh3
 refine enter @Tryz.func5 @Tryz.ntmps5 rfl rfl ?_
 refine zent ?_
 refine zS <| zb rfl fun b4 => zb rfl fun b5 => Qa rfl <| zN <| Qa rfl <| zN <| Q9 1 rfl rfl ?_
 refine Qm rfl <| zv rfl (fun w hw => c_laws_szMemory aM 1048576 (ok_ hw)) <| Qa rfl <| zJ <| zS <| Qm rfl <| Ql rfl rfl <| JL.nil ?_
 refine zi (fun h6 h6' => ?_) fun h6 h6' => ?_
 ·
  refine zS <| Qa rfl <| JL.nil ?_
  exact zr (Up.refl _ _)
 refine Js.skip <| zS <| Q9 0 rfl rfl ?_
 refine Qm rfl <| zv rfl (fun w hw => c_laws_szPosition aP (M.szL (aM.slots.length + M.totM aM.slots) 1048576) (ok_ hw)) <| Qa rfl <| zJ <| zS <| Qm rfl <| Ql rfl rfl <| JL.nil ?_
 refine zi (fun h7 h7' => ?_) fun h7 h7' => ?_
 ·
  refine zS <| Qa rfl <| JL.nil ?_
  exact zr (Up.refl _ _)
 refine Js.skip <| Js.seq ?_
 refine zk [2, 3, 4] (fun F U l os u => ∃ (b15 : Nat) (A14 : Option Addr) (c14 : Nat), l = F [(8, .int .i64 ((M.swM aM aP aDepth).1)), (9, .int .i64 ((M.swM aM aP aDepth).2.1)), (10, .pointer (some ⟨b15, 0, none⟩)), (11, .int .i64 ((M.swM aM aP aDepth).2.2.2))] ∧ os = [boxO b15 [.int .i64 ((((M.swM aM aP aDepth).2.2.1).rules).pits), .int .i64 ((((M.swM aM aP aDepth).2.2.1).rules).seeds), .bool ((((M.swM aM aP aDepth).2.2.1).rules).stores), .bool ((((M.swM aM aP aDepth).2.2.1).rules).skip), .bool ((((M.swM aM aP aDepth).2.2.1).rules).relay), .bool ((((M.swM aM aP aDepth).2.2.1).rules).feed), .bool ((((M.swM aM aP aDepth).2.2.1).rules).again), .int .i64 ((((M.swM aM aP aDepth).2.2.1).rules).capture), .int .i64 ((((M.swM aM aP aDepth).2.2.1).rules).slam), .slice A14 ((((M.swM aM aP aDepth).2.2.1).slots).length) c14] 28] ++ U [] ∧ ((((M.swM aM aP aDepth).2.2.1).slots).length ≤ c14) ∧ (c14 ≤ 9223372036854775807) ∧ ((Ty.sl 49 6 (((M.swM aM aP aDepth).2.2.1).slots).length (lSlot (((M.swM aM aP aDepth).2.2.1).slots))).ok u (.slice A14 ((((M.swM aM aP aDepth).2.2.1).slots).length) c14))) ?_ ?_
 ·
  refine zdr [14] ?_
  refine JH.q 0 rfl (L9 1 rfl rfl) ?_
  refine JH.q 2 rfl (L9 0 rfl rfl) ?_
  refine jM 4 rfl rfl ?_
  refine y2 1 11 ?_ ?_
  ·
   refine yp rfl rfl (fun w hw => c_laws_toMemory aM (ok_ hw) (r1 := (M.totM_small (n := 4194304) (by omega)))) ?_
   intro u34 x34 A35 c35 h35 bl35 bh35
   refine y2 3 11 ?_ ?_
   ·
    refine yp rfl rfl (fun w hw => c_laws_toPosition aP (ok_ hw)) ?_
    intro u36 x36 A37 c37 h37 bl37 bh37 A38 c38 h38 bl38 bh38
    refine y2 5 11 ?_ ?_
    ·
     refine yp rfl rfl (fun w hw => c_spec_SearchWith aM aP aDepth (ok_ hw) (ok_ hw) (r1 := (M.totM_small (n := 4194304) (by omega)))) ?_
     intro u39 x39 A40 c40 h40 bl40 bh40
     refine jM 6 rfl rfl ?_
     refine JH.p 7 rfl (p_extract rfl rfl) ?_
     refine JH.p 8 rfl (p_extract rfl rfl) ?_
     refine JH.p 9 rfl (p_extract rfl rfl) ?_
     refine JH.p 10 rfl (p_extract rfl rfl) ?_
     refine y1 11 ?_
     refine ya rfl fun b41 => ?_
     refine jA 12 rfl rfl ?_
     refine jA 13 rfl rfl ?_
     refine y1 14 ?_
     refine yst rfl rfl rfl ?_
     refine jA 15 rfl rfl ?_
     refine yd ?_
     exact zm ⟨_, _, _, rfl, rfl, zt, zt, h40⟩ ((x34.trans x36).trans x39)
    refine ya rfl fun b42 => ?_
    refine y1 5 ?_
    refine yp rfl rfl (fun w hw => c_spec_SearchWith aM aP aDepth (ok_ hw) (ok_ hw) (r1 := (M.totM_small (n := 4194304) (by omega)))) ?_
    intro u43 x43 A44 c44 h44 bl44 bh44
    refine jM 6 rfl rfl ?_
    refine JH.p 7 rfl (p_extract rfl rfl) ?_
    refine JH.p 8 rfl (p_extract rfl rfl) ?_
    refine JH.p 9 rfl (p_extract rfl rfl) ?_
    refine JH.p 10 rfl (p_extract rfl rfl) ?_
    refine jA 12 rfl rfl ?_
    refine jA 13 rfl rfl ?_
    refine y1 14 ?_
    refine yst rfl rfl rfl ?_
    refine jA 15 rfl rfl ?_
    refine yd ?_
    exact zm ⟨_, _, _, rfl, rfl, zt, zt, h44⟩ ((x34.trans x36).trans x43)
   refine ya rfl fun b45 => ?_
   refine y1 3 ?_
   refine yp rfl rfl (fun w hw => c_laws_toPosition aP (ok_ hw)) ?_
   intro u46 x46 A47 c47 h47 bl47 bh47 A48 c48 h48 bl48 bh48
   refine y1 5 ?_
   refine yp rfl rfl (fun w hw => c_spec_SearchWith aM aP aDepth (ok_ hw) (ok_ hw) (r1 := (M.totM_small (n := 4194304) (by omega)))) ?_
   intro u49 x49 A50 c50 h50 bl50 bh50
   refine jM 6 rfl rfl ?_
   refine JH.p 7 rfl (p_extract rfl rfl) ?_
   refine JH.p 8 rfl (p_extract rfl rfl) ?_
   refine JH.p 9 rfl (p_extract rfl rfl) ?_
   refine JH.p 10 rfl (p_extract rfl rfl) ?_
   refine jA 12 rfl rfl ?_
   refine jA 13 rfl rfl ?_
   refine y1 14 ?_
   refine yst rfl rfl rfl ?_
   refine jA 15 rfl rfl ?_
   refine yd ?_
   exact zm ⟨_, _, _, rfl, rfl, zt, zt, h50⟩ ((x34.trans x46).trans x49)
  refine ya rfl fun b51 => ?_
  refine y1 1 ?_
  refine yp rfl rfl (fun w hw => c_laws_toMemory aM (ok_ hw) (r1 := (M.totM_small (n := 4194304) (by omega)))) ?_
  intro u52 x52 A53 c53 h53 bl53 bh53
  refine y1 3 ?_
  refine yp rfl rfl (fun w hw => c_laws_toPosition aP (ok_ hw)) ?_
  intro u54 x54 A55 c55 h55 bl55 bh55 A56 c56 h56 bl56 bh56
  refine y1 5 ?_
  refine yp rfl rfl (fun w hw => c_spec_SearchWith aM aP aDepth (ok_ hw) (ok_ hw) (r1 := (M.totM_small (n := 4194304) (by omega)))) ?_
  intro u57 x57 A58 c58 h58 bl58 bh58
  refine jM 6 rfl rfl ?_
  refine JH.p 7 rfl (p_extract rfl rfl) ?_
  refine JH.p 8 rfl (p_extract rfl rfl) ?_
  refine JH.p 9 rfl (p_extract rfl rfl) ?_
  refine JH.p 10 rfl (p_extract rfl rfl) ?_
  refine jA 12 rfl rfl ?_
  refine jA 13 rfl rfl ?_
  refine y1 14 ?_
  refine yst rfl rfl rfl ?_
  refine jA 15 rfl rfl ?_
  refine yd ?_
  exact zm ⟨_, _, _, rfl, rfl, zt, zt, h58⟩ ((x52.trans x54).trans x57)
 rintro _ _ u33 ⟨b15, A14, c14, rfl, rfl, f33_0, f33_1, f33_2⟩ x33
 refine zn ?_
 refine zS <| Q9 2 rfl rfl ?_
 refine zc rfl (fun w hw => c_laws_toMemory aM (ok_ hw) (r1 := (M.totM_small (n := 4194304) (by omega)))) ?_
 intro A60 c60 vs60 f60 bl60 bh60
 refine za zeh fun b61 => zw 0 rfl rfl rfl ?_
 refine zN <| Q9 4 rfl rfl ?_
 refine zc rfl (fun w hw => c_laws_toPosition aP (ok_ hw)) ?_
 intro A63 c63 bl63 bh63 A64 c64 bl64 bh64
 refine za zeh fun b65 => zw 0 rfl rfl rfl ?_
 refine zN <| Q9 3 rfl rfl ?_
 refine Q9 0 rfl rfl ?_
 refine Qm rfl <| zc rfl (fun w hw => c_impl_SearchWith aM aP aDepth (by exact ⟨_, rfl, ⟨rfl, rfl, rfl, rfl, rfl, rfl, rfl, rfl, rfl, (srow_ok lSlot (xs := aM.slots) (hw.pr (i := 4) rfl) (hw.pr (i := 5) rfl) (lSlot_length _)), trivial⟩⟩) (ok_ hw) (r1 := (M.totM_small (n := 4194304) (by omega)))) ?_
 intro A68 c68 vs68 f68 bl68 bh68
 refine Qm rfl <| Qx rfl rfl <| Qx rfl rfl <| Qx rfl rfl <| Qx rfl rfl <| za zeh fun b69 => Qa rfl <| Qa rfl <| zw 0 rfl rfl rfl ?_
 refine Qa rfl <| zJ <| zS <| Qm rfl <| Qm rfl <| Qd rfl rfl <| Qm rfl <| zg (Gd.f1 rfl rfl rfl) (fun hc => p_move rfl) <| zg (Gd.f1 rfl rfl rfl) (fun hc => p_move rfl) <| zg (Gd.f1 rfl rfl rfl) (fun hc => p_neq (gh hc rfl) (gh hc rfl)) <| Qq (p_pickOr rfl rfl rfl) <| Qm rfl <| zgq (Gd.f1 rfl rfl rfl) (fun hc => L9 0 rfl rfl) <| zgq (Gd.f1 rfl rfl rfl) (fun hc => L9 9 rfl rfl) ?_
 refine zgv (Gd.f1 rfl rfl rfl) (fun hc => (opds_2 (gh hc rfl) (gh hc rfl))) (fun hc => (fun w hw => c_laws_eqMemory ((M.swM aM aP aDepth).2.2.1) ((M.swM aM aP aDepth).2.2.1) (by exact ⟨_, rfl, ⟨rfl, rfl, rfl, rfl, rfl, rfl, rfl, rfl, rfl, (srow_ok lSlot (xs := (((M.swM aM aP aDepth).2.2.1).slots)) (hw.pr (i := 1) rfl) (hw.pr (i := 2) rfl) (lSlot_length _)), trivial⟩⟩) (ok_ hw) (r0 := (by have hc9 := hc; (try simp only [Bool.not_eq_true', Bool.or_eq_false_iff, Bool.not_eq_false', decide_eq_true_eq] at hc9); omega)) (r1 := (M.totM_small (n := 4194304) (by omega))) (r2 := (by have hc9 := hc; (try simp only [Bool.not_eq_true', Bool.or_eq_false_iff, Bool.not_eq_false', decide_eq_true_eq] at hc9); omega)) (r3 := (M.totM_small (n := 4194304) (by omega))))) ?_
 refine zg (Gd.f1 rfl rfl rfl) (fun hc => p_not (gh hc rfl)) <| Qq (p_pickOr rfl rfl rfl) <| Qm rfl <| zg (Gd.f1 rfl rfl rfl) (fun hc => p_move rfl) <| zg (Gd.f1 rfl rfl rfl) (fun hc => p_move rfl) <| zg (Gd.f1 rfl rfl rfl) (fun hc => p_neq (gh hc rfl) (gh hc rfl)) <| Qq (p_pickOr rfl rfl rfl) <| JL.nil ?_
 refine zi (fun h70 h70' => ?_) fun h70 h70' => ?_
 · exact absurd h70 (by simp)
 refine Js.skip <| Js.seq <| Js.seq ?_
 refine zdr [] ?_
 refine JH.q 0 rfl (L9 6 rfl rfl) ?_
 refine JH.q 1 rfl (L9 11 rfl rfl) ?_
 refine y1 2 ?_
 refine yp rfl rfl (fun w hw => c_laws_toMemory aM (ok_ hw) (r1 := (M.totM_small (n := 4194304) (by omega)))) ?_
 intro u71 x71 A72 c72 h72 bl72 bh72
 refine y1 3 ?_
 refine yv rfl rfl (fun w hw => c_laws_eqMemory aM aM (by exact ⟨_, rfl, ⟨rfl, rfl, rfl, rfl, rfl, rfl, rfl, rfl, rfl, (srow_ok lSlot (xs := aM.slots) (hw.pr (i := 7) rfl) (hw.pr (i := 8) rfl) (lSlot_length _)), trivial⟩⟩) (ok_ hw) (r1 := (M.totM_small (n := 4194304) (by omega))) (r3 := (M.totM_small (n := 4194304) (by omega)))) ?_
 refine JH.p 4 rfl (p_not rfl) ?_
 refine yd ?_
 refine zi (fun h73 h73' => ?_) fun h73 h73' => ?_
 · exact absurd h73 (by simp)
 refine Js.skip <| Js.seq <| Js.seq ?_
 refine zdr [] ?_
 refine JH.q 0 rfl (L9 3 rfl rfl) ?_
 refine JH.q 1 rfl (L9 10 rfl rfl) ?_
 refine y1 2 ?_
 refine yp rfl rfl (fun w hw => c_laws_toPosition aP (ok_ hw)) ?_
 intro u74 x74 A75 c75 h75 bl75 bh75 A76 c76 h76 bl76 bh76
 refine y1 3 ?_
 refine yv rfl rfl (fun w hw => c_laws_eqPosition aP aP (ok_ hw) (ok_ hw)) ?_
 refine JH.p 4 rfl (p_not rfl) ?_
 refine yd ?_
 refine zi (fun h77 h77' => ?_) fun h77 h77' => ?_
 · exact absurd h77 (by simp)
 refine Js.skip <| zS <| Qa rfl <| zN <| Q9 6 rfl rfl ?_
 refine Qm rfl ?_
 refine zhl [7, 7] ?_
 refine zB 2 sp_ rfl (fun w hb hw => c_laws_markMemory aM.rules aM.slots 1 hb) ?_
 rintro _ _ G78 ⟨vs78a_w0, f78a_w0, rfl, rfl⟩
 refine znl ?_
 refine Qa rfl <| zN <| Q9 6 rfl rfl ?_
 refine Qm rfl ?_
 refine zhl [8, 7] ?_
 refine zB 2 sp_ rfl (fun w hb hw => c_laws_markPosition aP.pits aP.stores aP.player (1 + M.szs M.sS aM.slots) hb) ?_
 rintro _ _ G79 ⟨rfl, rfl⟩
 refine znl ?_
 refine Qa rfl <| zJ <| zS <| Qm rfl <| Ql rfl rfl <| Qm rfl <| zg (Gd.f1 rfl rfl rfl) (fun hc => p_move rfl) <| zg (Gd.f1 rfl rfl rfl) (fun hc => p_move rfl) <| zg (Gd.f1 rfl rfl rfl) (fun hc => p_neq (gh hc rfl) (gh hc rfl)) <| Qq (p_pickOr rfl rfl rfl) <| Qm rfl <| zg (Gd.f1 rfl rfl rfl) (fun hc => p_move rfl) <| zg (Gd.f1 rfl rfl rfl) (fun hc => p_move rfl) <| zg (Gd.f1 rfl rfl rfl) (fun hc => p_neq (gh hc rfl) (gh hc rfl)) ?_
 refine Qq (p_pickOr rfl rfl rfl) <| Qm rfl <| zgq (Gd.f1 rfl rfl rfl) (fun hc => L9 6 rfl rfl) <| zgq (Gd.f1 rfl rfl rfl) (fun hc => L9 11 rfl rfl) <| zgv (Gd.f1 rfl rfl rfl) (fun hc => (opds_2 (gh hc rfl) (gh hc rfl))) (fun hc => (fun w hw => c_laws_eqMemory ((M.swM aM aP aDepth).2.2.1) ((M.swM aM aP aDepth).2.2.1) (by exact ⟨_, rfl, ⟨rfl, rfl, rfl, rfl, rfl, rfl, rfl, rfl, rfl, (srow_ok lSlot (xs := (((M.swM aM aP aDepth).2.2.1).slots)) (hw.pr (i := 7) rfl) (hw.pr (i := 8) rfl) (lSlot_length _)), trivial⟩⟩) (ok_ hw) (r0 := (by have hc9 := hc; (try simp only [Bool.not_eq_true', Bool.or_eq_false_iff, decide_eq_false_iff_not, Int.not_lt, Bool.not_eq_false', decide_eq_true_eq] at hc9); omega)) (r1 := (M.totM_small (n := 4194304) (by omega))) (r2 := (by have hc9 := hc; (try simp only [Bool.not_eq_true', Bool.or_eq_false_iff, decide_eq_false_iff_not, Int.not_lt, Bool.not_eq_false', decide_eq_true_eq] at hc9); omega)) (r3 := (M.totM_small (n := 4194304) (by omega))))) ?_
 refine zg (Gd.f1 rfl rfl rfl) (fun hc => p_not (gh hc rfl)) <| Qq (p_pickOr rfl rfl rfl) <| Qm rfl <| zg (Gd.f1 rfl rfl rfl) (fun hc => p_move rfl) <| zg (Gd.f1 rfl rfl rfl) (fun hc => p_move rfl) <| zg (Gd.f1 rfl rfl rfl) (fun hc => p_neq (gh hc rfl) (gh hc rfl)) <| Qq (p_pickOr rfl rfl rfl) <| JL.nil ?_
 refine zi (fun h80 h80' => ?_) fun h80 h80' => ?_
 · exact absurd h80 (by simp only [decide_true, Bool.not_true, Bool.or_false, decide_eq_true_eq]; omega)
 refine Js.skip <| zS <| Qa rfl <| zN <| Q9 6 rfl rfl ?_
 refine Qm rfl ?_
 refine zhl [7, 7] ?_
 refine zB 2 sp_ rfl (fun w hb hw => c_laws_markMemory (((M.swM aM aP aDepth).2.2.1).rules) (((M.swM aM aP aDepth).2.2.1).slots) 1 hb) ?_
 rintro _ _ G81 ⟨vs81a_w0, f81a_w0, rfl, rfl⟩
 refine znl ?_
 refine Qa rfl <| zN <| Qa rfl <| zN <| Q9 9 rfl rfl ?_
 refine Qm rfl <| zv rfl (fun w hw => c_laws_heldMemory (M.Mem.mk (((M.swM aM aP aDepth).2.2.1).rules) (M.mkL M.fS M.sS 1 (((M.swM aM aP aDepth).2.2.1).slots))) 1 (by exact ⟨_, rfl, ⟨rfl, rfl, rfl, rfl, rfl, rfl, rfl, rfl, rfl, (srow_ok lSlot (xs := (M.mkL M.fS M.sS 1 (((M.swM aM aP aDepth).2.2.1).slots))) (hw.pr (i := 0) rfl) (hw.pr (i := 1) rfl) (lSlot_length _)), trivial⟩⟩)) <| Qa rfl <| zJ <| zS <| Qm rfl <| Ql rfl rfl <| JL.nil ?_
 refine zi (fun h82 h82' => ?_) fun h82 h82' => ?_
 · exact absurd h82 (by rw [M.held_S _ (by decide)]; simp only [decide_eq_true_eq]; omega)
 refine Js.skip <| Js.seq <| zS <| Qm rfl <| Qm rfl <| Qd rfl rfl <| JL.nil ?_
 refine zi (fun h83 h83' => ?_) fun h83 h83' => ?_
 · exact absurd h83 (by rw [M.held_S _ (by decide)]; simp)
 refine Js.skip <| Js.seq ?_
 refine zk [8, 9, 10, 11, 16, 19] (fun F U l os u => ∃ (b91 : Nat) (A90 : Option Addr) (c90 : Nat), l = F [(21, .int .i64 ((M.swM aM aP aDepth).1)), (22, .int .i64 ((M.swM aM aP aDepth).2.1)), (23, .pointer (some ⟨b91, 0, none⟩)), (24, .int .i64 ((M.swM aM aP aDepth).2.2.2))] ∧ os = [boxO b91 [.int .i64 ((((M.swM aM aP aDepth).2.2.1).rules).pits), .int .i64 ((((M.swM aM aP aDepth).2.2.1).rules).seeds), .bool ((((M.swM aM aP aDepth).2.2.1).rules).stores), .bool ((((M.swM aM aP aDepth).2.2.1).rules).skip), .bool ((((M.swM aM aP aDepth).2.2.1).rules).relay), .bool ((((M.swM aM aP aDepth).2.2.1).rules).feed), .bool ((((M.swM aM aP aDepth).2.2.1).rules).again), .int .i64 ((((M.swM aM aP aDepth).2.2.1).rules).capture), .int .i64 ((((M.swM aM aP aDepth).2.2.1).rules).slam), .slice A90 ((((M.swM aM aP aDepth).2.2.1).slots).length) c90] 28] ++ U [] ∧ ((((M.swM aM aP aDepth).2.2.1).slots).length ≤ c90) ∧ (c90 ≤ 9223372036854775807) ∧ ((Ty.sl 49 6 (((M.swM aM aP aDepth).2.2.1).slots).length (lSlot (((M.swM aM aP aDepth).2.2.1).slots))).ok u (.slice A90 ((((M.swM aM aP aDepth).2.2.1).slots).length) c90))) ?_ ?_
 ·
  refine zdr [14] ?_
  refine JH.q 0 rfl (L9 14 rfl rfl) ?_
  refine JH.q 2 rfl (L9 13 rfl rfl) ?_
  refine jM 4 rfl rfl ?_
  refine y2 1 11 ?_ ?_
  ·
   refine yp rfl rfl (fun w hw => c_laws_toMemory aM (ok_ hw) (r1 := (M.totM_small (n := 4194304) (by omega)))) ?_
   intro u110 x110 A111 c111 h111 bl111 bh111
   refine y2 3 11 ?_ ?_
   ·
    refine yp rfl rfl (fun w hw => c_laws_toPosition aP (ok_ hw)) ?_
    intro u112 x112 A113 c113 h113 bl113 bh113 A114 c114 h114 bl114 bh114
    refine y2 5 11 ?_ ?_
    ·
     refine yp rfl rfl (fun w hw => c_impl_SearchWith aM aP aDepth (ok_ hw) (ok_ hw) (r1 := (M.totM_small (n := 4194304) (by omega)))) ?_
     intro u115 x115 A116 c116 h116 bl116 bh116
     refine jM 6 rfl rfl ?_
     refine JH.p 7 rfl (p_extract rfl rfl) ?_
     refine JH.p 8 rfl (p_extract rfl rfl) ?_
     refine JH.p 9 rfl (p_extract rfl rfl) ?_
     refine JH.p 10 rfl (p_extract rfl rfl) ?_
     refine y1 11 ?_
     refine ya rfl fun b117 => ?_
     refine jA 12 rfl rfl ?_
     refine jA 13 rfl rfl ?_
     refine y1 14 ?_
     refine yst rfl rfl rfl ?_
     refine jA 15 rfl rfl ?_
     refine yd ?_
     exact zm ⟨_, _, _, rfl, rfl, zt, zt, h116⟩ ((x110.trans x112).trans x115)
    refine ya rfl fun b118 => ?_
    refine y1 5 ?_
    refine yp rfl rfl (fun w hw => c_impl_SearchWith aM aP aDepth (ok_ hw) (ok_ hw) (r1 := (M.totM_small (n := 4194304) (by omega)))) ?_
    intro u119 x119 A120 c120 h120 bl120 bh120
    refine jM 6 rfl rfl ?_
    refine JH.p 7 rfl (p_extract rfl rfl) ?_
    refine JH.p 8 rfl (p_extract rfl rfl) ?_
    refine JH.p 9 rfl (p_extract rfl rfl) ?_
    refine JH.p 10 rfl (p_extract rfl rfl) ?_
    refine jA 12 rfl rfl ?_
    refine jA 13 rfl rfl ?_
    refine y1 14 ?_
    refine yst rfl rfl rfl ?_
    refine jA 15 rfl rfl ?_
    refine yd ?_
    exact zm ⟨_, _, _, rfl, rfl, zt, zt, h120⟩ ((x110.trans x112).trans x119)
   refine ya rfl fun b121 => ?_
   refine y1 3 ?_
   refine yp rfl rfl (fun w hw => c_laws_toPosition aP (ok_ hw)) ?_
   intro u122 x122 A123 c123 h123 bl123 bh123 A124 c124 h124 bl124 bh124
   refine y1 5 ?_
   refine yp rfl rfl (fun w hw => c_impl_SearchWith aM aP aDepth (ok_ hw) (ok_ hw) (r1 := (M.totM_small (n := 4194304) (by omega)))) ?_
   intro u125 x125 A126 c126 h126 bl126 bh126
   refine jM 6 rfl rfl ?_
   refine JH.p 7 rfl (p_extract rfl rfl) ?_
   refine JH.p 8 rfl (p_extract rfl rfl) ?_
   refine JH.p 9 rfl (p_extract rfl rfl) ?_
   refine JH.p 10 rfl (p_extract rfl rfl) ?_
   refine jA 12 rfl rfl ?_
   refine jA 13 rfl rfl ?_
   refine y1 14 ?_
   refine yst rfl rfl rfl ?_
   refine jA 15 rfl rfl ?_
   refine yd ?_
   exact zm ⟨_, _, _, rfl, rfl, zt, zt, h126⟩ ((x110.trans x122).trans x125)
  refine ya rfl fun b127 => ?_
  refine y1 1 ?_
  refine yp rfl rfl (fun w hw => c_laws_toMemory aM (ok_ hw) (r1 := (M.totM_small (n := 4194304) (by omega)))) ?_
  intro u128 x128 A129 c129 h129 bl129 bh129
  refine y1 3 ?_
  refine yp rfl rfl (fun w hw => c_laws_toPosition aP (ok_ hw)) ?_
  intro u130 x130 A131 c131 h131 bl131 bh131 A132 c132 h132 bl132 bh132
  refine y1 5 ?_
  refine yp rfl rfl (fun w hw => c_impl_SearchWith aM aP aDepth (ok_ hw) (ok_ hw) (r1 := (M.totM_small (n := 4194304) (by omega)))) ?_
  intro u133 x133 A134 c134 h134 bl134 bh134
  refine jM 6 rfl rfl ?_
  refine JH.p 7 rfl (p_extract rfl rfl) ?_
  refine JH.p 8 rfl (p_extract rfl rfl) ?_
  refine JH.p 9 rfl (p_extract rfl rfl) ?_
  refine JH.p 10 rfl (p_extract rfl rfl) ?_
  refine jA 12 rfl rfl ?_
  refine jA 13 rfl rfl ?_
  refine y1 14 ?_
  refine yst rfl rfl rfl ?_
  refine jA 15 rfl rfl ?_
  refine yd ?_
  exact zm ⟨_, _, _, rfl, rfl, zt, zt, h134⟩ ((x128.trans x130).trans x133)
 rintro _ _ u109 ⟨b91, A90, c90, rfl, rfl, f109_0, f109_1, f109_2⟩ x109
 refine zn ?_
 refine Js.seq <| zS <| Qm rfl <| Qm rfl <| Qd rfl rfl <| Qm rfl <| zg (Gd.f1 rfl rfl rfl) (fun hc => p_move rfl) <| zg (Gd.f1 rfl rfl rfl) (fun hc => p_move rfl) <| zg (Gd.f1 rfl rfl rfl) (fun hc => p_neq (gh hc rfl) (gh hc rfl)) <| Qq (p_pickOr rfl rfl rfl) <| Qm rfl <| zgq (Gd.f1 rfl rfl rfl) (fun hc => L9 0 rfl rfl) <| zgq (Gd.f1 rfl rfl rfl) (fun hc => L9 13 rfl rfl) <| zgv (Gd.f1 rfl rfl rfl) (fun hc => (opds_2 (gh hc rfl) (gh hc rfl))) (fun hc => (fun w hw => c_laws_eqMemory ((M.swM aM aP aDepth).2.2.1) ((M.swM aM aP aDepth).2.2.1) (ok_ hw) (ok_ hw) (r0 := (by have hc9 := hc; (try simp only [Bool.not_eq_true', Bool.or_eq_false_iff, Bool.not_eq_false', decide_eq_true_eq] at hc9); omega)) (r1 := (M.totM_small (n := 4194304) (by omega))) (r2 := (by have hc9 := hc; (try simp only [Bool.not_eq_true', Bool.or_eq_false_iff, Bool.not_eq_false', decide_eq_true_eq] at hc9); omega)) (r3 := (M.totM_small (n := 4194304) (by omega))))) ?_
 refine zg (Gd.f1 rfl rfl rfl) (fun hc => p_not (gh hc rfl)) <| Qq (p_pickOr rfl rfl rfl) <| Qm rfl <| zg (Gd.f1 rfl rfl rfl) (fun hc => p_move rfl) <| zg (Gd.f1 rfl rfl rfl) (fun hc => p_move rfl) <| zg (Gd.f1 rfl rfl rfl) (fun hc => p_neq (gh hc rfl) (gh hc rfl)) <| Qq (p_pickOr rfl rfl rfl) <| JL.nil ?_
 refine Js.condF rfl h70 ?_
 refine Js.skip <| zS <| Qa rfl <| zN <| Q9 10 rfl rfl ?_
 refine Qm rfl <| zv rfl (fun w hw => c_laws_heldMemory (M.Mem.mk (((M.swM aM aP aDepth).2.2.1).rules) (M.mkL M.fS M.sS 1 (((M.swM aM aP aDepth).2.2.1).slots))) 1 (by exact ⟨_, rfl, ⟨rfl, rfl, rfl, rfl, rfl, rfl, rfl, rfl, rfl, (srow_ok lSlot (xs := (M.mkL M.fS M.sS 1 (((M.swM aM aP aDepth).2.2.1).slots))) (hw.pr (i := 1) rfl) (hw.pr (i := 2) rfl) (lSlot_length _)), trivial⟩⟩)) <| Qa rfl <| zJ <| zS <| Qm rfl <| Ql rfl rfl <| JL.nil ?_
 refine Js.condF rfl h82 ?_
 refine Js.skip <| Js.seq <| zS <| Qm rfl <| Qm rfl <| Qd rfl rfl <| JL.nil ?_
 refine Js.condF rfl h83 ?_
 refine Js.skip <| zS <| Qa rfl <| JL.nil ?_
 exact zr (((x33.trans x71).trans x74).trans x109)
end Go.Proofs.YtmgnckfhghibeaaGreat

/- Walks: K43. -/
import Derived.Test.YtmgnckfhghibeaaZdA3
import Derived.Test.YtmgnckfhghibeaaZdA6
import Derived.Test.YtmgnckfhghibeaaZdA4
set_option linter.unusedSimpArgs false
set_option linter.unusedVariables false
set_option maxRecDepth 100000
attribute [local irreducible] Go.Proofs.Ytmgnckfhghibeaa.gv
set_option maxHeartbeats 4000000
namespace Go.Proofs.Ytmgnckfhghibeaa
open Go.RowKit
theorem c_spec_l16Find (mem : M.Mem) {bmem_p omem_p : Nat} {Amem_9 : Option Addr} {cmem_9 : Nat} (p : M.Pos) {v_p : Value} (depth : Int) {w : World} (hemem_9 : (Ty.sl 45 6 mem.slots.length (lSlot mem.slots)).ok w (.slice Amem_9 mem.slots.length cmem_9)) (hrmem : RowAt w bmem_p omem_p [.int .i64 mem.rules.pits, .int .i64 mem.rules.seeds, .bool mem.rules.stores, .bool mem.rules.skip, .bool mem.rules.relay, .bool mem.rules.feed, .bool mem.rules.again, .int .i64 mem.rules.capture, .int .i64 mem.rules.slam, .slice Amem_9 mem.slots.length cmem_9]) (h_p : (Ty.ref (cPosition p)).ok w v_p) (bd0 : mem.slots.length ≤ cmem_9 := by exact om_) (bd1 : cmem_9 ≤ 9223372036854775807 := by exact om_) (r0 : mem.slots.length ≤ 4194304 := by exact om_) (r1 : ∀ x ∈ mem.slots, x.pits.length ≤ 4194304 := by exact om_) (r2 : p.pits.length ≤ 4194304 := by exact om_) (r3 : p.stores.length ≤ 4194304 := by exact om_) (r4 : M.okP mem.rules p = true := by exact om_) (r5 : 0 < mem.slots.length := by exact om_) : RetX Try.prog 47 [.pointer (some ⟨bmem_p, omem_p, none⟩), v_p, .int .i64 depth] w (fun v => v = .tuple #[.pointer (elemA 6 (.slice Amem_9 mem.slots.length cmem_9) (M.plc mem.slots.length p.pits p.player).toNat), .bool (M.fndB mem.slots p depth)]) := by
 obtain ⟨hp1, hp2⟩ := M.plc_bd (n := mem.slots.length) p.pits p.player r5
 have hfs := r1 _ (M.slo_mem (l := mem.slots) (k := (M.plc mem.slots.length p.pits p.player).toNat) (by omega))
 revert v_p; apply opn
 intro b3 o3 A1 c1 h1 bl1 bh1 A2 c2 h2 bl2 bh2 hr3
 refine enter @Try.func47 @Try.ntmps47 rfl rfl ?_
 refine zent ?_
 refine zS <| Qa rfl <| Qa rfl <| zJ ?_
 refine zdr [] ?_
 refine jM 0 rfl rfl ?_
 refine jN 1 rfl rfl ?_
 refine jF 2 fld_28_1 rfl rfl ?_
 refine jW 3 ty_26 rfl rfl (fun hv => (hrmem.vis hv) 9 _ rfl) ?_
 refine jM 4 rfl rfl ?_
 refine jM 5 rfl rfl ?_
 refine y1 6 ?_
 refine yv rfl rfl (fun w hw => c_spec_l16Place mem p (ok_ hw) (ok_ hw) (r0 := r4)) ?_
 have hy4 : mem.slots[(M.plc mem.slots.length p.pits p.player).toNat]? = some (M.slo mem.slots ((M.plc mem.slots.length p.pits p.player).toNat)) := M.slo_get (by omega)
 obtain ⟨b4, o4, A4_1, c4_1, he4, hr4, h4_1, bl4_1, bh4_1⟩ := elem_Slot hemem_9 hy4
 refine jI 7 el_26 rfl rfl rfl he4 ?_
 refine jA 8 rfl rfl ?_
 refine yd ?_
 refine Js.seq ?_
 refine zdr [] ?_
 refine jM 0 rfl rfl ?_
 refine jM 1 rfl rfl ?_
 refine jN 2 rfl rfl ?_
 refine jF 3 fld_45_0 rfl rfl ?_
 refine jW 4 ty_4 rfl rfl (fun hv => (hr4.vis hv) 0 _ rfl) ?_
 refine jM 5 rfl rfl ?_
 refine JH.pg 6 rfl (Gd.t1 rfl rfl rfl) (fun hc => p_move rfl) ?_
 refine JH.pg 7 rfl (Gd.t1 rfl rfl rfl) (fun hc => p_nilCheck (gvt rfl hc)) ?_
 refine JH.pg 8 rfl (Gd.t1 rfl rfl rfl) (fun hc => p_fieldAddr fld_45_3.h (gvt rfl hc)) ?_
 refine JH.wg 9 rfl (Gd.t1 rfl rfl rfl) (fun hc os' u' hv => q_load1 ty_2.h (gvt rfl hc) (Mem.pub ((hr4.vis hv) 3 _ rfl))) ?_
 refine JH.pg 10 rfl (Gd.t1 rfl rfl rfl) (fun hc => p_move rfl) ?_
 refine JH.pg 11 rfl (Gd.t1 rfl rfl rfl) (fun hc => p_eql (gvt rfl hc) (gvt rfl hc)) ?_
 refine JH.p 12 rfl (p_pickAnd rfl rfl rfl) ?_
 refine jM 13 rfl rfl ?_
 refine JH.pg 14 rfl (Gd.t1 rfl rfl rfl) (fun hc => p_move rfl) ?_
 refine JH.pg 15 rfl (Gd.t1 rfl rfl rfl) (fun hc => p_nilCheck (gvt rfl hc)) ?_
 refine JH.pg 16 rfl (Gd.t1 rfl rfl rfl) (fun hc => p_fieldAddr fld_45_2.h (gvt rfl hc)) ?_
 refine JH.wg 17 rfl (Gd.t1 rfl rfl rfl) (fun hc os' u' hv => q_load1 ty_2.h (gvt rfl hc) (Mem.pub ((hr4.vis hv) 2 _ rfl))) ?_
 refine JH.pg 18 rfl (Gd.t1 rfl rfl rfl) (fun hc => p_move rfl) ?_
 refine JH.pg 19 rfl (Gd.t1 rfl rfl rfl) (fun hc => p_nilCheck (gvt rfl hc)) ?_
 refine JH.pg 20 rfl (Gd.t1 rfl rfl rfl) (fun hc => p_fieldAddr fld_31_2.h (gvt rfl hc)) ?_
 refine JH.wg 21 rfl (Gd.t1 rfl rfl rfl) (fun hc os' u' hv => q_load1 ty_2.h (gvt rfl hc) (Mem.pub ((hr3.vis hv) 2 _ rfl))) ?_
 refine JH.pg 22 rfl (Gd.t1 rfl rfl rfl) (fun hc => p_eql (gvt rfl hc) (gvt rfl hc)) ?_
 refine JH.p 23 rfl (p_pickAnd rfl rfl rfl) ?_
 refine jM 24 rfl rfl ?_
 refine JH.pg 25 rfl (Gd.t1 rfl rfl rfl) (fun hc => p_move rfl) ?_
 refine JH.pg 26 rfl (Gd.t1 rfl rfl rfl) (fun hc => p_nilCheck (gvt rfl hc)) ?_
 refine JH.pg 27 rfl (Gd.t1 rfl rfl rfl) (fun hc => p_fieldAddr fld_45_1.h (gvt rfl hc)) ?_
 refine JH.wg 28 rfl (Gd.t1 rfl rfl rfl) (fun hc os' u' hv => q_load1 ty_29.h (gvt rfl hc) (Mem.pub ((hr4.vis hv) 1 _ rfl))) ?_
 refine JH.pg 29 rfl (Gd.t1 rfl rfl rfl) (fun hc => p_move rfl) ?_
 refine JH.pg 30 rfl (Gd.t1 rfl rfl rfl) (fun hc => p_nilCheck (gvt rfl hc)) ?_
 refine JH.pg 31 rfl (Gd.t1 rfl rfl rfl) (fun hc => p_fieldAddr fld_31_0.h (gvt rfl hc)) ?_
 refine JH.wg 32 rfl (Gd.t1 rfl rfl rfl) (fun hc os' u' hv => q_load1 ty_29.h (gvt rfl hc) (Mem.pub ((hr3.vis hv) 0 _ rfl))) ?_
 refine y1 33 ?_
 refine JHo.ge rfl (Gd.t1 rfl rfl rfl) (fun hc => e_callV fn_66.h (opds_2 (gvt rfl hc) (gvt rfl hc)) (fun w hw => c_spec_l00Same ((M.slo mem.slots ((M.plc mem.slots.length p.pits p.player).toNat)).pits) p.pits (ok_ hw) (ok_ hw) (r0 := (by have hc9 := hc; (try simp only [Bool.and_eq_true, decide_eq_true_eq] at hc9); omega)) (r1 := (by have hc9 := hc; (try simp only [Bool.and_eq_true, decide_eq_true_eq] at hc9); omega)))) ?_
 refine JH.p 34 rfl (p_pickAnd rfl rfl rfl) ?_
 refine jA 35 rfl rfl ?_
 refine jA 36 rfl rfl ?_
 refine yd ?_
 refine zX (Up.refl _ _) ?_
 show (_ : Value) = _; rw [he4]; first | rfl | (simp [outV, M.fndB, M.fnd, Bool.and_assoc]; done)
theorem c_spec_l16Store (mem_rules : M.Rul) (mem_slots : List M.Slo) {Amem_9 : Option Addr} {cmem_9 : Nat} {gmem_9 : List Nat} {vsmem_9 : List Value} {fmem_9 : List Nat} (x : M.Slo) {v_x : Value} {bmem : Nat} {w : World} (hb : Bw w [boxO bmem [.int .i64 mem_rules.pits, .int .i64 mem_rules.seeds, .bool mem_rules.stores, .bool mem_rules.skip, .bool mem_rules.relay, .bool mem_rules.feed, .bool mem_rules.again, .int .i64 mem_rules.capture, .int .i64 mem_rules.slam, .slice Amem_9 mem_slots.length cmem_9] 28, rowO 45 6 (.slice Amem_9 mem_slots.length cmem_9) mem_slots.length vsmem_9 gmem_9, ownC (lSlot mem_slots) vsmem_9 fmem_9]) (h_x : (Ty.ref (cSlot x)).ok (offW w (([boxO bmem [.int .i64 mem_rules.pits, .int .i64 mem_rules.seeds, .bool mem_rules.stores, .bool mem_rules.skip, .bool mem_rules.relay, .bool mem_rules.feed, .bool mem_rules.again, .int .i64 mem_rules.capture, .int .i64 mem_rules.slam, .slice Amem_9 mem_slots.length cmem_9] 28, rowO 45 6 (.slice Amem_9 mem_slots.length cmem_9) mem_slots.length vsmem_9 gmem_9, ownC (lSlot mem_slots) vsmem_9 fmem_9] : List Own).flatMap (·.fp))) v_x) (bd0 : mem_slots.length ≤ cmem_9 := by exact om_) (bd1 : cmem_9 ≤ 9223372036854775807 := by exact om_) (r0 : M.okP mem_rules (M.posS x) = true := by exact om_) (r1 : 0 < mem_slots.length := by exact om_) (r2 : mem_slots.length ≤ 4194304 := by exact om_) (r3 : x.pits.length ≤ 4194304 := by exact om_) : RetB Try.prog 40 [.pointer (some ⟨bmem, 0, none⟩), v_x] w [boxO bmem [.int .i64 mem_rules.pits, .int .i64 mem_rules.seeds, .bool mem_rules.stores, .bool mem_rules.skip, .bool mem_rules.relay, .bool mem_rules.feed, .bool mem_rules.again, .int .i64 mem_rules.capture, .int .i64 mem_rules.slam, .slice Amem_9 mem_slots.length cmem_9] 28, rowO 45 6 (.slice Amem_9 mem_slots.length cmem_9) mem_slots.length vsmem_9 gmem_9, ownC (lSlot mem_slots) vsmem_9 fmem_9] (fun v bs' => ∃ (Axmem_9 : Option Addr) (cxmem_9 : Nat) (gxmem_9 : List Nat) (vsxmem_9 : List Value) (fxmem_9 : List Nat), v = .tuple #[] ∧ bs' = [boxO bmem [.int .i64 mem_rules.pits, .int .i64 mem_rules.seeds, .bool mem_rules.stores, .bool mem_rules.skip, .bool mem_rules.relay, .bool mem_rules.feed, .bool mem_rules.again, .int .i64 mem_rules.capture, .int .i64 mem_rules.slam, .slice Axmem_9 ((M.stoS mem_slots x).length) cxmem_9] 28, rowO 45 6 (.slice Axmem_9 ((M.stoS mem_slots x).length) cxmem_9) ((M.stoS mem_slots x).length) vsxmem_9 gxmem_9, ownC (lSlot (M.stoS mem_slots x)) vsxmem_9 fxmem_9] ∧ (M.stoS mem_slots x).length ≤ cxmem_9 ∧ cxmem_9 ≤ 9223372036854775807) := by
 obtain ⟨hp1, hp2⟩ := M.plc_bd (n := mem_slots.length) x.pits x.player r1
 obtain ⟨g1, g2, g3, g4, g5, g6, g7⟩ := M.okP_bd r0
 have g7 : x.player = 0 ∨ x.player = 1 := g7
 have hq1 : 0 ≤ M.hashP x.pits x.player % (mem_slots.length : Int) := hp1
 have hq2 : M.hashP x.pits x.player % (mem_slots.length : Int) < (mem_slots.length : Int) := hp2
 revert v_x; apply opn
 intro b2 o2 A1 c1 h1 bl1 bh1 hr2
 refine enterB hb @Try.func40 @Try.ntmps40 rfl rfl ?_
 refine zent ?_
 refine Js.trashE ?_
 refine zn ?_
 refine Js.seq ?_
 refine zdr [] ?_
 refine jM 0 rfl rfl ?_
 refine jN 1 rfl rfl ?_
 refine jF 2 fld_45_1 rfl rfl ?_
 refine jW 3 ty_29 rfl rfl (fun hv => (hr2.vis hv) 1 _ rfl) ?_
 refine jM 4 rfl rfl ?_
 refine jN 5 rfl rfl ?_
 refine jF 6 fld_45_2 rfl rfl ?_
 refine jW 7 ty_2 rfl rfl (fun hv => (hr2.vis hv) 2 _ rfl) ?_
 refine jM 8 rfl rfl ?_
 refine jN 9 rfl rfl ?_
 refine jF 10 fld_28_1 rfl rfl ?_
 refine jB 11 0 ty_26 rfl rfl rfl rfl ?_
 refine JH.p 12 rfl (p_len el_26 rfl) ?_
 refine y1 13 ?_
 refine yv rfl rfl (fun w hw => c_spec_l16Hash x.pits x.player (mem_slots.length : Int) (ok_ hw) (r0 := g5) (r1 := (by constructor <;> omega))) ?_
 refine jA 14 rfl rfl ?_
 refine yd ?_
 refine Js.seq <| Js.seq ?_
 refine zdr [] ?_
 refine jM 0 rfl rfl ?_
 refine jN 1 rfl rfl ?_
 refine jF 2 fld_28_1 rfl rfl ?_
 refine jB 3 0 ty_26 rfl rfl rfl rfl ?_
 refine jM 4 rfl rfl ?_
 refine JH.fact (row_some (i := 1) rfl (by omega)) (fun hf4 => ?_)
 obtain ⟨b4, rfl⟩ := hf4
 have hy3 : mem_slots[(M.hashP x.pits x.player % (mem_slots.length : Int)).toNat]? = some (M.slo mem_slots ((M.hashP x.pits x.player % (mem_slots.length : Int)).toNat)) := M.slo_get len_
 refine JH.fact (fun w hw => elemv_Slot (Mem.ownC (i := 2) rfl w hw) hy3) (fun hf3 => ?_)
 obtain ⟨A3_1, c3_1, he3, bl3_1, bh3_1⟩ := hf3
 refine jI 5 el_26 rfl rfl rfl rfl ?_
 refine jF 6 fld_45_0 rfl rfl ?_
 refine JH.q 7 rfl (q_load1 ty_4.h rfl (fun w hw => (Mem.rowR' (i := 1) rfl he3 w hw) 0 _ rfl)) ?_
 refine jM 8 rfl rfl ?_
 refine JH.pg 9 rfl (Gd.t1 rfl rfl rfl) (fun hc => p_move rfl) ?_
 refine JH.pg 10 rfl (Gd.t1 rfl rfl rfl) (fun hc => p_nilCheck (gvt rfl hc)) ?_
 refine JH.pg 11 rfl (Gd.t1 rfl rfl rfl) (fun hc => p_fieldAddr fld_28_1.h (gvt rfl hc)) ?_
 refine JH.pg 13 rfl (Gd.t1 rfl rfl rfl) (fun hc => p_move rfl) ?_
 refine JH.pg 17 rfl (Gd.t1 rfl rfl rfl) (fun hc => p_move rfl) ?_
 refine JH.pg 18 rfl (Gd.t1 rfl rfl rfl) (fun hc => p_nilCheck (gvt rfl hc)) ?_
 refine JH.pg 19 rfl (Gd.t1 rfl rfl rfl) (fun hc => p_fieldAddr fld_45_3.h (gvt rfl hc)) ?_
 refine JH.wg 20 rfl (Gd.t1 rfl rfl rfl) (fun hc os' u' hv => q_load1 ty_2.h (gvt rfl hc) (Mem.pub ((hr2.vis hv) 3 _ rfl))) ?_
 refine y1 12 ?_
 refine JHo.qg rfl (Gd.t1 rfl rfl rfl) (fun hc => q_load1 ty_26.h (gvt rfl hc) (Mem.box (i := 0) rfl rfl)) ?_
 have hy5 : mem_slots[(M.hashP x.pits x.player % (mem_slots.length : Int)).toNat]? = some (M.slo mem_slots ((M.hashP x.pits x.player % (mem_slots.length : Int)).toNat)) := M.slo_get len_
 refine JH.fact (fun w hw => elemv_Slot (Mem.ownC (i := 2) rfl w hw) hy5) (fun hf5 => ?_)
 obtain ⟨A5_1, c5_1, he5, bl5_1, bh5_1⟩ := hf5
 refine JH.pg 14 rfl (Gd.t1 rfl rfl rfl) (fun hc => p_indexAddr el_26 (gvt rfl hc) (gvt rfl hc) (by omega) (by omega) rfl) ?_
 refine JH.pg 15 rfl (Gd.t1 rfl rfl rfl) (fun hc => p_fieldAddr fld_45_3.h (gvt rfl hc)) ?_
 refine JH.qg 16 rfl (Gd.t1 rfl rfl rfl) (fun hc => q_load1 ty_2.h (gvt rfl hc) (fun w hw => (Mem.rowR' (i := 1) rfl he5 w hw) 3 _ rfl)) ?_
 refine JH.pg 21 rfl (Gd.t1 rfl rfl rfl) (fun hc => p_gtr (gvt rfl hc) (gvt rfl hc)) ?_
 refine JH.p 22 rfl (p_pickAnd rfl rfl rfl) ?_
 refine yd ?_
 refine zi (fun h6 h6' => ?_) fun h6 h6' => ?_
 ·
  have hE9 : M.stoS mem_slots x = mem_slots := if_neg (by have h9 := h6; exact M.sto_no h9)
  refine zrb0 [0, 0, 0] hb (Up.refl _ _) ?_
  have hN10 : (M.stoS mem_slots x).length = mem_slots.length := by first | exact M.stoS_len _ _ | rfl
  have hE10 : (M.stoS mem_slots x) = mem_slots := by first | exact hE9 | rfl
  refine ⟨(some ⟨b4, 0, none⟩), cmem_9, gmem_9, vsmem_9, fmem_9, rfl, ?_, ?_, ?_⟩
  · first | rfl | (dsimp only; rw [hN10, hE10]; done) | (dsimp only; rw [hN10, hE10]; rfl) | (dsimp only; simp only [hN10, hE10]) | (rw [hN10, hE10]; done) | (rw [hN10, hE10]; rfl)
  all_goals (try dsimp only)
  all_goals (first | (rw [hN10, hE10]; omega) | omega | (simp only [*]; omega) | (simp; done))
 have hE9 : M.stoS mem_slots x = mem_slots.set (M.plc mem_slots.length x.pits x.player).toNat x := if_pos (by have h9 := h6; exact M.sto_yes h9)
 refine Js.skip <| zS <| Qm rfl <| Qc rfl <| QS 0 hr2 rfl ?_
 refine za zeh fun b7 => zw 0 rfl rfl rfl ?_
 refine zN <| Qm rfl <| Qc rfl <| Qf fh rfl <| QC (hr2 1 _ rfl) rfl <| zcs rfl (fun w hw => c_spec_l00Own x.pits (ok_ hw)) ?_
 intro A8 c8 bl8 bh8
 refine Qf fh rfl <| zw 1 rfl rfl rfl ?_
 refine JL.nil ?_
 refine Js.fact (fun w hw => elem_in cSlot (m := 6) (k := (M.hashP x.pits x.player % (mem_slots.length : Int)).toNat) (xs := mem_slots) (fun _ => rfl) (Mem.ownC (i := 4) rfl w hw) (by omega)) (fun hl9 => ?_)
 refine Js.ex3 (fun w hw => St.elemS cSlot (m := 6) (i := 4) (xs := mem_slots) (fun _ => rfl) rfl hy5 he5 hw) (fun f9_1 f9_2 f9_3 => ?_)
 refine Js.unp 0 ?_
 refine zn ?_
 refine zdr [7] ?_
 refine jM 0 rfl rfl ?_
 refine jN 1 rfl rfl ?_
 refine jF 2 fld_28_1 rfl rfl ?_
 refine jB 3 5 ty_26 rfl rfl rfl rfl ?_
 refine jM 4 rfl rfl ?_
 refine JH.q 5 rfl (L9 4 rfl rfl) ?_
 refine jI 6 el_26 rfl rfl rfl rfl ?_
 refine y1 7 ?_
 refine JHo.s rfl (e_storeRow (i := 6) (xs' := setL vsmem_9 (0 + ((M.hashP x.pits x.player % (mem_slots.length : Int)).toNat) * 6) [.bool x.used, .slice A8 x.pits.length c8, .int .i64 x.player, .int .i64 x.depth, .int .i64 x.value, .int .i64 x.bound]) ty_45.h rfl rfl rfl rfl rfl rfl (by omega) rfl) (.inr rfl) ?_
 rintro _ _ _ ⟨rfl, rfl⟩ _
 refine znh ?_
 refine yd ?_
 refine Js.pk (cSlot x) [.bool x.used, .slice A8 x.pits.length c8, .int .i64 x.player, .int .i64 x.depth, .int .i64 x.value, .int .i64 x.bound] (fun f12 G12 => ?_)
 refine Js.front (i := 3) rfl ?_
 refine zn ?_
 refine Js.front (i := 1) rfl ?_
 refine zn ?_
 refine Js.front (i := 4) rfl ?_
 refine zn ?_
 refine Js.conv (fun w hw => St.closeE cSlot (k := (M.hashP x.pits x.player % (mem_slots.length : Int)).toNat) (m := 6) (xs := mem_slots) (y := x) (vs := vsmem_9) (vs' := (setL vsmem_9 (0 + ((M.hashP x.pits x.player % (mem_slots.length : Int)).toNat) * 6) [.bool x.used, .slice A8 x.pits.length c8, .int .i64 x.player, .int .i64 x.depth, .int .i64 x.value, .int .i64 x.bound])) (by omega) rfl rfl hw) ?_
 refine zn ?_
 refine zrbE [4, 4, 0] hb (Up.refl _ _) ?_
 have hN10 : (M.stoS mem_slots x).length = mem_slots.length := by first | exact M.stoS_len _ _ | rfl
 have hE10 : (M.stoS mem_slots x) = (mem_slots.set ((M.hashP x.pits x.player % (mem_slots.length : Int)).toNat) x) := by first | exact hE9 | rfl
 refine ⟨(some ⟨b4, 0, none⟩), cmem_9, gmem_9, (setL vsmem_9 (0 + ((M.hashP x.pits x.player % (mem_slots.length : Int)).toNat) * 6) [.bool x.used, .slice A8 x.pits.length c8, .int .i64 x.player, .int .i64 x.depth, .int .i64 x.value, .int .i64 x.bound]), (f9_3 ++ f12 ++ f9_2), rfl, ?_, ?_, ?_⟩
 · first | rfl | (dsimp only; rw [hN10, hE10]; done) | (dsimp only; rw [hN10, hE10]; rfl) | (dsimp only; simp only [hN10, hE10]) | (rw [hN10, hE10]; done) | (rw [hN10, hE10]; rfl)
 all_goals (try dsimp only)
 all_goals (first | (rw [hN10, hE10]; omega) | omega | (simp only [*]; omega) | (simp; done))
theorem c_spec_l16StoreL (mem_rules : M.Rul) (mem_slots : List M.Slo) (mem_hits : Int) {Amem_9 : Option Addr} {cmem_9 : Nat} {gmem_9 : List Nat} {vsmem_9 : List Value} {fmem_9 : List Nat} (x : M.Slo) {v_x : Value} {bmem : Nat} {w : World} (hb : Bw w [boxO bmem [.int .i64 mem_rules.pits, .int .i64 mem_rules.seeds, .bool mem_rules.stores, .bool mem_rules.skip, .bool mem_rules.relay, .bool mem_rules.feed, .bool mem_rules.again, .int .i64 mem_rules.capture, .int .i64 mem_rules.slam, .slice Amem_9 mem_slots.length cmem_9, .int .i64 mem_hits] 103, rowO 45 6 (.slice Amem_9 mem_slots.length cmem_9) mem_slots.length vsmem_9 gmem_9, ownC (lSlot mem_slots) vsmem_9 fmem_9]) (h_x : (Ty.ref (cSlot x)).ok (offW w (([boxO bmem [.int .i64 mem_rules.pits, .int .i64 mem_rules.seeds, .bool mem_rules.stores, .bool mem_rules.skip, .bool mem_rules.relay, .bool mem_rules.feed, .bool mem_rules.again, .int .i64 mem_rules.capture, .int .i64 mem_rules.slam, .slice Amem_9 mem_slots.length cmem_9, .int .i64 mem_hits] 103, rowO 45 6 (.slice Amem_9 mem_slots.length cmem_9) mem_slots.length vsmem_9 gmem_9, ownC (lSlot mem_slots) vsmem_9 fmem_9] : List Own).flatMap (·.fp))) v_x) (bd0 : mem_slots.length ≤ cmem_9 := by exact om_) (bd1 : cmem_9 ≤ 9223372036854775807 := by exact om_) (r0 : M.okP mem_rules (M.posS x) = true := by exact om_) (r1 : 0 < mem_slots.length := by exact om_) (r2 : mem_slots.length ≤ 4194304 := by exact om_) (r3 : x.pits.length ≤ 4194304 := by exact om_) : RetB Try.prog 40 [.pointer (some ⟨bmem, 0, none⟩), v_x] w [boxO bmem [.int .i64 mem_rules.pits, .int .i64 mem_rules.seeds, .bool mem_rules.stores, .bool mem_rules.skip, .bool mem_rules.relay, .bool mem_rules.feed, .bool mem_rules.again, .int .i64 mem_rules.capture, .int .i64 mem_rules.slam, .slice Amem_9 mem_slots.length cmem_9, .int .i64 mem_hits] 103, rowO 45 6 (.slice Amem_9 mem_slots.length cmem_9) mem_slots.length vsmem_9 gmem_9, ownC (lSlot mem_slots) vsmem_9 fmem_9] (fun v bs' => ∃ (Axmem_9 : Option Addr) (cxmem_9 : Nat) (gxmem_9 : List Nat) (vsxmem_9 : List Value) (fxmem_9 : List Nat), v = .tuple #[] ∧ bs' = [boxO bmem [.int .i64 mem_rules.pits, .int .i64 mem_rules.seeds, .bool mem_rules.stores, .bool mem_rules.skip, .bool mem_rules.relay, .bool mem_rules.feed, .bool mem_rules.again, .int .i64 mem_rules.capture, .int .i64 mem_rules.slam, .slice Axmem_9 ((M.stoS mem_slots x).length) cxmem_9, .int .i64 mem_hits] 103, rowO 45 6 (.slice Axmem_9 ((M.stoS mem_slots x).length) cxmem_9) ((M.stoS mem_slots x).length) vsxmem_9 gxmem_9, ownC (lSlot (M.stoS mem_slots x)) vsxmem_9 fxmem_9] ∧ (M.stoS mem_slots x).length ≤ cxmem_9 ∧ cxmem_9 ≤ 9223372036854775807) := by
 obtain ⟨hp1, hp2⟩ := M.plc_bd (n := mem_slots.length) x.pits x.player r1
 obtain ⟨g1, g2, g3, g4, g5, g6, g7⟩ := M.okP_bd r0
 have g7 : x.player = 0 ∨ x.player = 1 := g7
 have hq1 : 0 ≤ M.hashP x.pits x.player % (mem_slots.length : Int) := hp1
 have hq2 : M.hashP x.pits x.player % (mem_slots.length : Int) < (mem_slots.length : Int) := hp2
 revert v_x; apply opn
 intro b2 o2 A1 c1 h1 bl1 bh1 hr2
 refine enterB hb @Try.func40 @Try.ntmps40 rfl rfl ?_
 refine zent ?_
 refine Js.trashE ?_
 refine zn ?_
 refine Js.seq ?_
 refine zdr [] ?_
 refine jM 0 rfl rfl ?_
 refine jN 1 rfl rfl ?_
 refine jF 2 fld_45_1 rfl rfl ?_
 refine jW 3 ty_29 rfl rfl (fun hv => (hr2.vis hv) 1 _ rfl) ?_
 refine jM 4 rfl rfl ?_
 refine jN 5 rfl rfl ?_
 refine jF 6 fld_45_2 rfl rfl ?_
 refine jW 7 ty_2 rfl rfl (fun hv => (hr2.vis hv) 2 _ rfl) ?_
 refine jM 8 rfl rfl ?_
 refine jN 9 rfl rfl ?_
 refine jF 10 fld_28_1 rfl rfl ?_
 refine jB 11 0 ty_26 rfl rfl rfl rfl ?_
 refine JH.p 12 rfl (p_len el_26 rfl) ?_
 refine y1 13 ?_
 refine yv rfl rfl (fun w hw => c_spec_l16Hash x.pits x.player (mem_slots.length : Int) (ok_ hw) (r0 := g5) (r1 := (by constructor <;> omega))) ?_
 refine jA 14 rfl rfl ?_
 refine yd ?_
 refine Js.seq <| Js.seq ?_
 refine zdr [] ?_
 refine jM 0 rfl rfl ?_
 refine jN 1 rfl rfl ?_
 refine jF 2 fld_28_1 rfl rfl ?_
 refine jB 3 0 ty_26 rfl rfl rfl rfl ?_
 refine jM 4 rfl rfl ?_
 refine JH.fact (row_some (i := 1) rfl (by omega)) (fun hf4 => ?_)
 obtain ⟨b4, rfl⟩ := hf4
 have hy3 : mem_slots[(M.hashP x.pits x.player % (mem_slots.length : Int)).toNat]? = some (M.slo mem_slots ((M.hashP x.pits x.player % (mem_slots.length : Int)).toNat)) := M.slo_get len_
 refine JH.fact (fun w hw => elemv_Slot (Mem.ownC (i := 2) rfl w hw) hy3) (fun hf3 => ?_)
 obtain ⟨A3_1, c3_1, he3, bl3_1, bh3_1⟩ := hf3
 refine jI 5 el_26 rfl rfl rfl rfl ?_
 refine jF 6 fld_45_0 rfl rfl ?_
 refine JH.q 7 rfl (q_load1 ty_4.h rfl (fun w hw => (Mem.rowR' (i := 1) rfl he3 w hw) 0 _ rfl)) ?_
 refine jM 8 rfl rfl ?_
 refine JH.pg 9 rfl (Gd.t1 rfl rfl rfl) (fun hc => p_move rfl) ?_
 refine JH.pg 10 rfl (Gd.t1 rfl rfl rfl) (fun hc => p_nilCheck (gvt rfl hc)) ?_
 refine JH.pg 11 rfl (Gd.t1 rfl rfl rfl) (fun hc => p_fieldAddr fld_28_1.h (gvt rfl hc)) ?_
 refine JH.pg 13 rfl (Gd.t1 rfl rfl rfl) (fun hc => p_move rfl) ?_
 refine JH.pg 17 rfl (Gd.t1 rfl rfl rfl) (fun hc => p_move rfl) ?_
 refine JH.pg 18 rfl (Gd.t1 rfl rfl rfl) (fun hc => p_nilCheck (gvt rfl hc)) ?_
 refine JH.pg 19 rfl (Gd.t1 rfl rfl rfl) (fun hc => p_fieldAddr fld_45_3.h (gvt rfl hc)) ?_
 refine JH.wg 20 rfl (Gd.t1 rfl rfl rfl) (fun hc os' u' hv => q_load1 ty_2.h (gvt rfl hc) (Mem.pub ((hr2.vis hv) 3 _ rfl))) ?_
 refine y1 12 ?_
 refine JHo.qg rfl (Gd.t1 rfl rfl rfl) (fun hc => q_load1 ty_26.h (gvt rfl hc) (Mem.box (i := 0) rfl rfl)) ?_
 have hy5 : mem_slots[(M.hashP x.pits x.player % (mem_slots.length : Int)).toNat]? = some (M.slo mem_slots ((M.hashP x.pits x.player % (mem_slots.length : Int)).toNat)) := M.slo_get len_
 refine JH.fact (fun w hw => elemv_Slot (Mem.ownC (i := 2) rfl w hw) hy5) (fun hf5 => ?_)
 obtain ⟨A5_1, c5_1, he5, bl5_1, bh5_1⟩ := hf5
 refine JH.pg 14 rfl (Gd.t1 rfl rfl rfl) (fun hc => p_indexAddr el_26 (gvt rfl hc) (gvt rfl hc) (by omega) (by omega) rfl) ?_
 refine JH.pg 15 rfl (Gd.t1 rfl rfl rfl) (fun hc => p_fieldAddr fld_45_3.h (gvt rfl hc)) ?_
 refine JH.qg 16 rfl (Gd.t1 rfl rfl rfl) (fun hc => q_load1 ty_2.h (gvt rfl hc) (fun w hw => (Mem.rowR' (i := 1) rfl he5 w hw) 3 _ rfl)) ?_
 refine JH.pg 21 rfl (Gd.t1 rfl rfl rfl) (fun hc => p_gtr (gvt rfl hc) (gvt rfl hc)) ?_
 refine JH.p 22 rfl (p_pickAnd rfl rfl rfl) ?_
 refine yd ?_
 refine zi (fun h6 h6' => ?_) fun h6 h6' => ?_
 ·
  have hE9 : M.stoS mem_slots x = mem_slots := if_neg (by have h9 := h6; exact M.sto_no h9)
  refine zrb0 [0, 0, 0] hb (Up.refl _ _) ?_
  have hN10 : (M.stoS mem_slots x).length = mem_slots.length := by first | exact M.stoS_len _ _ | rfl
  have hE10 : (M.stoS mem_slots x) = mem_slots := by first | exact hE9 | rfl
  refine ⟨(some ⟨b4, 0, none⟩), cmem_9, gmem_9, vsmem_9, fmem_9, rfl, ?_, ?_, ?_⟩
  · first | rfl | (dsimp only; rw [hN10, hE10]; done) | (dsimp only; rw [hN10, hE10]; rfl) | (dsimp only; simp only [hN10, hE10]) | (rw [hN10, hE10]; done) | (rw [hN10, hE10]; rfl)
  all_goals (try dsimp only)
  all_goals (first | (rw [hN10, hE10]; omega) | omega | (simp only [*]; omega) | (simp; done))
 have hE9 : M.stoS mem_slots x = mem_slots.set (M.plc mem_slots.length x.pits x.player).toNat x := if_pos (by have h9 := h6; exact M.sto_yes h9)
 refine Js.skip <| zS <| Qm rfl <| Qc rfl <| QS 0 hr2 rfl ?_
 refine za zeh fun b7 => zw 0 rfl rfl rfl ?_
 refine zN <| Qm rfl <| Qc rfl <| Qf fh rfl <| QC (hr2 1 _ rfl) rfl <| zcs rfl (fun w hw => c_spec_l00Own x.pits (ok_ hw)) ?_
 intro A8 c8 bl8 bh8
 refine Qf fh rfl <| zw 1 rfl rfl rfl ?_
 refine JL.nil ?_
 refine Js.fact (fun w hw => elem_in cSlot (m := 6) (k := (M.hashP x.pits x.player % (mem_slots.length : Int)).toNat) (xs := mem_slots) (fun _ => rfl) (Mem.ownC (i := 4) rfl w hw) (by omega)) (fun hl9 => ?_)
 refine Js.ex3 (fun w hw => St.elemS cSlot (m := 6) (i := 4) (xs := mem_slots) (fun _ => rfl) rfl hy5 he5 hw) (fun f9_1 f9_2 f9_3 => ?_)
 refine Js.unp 0 ?_
 refine zn ?_
 refine zdr [7] ?_
 refine jM 0 rfl rfl ?_
 refine jN 1 rfl rfl ?_
 refine jF 2 fld_28_1 rfl rfl ?_
 refine jB 3 5 ty_26 rfl rfl rfl rfl ?_
 refine jM 4 rfl rfl ?_
 refine JH.q 5 rfl (L9 4 rfl rfl) ?_
 refine jI 6 el_26 rfl rfl rfl rfl ?_
 refine y1 7 ?_
 refine JHo.s rfl (e_storeRow (i := 6) (xs' := setL vsmem_9 (0 + ((M.hashP x.pits x.player % (mem_slots.length : Int)).toNat) * 6) [.bool x.used, .slice A8 x.pits.length c8, .int .i64 x.player, .int .i64 x.depth, .int .i64 x.value, .int .i64 x.bound]) ty_45.h rfl rfl rfl rfl rfl rfl (by omega) rfl) (.inr rfl) ?_
 rintro _ _ _ ⟨rfl, rfl⟩ _
 refine znh ?_
 refine yd ?_
 refine Js.pk (cSlot x) [.bool x.used, .slice A8 x.pits.length c8, .int .i64 x.player, .int .i64 x.depth, .int .i64 x.value, .int .i64 x.bound] (fun f12 G12 => ?_)
 refine Js.front (i := 3) rfl ?_
 refine zn ?_
 refine Js.front (i := 1) rfl ?_
 refine zn ?_
 refine Js.front (i := 4) rfl ?_
 refine zn ?_
 refine Js.conv (fun w hw => St.closeE cSlot (k := (M.hashP x.pits x.player % (mem_slots.length : Int)).toNat) (m := 6) (xs := mem_slots) (y := x) (vs := vsmem_9) (vs' := (setL vsmem_9 (0 + ((M.hashP x.pits x.player % (mem_slots.length : Int)).toNat) * 6) [.bool x.used, .slice A8 x.pits.length c8, .int .i64 x.player, .int .i64 x.depth, .int .i64 x.value, .int .i64 x.bound])) (by omega) rfl rfl hw) ?_
 refine zn ?_
 refine zrbE [4, 4, 0] hb (Up.refl _ _) ?_
 have hN10 : (M.stoS mem_slots x).length = mem_slots.length := by first | exact M.stoS_len _ _ | rfl
 have hE10 : (M.stoS mem_slots x) = (mem_slots.set ((M.hashP x.pits x.player % (mem_slots.length : Int)).toNat) x) := by first | exact hE9 | rfl
 refine ⟨(some ⟨b4, 0, none⟩), cmem_9, gmem_9, (setL vsmem_9 (0 + ((M.hashP x.pits x.player % (mem_slots.length : Int)).toNat) * 6) [.bool x.used, .slice A8 x.pits.length c8, .int .i64 x.player, .int .i64 x.depth, .int .i64 x.value, .int .i64 x.bound]), (f9_3 ++ f12 ++ f9_2), rfl, ?_, ?_, ?_⟩
 · first | rfl | (dsimp only; rw [hN10, hE10]; done) | (dsimp only; rw [hN10, hE10]; rfl) | (dsimp only; simp only [hN10, hE10]) | (rw [hN10, hE10]; done) | (rw [hN10, hE10]; rfl)
 all_goals (try dsimp only)
 all_goals (first | (rw [hN10, hE10]; omega) | omega | (simp only [*]; omega) | (simp; done))
theorem c_spec_l00MaxL (a b : Int) {w : World}  : RetV Try.prog 79 [.int .i64 a, .int .i64 b] w (.int .i64 (M.mx a b)) := by
 refine enter @Try.func79 @Try.ntmps79 rfl rfl ?_
 refine zent ?_
 refine zS <| Qa rfl <| zJ <| zS <| Qm rfl <| Qm rfl <| Qg rfl rfl <| JL.nil ?_
 refine zi (fun h1 h1' => ?_) fun h1 h1' => ?_
 ·
  refine zS <| Qm rfl <| Qa rfl <| JL.nil ?_
  refine zR (Up.refl _ _) ?_
  unfold M.mx; first | (rw [if_pos (by assumption)]; rfl) | (rw [if_neg (by assumption)]; rfl) | (simp only [outV]; split <;> simp_all <;> omega)
 refine Js.skip <| zS <| Qm rfl <| Qa rfl <| JL.nil ?_
 refine zR (Up.refl _ _) ?_
 unfold M.mx; first | (rw [if_pos (by assumption)]; rfl) | (rw [if_neg (by assumption)]; rfl) | (simp only [outV]; split <;> simp_all <;> omega)
def S_spec_l16S_visit (N : Nat) : Prop := ∀ (s_rules : M.Rul) (s_slots : List M.Slo) (s_hits : Int) (As_9 : Option Addr) (cs_9 : Nat) (gs_9 : List Nat) (vss_9 : List Value) (fs_9 : List Nat) (p : M.Pos) (v_p : Value) (depth : Int) (low : Int) (high : Int) (bs : Nat) (w : World) (hb : Bw w [boxO bs [.int .i64 s_rules.pits, .int .i64 s_rules.seeds, .bool s_rules.stores, .bool s_rules.skip, .bool s_rules.relay, .bool s_rules.feed, .bool s_rules.again, .int .i64 s_rules.capture, .int .i64 s_rules.slam, .slice As_9 s_slots.length cs_9, .int .i64 s_hits] 103, rowO 45 6 (.slice As_9 s_slots.length cs_9) s_slots.length vss_9 gs_9, ownC (lSlot s_slots) vss_9 fs_9]) (h_p : (Ty.ref (cPosition p)).ok (offW w (([boxO bs [.int .i64 s_rules.pits, .int .i64 s_rules.seeds, .bool s_rules.stores, .bool s_rules.skip, .bool s_rules.relay, .bool s_rules.feed, .bool s_rules.again, .int .i64 s_rules.capture, .int .i64 s_rules.slam, .slice As_9 s_slots.length cs_9, .int .i64 s_hits] 103, rowO 45 6 (.slice As_9 s_slots.length cs_9) s_slots.length vss_9 gs_9, ownC (lSlot s_slots) vss_9 fs_9] : List Own).flatMap (·.fp))) v_p) (bd0 : s_slots.length ≤ cs_9) (bd1 : cs_9 ≤ 9223372036854775807) (r0 : M.okP s_rules p = true) (r1 : 0 ≤ depth) (r2 : depth ≤ 8) (r3 : 0 < s_slots.length) (r4 : s_slots.length ≤ 4194304) (r5 : M.SzM 4194304 s_slots) (r6 : M.BdM s_slots) (r7 : 0 ≤ s_hits) (r8 : s_hits + M.e9 depth.toNat ≤ 1000000000000) (r9 : 96 * depth + low ≤ 3000) (r10 : 96 * depth - low ≤ 3000) (r11 : 96 * depth + high ≤ 3000) (r12 : 96 * depth - high ≤ 3000) (_ : depth.toNat = N), RetB Try.prog 69 [.pointer (some ⟨bs, 0, none⟩), v_p, .int .i64 depth, .int .i64 low, .int .i64 high] w [boxO bs [.int .i64 s_rules.pits, .int .i64 s_rules.seeds, .bool s_rules.stores, .bool s_rules.skip, .bool s_rules.relay, .bool s_rules.feed, .bool s_rules.again, .int .i64 s_rules.capture, .int .i64 s_rules.slam, .slice As_9 s_slots.length cs_9, .int .i64 s_hits] 103, rowO 45 6 (.slice As_9 s_slots.length cs_9) s_slots.length vss_9 gs_9, ownC (lSlot s_slots) vss_9 fs_9] (fun v bs' => ∃ (Axs_9 : Option Addr) (cxs_9 : Nat) (gxs_9 : List Nat) (vsxs_9 : List Value) (fxs_9 : List Nat), v = .int .i64 ((M.vis s_rules depth.toNat p low high (s_slots, s_hits)).1) ∧ bs' = [boxO bs [.int .i64 s_rules.pits, .int .i64 s_rules.seeds, .bool s_rules.stores, .bool s_rules.skip, .bool s_rules.relay, .bool s_rules.feed, .bool s_rules.again, .int .i64 s_rules.capture, .int .i64 s_rules.slam, .slice Axs_9 (((M.vis s_rules depth.toNat p low high (s_slots, s_hits)).2.1).length) cxs_9, .int .i64 ((M.vis s_rules depth.toNat p low high (s_slots, s_hits)).2.2)] 103, rowO 45 6 (.slice Axs_9 (((M.vis s_rules depth.toNat p low high (s_slots, s_hits)).2.1).length) cxs_9) (((M.vis s_rules depth.toNat p low high (s_slots, s_hits)).2.1).length) vsxs_9 gxs_9, ownC (lSlot ((M.vis s_rules depth.toNat p low high (s_slots, s_hits)).2.1)) vsxs_9 fxs_9] ∧ ((M.vis s_rules depth.toNat p low high (s_slots, s_hits)).2.1).length ≤ cxs_9 ∧ cxs_9 ≤ 9223372036854775807)
theorem c_spec_l16S_visit_ : ∀ N, S_spec_l16S_visit N := by
 intro N
 induction N using Nat.strongRecOn with
 | ind N ih =>
 intro s_rules s_slots s_hits As_9 cs_9 gs_9 vss_9 fs_9 p v_p depth low high bs w hb h_p bd0 bd1 r0 r1 r2 r3 r4 r5 r6 r7 r8 r9 r10 r11 r12 hN
 obtain ⟨g1, g2, g3, g4, g5, g6, g7⟩ := M.okP_bd r0
 have g8 := M.results_8 r0
 obtain ⟨hp1, hp2⟩ := M.plc_bd (n := s_slots.length) p.pits p.player r3
 have g9 := M.okP_len r0
 have g10 := M.e9_pos (depth - 1).toNat
 revert v_p; apply opn
 intro b3 o3 A1 c1 h1 bl1 bh1 A2 c2 h2 bl2 bh2 hr3
 refine enterB hb @Try.func69 @Try.ntmps69 rfl rfl ?_
 refine zent ?_
 refine Js.trashE ?_
 refine zn ?_
 refine zS <| Qa rfl <| zN <| Qm rfl <| Qc rfl <| Qf fh rfl <| Qf fh rfl <| Qm rfl <| zp rfl (fun w hw => c_spec_l07All s_rules p ⟨_, _, [.int .i64 s_rules.pits, .int .i64 s_rules.seeds, .bool s_rules.stores, .bool s_rules.skip, .bool s_rules.relay, .bool s_rules.feed, .bool s_rules.again, .int .i64 s_rules.capture, .int .i64 s_rules.slam], rfl, ⟨rfl, rfl, rfl, rfl, rfl, rfl, rfl, rfl, rfl, trivial⟩, Mem.boxR (i := 0) rfl 0 9 _ hw⟩ (ok_ hw) (r0 := r0)) ?_
 intro u4 x4 A5 c5 h5 bl5 bh5
 refine Qa rfl <| zJ <| zS <| Qm rfl <| Qz rfl <| Qe rfl rfl <| JL.nil ?_
 refine zi (fun h6 h6' => ?_) fun h6 h6' => ?_
 ·
  have hQ : (M.vis s_rules depth.toNat p low high (s_slots, s_hits)) = _ := M.vis_end (by have := h6'; omega)
  refine zS <| Qm rfl <| Qc rfl <| Qf fh rfl <| Qf fh rfl <| Qm rfl <| zv rfl (fun w hw => c_spec_l15End s_rules p ⟨_, _, [.int .i64 s_rules.pits, .int .i64 s_rules.seeds, .bool s_rules.stores, .bool s_rules.skip, .bool s_rules.relay, .bool s_rules.feed, .bool s_rules.again, .int .i64 s_rules.capture, .int .i64 s_rules.slam], rfl, ⟨rfl, rfl, rfl, rfl, rfl, rfl, rfl, rfl, rfl, trivial⟩, Mem.boxR (i := 0) rfl 0 9 _ hw⟩ (ok_ hw) (r0 := r0)) <| Qa rfl <| JL.nil ?_
  refine zrb [0, 0, 0] hb x4 ?_
  have hE : (.int .i64 (M.endV s_rules p) : Value) = .int .i64 ((M.vis s_rules depth.toNat p low high (s_slots, s_hits)).1) := by first | (rw [hQ]; done) | (rw [hQ]; rfl) | (rw [M.vis_d hd hne hfu hV hbn]; done)
  have hN10 : ((M.vis s_rules depth.toNat p low high (s_slots, s_hits)).2.1).length = s_slots.length := by first | (rw [hQ]; done) | (rw [hQ]; rfl) | (rw [M.vis_d hd hne hfu hV hbn]; done) | (rw [M.vis_d hd hne hfu hV hbn, M.stoS_len]; omega)
  have hE10 : (M.vis s_rules depth.toNat p low high (s_slots, s_hits)).2.1 = s_slots := by first | (rw [hQ]; done) | (rw [hQ]; rfl) | (rw [M.vis_d hd hne hfu hV hbn]; done)
  have hE11 : (M.vis s_rules depth.toNat p low high (s_slots, s_hits)).2.2 = s_hits := by first | (rw [hQ]; done) | (rw [hQ]; rfl) | (rw [M.vis_d hd hne hfu hV hbn]; done)
  refine ⟨As_9, cs_9, gs_9, vss_9, fs_9, hE, ?_, ?_, ?_⟩
  · rw [hN10, hE10, hE11]
  all_goals (first | (rw [hN10, hE10, hE11]; omega) | omega | (simp only [*]; omega) | (simp; done))
 have hne : (M.results s_rules p).length ≠ 0 := by have := h6'; omega
 refine Js.skip <| Js.seq <| zS <| Qm rfl <| Qe rfl rfl <| JL.nil ?_
 refine zi (fun h7 h7' => ?_) fun h7 h7' => ?_
 ·
  have hQ : (M.vis s_rules depth.toNat p low high (s_slots, s_hits)) = (0, (s_slots, s_hits)) := by rw [show depth.toNat = 0 by have := h7'; omega]; exact M.vis_0 hne
  refine zS <| Qa rfl <| JL.nil ?_
  refine zrb [0, 0, 0] hb x4 ?_
  have hE : (.int .i64 0 : Value) = .int .i64 ((M.vis s_rules depth.toNat p low high (s_slots, s_hits)).1) := by first | (rw [hQ]; done) | (rw [hQ]; rfl) | (rw [M.vis_d hd hne hfu hV hbn]; done)
  have hN10 : ((M.vis s_rules depth.toNat p low high (s_slots, s_hits)).2.1).length = s_slots.length := by first | (rw [hQ]; done) | (rw [hQ]; rfl) | (rw [M.vis_d hd hne hfu hV hbn]; done) | (rw [M.vis_d hd hne hfu hV hbn, M.stoS_len]; omega)
  have hE10 : (M.vis s_rules depth.toNat p low high (s_slots, s_hits)).2.1 = s_slots := by first | (rw [hQ]; done) | (rw [hQ]; rfl) | (rw [M.vis_d hd hne hfu hV hbn]; done)
  have hE11 : (M.vis s_rules depth.toNat p low high (s_slots, s_hits)).2.2 = s_hits := by first | (rw [hQ]; done) | (rw [hQ]; rfl) | (rw [M.vis_d hd hne hfu hV hbn]; done)
  refine ⟨As_9, cs_9, gs_9, vss_9, fs_9, hE, ?_, ?_, ?_⟩
  · rw [hN10, hE10, hE11]
  all_goals (first | (rw [hN10, hE10, hE11]; omega) | omega | (simp only [*]; omega) | (simp; done))
 have hd : 1 ≤ depth := by have := h7'; omega
 have he9 := M.e9_step hd
 refine Js.skip <| zS <| Qm rfl <| Qc rfl <| Qf fh rfl <| Qm rfl <| Qm rfl ?_
 refine JL.fact (row_some (i := 1) rfl (by omega)) (fun hf8 => ?_)
 obtain ⟨b8, rfl⟩ := hf8
 have hy9 : s_slots[(M.plc s_slots.length p.pits p.player).toNat]? = some (M.slo s_slots ((M.plc s_slots.length p.pits p.player).toNat)) := M.slo_get len_
 refine JL.fact (fun w hw => elemv_Slot (Mem.ownC (i := 2) rfl w hw) hy9) (fun hf9 => ?_)
 obtain ⟨A9_1, c9_1, he9, bl9_1, bh9_1⟩ := hf9
 refine zxc (fun v => v = .tuple #[.pointer (some ⟨b8, 0 + ((M.plc s_slots.length p.pits p.player).toNat) * 6, none⟩), .bool (M.fndB s_slots p depth)]) rfl (fun w hw => c_spec_l16Find (M.Mem.mk s_rules s_slots) p depth (srow_ok lSlot (xs := s_slots) (hw.pr (i := 1) rfl) (hw.pr (i := 2) rfl) (lSlot_length _)) (Mem.boxR (i := 0) rfl 0 10 _ hw) (ok_ hw) (r1 := r5) (r4 := r0)) (fun w9 v9 hw9 h9 => h9) ?_
 rintro _ rfl
 refine Qm rfl <| Qx rfl rfl <| Qx rfl rfl <| Qa rfl <| Qa rfl <| zJ <| zS <| Qm rfl <| Qm rfl <| zg (Gd.t1 rfl rfl rfl) (fun hc => p_move rfl) <| zg (Gd.t1 rfl rfl rfl) (fun hc => p_nilCheck (gh hc rfl)) <| zg (Gd.t1 rfl rfl rfl) (fun hc => p_fieldAddr fld_45_5.h (gh hc rfl)) <| zgq (Gd.t1 rfl rfl rfl) (fun hc => q_load1 ty_2.h (gh hc rfl) (fun w hw => (Mem.rowR' (i := 1) rfl he9 w hw) 5 _ rfl)) <| zg (Gd.t1 rfl rfl rfl) (fun hc => p_eql (gh hc rfl) rfl) ?_
 refine zg (Gd.t1 rfl rfl rfl) (fun hc => p_move (gh hc rfl)) <| zg (Gd.f2 rfl rfl rfl) (fun hc => p_move rfl) <| zg (Gd.f2 rfl rfl rfl) (fun hc => p_nilCheck (gh hc rfl)) <| zg (Gd.f2 rfl rfl rfl) (fun hc => p_fieldAddr fld_45_5.h (gh hc rfl)) <| zgq (Gd.f2 rfl rfl rfl) (fun hc => q_load1 ty_2.h (gh hc rfl) (fun w hw => (Mem.rowR' (i := 1) rfl he9 w hw) 5 _ rfl)) <| zg (Gd.f2 rfl rfl rfl) (fun hc => p_eql (gh hc rfl) rfl) <| zg (Gd.f2 rfl rfl rfl) (fun hc => p_move (gh hc rfl)) <| zg (Gd.t2 rfl rfl rfl) (fun hc => p_move rfl) <| zg (Gd.t2 rfl rfl rfl) (fun hc => p_nilCheck (gh hc rfl)) <| zg (Gd.t2 rfl rfl rfl) (fun hc => p_fieldAddr fld_45_4.h (gh hc rfl)) <| zgq (Gd.t2 rfl rfl rfl) (fun hc => q_load1 ty_2.h (gh hc rfl) (fun w hw => (Mem.rowR' (i := 1) rfl he9 w hw) 4 _ rfl)) <| zg (Gd.t2 rfl rfl rfl) (fun hc => p_move rfl) <| zg (Gd.t2 rfl rfl rfl) (fun hc => p_geq (gh hc rfl) (gh hc rfl)) <| zg (Gd.f2 rfl rfl rfl) (fun hc => p_pickAnd (gh hc rfl) (gvl rfl hc) rfl) ?_
 refine zg (Gd.t1 rfl rfl rfl) (fun hc => p_pickOr (gh hc rfl) rfl (gvl rfl hc)) <| zg (Gd.t1 rfl rfl rfl) (fun hc => p_move (gh hc rfl)) <| zg (Gd.f2 rfl rfl rfl) (fun hc => p_move rfl) <| zg (Gd.f2 rfl rfl rfl) (fun hc => p_nilCheck (gh hc rfl)) <| zg (Gd.f2 rfl rfl rfl) (fun hc => p_fieldAddr fld_45_5.h (gh hc rfl)) <| zgq (Gd.f2 rfl rfl rfl) (fun hc => q_load1 ty_2.h (gh hc rfl) (fun w hw => (Mem.rowR' (i := 1) rfl he9 w hw) 5 _ rfl)) <| zg (Gd.f2 rfl rfl rfl) (fun hc => p_eql (gh hc rfl) rfl) <| zg (Gd.f2 rfl rfl rfl) (fun hc => p_move (gh hc rfl)) <| zg (Gd.t2 rfl rfl rfl) (fun hc => p_move rfl) <| zg (Gd.t2 rfl rfl rfl) (fun hc => p_nilCheck (gh hc rfl)) <| zg (Gd.t2 rfl rfl rfl) (fun hc => p_fieldAddr fld_45_4.h (gh hc rfl)) <| zgq (Gd.t2 rfl rfl rfl) (fun hc => q_load1 ty_2.h (gh hc rfl) (fun w hw => (Mem.rowR' (i := 1) rfl he9 w hw) 4 _ rfl)) <| zg (Gd.t2 rfl rfl rfl) (fun hc => p_move rfl) <| zg (Gd.t2 rfl rfl rfl) (fun hc => p_leq (gh hc rfl) (gh hc rfl)) ?_
 refine zg (Gd.f2 rfl rfl rfl) (fun hc => p_pickAnd (gh hc rfl) (gvl rfl hc) rfl) <| zg (Gd.t1 rfl rfl rfl) (fun hc => p_pickOr (gh hc rfl) rfl (gvl rfl hc)) <| Qq (p_pickAnd rfl rfl rfl) <| JL.nil ?_
 refine zi (fun h10 h10' => ?_) fun h10 h10' => ?_
 ·
  have hfu : (M.fndB s_slots p depth && M.useS (M.fnd s_slots p) low high) = true := h10
  have hQ : (M.vis s_rules depth.toNat p low high (s_slots, s_hits)) = _ := M.vis_hit hd hne hfu
  have hfb := M.fnd_b (d := depth) r6 r3 (M.use_l hfu)
  refine zS <| Qm rfl <| Qc rfl <| Qf fh rfl <| Q0 0 rfl rfl rfl <| Qp rfl rfl <| Qc rfl <| Qf fh rfl <| zw 0 rfl rfl rfl ?_
  refine zN <| Qm rfl <| Qc rfl <| Qf fh rfl <| Qw (q_load1 ty_2.h rfl (fun w hw => (Mem.rowR' (i := 1) rfl he9 w hw) 4 _ rfl)) <| Qa rfl <| JL.nil ?_
  refine zrb [0, 0, 0] hb x4 ?_
  have hE : (.int .i64 ((M.slo s_slots ((M.plc s_slots.length p.pits p.player).toNat)).value) : Value) = .int .i64 ((M.vis s_rules depth.toNat p low high (s_slots, s_hits)).1) := by first | (rw [hQ]; done) | (rw [hQ]; rfl) | (rw [M.vis_d hd hne hfu hV hbn]; done)
  have hN10 : ((M.vis s_rules depth.toNat p low high (s_slots, s_hits)).2.1).length = s_slots.length := by first | (rw [hQ]; done) | (rw [hQ]; rfl) | (rw [M.vis_d hd hne hfu hV hbn]; done) | (rw [M.vis_d hd hne hfu hV hbn, M.stoS_len]; omega)
  have hE10 : (M.vis s_rules depth.toNat p low high (s_slots, s_hits)).2.1 = s_slots := by first | (rw [hQ]; done) | (rw [hQ]; rfl) | (rw [M.vis_d hd hne hfu hV hbn]; done)
  have hE11 : (M.vis s_rules depth.toNat p low high (s_slots, s_hits)).2.2 = (s_hits + 1) := by first | (rw [hQ]; done) | (rw [hQ]; rfl) | (rw [M.vis_d hd hne hfu hV hbn]; done)
  refine ⟨(some ⟨b8, 0, none⟩), cs_9, gs_9, vss_9, fs_9, hE, ?_, ?_, ?_⟩
  · rw [hN10, hE10, hE11]
  all_goals (first | (rw [hN10, hE10, hE11]; omega) | omega | (simp only [*]; omega) | (simp; done))
 have hfu0 : (M.fndB s_slots p depth && M.useS (M.fnd s_slots p) low high) = false := h10
 have hfu : ¬ (M.fndB s_slots p depth && M.useS (M.fnd s_slots p) low high) = true := by rw [hfu0]; decide
 refine Js.skip <| zS <| Qa rfl <| zJ <| zS <| Qa rfl <| JL.nil <| Js.block ?_
 refine zl [0, 1, 2, 3, 4, 11] (fun F U l os u m => ∃ (k : Nat) (b h : Int) (sl : List M.Slo) (A11_0_9 : Option Addr) (c11_0_9 : Nat) (g11_0_9 : List Nat) (vs11_0_9 : List Value) (fl11_0_9 : List Nat) (G11_3 : List Nat), l = F [(14, .int .i64 b), (15, .int .i64 (k : Int))] ∧ os = U [some (boxO bs [.int .i64 s_rules.pits, .int .i64 s_rules.seeds, .bool s_rules.stores, .bool s_rules.skip, .bool s_rules.relay, .bool s_rules.feed, .bool s_rules.again, .int .i64 s_rules.capture, .int .i64 s_rules.slam, .slice A11_0_9 sl.length c11_0_9, .int .i64 h] 103), some (rowO 45 6 (.slice A11_0_9 sl.length c11_0_9) sl.length vs11_0_9 g11_0_9), some (ownC (lSlot sl) vs11_0_9 fl11_0_9), some (anyO G11_3)] ∧ (M.vlp s_rules p depth low high b sl h k = M.vlp s_rules p depth low high (-1000) s_slots s_hits 0) ∧ (k ≤ (M.results s_rules p).length) ∧ (M.SzM 4194304 sl) ∧ (M.BdM sl) ∧ (sl.length = s_slots.length) ∧ (M.HB (M.e9 (depth - 1).toNat) s_hits k h) ∧ (-(1000 + 96 * depth) ≤ b) ∧ (b ≤ 1000 + 96 * depth) ∧ (sl.length ≤ c11_0_9) ∧ (c11_0_9 ≤ 9223372036854775807) ∧ m = (M.results s_rules p).length - k) ⟨0, (-1000), s_hits, s_slots, _, _, _, _, _, _, rfl, rfl, by rfl, zt, by exact r5, by exact r6, by rfl, by exact M.HB.zero _ _, by omega, by omega, zu, zu, rfl⟩ ?_
 rintro _ _ u11 _ ⟨k, b, h, sl, A11_0_9, c11_0_9, g11_0_9, vs11_0_9, fl11_0_9, G11_3, rfl, rfl, hS, hk, hsz, hbd, hln, hhb, b0, b1, f11_8, f11_9, rfl⟩ x11
 refine zn ?_
 have hhl := hhb.lim (by omega) g10
 refine Js.seq <| zS <| Qm rfl <| Qm rfl <| Qz rfl <| Ql rfl rfl <| Qm rfl <| zg (Gd.t1 rfl rfl rfl) (fun hc => p_move rfl) <| zg (Gd.t1 rfl rfl rfl) (fun hc => p_move rfl) <| zg (Gd.t1 rfl rfl rfl) (fun hc => p_lss (gh hc rfl) (gh hc rfl)) <| Qq (p_pickAnd rfl rfl rfl) <| JL.nil ?_
 refine zi (fun h12 h12' => ?_) fun h12 h12' => ?_
 ·
  obtain ⟨hkk, hbh⟩ : k < (M.results s_rules p).length ∧ ¬ high ≤ b := by have h9 := h12; simp only [Bool.and_eq_true, decide_eq_true_eq] at h9; omega
  obtain ⟨y13, hy13⟩ : ∃ x, (M.results s_rules p)[k]? = some x := ⟨_, List.getElem?_eq_getElem (by omega)⟩
  obtain ⟨b13, o13, A13_3, c13_3, A13_4, c13_4, he13, hr13, h13_3, h13_4, bl13_3, bh13_3, bl13_4, bh13_4⟩ := elem_Result (Ty.mono _ h5 x11.vis) hy13
  refine Js.skip <| Js.seq <| Js.block <| zS <| Qm rfl <| Qm rfl <| Qq (p_indexAddr el_107 rfl rfl (by omega) (by omega) he13) <| Qa rfl <| zN <| Qm rfl <| Qm rfl <| zv rfl (fun w hw => c_spec_l00MaxL low b) <| Qa rfl <| zN ?_
  refine Qa rfl <| zJ <| zS <| Qm rfl <| Qc rfl <| Qf fh rfl <| QC (hr13 2 _ rfl) rfl <| JL.nil ?_
  refine zi (fun h14 h14' => ?_) fun h14 h14' => ?_
  ·
   have hag : y13.again = true := h14
   have hS2 := M.vlp_t hS hy13 hbh hag
   have hx1 := M.mx_le low b
   have hgb9 := M.results_gain (M.results_get0 hy13)
   have hok9 := M.results_ok (M.results_get0 hy13)
   have hv9 := M.vis_b (r := s_rules) (d := (depth - 1).toNat) (p := y13.next) (low := M.mx low b - y13.gain) (high := high - y13.gain) (sl := sl) (h := h) (M.results_ok (M.results_get0 hy13)) hbd (by omega)
   obtain ⟨w1_, w2_, w3_, w4_, w5_, w6_, w7_⟩ := hv9
   have hx2 := M.mx_le b (y13.gain + (M.vis s_rules (depth - 1).toNat y13.next (M.mx low b - y13.gain) (high - y13.gain) (sl, h)).1)
   refine zdr [22] ?_
   refine jM 0 rfl rfl ?_
   refine jN 1 rfl rfl ?_
   refine jF 2 fld_110_1 rfl rfl ?_
   refine jW 3 ty_2 rfl rfl (fun hv => (hr13.vis hv) 1 _ rfl) ?_
   refine jM 4 rfl rfl ?_
   refine jM 5 rfl rfl ?_
   refine jN 6 rfl rfl ?_
   refine jF 7 fld_110_3 rfl rfl ?_
   refine jM 8 rfl rfl ?_
   refine JH.p 9 rfl (p_sub rfl rfl (IntWalk.i64_in _ (by omega))) ?_
   refine jM 10 rfl rfl ?_
   refine jM 11 rfl rfl ?_
   refine jN 12 rfl rfl ?_
   refine jF 13 fld_110_1 rfl rfl ?_
   refine jW 14 ty_2 rfl rfl (fun hv => (hr13.vis hv) 1 _ rfl) ?_
   refine JH.p 15 rfl (p_sub rfl rfl (IntWalk.i64_in _ (by omega))) ?_
   refine jM 16 rfl rfl ?_
   refine jM 17 rfl rfl ?_
   refine jN 18 rfl rfl ?_
   refine jF 19 fld_110_1 rfl rfl ?_
   refine jW 20 ty_2 rfl rfl (fun hv => (hr13.vis hv) 1 _ rfl) ?_
   refine JH.p 21 rfl (p_sub rfl rfl (IntWalk.i64_in _ (by omega))) ?_
   refine y1 22 ?_
   refine yBB 3 sp_ rfl rfl (fun w hb _ hw => ih ((depth - 1).toNat) (by omega) s_rules sl h A11_0_9 c11_0_9 g11_0_9 vs11_0_9 fl11_0_9 y13.next _ (depth - 1) ((M.mx low b) - y13.gain) (high - y13.gain) bs w hb (ok_ hw) (by omega) (by omega) (M.results_ok (M.results_get0 hy13)) (by omega) (by omega) (by omega) (by omega) hsz hbd (by omega) (by omega) (by omega) (by omega) (by omega) (by omega) rfl) ?_
   rintro _ _ G15 ⟨A15s_9, c15s_9, g15s_9, vs15s_9, f15s_9, rfl, rfl, bl15_0, bl15_1⟩
   refine znh ?_
   refine JH.p 23 rfl (p_add rfl rfl (IntWalk.i64_in _ (by omega))) ?_
   refine jA 24 rfl rfl ?_
   refine yd ?_
   refine Js.region <| Qm rfl <| Qm rfl <| zv rfl (fun w hw => c_spec_l00MaxL b (y13.gain + ((M.vis s_rules (depth - 1).toNat y13.next ((M.mx low b) - y13.gain) (high - y13.gain) (sl, h)).1))) <| Qa rfl <| JL.nil <| Js.blockEnd <| Js.region <| Qm rfl <| Qp rfl rfl <| Qa rfl <| JL.nil ?_
   refine zf [0, 0, 0] fun GG16 => ?_
   refine zn ?_
   exact zag ⟨k + 1, M.mx b (y13.gain + ((M.vis s_rules (depth - 1).toNat y13.next ((M.mx low b) - y13.gain) (high - y13.gain) (sl, h)).1)), (M.vis s_rules (depth - 1).toNat y13.next ((M.mx low b) - y13.gain) (high - y13.gain) (sl, h)).2.2, (M.vis s_rules (depth - 1).toNat y13.next ((M.mx low b) - y13.gain) (high - y13.gain) (sl, h)).2.1, _, _, _, _, _, _, rfl, rfl, by exact hS2, zt, by exact w2_ hsz, by exact w1_, by exact w7_.trans hln, by exact hhb.step w5_ w6_, by omega, by omega, zu, zu, rfl⟩ x11
  have hag : y13.again = false := h14
  have hS2 := M.vlp_f hS hy13 hbh hag
  have hx1 := M.mx_le low b
  have hgb9 := M.results_gain (M.results_get0 hy13)
  have hok9 := M.results_ok (M.results_get0 hy13)
  have hv9 := M.vis_b (r := s_rules) (d := (depth - 1).toNat) (p := y13.next) (low := y13.gain - high) (high := y13.gain - M.mx low b) (sl := sl) (h := h) (M.results_ok (M.results_get0 hy13)) hbd (by omega)
  obtain ⟨w1_, w2_, w3_, w4_, w5_, w6_, w7_⟩ := hv9
  have hx2 := M.mx_le b (y13.gain - (M.vis s_rules (depth - 1).toNat y13.next (y13.gain - high) (y13.gain - M.mx low b) (sl, h)).1)
  refine zdr [22] ?_
  refine jM 0 rfl rfl ?_
  refine jN 1 rfl rfl ?_
  refine jF 2 fld_110_1 rfl rfl ?_
  refine jW 3 ty_2 rfl rfl (fun hv => (hr13.vis hv) 1 _ rfl) ?_
  refine jM 4 rfl rfl ?_
  refine jM 5 rfl rfl ?_
  refine jN 6 rfl rfl ?_
  refine jF 7 fld_110_3 rfl rfl ?_
  refine jM 8 rfl rfl ?_
  refine JH.p 9 rfl (p_sub rfl rfl (IntWalk.i64_in _ (by omega))) ?_
  refine jM 10 rfl rfl ?_
  refine jN 11 rfl rfl ?_
  refine jF 12 fld_110_1 rfl rfl ?_
  refine jW 13 ty_2 rfl rfl (fun hv => (hr13.vis hv) 1 _ rfl) ?_
  refine jM 14 rfl rfl ?_
  refine JH.p 15 rfl (p_sub rfl rfl (IntWalk.i64_in _ (by omega))) ?_
  refine jM 16 rfl rfl ?_
  refine jN 17 rfl rfl ?_
  refine jF 18 fld_110_1 rfl rfl ?_
  refine jW 19 ty_2 rfl rfl (fun hv => (hr13.vis hv) 1 _ rfl) ?_
  refine jM 20 rfl rfl ?_
  refine JH.p 21 rfl (p_sub rfl rfl (IntWalk.i64_in _ (by omega))) ?_
  refine y1 22 ?_
  refine yBB 3 sp_ rfl rfl (fun w hb _ hw => ih ((depth - 1).toNat) (by omega) s_rules sl h A11_0_9 c11_0_9 g11_0_9 vs11_0_9 fl11_0_9 y13.next _ (depth - 1) (y13.gain - high) (y13.gain - (M.mx low b)) bs w hb (ok_ hw) (by omega) (by omega) (M.results_ok (M.results_get0 hy13)) (by omega) (by omega) (by omega) (by omega) hsz hbd (by omega) (by omega) (by omega) (by omega) (by omega) (by omega) rfl) ?_
  rintro _ _ G17 ⟨A17s_9, c17s_9, g17s_9, vs17s_9, f17s_9, rfl, rfl, bl17_0, bl17_1⟩
  refine znh ?_
  refine JH.p 23 rfl (p_sub rfl rfl (IntWalk.i64_in _ (by omega))) ?_
  refine jA 24 rfl rfl ?_
  refine yd ?_
  refine Js.region <| Qm rfl <| Qm rfl <| zv rfl (fun w hw => c_spec_l00MaxL b (y13.gain - ((M.vis s_rules (depth - 1).toNat y13.next (y13.gain - high) (y13.gain - (M.mx low b)) (sl, h)).1))) <| Qa rfl <| JL.nil <| Js.blockEnd <| Js.region <| Qm rfl <| Qp rfl rfl <| Qa rfl <| JL.nil ?_
  refine zf [0, 0, 0] fun GG18 => ?_
  refine zn ?_
  exact zag ⟨k + 1, M.mx b (y13.gain - ((M.vis s_rules (depth - 1).toNat y13.next (y13.gain - high) (y13.gain - (M.mx low b)) (sl, h)).1)), (M.vis s_rules (depth - 1).toNat y13.next (y13.gain - high) (y13.gain - (M.mx low b)) (sl, h)).2.2, (M.vis s_rules (depth - 1).toNat y13.next (y13.gain - high) (y13.gain - (M.mx low b)) (sl, h)).2.1, _, _, _, _, _, _, rfl, rfl, by exact hS2, zt, by exact w2_ hsz, by exact w1_, by exact w7_.trans hln, by exact hhb.step w5_ w6_, by omega, by omega, zu, zu, rfl⟩ x11
 have hV : M.vlp s_rules p depth low high (-1000) s_slots s_hits 0 = (b, (sl, h)) := by have h9 := h12; simp only [Bool.and_eq_false_iff, decide_eq_false_iff_not] at h9; rcases h9 with h9 | h9; (exact hS.symm.trans (M.vlp_e rfl (by omega))); exact hS.symm.trans (M.vlp_b rfl (by omega))
 have hln0 : 0 < sl.length := by omega
 have hps : M.okP s_rules (M.posS ⟨true, p.pits, p.player, depth, b, M.bndV b low high⟩) = true := M.okP_bare r0
 refine zx ?_
 refine zS <| Qa rfl <| zJ <| zS <| Qm rfl <| Qm rfl <| Qk rfl rfl <| JL.nil ?_
 refine zi (fun h19 h19' => ?_) fun h19 h19' => ?_
 ·
  have hbn := M.bndV_2 (high := high) h19'
  refine Js.region <| Qa rfl <| zJ ?_
  refine zdr [16] ?_
  refine jM 0 rfl rfl ?_
  refine jN 1 rfl rfl ?_
  refine jF 2 fld_103_0 rfl rfl ?_
  refine jM 3 rfl rfl ?_
  refine jN 4 rfl rfl ?_
  refine jF 5 fld_31_0 rfl rfl ?_
  refine JH.w 6 rfl (fun os' u' hv => q_load1 ty_29.h rfl (Mem.pub ((hr3.vis ((x4.vis.trans x11.vis).trans hv)) 0 _ rfl))) ?_
  refine jM 7 rfl rfl ?_
  refine jN 8 rfl rfl ?_
  refine jF 9 fld_31_2 rfl rfl ?_
  refine JH.w 10 rfl (fun os' u' hv => q_load1 ty_2.h rfl (Mem.pub ((hr3.vis ((x4.vis.trans x11.vis).trans hv)) 2 _ rfl))) ?_
  refine jM 11 rfl rfl ?_
  refine jM 12 rfl rfl ?_
  refine jM 13 rfl rfl ?_
  refine JH.p 14 rfl (q_bld) ?_
  refine y1 15 ?_
  refine yb rfl rfl fun b20 => ?_
  refine y1 16 ?_
  refine zhh [1, 1, 1] ?_
  refine yBB 3 sp_ rfl rfl (fun w hb _ hw => c_spec_l16StoreL s_rules sl h (M.Slo.mk true p.pits p.player depth b 2) hb (ok_ hw) (r0 := hps)) ?_
  rintro _ _ G21 ⟨A21mem_9, c21mem_9, g21mem_9, vs21mem_9, f21mem_9, rfl, rfl, bl21_0, bl21_1⟩
  refine znh ?_
  refine yd ?_
  refine zS <| Qm rfl <| Qa rfl <| JL.nil ?_
  refine zrb [0, 0, 0] hb (x4.trans x11) ?_
  have hE : (.int .i64 b : Value) = .int .i64 ((M.vis s_rules depth.toNat p low high (s_slots, s_hits)).1) := by first | (rw [hQ]; done) | (rw [hQ]; rfl) | (rw [M.vis_d hd hne hfu hV hbn]; done)
  have hN10 : ((M.vis s_rules depth.toNat p low high (s_slots, s_hits)).2.1).length = (M.stoS sl (M.Slo.mk true p.pits p.player depth b 2)).length := by first | (rw [hQ]; done) | (rw [hQ]; rfl) | (rw [M.vis_d hd hne hfu hV hbn]; done) | (rw [M.vis_d hd hne hfu hV hbn, M.stoS_len]; omega)
  have hE10 : (M.vis s_rules depth.toNat p low high (s_slots, s_hits)).2.1 = (M.stoS sl (M.Slo.mk true p.pits p.player depth b 2)) := by first | (rw [hQ]; done) | (rw [hQ]; rfl) | (rw [M.vis_d hd hne hfu hV hbn]; done)
  have hE11 : (M.vis s_rules depth.toNat p low high (s_slots, s_hits)).2.2 = h := by first | (rw [hQ]; done) | (rw [hQ]; rfl) | (rw [M.vis_d hd hne hfu hV hbn]; done)
  refine ⟨A21mem_9, c21mem_9, g21mem_9, vs21mem_9, f21mem_9, hE, ?_, ?_, ?_⟩
  · rw [hN10, hE10, hE11]
  all_goals (first | (rw [hN10, hE10, hE11]; omega) | omega | (simp only [*]; omega) | (simp; done))
 refine zS <| Qm rfl <| Qm rfl <| Qh rfl rfl <| JL.nil ?_
 refine zi (fun h22 h22' => ?_) fun h22 h22' => ?_
 ·
  have hbn := M.bndV_1 (b := b) (low := low) (by have := h22'; omega) (by omega)
  refine Js.region <| Qa rfl <| zJ ?_
  refine zdr [16] ?_
  refine jM 0 rfl rfl ?_
  refine jN 1 rfl rfl ?_
  refine jF 2 fld_103_0 rfl rfl ?_
  refine jM 3 rfl rfl ?_
  refine jN 4 rfl rfl ?_
  refine jF 5 fld_31_0 rfl rfl ?_
  refine JH.w 6 rfl (fun os' u' hv => q_load1 ty_29.h rfl (Mem.pub ((hr3.vis ((x4.vis.trans x11.vis).trans hv)) 0 _ rfl))) ?_
  refine jM 7 rfl rfl ?_
  refine jN 8 rfl rfl ?_
  refine jF 9 fld_31_2 rfl rfl ?_
  refine JH.w 10 rfl (fun os' u' hv => q_load1 ty_2.h rfl (Mem.pub ((hr3.vis ((x4.vis.trans x11.vis).trans hv)) 2 _ rfl))) ?_
  refine jM 11 rfl rfl ?_
  refine jM 12 rfl rfl ?_
  refine jM 13 rfl rfl ?_
  refine JH.p 14 rfl (q_bld) ?_
  refine y1 15 ?_
  refine yb rfl rfl fun b23 => ?_
  refine y1 16 ?_
  refine zhh [1, 1, 1] ?_
  refine yBB 3 sp_ rfl rfl (fun w hb _ hw => c_spec_l16StoreL s_rules sl h (M.Slo.mk true p.pits p.player depth b 1) hb (ok_ hw) (r0 := hps)) ?_
  rintro _ _ G24 ⟨A24mem_9, c24mem_9, g24mem_9, vs24mem_9, f24mem_9, rfl, rfl, bl24_0, bl24_1⟩
  refine znh ?_
  refine yd ?_
  refine zS <| Qm rfl <| Qa rfl <| JL.nil ?_
  refine zrb [0, 0, 0] hb (x4.trans x11) ?_
  have hE : (.int .i64 b : Value) = .int .i64 ((M.vis s_rules depth.toNat p low high (s_slots, s_hits)).1) := by first | (rw [hQ]; done) | (rw [hQ]; rfl) | (rw [M.vis_d hd hne hfu hV hbn]; done)
  have hN10 : ((M.vis s_rules depth.toNat p low high (s_slots, s_hits)).2.1).length = (M.stoS sl (M.Slo.mk true p.pits p.player depth b 1)).length := by first | (rw [hQ]; done) | (rw [hQ]; rfl) | (rw [M.vis_d hd hne hfu hV hbn]; done) | (rw [M.vis_d hd hne hfu hV hbn, M.stoS_len]; omega)
  have hE10 : (M.vis s_rules depth.toNat p low high (s_slots, s_hits)).2.1 = (M.stoS sl (M.Slo.mk true p.pits p.player depth b 1)) := by first | (rw [hQ]; done) | (rw [hQ]; rfl) | (rw [M.vis_d hd hne hfu hV hbn]; done)
  have hE11 : (M.vis s_rules depth.toNat p low high (s_slots, s_hits)).2.2 = h := by first | (rw [hQ]; done) | (rw [hQ]; rfl) | (rw [M.vis_d hd hne hfu hV hbn]; done)
  refine ⟨A24mem_9, c24mem_9, g24mem_9, vs24mem_9, f24mem_9, hE, ?_, ?_, ?_⟩
  · rw [hN10, hE10, hE11]
  all_goals (first | (rw [hN10, hE10, hE11]; omega) | omega | (simp only [*]; omega) | (simp; done))
 have hbn := M.bndV_0 (b := b) (low := low) (high := high) (by have := h22'; omega) (by omega)
 refine Js.skip <| Js.seq ?_
 refine zdr [16] ?_
 refine jM 0 rfl rfl ?_
 refine jN 1 rfl rfl ?_
 refine jF 2 fld_103_0 rfl rfl ?_
 refine jM 3 rfl rfl ?_
 refine jN 4 rfl rfl ?_
 refine jF 5 fld_31_0 rfl rfl ?_
 refine JH.w 6 rfl (fun os' u' hv => q_load1 ty_29.h rfl (Mem.pub ((hr3.vis ((x4.vis.trans x11.vis).trans hv)) 0 _ rfl))) ?_
 refine jM 7 rfl rfl ?_
 refine jN 8 rfl rfl ?_
 refine jF 9 fld_31_2 rfl rfl ?_
 refine JH.w 10 rfl (fun os' u' hv => q_load1 ty_2.h rfl (Mem.pub ((hr3.vis ((x4.vis.trans x11.vis).trans hv)) 2 _ rfl))) ?_
 refine jM 11 rfl rfl ?_
 refine jM 12 rfl rfl ?_
 refine jM 13 rfl rfl ?_
 refine JH.p 14 rfl (q_bld) ?_
 refine y1 15 ?_
 refine yb rfl rfl fun b25 => ?_
 refine y1 16 ?_
 refine zhh [1, 1, 1] ?_
 refine yBB 3 sp_ rfl rfl (fun w hb _ hw => c_spec_l16StoreL s_rules sl h (M.Slo.mk true p.pits p.player depth b 0) hb (ok_ hw) (r0 := hps)) ?_
 rintro _ _ G26 ⟨A26mem_9, c26mem_9, g26mem_9, vs26mem_9, f26mem_9, rfl, rfl, bl26_0, bl26_1⟩
 refine znh ?_
 refine yd ?_
 refine zS <| Qm rfl <| Qa rfl <| JL.nil ?_
 refine zrb [0, 0, 0] hb (x4.trans x11) ?_
 have hE : (.int .i64 b : Value) = .int .i64 ((M.vis s_rules depth.toNat p low high (s_slots, s_hits)).1) := by first | (rw [hQ]; done) | (rw [hQ]; rfl) | (rw [M.vis_d hd hne hfu hV hbn]; done)
 have hN10 : ((M.vis s_rules depth.toNat p low high (s_slots, s_hits)).2.1).length = (M.stoS sl (M.Slo.mk true p.pits p.player depth b 0)).length := by first | (rw [hQ]; done) | (rw [hQ]; rfl) | (rw [M.vis_d hd hne hfu hV hbn]; done) | (rw [M.vis_d hd hne hfu hV hbn, M.stoS_len]; omega)
 have hE10 : (M.vis s_rules depth.toNat p low high (s_slots, s_hits)).2.1 = (M.stoS sl (M.Slo.mk true p.pits p.player depth b 0)) := by first | (rw [hQ]; done) | (rw [hQ]; rfl) | (rw [M.vis_d hd hne hfu hV hbn]; done)
 have hE11 : (M.vis s_rules depth.toNat p low high (s_slots, s_hits)).2.2 = h := by first | (rw [hQ]; done) | (rw [hQ]; rfl) | (rw [M.vis_d hd hne hfu hV hbn]; done)
 refine ⟨A26mem_9, c26mem_9, g26mem_9, vs26mem_9, f26mem_9, hE, ?_, ?_, ?_⟩
 · rw [hN10, hE10, hE11]
 all_goals (first | (rw [hN10, hE10, hE11]; omega) | omega | (simp only [*]; omega) | (simp; done))
theorem c_spec_l16S_visit (s_rules : M.Rul) (s_slots : List M.Slo) (s_hits : Int) {As_9 : Option Addr} {cs_9 : Nat} {gs_9 : List Nat} {vss_9 : List Value} {fs_9 : List Nat} (p : M.Pos) {v_p : Value} (depth low high : Int) {bs : Nat} {w : World} (hb : Bw w [boxO bs [.int .i64 s_rules.pits, .int .i64 s_rules.seeds, .bool s_rules.stores, .bool s_rules.skip, .bool s_rules.relay, .bool s_rules.feed, .bool s_rules.again, .int .i64 s_rules.capture, .int .i64 s_rules.slam, .slice As_9 s_slots.length cs_9, .int .i64 s_hits] 103, rowO 45 6 (.slice As_9 s_slots.length cs_9) s_slots.length vss_9 gs_9, ownC (lSlot s_slots) vss_9 fs_9]) (h_p : (Ty.ref (cPosition p)).ok (offW w (([boxO bs [.int .i64 s_rules.pits, .int .i64 s_rules.seeds, .bool s_rules.stores, .bool s_rules.skip, .bool s_rules.relay, .bool s_rules.feed, .bool s_rules.again, .int .i64 s_rules.capture, .int .i64 s_rules.slam, .slice As_9 s_slots.length cs_9, .int .i64 s_hits] 103, rowO 45 6 (.slice As_9 s_slots.length cs_9) s_slots.length vss_9 gs_9, ownC (lSlot s_slots) vss_9 fs_9] : List Own).flatMap (·.fp))) v_p) (bd0 : s_slots.length ≤ cs_9 := by exact om_) (bd1 : cs_9 ≤ 9223372036854775807 := by exact om_) (r0 : M.okP s_rules p = true := by exact om_) (r1 : 0 ≤ depth := by exact om_) (r2 : depth ≤ 8 := by exact om_) (r3 : 0 < s_slots.length := by exact om_) (r4 : s_slots.length ≤ 4194304 := by exact om_) (r5 : M.SzM 4194304 s_slots := by exact om_) (r6 : M.BdM s_slots := by exact om_) (r7 : 0 ≤ s_hits := by exact om_) (r8 : s_hits + M.e9 depth.toNat ≤ 1000000000000 := by exact om_) (r9 : 96 * depth + low ≤ 3000 := by exact om_) (r10 : 96 * depth - low ≤ 3000 := by exact om_) (r11 : 96 * depth + high ≤ 3000 := by exact om_) (r12 : 96 * depth - high ≤ 3000 := by exact om_) : RetB Try.prog 69 [.pointer (some ⟨bs, 0, none⟩), v_p, .int .i64 depth, .int .i64 low, .int .i64 high] w [boxO bs [.int .i64 s_rules.pits, .int .i64 s_rules.seeds, .bool s_rules.stores, .bool s_rules.skip, .bool s_rules.relay, .bool s_rules.feed, .bool s_rules.again, .int .i64 s_rules.capture, .int .i64 s_rules.slam, .slice As_9 s_slots.length cs_9, .int .i64 s_hits] 103, rowO 45 6 (.slice As_9 s_slots.length cs_9) s_slots.length vss_9 gs_9, ownC (lSlot s_slots) vss_9 fs_9] (fun v bs' => ∃ (Axs_9 : Option Addr) (cxs_9 : Nat) (gxs_9 : List Nat) (vsxs_9 : List Value) (fxs_9 : List Nat), v = .int .i64 ((M.vis s_rules depth.toNat p low high (s_slots, s_hits)).1) ∧ bs' = [boxO bs [.int .i64 s_rules.pits, .int .i64 s_rules.seeds, .bool s_rules.stores, .bool s_rules.skip, .bool s_rules.relay, .bool s_rules.feed, .bool s_rules.again, .int .i64 s_rules.capture, .int .i64 s_rules.slam, .slice Axs_9 (((M.vis s_rules depth.toNat p low high (s_slots, s_hits)).2.1).length) cxs_9, .int .i64 ((M.vis s_rules depth.toNat p low high (s_slots, s_hits)).2.2)] 103, rowO 45 6 (.slice Axs_9 (((M.vis s_rules depth.toNat p low high (s_slots, s_hits)).2.1).length) cxs_9) (((M.vis s_rules depth.toNat p low high (s_slots, s_hits)).2.1).length) vsxs_9 gxs_9, ownC (lSlot ((M.vis s_rules depth.toNat p low high (s_slots, s_hits)).2.1)) vsxs_9 fxs_9] ∧ ((M.vis s_rules depth.toNat p low high (s_slots, s_hits)).2.1).length ≤ cxs_9 ∧ cxs_9 ≤ 9223372036854775807) := c_spec_l16S_visit_ _ s_rules s_slots s_hits As_9 cs_9 gs_9 vss_9 fs_9 p v_p depth low high bs w hb h_p bd0 bd1 r0 r1 r2 r3 r4 r5 r6 r7 r8 r9 r10 r11 r12 rfl
theorem c_spec_SearchWith (mem : M.Mem) {v_mem : Value} (p : M.Pos) {v_p : Value} (depth : Int) {w : World} (h_mem : (Ty.agg (cMemory mem)).ok w v_mem) (h_p : (Ty.agg (cPosition p)).ok w v_p) (r0 : mem.slots.length ≤ 4194304 := by exact om_) (r1 : ∀ x ∈ mem.slots, x.pits.length ≤ 4194304 := by exact om_) (r2 : p.pits.length ≤ 4194304 := by exact om_) (r3 : p.stores.length ≤ 4194304 := by exact om_) : Ret Try.prog 53 [v_mem, v_p, .int .i64 depth] w (Ty.tup [Ty.int ((M.swM mem p depth).1), Ty.int ((M.swM mem p depth).2.1), Ty.agg (cMemory ((M.swM mem p depth).2.2.1)), Ty.int ((M.swM mem p depth).2.2.2)]) := by
 revert v_mem; apply opn
 intro A1 c1 h1 bl1 bh1
 revert v_p; apply opn
 intro A2 c2 h2 bl2 bh2 A3 c3 h3 bl3 bh3
 refine enter @Try.func53 @Try.ntmps53 rfl rfl ?_
 refine zent ?_
 refine zS <| zb rfl fun b4 => zb rfl fun b5 => Qa rfl <| Qa rfl <| za zeh fun b6 => Qa rfl <| zN <| zv rfl (fun w hw => c_spec_l16Code mem p (ok_ hw) (ok_ hw) (r1 := r1)) <| Qa rfl <| zJ <| zS <| Qm rfl <| Qe rfl rfl ?_
 refine JL.nil ?_
 refine zi (fun h7 h7' => ?_) fun h7 h7' => ?_
 ·
  have hrem := M.remC_eq (m := mem) (p := p) (by simpa using h7)
  obtain ⟨ho1, ho2, ho3, ho4, ho5⟩ := M.rem_parts hrem
  refine Js.region <| Qf fh rfl <| Qm rfl <| zv rfl (fun w hw => c_spec_l15Ask mem.rules p depth ⟨_, _, [.int .i64 mem.rules.pits, .int .i64 mem.rules.seeds, .bool mem.rules.stores, .bool mem.rules.skip, .bool mem.rules.relay, .bool mem.rules.feed, .bool mem.rules.again, .int .i64 mem.rules.capture, .int .i64 mem.rules.slam], rfl, ⟨rfl, rfl, rfl, rfl, rfl, rfl, rfl, rfl, rfl, trivial⟩, Mem.boxR (i := 2) rfl 0 9 _ hw⟩ (ok_ hw)) <| Qm rfl <| Qx rfl rfl <| Qx rfl rfl <| Qx rfl rfl <| Qa rfl <| zJ <| zS <| Qm rfl <| Qd rfl rfl <| JL.nil ?_
  refine zi (fun h8 h8' => ?_) fun h8 h8' => ?_
  ·
   have hE := M.swM_c hrem (by rw [← M.ask_c]; simpa using h8)
   have hac := M.ask_c mem.rules p depth
   have hq0 : 0 = (M.swM mem p depth).1 := by first | (rw [hE]; done) | (rw [hE]; rfl) | (rw [hE, hac]; done) | (rw [hE, ← hac]; done) | (rw [hE]; exact hac)
   have hq1 : 0 = (M.swM mem p depth).2.1 := by first | (rw [hE]; done) | (rw [hE]; rfl) | (rw [hE, hac]; done) | (rw [hE, ← hac]; done) | (rw [hE]; exact hac)
   have hq2 : 0 = (((M.swM mem p depth).2.2.1).rules).pits := by first | (rw [hE]; done) | (rw [hE]; rfl) | (rw [hE, hac]; done) | (rw [hE, ← hac]; done) | (rw [hE]; exact hac)
   have hq3 : 0 = (((M.swM mem p depth).2.2.1).rules).seeds := by first | (rw [hE]; done) | (rw [hE]; rfl) | (rw [hE, hac]; done) | (rw [hE, ← hac]; done) | (rw [hE]; exact hac)
   have hq4 : false = (((M.swM mem p depth).2.2.1).rules).stores := by first | (rw [hE]; done) | (rw [hE]; rfl) | (rw [hE, hac]; done) | (rw [hE, ← hac]; done) | (rw [hE]; exact hac)
   have hq5 : false = (((M.swM mem p depth).2.2.1).rules).skip := by first | (rw [hE]; done) | (rw [hE]; rfl) | (rw [hE, hac]; done) | (rw [hE, ← hac]; done) | (rw [hE]; exact hac)
   have hq6 : false = (((M.swM mem p depth).2.2.1).rules).relay := by first | (rw [hE]; done) | (rw [hE]; rfl) | (rw [hE, hac]; done) | (rw [hE, ← hac]; done) | (rw [hE]; exact hac)
   have hq7 : false = (((M.swM mem p depth).2.2.1).rules).feed := by first | (rw [hE]; done) | (rw [hE]; rfl) | (rw [hE, hac]; done) | (rw [hE, ← hac]; done) | (rw [hE]; exact hac)
   have hq8 : false = (((M.swM mem p depth).2.2.1).rules).again := by first | (rw [hE]; done) | (rw [hE]; rfl) | (rw [hE, hac]; done) | (rw [hE, ← hac]; done) | (rw [hE]; exact hac)
   have hq9 : 0 = (((M.swM mem p depth).2.2.1).rules).capture := by first | (rw [hE]; done) | (rw [hE]; rfl) | (rw [hE, hac]; done) | (rw [hE, ← hac]; done) | (rw [hE]; exact hac)
   have hq10 : 0 = (((M.swM mem p depth).2.2.1).rules).slam := by first | (rw [hE]; done) | (rw [hE]; rfl) | (rw [hE, hac]; done) | (rw [hE, ← hac]; done) | (rw [hE]; exact hac)
   have hq11 : [] = ((M.swM mem p depth).2.2.1).slots := by first | (rw [hE]; done) | (rw [hE]; rfl) | (rw [hE, hac]; done) | (rw [hE, ← hac]; done) | (rw [hE]; exact hac)
   have hq12 : ((M.ask mem.rules p depth).2.2) = (M.swM mem p depth).2.2.2 := by first | (rw [hE]; done) | (rw [hE]; rfl) | (rw [hE, hac]; done) | (rw [hE, ← hac]; done) | (rw [hE]; exact hac)
   refine zS <| Qb ?_
   refine Qm rfl <| Qa rfl <| Qa rfl <| zw 0 rfl rfl rfl ?_
   refine Qa rfl <| JL.nil ?_
   exact zro (Up.refl _ _)
  have hac := M.ask_c mem.rules p depth
  have hz : M.srchC mem.rules p depth = 0 := by rw [← hac]; simpa using h8
  have hsc := M.srchC_ok hz
  obtain ⟨hs1, hs2, hs3, hs4⟩ := hsc
  have hv9 := M.vis_b (d := depth.toNat) (low := -1000) (high := 1000) (h := 0) ho2 ho5 (by omega)
  obtain ⟨w1_, w2_, w3_, w4_, w5_, w6_, w7_⟩ := hv9
  have wz_ := w2_ r1
  have he8 := M.e9_8 (d := depth.toNat) (by omega)
  refine Js.skip <| zS <| zc rfl (fun w hw => c_spec_l16Own mem (ok_ hw) (r1 := r1)) ?_
  intro A10 c10 vs10 f10 bl10 bh10
  refine Qb ?_
  refine zb rfl fun b11 => Qa rfl <| zN <| Qm rfl <| Qm rfl <| zB 3 sp_ rfl (fun w hb hw => c_spec_l16S_visit mem.rules mem.slots 0 p depth (-1000) 1000 hb (ok_ hw) (r0 := ho2) (r5 := r1) (r6 := ho5)) ?_
  rintro _ _ G12 ⟨A12s_9, c12s_9, g12s_9, vs12s_9, f12s_9, rfl, rfl, bl12_0, bl12_1⟩
  refine znl ?_
  refine Qa rfl <| zJ <| zS <| Qm rfl <| zv rfl (fun w hw => c_spec_l16Value ((M.vis mem.rules depth.toNat p (-1000) 1000 (mem.slots, 0)).1)) <| Qt rfl <| Qm rfl <| zg (Gd.f1 rfl rfl rfl) (fun hc => p_move rfl) <| zg (Gd.f1 rfl rfl rfl) (fun hc => p_nilCheck (gh hc rfl)) <| zg (Gd.f1 rfl rfl rfl) (fun hc => p_fieldAddr fld_103_0.h (gh hc rfl)) <| zgv (Gd.f1 rfl rfl rfl) (fun hc => (opds_1 (gh hc rfl))) (fun hc => (fun w hw => c_spec_l16Ok (M.Mem.mk mem.rules ((M.vis mem.rules depth.toNat p (-1000) 1000 (mem.slots, 0)).2.1)) ⟨_, _, [.int .i64 mem.rules.pits, .int .i64 mem.rules.seeds, .bool mem.rules.stores, .bool mem.rules.skip, .bool mem.rules.relay, .bool mem.rules.feed, .bool mem.rules.again, .int .i64 mem.rules.capture, .int .i64 mem.rules.slam, .slice A12s_9 (((M.vis mem.rules depth.toNat p (-1000) 1000 (mem.slots, 0)).2.1).length) c12s_9], rfl, ⟨rfl, rfl, rfl, rfl, rfl, rfl, rfl, rfl, rfl, (srow_ok lSlot (xs := ((M.vis mem.rules depth.toNat p (-1000) 1000 (mem.slots, 0)).2.1)) (hw.pr (i := 1) rfl) (hw.pr (i := 2) rfl) (lSlot_length _)), trivial⟩, Mem.boxR (i := 0) rfl 0 10 _ hw⟩ (r0 := (by dsimp only; omega)) (r1 := wz_))) ?_
  refine zg (Gd.f1 rfl rfl rfl) (fun hc => p_not (gh hc rfl)) <| Qq (p_pickOr rfl rfl rfl) <| JL.nil ?_
  refine zi (fun h13 h13' => ?_) fun h13 h13' => ?_
  ·
   have hE := M.swM_6 hrem hz (M.swOk_n h13)
   have hq0 : 0 = (M.swM mem p depth).1 := by first | (rw [hE]; done) | (rw [hE]; rfl) | (rw [hE, hac]; done) | (rw [hE, ← hac]; done) | (rw [hE]; exact hac)
   have hq1 : 0 = (M.swM mem p depth).2.1 := by first | (rw [hE]; done) | (rw [hE]; rfl) | (rw [hE, hac]; done) | (rw [hE, ← hac]; done) | (rw [hE]; exact hac)
   have hq2 : 0 = (((M.swM mem p depth).2.2.1).rules).pits := by first | (rw [hE]; done) | (rw [hE]; rfl) | (rw [hE, hac]; done) | (rw [hE, ← hac]; done) | (rw [hE]; exact hac)
   have hq3 : 0 = (((M.swM mem p depth).2.2.1).rules).seeds := by first | (rw [hE]; done) | (rw [hE]; rfl) | (rw [hE, hac]; done) | (rw [hE, ← hac]; done) | (rw [hE]; exact hac)
   have hq4 : false = (((M.swM mem p depth).2.2.1).rules).stores := by first | (rw [hE]; done) | (rw [hE]; rfl) | (rw [hE, hac]; done) | (rw [hE, ← hac]; done) | (rw [hE]; exact hac)
   have hq5 : false = (((M.swM mem p depth).2.2.1).rules).skip := by first | (rw [hE]; done) | (rw [hE]; rfl) | (rw [hE, hac]; done) | (rw [hE, ← hac]; done) | (rw [hE]; exact hac)
   have hq6 : false = (((M.swM mem p depth).2.2.1).rules).relay := by first | (rw [hE]; done) | (rw [hE]; rfl) | (rw [hE, hac]; done) | (rw [hE, ← hac]; done) | (rw [hE]; exact hac)
   have hq7 : false = (((M.swM mem p depth).2.2.1).rules).feed := by first | (rw [hE]; done) | (rw [hE]; rfl) | (rw [hE, hac]; done) | (rw [hE, ← hac]; done) | (rw [hE]; exact hac)
   have hq8 : false = (((M.swM mem p depth).2.2.1).rules).again := by first | (rw [hE]; done) | (rw [hE]; rfl) | (rw [hE, hac]; done) | (rw [hE, ← hac]; done) | (rw [hE]; exact hac)
   have hq9 : 0 = (((M.swM mem p depth).2.2.1).rules).capture := by first | (rw [hE]; done) | (rw [hE]; rfl) | (rw [hE, hac]; done) | (rw [hE, ← hac]; done) | (rw [hE]; exact hac)
   have hq10 : 0 = (((M.swM mem p depth).2.2.1).rules).slam := by first | (rw [hE]; done) | (rw [hE]; rfl) | (rw [hE, hac]; done) | (rw [hE, ← hac]; done) | (rw [hE]; exact hac)
   have hq11 : [] = ((M.swM mem p depth).2.2.1).slots := by first | (rw [hE]; done) | (rw [hE]; rfl) | (rw [hE, hac]; done) | (rw [hE, ← hac]; done) | (rw [hE]; exact hac)
   have hq12 : 6 = (M.swM mem p depth).2.2.2 := by first | (rw [hE]; done) | (rw [hE]; rfl) | (rw [hE, hac]; done) | (rw [hE, ← hac]; done) | (rw [hE]; exact hac)
   refine zS <| Qb ?_
   refine Qa rfl <| Qa rfl <| zw 4 rfl rfl rfl ?_
   refine Qa rfl <| JL.nil ?_
   exact zro (Up.refl _ _)
  have hE := M.swM_0 hrem hz (M.swOk_y h13)
  refine Js.skip <| Js.seq ?_
  refine zdr [11] ?_
  refine jM 0 rfl rfl ?_
  refine jM 1 rfl rfl ?_
  refine jN 2 rfl rfl ?_
  refine jF 3 fld_103_1 rfl rfl ?_
  refine jB 4 0 ty_2 rfl rfl rfl rfl ?_
  refine jM 5 rfl rfl ?_
  refine jN 6 rfl rfl ?_
  refine jF 7 fld_103_0 rfl rfl ?_
  refine JH.q 8 rfl (L9 0 rfl rfl) ?_
  refine jA 9 rfl rfl ?_
  refine jA 10 rfl rfl ?_
  refine y1 11 ?_
  refine yst rfl rfl rfl ?_
  refine jA 12 rfl rfl ?_
  refine yd ?_
  have hq0 : ((M.vis mem.rules depth.toNat p (-1000) 1000 (mem.slots, 0)).1) = (M.swM mem p depth).1 := by first | (rw [hE]; done) | (rw [hE]; rfl) | (rw [hE, hac]; done) | (rw [hE, ← hac]; done) | (rw [hE]; exact hac)
  have hq1 : ((M.vis mem.rules depth.toNat p (-1000) 1000 (mem.slots, 0)).2.2) = (M.swM mem p depth).2.1 := by first | (rw [hE]; done) | (rw [hE]; rfl) | (rw [hE, hac]; done) | (rw [hE, ← hac]; done) | (rw [hE]; exact hac)
  have hq2 : mem.rules.pits = (((M.swM mem p depth).2.2.1).rules).pits := by first | (rw [hE]; done) | (rw [hE]; rfl) | (rw [hE, hac]; done) | (rw [hE, ← hac]; done) | (rw [hE]; exact hac)
  have hq3 : mem.rules.seeds = (((M.swM mem p depth).2.2.1).rules).seeds := by first | (rw [hE]; done) | (rw [hE]; rfl) | (rw [hE, hac]; done) | (rw [hE, ← hac]; done) | (rw [hE]; exact hac)
  have hq4 : mem.rules.stores = (((M.swM mem p depth).2.2.1).rules).stores := by first | (rw [hE]; done) | (rw [hE]; rfl) | (rw [hE, hac]; done) | (rw [hE, ← hac]; done) | (rw [hE]; exact hac)
  have hq5 : mem.rules.skip = (((M.swM mem p depth).2.2.1).rules).skip := by first | (rw [hE]; done) | (rw [hE]; rfl) | (rw [hE, hac]; done) | (rw [hE, ← hac]; done) | (rw [hE]; exact hac)
  have hq6 : mem.rules.relay = (((M.swM mem p depth).2.2.1).rules).relay := by first | (rw [hE]; done) | (rw [hE]; rfl) | (rw [hE, hac]; done) | (rw [hE, ← hac]; done) | (rw [hE]; exact hac)
  have hq7 : mem.rules.feed = (((M.swM mem p depth).2.2.1).rules).feed := by first | (rw [hE]; done) | (rw [hE]; rfl) | (rw [hE, hac]; done) | (rw [hE, ← hac]; done) | (rw [hE]; exact hac)
  have hq8 : mem.rules.again = (((M.swM mem p depth).2.2.1).rules).again := by first | (rw [hE]; done) | (rw [hE]; rfl) | (rw [hE, hac]; done) | (rw [hE, ← hac]; done) | (rw [hE]; exact hac)
  have hq9 : mem.rules.capture = (((M.swM mem p depth).2.2.1).rules).capture := by first | (rw [hE]; done) | (rw [hE]; rfl) | (rw [hE, hac]; done) | (rw [hE, ← hac]; done) | (rw [hE]; exact hac)
  have hq10 : mem.rules.slam = (((M.swM mem p depth).2.2.1).rules).slam := by first | (rw [hE]; done) | (rw [hE]; rfl) | (rw [hE, hac]; done) | (rw [hE, ← hac]; done) | (rw [hE]; exact hac)
  have hq11 : ((M.vis mem.rules depth.toNat p (-1000) 1000 (mem.slots, 0)).2.1) = ((M.swM mem p depth).2.2.1).slots := by first | (rw [hE]; done) | (rw [hE]; rfl) | (rw [hE, hac]; done) | (rw [hE, ← hac]; done) | (rw [hE]; exact hac)
  have hq12 : 0 = (M.swM mem p depth).2.2.2 := by first | (rw [hE]; done) | (rw [hE]; rfl) | (rw [hE, hac]; done) | (rw [hE, ← hac]; done) | (rw [hE]; exact hac)
  exact zro (Up.refl _ _)
 have hnr := M.remC_ne (m := mem) (p := p) (by simpa using h7)
 refine Js.skip <| Js.seq <| zS <| Qm rfl <| Qd rfl rfl <| JL.nil ?_
 refine zi (fun h14 h14' => ?_) fun h14 h14' => ?_
 ·
  have hE := M.swM_1 (d := depth) hnr
  have hac := M.remC_1 hnr
  have hq0 : 0 = (M.swM mem p depth).1 := by first | (rw [hE]; done) | (rw [hE]; rfl) | (rw [hE, hac]; done) | (rw [hE, ← hac]; done) | (rw [hE]; exact hac)
  have hq1 : 0 = (M.swM mem p depth).2.1 := by first | (rw [hE]; done) | (rw [hE]; rfl) | (rw [hE, hac]; done) | (rw [hE, ← hac]; done) | (rw [hE]; exact hac)
  have hq2 : 0 = (((M.swM mem p depth).2.2.1).rules).pits := by first | (rw [hE]; done) | (rw [hE]; rfl) | (rw [hE, hac]; done) | (rw [hE, ← hac]; done) | (rw [hE]; exact hac)
  have hq3 : 0 = (((M.swM mem p depth).2.2.1).rules).seeds := by first | (rw [hE]; done) | (rw [hE]; rfl) | (rw [hE, hac]; done) | (rw [hE, ← hac]; done) | (rw [hE]; exact hac)
  have hq4 : false = (((M.swM mem p depth).2.2.1).rules).stores := by first | (rw [hE]; done) | (rw [hE]; rfl) | (rw [hE, hac]; done) | (rw [hE, ← hac]; done) | (rw [hE]; exact hac)
  have hq5 : false = (((M.swM mem p depth).2.2.1).rules).skip := by first | (rw [hE]; done) | (rw [hE]; rfl) | (rw [hE, hac]; done) | (rw [hE, ← hac]; done) | (rw [hE]; exact hac)
  have hq6 : false = (((M.swM mem p depth).2.2.1).rules).relay := by first | (rw [hE]; done) | (rw [hE]; rfl) | (rw [hE, hac]; done) | (rw [hE, ← hac]; done) | (rw [hE]; exact hac)
  have hq7 : false = (((M.swM mem p depth).2.2.1).rules).feed := by first | (rw [hE]; done) | (rw [hE]; rfl) | (rw [hE, hac]; done) | (rw [hE, ← hac]; done) | (rw [hE]; exact hac)
  have hq8 : false = (((M.swM mem p depth).2.2.1).rules).again := by first | (rw [hE]; done) | (rw [hE]; rfl) | (rw [hE, hac]; done) | (rw [hE, ← hac]; done) | (rw [hE]; exact hac)
  have hq9 : 0 = (((M.swM mem p depth).2.2.1).rules).capture := by first | (rw [hE]; done) | (rw [hE]; rfl) | (rw [hE, hac]; done) | (rw [hE, ← hac]; done) | (rw [hE]; exact hac)
  have hq10 : 0 = (((M.swM mem p depth).2.2.1).rules).slam := by first | (rw [hE]; done) | (rw [hE]; rfl) | (rw [hE, hac]; done) | (rw [hE, ← hac]; done) | (rw [hE]; exact hac)
  have hq11 : [] = ((M.swM mem p depth).2.2.1).slots := by first | (rw [hE]; done) | (rw [hE]; rfl) | (rw [hE, hac]; done) | (rw [hE, ← hac]; done) | (rw [hE]; exact hac)
  have hq12 : (M.remC mem p) = (M.swM mem p depth).2.2.2 := by first | (rw [hE]; done) | (rw [hE]; rfl) | (rw [hE, hac]; done) | (rw [hE, ← hac]; done) | (rw [hE]; exact hac)
  refine zS <| Qb ?_
  refine Qm rfl <| Qa rfl <| Qa rfl <| zw 0 rfl rfl rfl ?_
  refine Qa rfl <| JL.nil ?_
  exact zro (Up.refl _ _)
 have h9 := h14; simp at h9; exact absurd h9 (by rw [M.remC_1 hnr]; decide)
end Go.Proofs.Ytmgnckfhghibeaa

/- Walks: G41. -/
import Derived.Test.YtmgnckfhghibeaaGreatZbA3
import Derived.Test.YtmgnckfhghibeaaGreatZbA10
import Derived.Test.YtmgnckfhghibeaaGreatZbA4
import Derived.Test.YtmgnckfhghibeaaGreatZbA8
import Derived.Test.YtmgnckfhghibeaaGreatZbA5
import Derived.Test.YtmgnckfhghibeaaGreatZbA1
import Derived.Test.YtmgnckfhghibeaaGreatZbA0
set_option linter.unusedSimpArgs false
set_option linter.unusedVariables false
set_option maxRecDepth 100000
attribute [local irreducible] Go.Proofs.YtmgnckfhghibeaaGreat.gv
set_option maxHeartbeats 16000000
namespace Go.Proofs.YtmgnckfhghibeaaGreat
open Go.RowKit
theorem c_impl_Memory_look (mem : M.Mem) {v_mem : Value} (p : M.Pos) {v_p : Value} (depth : Int) {w : World} (h_mem : (Ty.agg (cMemory mem)).ok w v_mem) (h_p : (Ty.agg (cPosition p)).ok w v_p) (r0 : mem.slots.length ≤ 4194304 := by exact om_) (r1 : ∀ x ∈ mem.slots, x.pits.length ≤ 4194304 := by exact om_) (r2 : p.pits.length ≤ 4194304 := by exact om_) (r3 : p.stores.length ≤ 4194304 := by exact om_) (r4 : M.okP mem.rules p = true := by exact om_) (r5 : 0 < mem.slots.length := by exact om_) : Ret Tryz.prog 93 [v_mem, v_p, .int .i64 depth] w (Ty.tup [Ty.agg (cSlotL (M.fnd mem.slots p)), Ty.bool (M.fndB mem.slots p depth)]) := by
 obtain ⟨hp1, hp2⟩ := M.plc_bd (n := mem.slots.length) p.pits p.player r5
 have hfs := r1 _ (M.slo_mem (l := mem.slots) (k := (M.plc mem.slots.length p.pits p.player).toNat) (by omega))
 revert v_mem; apply opn
 intro A1 c1 h1 bl1 bh1
 revert v_p; apply opn
 intro A2 c2 h2 bl2 bh2 A3 c3 h3 bl3 bh3
 refine enter @Tryz.func93 @Tryz.ntmps93 rfl rfl ?_
 refine zent ?_
 refine zS <| zb rfl fun b4 => zb rfl fun b5 => za zeh fun b6 => Qa rfl <| zJ ?_
 refine zk [2, 4, 6] (fun F U l os u => ∃ (b8 : Nat) (A7_1 : Option Addr) (c7_1 : Nat), l = F [(8, .pointer (some ⟨b8, 0, none⟩))] ∧ os = [boxO b8 [.bool ((M.slo mem.slots ((M.plc mem.slots.length p.pits p.player).toNat)).used), .slice A7_1 (((M.slo mem.slots ((M.plc mem.slots.length p.pits p.player).toNat)).pits).length) c7_1, .int .i64 ((M.slo mem.slots ((M.plc mem.slots.length p.pits p.player).toNat)).player), .int .i64 ((M.slo mem.slots ((M.plc mem.slots.length p.pits p.player).toNat)).depth), .int .i64 ((M.slo mem.slots ((M.plc mem.slots.length p.pits p.player).toNat)).value), .int .i64 ((M.slo mem.slots ((M.plc mem.slots.length p.pits p.player).toNat)).bound)] 49] ++ U [] ∧ (((M.slo mem.slots ((M.plc mem.slots.length p.pits p.player).toNat)).pits).length ≤ c7_1) ∧ (c7_1 ≤ 9223372036854775807) ∧ ((Ty.ints 2 ((M.slo mem.slots ((M.plc mem.slots.length p.pits p.player).toNat)).pits)).ok u (.slice A7_1 (((M.slo mem.slots ((M.plc mem.slots.length p.pits p.player).toNat)).pits).length) c7_1))) ?_ ?_
 ·
  refine zdr [8] ?_
  refine jF 0 fld_28_1 rfl rfl ?_
  refine jB 1 2 ty_26 rfl rfl rfl rfl ?_
  refine JH.q 2 rfl (L9 2 rfl rfl) ?_
  refine JH.q 3 rfl (L9 1 rfl rfl) ?_
  refine y2 4 7 ?_ ?_
  ·
   refine yv rfl rfl (fun w hw => c_impl_Memory_place mem p (ok_ hw) (ok_ hw) (r0 := r4)) ?_
   have hy12 : mem.slots[(M.plc mem.slots.length p.pits p.player).toNat]? = some (M.slo mem.slots ((M.plc mem.slots.length p.pits p.player).toNat)) := M.slo_get (by omega)
   obtain ⟨b12, o12, A12_1, c12_1, he12, hr12, h12_1, bl12_1, bh12_1⟩ := elem_Slot h1 hy12
   refine jI 5 el_26 rfl rfl rfl he12 ?_
   refine JH.w 6 rfl (fun os' u' hv => LS 0 (hr12.vis hv) rfl) ?_
   refine y1 7 ?_
   refine ya rfl fun b13 => ?_
   refine y1 8 ?_
   refine yst rfl rfl rfl ?_
   refine yd ?_
   exact zm ⟨_, _, _, rfl, rfl, zt, zt, h12_1⟩ (Up.refl _ _)
  refine ya rfl fun b14 => ?_
  refine y1 4 ?_
  refine yv rfl rfl (fun w hw => c_impl_Memory_place mem p (ok_ hw) (ok_ hw) (r0 := r4)) ?_
  have hy15 : mem.slots[(M.plc mem.slots.length p.pits p.player).toNat]? = some (M.slo mem.slots ((M.plc mem.slots.length p.pits p.player).toNat)) := M.slo_get (by omega)
  obtain ⟨b15, o15, A15_1, c15_1, he15, hr15, h15_1, bl15_1, bh15_1⟩ := elem_Slot h1 hy15
  refine jI 5 el_26 rfl rfl rfl he15 ?_
  refine JH.w 6 rfl (fun os' u' hv => LS 0 (hr15.vis hv) rfl) ?_
  refine y1 8 ?_
  refine yst rfl rfl rfl ?_
  refine yd ?_
  exact zm ⟨_, _, _, rfl, rfl, zt, zt, h15_1⟩ (Up.refl _ _)
 rintro _ _ u11 ⟨b8, A7_1, c7_1, rfl, rfl, f11_0, f11_1, f11_2⟩ x11
 refine zn ?_
 refine Js.seq ?_
 refine zdr [23] ?_
 refine JH.q 0 rfl (L9 0 rfl rfl) ?_
 refine jF 1 fld_49_0 rfl rfl ?_
 refine jB 2 0 ty_4 rfl rfl rfl rfl ?_
 refine jM 3 rfl rfl ?_
 refine JH.pg 4 rfl (Gd.t1 rfl rfl rfl) (fun hc => p_fieldAddr fld_49_3.h rfl) ?_
 refine JH.qg 5 rfl (Gd.t1 rfl rfl rfl) (fun hc => q_load1 ty_2.h (gvt rfl hc) (Mem.box (i := 0) rfl rfl)) ?_
 refine JH.pg 6 rfl (Gd.t1 rfl rfl rfl) (fun hc => p_move rfl) ?_
 refine JH.pg 7 rfl (Gd.t1 rfl rfl rfl) (fun hc => p_eql (gvt rfl hc) (gvt rfl hc)) ?_
 refine JH.p 8 rfl (p_pickAnd rfl rfl rfl) ?_
 refine jM 9 rfl rfl ?_
 refine JH.pg 10 rfl (Gd.t1 rfl rfl rfl) (fun hc => p_fieldAddr fld_49_2.h rfl) ?_
 refine JH.qg 11 rfl (Gd.t1 rfl rfl rfl) (fun hc => q_load1 ty_2.h (gvt rfl hc) (Mem.box (i := 0) rfl rfl)) ?_
 refine JH.pg 12 rfl (Gd.t1 rfl rfl rfl) (fun hc => p_fieldAddr fld_31_2.h rfl) ?_
 refine JH.qg 13 rfl (Gd.t1 rfl rfl rfl) (fun hc => q_load1 ty_2.h (gvt rfl hc) (Mem.box (i := 2) rfl rfl)) ?_
 refine JH.pg 14 rfl (Gd.t1 rfl rfl rfl) (fun hc => p_eql (gvt rfl hc) (gvt rfl hc)) ?_
 refine JH.p 15 rfl (p_pickAnd rfl rfl rfl) ?_
 refine jM 16 rfl rfl ?_
 refine JH.pg 17 rfl (Gd.t1 rfl rfl rfl) (fun hc => p_fieldAddr fld_49_1.h rfl) ?_
 refine JH.qg 18 rfl (Gd.t1 rfl rfl rfl) (fun hc => q_load1 ty_29.h (gvt rfl hc) (Mem.box (i := 0) rfl rfl)) ?_
 refine JH.pg 19 rfl (Gd.t1 rfl rfl rfl) (fun hc => p_fieldAddr fld_31_0.h rfl) ?_
 refine JH.qg 20 rfl (Gd.t1 rfl rfl rfl) (fun hc => q_load1 ty_29.h (gvt rfl hc) (Mem.box (i := 2) rfl rfl)) ?_
 refine y1 21 ?_
 refine JHo.ge rfl (Gd.t1 rfl rfl rfl) (fun hc => e_callV fn_119.h (opds_2 (gvt rfl hc) (gvt rfl hc)) (fun w hw => c_impl_sameNumbers ((M.slo mem.slots ((M.plc mem.slots.length p.pits p.player).toNat)).pits) p.pits (ok_ hw) (ok_ hw) (r0 := (by have hc9 := hc; (try simp only [Bool.and_eq_true, decide_eq_true_eq] at hc9); omega)) (r1 := (by have hc9 := hc; (try simp only [Bool.and_eq_true, decide_eq_true_eq] at hc9); omega)))) ?_
 refine JH.p 22 rfl (p_pickAnd rfl rfl rfl) ?_
 refine y1 23 ?_
 refine yst rfl rfl rfl ?_
 refine jA 24 rfl rfl ?_
 refine yd ?_
 have hq0 : ((M.slo mem.slots ((M.plc mem.slots.length p.pits p.player).toNat)).used) = (M.fnd mem.slots p).used := by first | rfl | (simp [M.fndB, M.fnd, Bool.and_assoc]; done)
 have hq1 : ((M.slo mem.slots ((M.plc mem.slots.length p.pits p.player).toNat)).player) = (M.fnd mem.slots p).player := by first | rfl | (simp [M.fndB, M.fnd, Bool.and_assoc]; done)
 have hq2 : ((M.slo mem.slots ((M.plc mem.slots.length p.pits p.player).toNat)).depth) = (M.fnd mem.slots p).depth := by first | rfl | (simp [M.fndB, M.fnd, Bool.and_assoc]; done)
 have hq3 : ((M.slo mem.slots ((M.plc mem.slots.length p.pits p.player).toNat)).value) = (M.fnd mem.slots p).value := by first | rfl | (simp [M.fndB, M.fnd, Bool.and_assoc]; done)
 have hq4 : ((M.slo mem.slots ((M.plc mem.slots.length p.pits p.player).toNat)).bound) = (M.fnd mem.slots p).bound := by first | rfl | (simp [M.fndB, M.fnd, Bool.and_assoc]; done)
 have hq5 : (((((M.slo mem.slots ((M.plc mem.slots.length p.pits p.player).toNat)).used) && (decide ((M.slo mem.slots ((M.plc mem.slots.length p.pits p.player).toNat)).depth = depth))) && (decide ((M.slo mem.slots ((M.plc mem.slots.length p.pits p.player).toNat)).player = p.player))) && (decide (((M.slo mem.slots ((M.plc mem.slots.length p.pits p.player).toNat)).pits) = p.pits))) = M.fndB mem.slots p depth := by first | rfl | (simp [M.fndB, M.fnd, Bool.and_assoc]; done)
 exact zro x11
theorem c_impl_Memory_store (mem_rules : M.Rul) (mem_slots : List M.Slo) {Amem_9 : Option Addr} {cmem_9 : Nat} {gmem_9 : List Nat} {vsmem_9 : List Value} {fmem_9 : List Nat} (s : M.Slo) {v_s : Value} {w : World} (hb : Bw w [rowO 49 6 (.slice Amem_9 mem_slots.length cmem_9) mem_slots.length vsmem_9 gmem_9, ownC (lSlot mem_slots) vsmem_9 fmem_9]) (h_s : (Ty.agg (cSlot s)).ok (offW w (([rowO 49 6 (.slice Amem_9 mem_slots.length cmem_9) mem_slots.length vsmem_9 gmem_9, ownC (lSlot mem_slots) vsmem_9 fmem_9] : List Own).flatMap (·.fp))) v_s) (bd0 : mem_slots.length ≤ cmem_9 := by exact om_) (bd1 : cmem_9 ≤ 9223372036854775807 := by exact om_) (r0 : M.okP mem_rules (M.posS s) = true := by exact om_) (r1 : 0 < mem_slots.length := by exact om_) (r2 : mem_slots.length ≤ 4194304 := by exact om_) (r3 : s.pits.length ≤ 4194304 := by exact om_) : RetB Tryz.prog 94 [.agg #[.int .i64 mem_rules.pits, .int .i64 mem_rules.seeds, .bool mem_rules.stores, .bool mem_rules.skip, .bool mem_rules.relay, .bool mem_rules.feed, .bool mem_rules.again, .int .i64 mem_rules.capture, .int .i64 mem_rules.slam, .slice Amem_9 mem_slots.length cmem_9], v_s] w [rowO 49 6 (.slice Amem_9 mem_slots.length cmem_9) mem_slots.length vsmem_9 gmem_9, ownC (lSlot mem_slots) vsmem_9 fmem_9] (fun v bs' => ∃ (vsxmem_w0 : List Value) (fxmem_w0 : List Nat), v = .tuple #[] ∧ bs' = [rowO 49 6 (.slice Amem_9 mem_slots.length cmem_9) mem_slots.length vsxmem_w0 gmem_9, ownC (lSlot (M.stoS mem_slots s)) vsxmem_w0 fxmem_w0]) := by
 obtain ⟨hp1, hp2⟩ := M.plc_bd (n := mem_slots.length) s.pits s.player r1
 revert v_s; apply opn
 intro A1 c1 h1 bl1 bh1
 refine enterB hb @Tryz.func94 @Tryz.ntmps94 rfl rfl ?_
 refine zent ?_
 refine Js.trashE ?_
 refine zn ?_
 refine zS <| zb rfl fun b2 => zb rfl fun b3 => zJ ?_
 refine zdr [] ?_
 refine JH.q 0 rfl (L9 1 rfl rfl) ?_
 refine JH.q 1 rfl (L9 0 rfl rfl) ?_
 refine y1 2 ?_
 refine yc rfl rfl (fun w hw => c_impl_Slot_position s) ?_
 intro A4 c4 bl4 bh4
 refine y1 3 ?_
 refine yv rfl rfl (fun w hw => c_impl_Memory_place (M.Mem.mk mem_rules mem_slots) (M.posS s) (by exact ⟨_, rfl, ⟨rfl, rfl, rfl, rfl, rfl, rfl, rfl, rfl, rfl, (srow_ok lSlot (xs := mem_slots) (hw.pr (i := 3) rfl) (hw.pr (i := 4) rfl) (lSlot_length _)), trivial⟩⟩) (ok_ hw) (r0 := r0)) ?_
 refine jA 4 rfl rfl ?_
 refine yd ?_
 refine zS <| Qf fh rfl <| Q0 2 rfl rfl rfl <| Qm rfl ?_
 refine JL.fact (row_some (i := 3) rfl (by omega)) (fun hf6 => ?_)
 obtain ⟨b6, rfl⟩ := hf6
 have hy5 : mem_slots[(M.plc (M.Mem.mk mem_rules mem_slots).slots.length (M.posS s).pits (M.posS s).player).toNat]? = some (M.slo mem_slots ((M.plc (M.Mem.mk mem_rules mem_slots).slots.length (M.posS s).pits (M.posS s).player).toNat)) := M.slo_get len_
 refine JL.fact (fun w hw => elemv_Slot (Mem.ownC (i := 4) rfl w hw) hy5) (fun hf5 => ?_)
 obtain ⟨A5_1, c5_1, he5, bl5_1, bh5_1⟩ := hf5
 refine Qq (p_indexAddr el_26 rfl rfl (by omega) (by omega) rfl) <| Qw (q_loadN ty_49.h rfl (Mem.rowR' (i := 3) rfl he5) rfl rfl) <| za zeh fun b7 => zw 0 rfl rfl rfl ?_
 refine zN <| Qf fh rfl <| Q0 0 rfl rfl rfl <| Qt rfl <| Qm rfl <| zg (Gd.f1 rfl rfl rfl) (fun hc => p_fieldAddr fld_49_3.h rfl) <| zgq (Gd.f1 rfl rfl rfl) (fun hc => q_load1 ty_2.h (gh hc rfl) (Mem.box (i := 0) rfl rfl)) <| zg (Gd.f1 rfl rfl rfl) (fun hc => p_fieldAddr fld_49_3.h rfl) <| zgq (Gd.f1 rfl rfl rfl) (fun hc => q_load1 ty_2.h (gh hc rfl) (Mem.box (i := 2) rfl rfl)) <| zg (Gd.f1 rfl rfl rfl) (fun hc => p_leq (gh hc rfl) (gh hc rfl)) <| Qq (p_pickOr rfl rfl rfl) <| JL.nil ?_
 refine zi (fun h8 h8' => ?_) fun h8 h8' => ?_
 ·
  have hE9 : M.stoS mem_slots s = mem_slots.set (M.plc mem_slots.length s.pits s.player).toNat s := if_pos (by have h9 := h8; simp only [Bool.or_eq_true, Bool.not_eq_true', decide_eq_true_eq] at h9; exact h9)
  refine zS <| Qf fh rfl <| Q0 2 rfl rfl rfl <| zcs rfl (fun w hw => c_impl_copyNumbers s.pits (ok_ hw)) ?_
  intro A9 c9 bl9 bh9
  have hy10 : mem_slots[(M.plc (M.Mem.mk mem_rules mem_slots).slots.length (M.posS s).pits (M.posS s).player).toNat]? = some (M.slo mem_slots ((M.plc (M.Mem.mk mem_rules mem_slots).slots.length (M.posS s).pits (M.posS s).player).toNat)) := M.slo_get len_
  refine Qf fh rfl <| zw 3 rfl rfl rfl ?_
  refine zG <| Qf fh rfl <| Q0 4 rfl rfl rfl <| Qm rfl <| Q9 3 rfl rfl ?_
  refine JL.fact (fun w hw => elemv_Slot (Mem.ownC (i := 6) rfl w hw) hy10) (fun hf10 => ?_)
  obtain ⟨A10_1, c10_1, he10, bl10_1, bh10_1⟩ := hf10
  refine Qq (p_indexAddr el_26 rfl rfl (by omega) (by omega) rfl) ?_
  refine JL.fact (fun w hw => elem_in cSlot (m := 6) (k := (M.plc (M.Mem.mk mem_rules mem_slots).slots.length (M.posS s).pits (M.posS s).player).toNat) (xs := mem_slots) (fun _ => rfl) (Mem.ownC (i := 6) rfl w hw) len_) (fun hl11 => ?_)
  refine JL.ex3 (fun w hw => St.elemS cSlot (m := 6) (i := 6) (xs := mem_slots) (fun _ => rfl) rfl hy10 he10 hw) (fun f11_1 f11_2 f11_3 => ?_)
  refine znl ?_
  refine JL.pk (cSlot s) [.bool s.used, .slice A9 s.pits.length c9, .int .i64 s.player, .int .i64 s.depth, .int .i64 s.value, .int .i64 s.bound] (fun f12 G12 => ?_)
  refine znl ?_
  refine JL.s (e_storeRow (i := 9) (xs' := setL vsmem_9 (0 + ((M.plc (M.Mem.mk mem_rules mem_slots).slots.length (M.posS s).pits (M.posS s).player).toNat) * 6) [.bool s.used, .slice A9 s.pits.length c9, .int .i64 s.player, .int .i64 s.depth, .int .i64 s.value, .int .i64 s.bound]) ty_49.h rfl rfl rfl rfl rfl rfl (by omega) rfl) ?_
  rintro _ _ _ ⟨rfl, rfl⟩ _
  refine zhl [4, 0, 2] ?_
  refine JL.conv (fun w hw => St.closeE cSlot (k := (M.plc (M.Mem.mk mem_rules mem_slots).slots.length (M.posS s).pits (M.posS s).player).toNat) (m := 6) (xs := mem_slots) (y := s) (vs := vsmem_9) (vs' := (setL vsmem_9 (0 + ((M.plc (M.Mem.mk mem_rules mem_slots).slots.length (M.posS s).pits (M.posS s).player).toNat) * 6) [.bool s.used, .slice A9 s.pits.length c9, .int .i64 s.player, .int .i64 s.depth, .int .i64 s.value, .int .i64 s.bound])) len_ rfl rfl hw) ?_
  refine znl ?_
  refine znl ?_
  refine JL.nil ?_
  refine zrbE [7, 0] hb (Up.refl _ _) ?_
  have hE1 : (M.stoS mem_slots s) = mem_slots.set ((M.plc (M.Mem.mk mem_rules mem_slots).slots.length (M.posS s).pits (M.posS s).player).toNat) s := by first | exact hE9 | rfl
  refine ⟨(setL vsmem_9 (0 + ((M.plc (M.Mem.mk mem_rules mem_slots).slots.length (M.posS s).pits (M.posS s).player).toNat) * 6) [.bool s.used, .slice A9 s.pits.length c9, .int .i64 s.player, .int .i64 s.depth, .int .i64 s.value, .int .i64 s.bound]), (f11_3 ++ f12 ++ f11_2), rfl, ?_⟩
  · exact r5_ hE1
 have hE9 : M.stoS mem_slots s = mem_slots := if_neg (by have h9 := h8; simp only [Bool.or_eq_false_iff, Bool.not_eq_false', decide_eq_false_iff_not] at h9; rintro (h8 | h8); (rw [h9.1] at h8; cases h8); exact h9.2 h8)
 refine Js.skip ?_
 refine zrbE [4, 4] hb (Up.refl _ _) ?_
 have hE1 : (M.stoS mem_slots s) = mem_slots := by first | exact hE9 | rfl
 refine ⟨vsmem_9, fmem_9, rfl, ?_⟩
 · exact r5_ hE1
theorem c_impl_NewMemory (r : M.Rul) {v_r : Value} (size : Int) {w : World} (h_r : (Ty.agg (cRules r)).ok w v_r) : Ret Tryz.prog 13 [v_r, .int .i64 size] w (Ty.tup [Ty.agg (cMemory ((M.newM r size).1)), Ty.int ((M.newM r size).2)]) := by
 revert v_r; apply opn
 refine enter @Tryz.func13 @Tryz.ntmps13 rfl rfl ?_
 refine zent ?_
 refine zS <| zb rfl fun b1 => za zeh fun b2 => Qa rfl <| zJ <| zS <| Q9 1 rfl rfl ?_
 refine zv rfl (fun w hw => c_impl_ValidRules r (ok_ hw)) <| Qt rfl <| JL.nil ?_
 refine zi (fun h3 h3' => ?_) fun h3 h3' => ?_
 ·
  have hE := M.newM_1 (n := size) (by simpa using h3)
  have hq0 : 0 = (((M.newM r size).1).rules).pits := by first | (rw [hE]; done) | (rw [hE]; rfl) | (rw [hE]; assumption)
  have hq1 : 0 = (((M.newM r size).1).rules).seeds := by first | (rw [hE]; done) | (rw [hE]; rfl) | (rw [hE]; assumption)
  have hq2 : false = (((M.newM r size).1).rules).stores := by first | (rw [hE]; done) | (rw [hE]; rfl) | (rw [hE]; assumption)
  have hq3 : false = (((M.newM r size).1).rules).skip := by first | (rw [hE]; done) | (rw [hE]; rfl) | (rw [hE]; assumption)
  have hq4 : false = (((M.newM r size).1).rules).relay := by first | (rw [hE]; done) | (rw [hE]; rfl) | (rw [hE]; assumption)
  have hq5 : false = (((M.newM r size).1).rules).feed := by first | (rw [hE]; done) | (rw [hE]; rfl) | (rw [hE]; assumption)
  have hq6 : false = (((M.newM r size).1).rules).again := by first | (rw [hE]; done) | (rw [hE]; rfl) | (rw [hE]; assumption)
  have hq7 : 0 = (((M.newM r size).1).rules).capture := by first | (rw [hE]; done) | (rw [hE]; rfl) | (rw [hE]; assumption)
  have hq8 : 0 = (((M.newM r size).1).rules).slam := by first | (rw [hE]; done) | (rw [hE]; rfl) | (rw [hE]; assumption)
  have hq9 : [] = ((M.newM r size).1).slots := by first | (rw [hE]; done) | (rw [hE]; rfl) | (rw [hE]; assumption)
  have hq10 : 1 = (M.newM r size).2 := by first | (rw [hE]; done) | (rw [hE]; rfl) | (rw [hE]; assumption)
  refine zS <| Qb ?_
  refine zw 0 rfl rfl rfl ?_
  refine Qa rfl <| JL.nil ?_
  exact zro (Up.refl _ _)
 have hr9 : M.okR r = true := by simpa using h3
 refine Js.skip <| Js.seq <| zS <| Qm rfl <| zv rfl (fun w hw => c_impl_between size 1 64) <| Qt rfl <| JL.nil ?_
 refine zi (fun h4 h4' => ?_) fun h4 h4' => ?_
 ·
  have hE := M.newM_2 hr9 (by simpa using h4)
  have hq0 : 0 = (((M.newM r size).1).rules).pits := by first | (rw [hE]; done) | (rw [hE]; rfl) | (rw [hE]; assumption)
  have hq1 : 0 = (((M.newM r size).1).rules).seeds := by first | (rw [hE]; done) | (rw [hE]; rfl) | (rw [hE]; assumption)
  have hq2 : false = (((M.newM r size).1).rules).stores := by first | (rw [hE]; done) | (rw [hE]; rfl) | (rw [hE]; assumption)
  have hq3 : false = (((M.newM r size).1).rules).skip := by first | (rw [hE]; done) | (rw [hE]; rfl) | (rw [hE]; assumption)
  have hq4 : false = (((M.newM r size).1).rules).relay := by first | (rw [hE]; done) | (rw [hE]; rfl) | (rw [hE]; assumption)
  have hq5 : false = (((M.newM r size).1).rules).feed := by first | (rw [hE]; done) | (rw [hE]; rfl) | (rw [hE]; assumption)
  have hq6 : false = (((M.newM r size).1).rules).again := by first | (rw [hE]; done) | (rw [hE]; rfl) | (rw [hE]; assumption)
  have hq7 : 0 = (((M.newM r size).1).rules).capture := by first | (rw [hE]; done) | (rw [hE]; rfl) | (rw [hE]; assumption)
  have hq8 : 0 = (((M.newM r size).1).rules).slam := by first | (rw [hE]; done) | (rw [hE]; rfl) | (rw [hE]; assumption)
  have hq9 : [] = ((M.newM r size).1).slots := by first | (rw [hE]; done) | (rw [hE]; rfl) | (rw [hE]; assumption)
  have hq10 : 2 = (M.newM r size).2 := by first | (rw [hE]; done) | (rw [hE]; rfl) | (rw [hE]; assumption)
  refine zS <| Qb ?_
  refine zw 0 rfl rfl rfl ?_
  refine Qa rfl <| JL.nil ?_
  exact zro (Up.refl _ _)
 have hb9 : M.betw size 1 64 = true := by simpa using h4
 obtain ⟨s0, s1⟩ := M.betw_iff.1 hb9
 have hE := M.newM_0 hr9 hb9
 refine Js.skip <| Js.seq ?_
 refine zdr [4] ?_
 refine JH.q 0 rfl (L9 1 rfl rfl) ?_
 refine jM 1 rfl rfl ?_
 refine y1 2 ?_
 refine ymkL cSlot lSlot M.Slo.zero rfl (a0 := size) (m := size.toNat) (by omega) (by omega) zown_Slot ?_
 intro b5 xs6 hx6
 have hl6 : xs6.length = size.toNat := by rw [hx6]; exact List.length_replicate
 refine JH.p 3 rfl (q_bld) ?_
 refine y1 4 ?_
 refine yst rfl rfl rfl ?_
 refine jA 5 rfl rfl ?_
 refine yd ?_
 have hq0 : r.pits = (((M.newM r size).1).rules).pits := by first | (rw [hE]; done) | (rw [hE]; rfl) | (rw [hE]; assumption)
 have hq1 : r.seeds = (((M.newM r size).1).rules).seeds := by first | (rw [hE]; done) | (rw [hE]; rfl) | (rw [hE]; assumption)
 have hq2 : r.stores = (((M.newM r size).1).rules).stores := by first | (rw [hE]; done) | (rw [hE]; rfl) | (rw [hE]; assumption)
 have hq3 : r.skip = (((M.newM r size).1).rules).skip := by first | (rw [hE]; done) | (rw [hE]; rfl) | (rw [hE]; assumption)
 have hq4 : r.relay = (((M.newM r size).1).rules).relay := by first | (rw [hE]; done) | (rw [hE]; rfl) | (rw [hE]; assumption)
 have hq5 : r.feed = (((M.newM r size).1).rules).feed := by first | (rw [hE]; done) | (rw [hE]; rfl) | (rw [hE]; assumption)
 have hq6 : r.again = (((M.newM r size).1).rules).again := by first | (rw [hE]; done) | (rw [hE]; rfl) | (rw [hE]; assumption)
 have hq7 : r.capture = (((M.newM r size).1).rules).capture := by first | (rw [hE]; done) | (rw [hE]; rfl) | (rw [hE]; assumption)
 have hq8 : r.slam = (((M.newM r size).1).rules).slam := by first | (rw [hE]; done) | (rw [hE]; rfl) | (rw [hE]; assumption)
 have hq9 : xs6 = ((M.newM r size).1).slots := by first | (rw [hE]; done) | (rw [hE]; rfl) | (rw [hE]; assumption)
 have hq10 : 0 = (M.newM r size).2 := by first | (rw [hE]; done) | (rw [hE]; rfl) | (rw [hE]; assumption)
 exact zro (Up.refl _ _)
def S_impl_visitor_visit (N : Nat) : Prop := ∀ (v_rules : M.Rul) (v_slots : List M.Slo) (v_hits : Int) (Av_9 : Option Addr) (cv_9 : Nat) (gv_9 : List Nat) (vsv_9 : List Value) (fv_9 : List Nat) (p : M.Pos) (v_p : Value) (depth : Int) (low : Int) (high : Int) (bv : Nat) (w : World) (hb : Bw w [boxO bv [.int .i64 v_rules.pits, .int .i64 v_rules.seeds, .bool v_rules.stores, .bool v_rules.skip, .bool v_rules.relay, .bool v_rules.feed, .bool v_rules.again, .int .i64 v_rules.capture, .int .i64 v_rules.slam, .slice Av_9 v_slots.length cv_9, .int .i64 v_hits] 87, rowO 49 6 (.slice Av_9 v_slots.length cv_9) v_slots.length vsv_9 gv_9, ownC (lSlot v_slots) vsv_9 fv_9]) (h_p : (Ty.agg (cPosition p)).ok (offW w (([boxO bv [.int .i64 v_rules.pits, .int .i64 v_rules.seeds, .bool v_rules.stores, .bool v_rules.skip, .bool v_rules.relay, .bool v_rules.feed, .bool v_rules.again, .int .i64 v_rules.capture, .int .i64 v_rules.slam, .slice Av_9 v_slots.length cv_9, .int .i64 v_hits] 87, rowO 49 6 (.slice Av_9 v_slots.length cv_9) v_slots.length vsv_9 gv_9, ownC (lSlot v_slots) vsv_9 fv_9] : List Own).flatMap (·.fp))) v_p) (bd0 : v_slots.length ≤ cv_9) (bd1 : cv_9 ≤ 9223372036854775807) (r0 : M.okP v_rules p = true) (r1 : 0 ≤ depth) (r2 : depth ≤ 8) (r3 : 0 < v_slots.length) (r4 : v_slots.length ≤ 4194304) (r5 : M.SzM 4194304 v_slots) (r6 : M.BdM v_slots) (r7 : 0 ≤ v_hits) (r8 : v_hits + M.e9 depth.toNat ≤ 1000000000000) (r9 : 96 * depth + low ≤ 3000) (r10 : 96 * depth - low ≤ 3000) (r11 : 96 * depth + high ≤ 3000) (r12 : 96 * depth - high ≤ 3000) (_ : depth.toNat = N), RetB Tryz.prog 46 [.pointer (some ⟨bv, 0, none⟩), v_p, .int .i64 depth, .int .i64 low, .int .i64 high] w [boxO bv [.int .i64 v_rules.pits, .int .i64 v_rules.seeds, .bool v_rules.stores, .bool v_rules.skip, .bool v_rules.relay, .bool v_rules.feed, .bool v_rules.again, .int .i64 v_rules.capture, .int .i64 v_rules.slam, .slice Av_9 v_slots.length cv_9, .int .i64 v_hits] 87, rowO 49 6 (.slice Av_9 v_slots.length cv_9) v_slots.length vsv_9 gv_9, ownC (lSlot v_slots) vsv_9 fv_9] (fun v bs' => ∃ (Axv_9 : Option Addr) (cxv_9 : Nat) (gxv_9 : List Nat) (vsxv_9 : List Value) (fxv_9 : List Nat), v = .int .i64 ((M.vis v_rules depth.toNat p low high (v_slots, v_hits)).1) ∧ bs' = [boxO bv [.int .i64 v_rules.pits, .int .i64 v_rules.seeds, .bool v_rules.stores, .bool v_rules.skip, .bool v_rules.relay, .bool v_rules.feed, .bool v_rules.again, .int .i64 v_rules.capture, .int .i64 v_rules.slam, .slice Axv_9 (((M.vis v_rules depth.toNat p low high (v_slots, v_hits)).2.1).length) cxv_9, .int .i64 ((M.vis v_rules depth.toNat p low high (v_slots, v_hits)).2.2)] 87, rowO 49 6 (.slice Axv_9 (((M.vis v_rules depth.toNat p low high (v_slots, v_hits)).2.1).length) cxv_9) (((M.vis v_rules depth.toNat p low high (v_slots, v_hits)).2.1).length) vsxv_9 gxv_9, ownC (lSlot ((M.vis v_rules depth.toNat p low high (v_slots, v_hits)).2.1)) vsxv_9 fxv_9] ∧ ((M.vis v_rules depth.toNat p low high (v_slots, v_hits)).2.1).length ≤ cxv_9 ∧ cxv_9 ≤ 9223372036854775807)
theorem c_impl_visitor_visit_ : ∀ N, S_impl_visitor_visit N := by
 intro N
 induction N using Nat.strongRecOn with
 | ind N ih =>
 intro v_rules v_slots v_hits Av_9 cv_9 gv_9 vsv_9 fv_9 p v_p depth low high bv w hb h_p bd0 bd1 r0 r1 r2 r3 r4 r5 r6 r7 r8 r9 r10 r11 r12 hN
 obtain ⟨g1, g2, g3, g4, g5, g6, g7⟩ := M.okP_bd r0
 have g8 := M.results_8 r0
 obtain ⟨hp1, hp2⟩ := M.plc_bd (n := v_slots.length) p.pits p.player r3
 have g9 := M.okP_len r0
 have g10 := M.e9_pos (depth - 1).toNat
 revert v_p; apply opn
 intro A1 c1 h1 bl1 bh1 A2 c2 h2 bl2 bh2
 refine enterB hb @Tryz.func46 @Tryz.ntmps46 rfl rfl ?_
 refine zent ?_
 refine Js.trashE ?_
 refine zn ?_
 refine zS <| zb rfl fun b3 => Qa rfl <| zN <| Qm rfl <| Qc rfl <| Qf fh rfl <| Qf fh rfl <| Q9 1 rfl rfl ?_
 refine za zeh fun b4 => zw 0 rfl rfl rfl ?_
 refine zN <| Q9 0 rfl rfl ?_
 refine Q9 1 rfl rfl ?_
 refine zp rfl (fun w hw => c_impl_Rules_results v_rules p (ok_ hw) (ok_ hw) (r0 := r0)) ?_
 intro u5 x5 A6 c6 h6 bl6 bh6
 refine Qa rfl <| zJ <| Js.block <| zS <| Qm rfl <| Qz rfl <| Qe rfl rfl <| Qa rfl <| JL.nil ?_
 refine zi (fun h7 h7' => ?_) fun h7 h7' => ?_
 ·
  have hQ : (M.vis v_rules depth.toNat p low high (v_slots, v_hits)) = _ := M.vis_end (by have := h7'; omega)
  refine zS <| Q9 0 rfl rfl ?_
  refine Q9 1 rfl rfl ?_
  refine zv rfl (fun w hw => c_impl_Rules_endValue v_rules p (ok_ hw) (ok_ hw) (r0 := r0)) <| Qa rfl <| JL.nil ?_
  refine zrb [2, 2, 2] hb x5 ?_
  have hE : (.int .i64 (M.endV v_rules p) : Value) = .int .i64 ((M.vis v_rules depth.toNat p low high (v_slots, v_hits)).1) := by first | (rw [hQ]; done) | (rw [hQ]; rfl) | (rw [M.vis_d hd hne hfu hV (M.bndV_2 (by omega))]; done) | (rw [M.vis_d hd hne hfu hV (M.bndV_1 (by omega) (by omega))]; done) | (rw [M.vis_d hd hne hfu hV (M.bndV_0 (by omega) (by omega))]; done)
  have hN10 : ((M.vis v_rules depth.toNat p low high (v_slots, v_hits)).2.1).length = v_slots.length := by first | (rw [hQ]; done) | (rw [hQ]; rfl) | (rw [M.vis_d hd hne hfu hV (M.bndV_2 (by omega))]; done) | (rw [M.vis_d hd hne hfu hV (M.bndV_1 (by omega) (by omega))]; done) | (rw [M.vis_d hd hne hfu hV (M.bndV_0 (by omega) (by omega))]; done) | (rw [M.vis_d hd hne hfu hV (M.bndV_2 (by omega)), M.stoS_len]; done) | (rw [M.vis_d hd hne hfu hV (M.bndV_1 (by omega) (by omega)), M.stoS_len]; done) | (rw [M.vis_d hd hne hfu hV (M.bndV_0 (by omega) (by omega)), M.stoS_len]; done)
  have hE10 : (M.vis v_rules depth.toNat p low high (v_slots, v_hits)).2.1 = v_slots := by first | (rw [hQ]; done) | (rw [hQ]; rfl) | (rw [M.vis_d hd hne hfu hV (M.bndV_2 (by omega))]; done) | (rw [M.vis_d hd hne hfu hV (M.bndV_1 (by omega) (by omega))]; done) | (rw [M.vis_d hd hne hfu hV (M.bndV_0 (by omega) (by omega))]; done)
  have hE11 : (M.vis v_rules depth.toNat p low high (v_slots, v_hits)).2.2 = v_hits := by first | (rw [hQ]; done) | (rw [hQ]; rfl) | (rw [M.vis_d hd hne hfu hV (M.bndV_2 (by omega))]; done) | (rw [M.vis_d hd hne hfu hV (M.bndV_1 (by omega) (by omega))]; done) | (rw [M.vis_d hd hne hfu hV (M.bndV_0 (by omega) (by omega))]; done)
  refine ⟨Av_9, cv_9, gv_9, vsv_9, fv_9, hE, ?_, ?_, ?_⟩
  · rw [hN10, hE10, hE11]
  all_goals (first | (rw [hN10, hE10, hE11]; omega) | omega | (simp only [*]; omega) | (simp; done))
 have hne : (M.results v_rules p).length ≠ 0 := by have := h7'; omega
 refine zS <| Qm rfl <| Qe rfl rfl <| Qa rfl <| JL.nil ?_
 refine zi (fun h8 h8' => ?_) fun h8 h8' => ?_
 ·
  have hQ : (M.vis v_rules depth.toNat p low high (v_slots, v_hits)) = (0, (v_slots, v_hits)) := by rw [show depth.toNat = 0 by have := h8'; omega]; exact M.vis_0 hne
  refine zS <| Qa rfl <| JL.nil ?_
  refine zrb [2, 2, 2] hb x5 ?_
  have hE : (.int .i64 0 : Value) = .int .i64 ((M.vis v_rules depth.toNat p low high (v_slots, v_hits)).1) := by first | (rw [hQ]; done) | (rw [hQ]; rfl) | (rw [M.vis_d hd hne hfu hV (M.bndV_2 (by omega))]; done) | (rw [M.vis_d hd hne hfu hV (M.bndV_1 (by omega) (by omega))]; done) | (rw [M.vis_d hd hne hfu hV (M.bndV_0 (by omega) (by omega))]; done)
  have hN10 : ((M.vis v_rules depth.toNat p low high (v_slots, v_hits)).2.1).length = v_slots.length := by first | (rw [hQ]; done) | (rw [hQ]; rfl) | (rw [M.vis_d hd hne hfu hV (M.bndV_2 (by omega))]; done) | (rw [M.vis_d hd hne hfu hV (M.bndV_1 (by omega) (by omega))]; done) | (rw [M.vis_d hd hne hfu hV (M.bndV_0 (by omega) (by omega))]; done) | (rw [M.vis_d hd hne hfu hV (M.bndV_2 (by omega)), M.stoS_len]; done) | (rw [M.vis_d hd hne hfu hV (M.bndV_1 (by omega) (by omega)), M.stoS_len]; done) | (rw [M.vis_d hd hne hfu hV (M.bndV_0 (by omega) (by omega)), M.stoS_len]; done)
  have hE10 : (M.vis v_rules depth.toNat p low high (v_slots, v_hits)).2.1 = v_slots := by first | (rw [hQ]; done) | (rw [hQ]; rfl) | (rw [M.vis_d hd hne hfu hV (M.bndV_2 (by omega))]; done) | (rw [M.vis_d hd hne hfu hV (M.bndV_1 (by omega) (by omega))]; done) | (rw [M.vis_d hd hne hfu hV (M.bndV_0 (by omega) (by omega))]; done)
  have hE11 : (M.vis v_rules depth.toNat p low high (v_slots, v_hits)).2.2 = v_hits := by first | (rw [hQ]; done) | (rw [hQ]; rfl) | (rw [M.vis_d hd hne hfu hV (M.bndV_2 (by omega))]; done) | (rw [M.vis_d hd hne hfu hV (M.bndV_1 (by omega) (by omega))]; done) | (rw [M.vis_d hd hne hfu hV (M.bndV_0 (by omega) (by omega))]; done)
  refine ⟨Av_9, cv_9, gv_9, vsv_9, fv_9, hE, ?_, ?_, ?_⟩
  · rw [hN10, hE10, hE11]
  all_goals (first | (rw [hN10, hE10, hE11]; omega) | omega | (simp only [*]; omega) | (simp; done))
 have hd : 1 ≤ depth := by have := h8'; omega
 have he9 := M.e9_step hd
 refine Js.skip <| Js.blockEnd <| Js.seq <| Js.seq ?_
 refine zk [0, 2, 3, 4, 6, 12] (fun F U l os u => ∃ (b11 : Nat) (v10 : Value), l = F [(13, .pointer (some ⟨b11, 0, none⟩)), (14, .bool (M.fndB (M.Mem.mk v_rules v_slots).slots p depth))] ∧ os = [boxO b11 [.bool ((M.fnd (M.Mem.mk v_rules v_slots).slots p).used), v10, .int .i64 ((M.fnd (M.Mem.mk v_rules v_slots).slots p).player), .int .i64 ((M.fnd (M.Mem.mk v_rules v_slots).slots p).depth), .int .i64 ((M.fnd (M.Mem.mk v_rules v_slots).slots p).value), .int .i64 ((M.fnd (M.Mem.mk v_rules v_slots).slots p).bound)] 49] ++ U []) ?_ ?_
 ·
  refine zdr [11] ?_
  refine jM 0 rfl rfl ?_
  refine jN 1 rfl rfl ?_
  refine jF 2 fld_87_0 rfl rfl ?_
  refine JH.q 3 rfl (L9 2 rfl rfl) ?_
  refine JH.q 4 rfl (L9 1 rfl rfl) ?_
  refine jM 5 rfl rfl ?_
  refine y2 6 10 ?_ ?_
  ·
   refine yp rfl rfl (fun w hw => c_impl_Memory_look (M.Mem.mk v_rules v_slots) p depth (by exact ⟨_, rfl, ⟨rfl, rfl, rfl, rfl, rfl, rfl, rfl, rfl, rfl, (srow_ok lSlot (xs := v_slots) (hw.pr (i := 3) rfl) (hw.pr (i := 4) rfl) (lSlot_length _)), trivial⟩⟩) (ok_ hw) (r1 := r5) (r4 := r0)) ?_
   intro u16 x16 v17 h17
   refine jM 7 rfl rfl ?_
   refine JH.p 8 rfl (p_extract rfl rfl) ?_
   refine JH.p 9 rfl (p_extract rfl rfl) ?_
   refine y1 10 ?_
   refine ya rfl fun b18 => ?_
   refine y1 11 ?_
   refine JHo.s rfl (e_store (i := 0) (c' := [.bool ((M.fnd (M.Mem.mk v_rules v_slots).slots p).used), v17, .int .i64 ((M.fnd (M.Mem.mk v_rules v_slots).slots p).player), .int .i64 ((M.fnd (M.Mem.mk v_rules v_slots).slots p).depth), .int .i64 ((M.fnd (M.Mem.mk v_rules v_slots).slots p).value), .int .i64 ((M.fnd (M.Mem.mk v_rules v_slots).slots p).bound)]) ty_49.h rfl rfl rfl rfl rfl (show List.all [.bool ((M.fnd (M.Mem.mk v_rules v_slots).slots p).used), v17, .int .i64 ((M.fnd (M.Mem.mk v_rules v_slots).slots p).player), .int .i64 ((M.fnd (M.Mem.mk v_rules v_slots).slots p).depth), .int .i64 ((M.fnd (M.Mem.mk v_rules v_slots).slots p).value), .int .i64 ((M.fnd (M.Mem.mk v_rules v_slots).slots p).bound)] (·.oneCell') = true by simp only [List.all_cons, List.all_nil, h17]; rfl) rfl rfl) (.inr rfl) ?_
   rintro _ _ _ ⟨rfl, rfl⟩ _
   refine znh ?_
   refine jA 12 rfl rfl ?_
   refine yd ?_
   exact zm ⟨_, _, rfl, rfl⟩ x16
  refine ya rfl fun b19 => ?_
  refine y1 6 ?_
  refine yp rfl rfl (fun w hw => c_impl_Memory_look (M.Mem.mk v_rules v_slots) p depth (by exact ⟨_, rfl, ⟨rfl, rfl, rfl, rfl, rfl, rfl, rfl, rfl, rfl, (srow_ok lSlot (xs := v_slots) (hw.pr (i := 4) rfl) (hw.pr (i := 5) rfl) (lSlot_length _)), trivial⟩⟩) (ok_ hw) (r1 := r5) (r4 := r0)) ?_
  intro u20 x20 v21 h21
  refine jM 7 rfl rfl ?_
  refine JH.p 8 rfl (p_extract rfl rfl) ?_
  refine JH.p 9 rfl (p_extract rfl rfl) ?_
  refine y1 11 ?_
  refine JHo.s rfl (e_store (i := 0) (c' := [.bool ((M.fnd (M.Mem.mk v_rules v_slots).slots p).used), v21, .int .i64 ((M.fnd (M.Mem.mk v_rules v_slots).slots p).player), .int .i64 ((M.fnd (M.Mem.mk v_rules v_slots).slots p).depth), .int .i64 ((M.fnd (M.Mem.mk v_rules v_slots).slots p).value), .int .i64 ((M.fnd (M.Mem.mk v_rules v_slots).slots p).bound)]) ty_49.h rfl rfl rfl rfl rfl (show List.all [.bool ((M.fnd (M.Mem.mk v_rules v_slots).slots p).used), v21, .int .i64 ((M.fnd (M.Mem.mk v_rules v_slots).slots p).player), .int .i64 ((M.fnd (M.Mem.mk v_rules v_slots).slots p).depth), .int .i64 ((M.fnd (M.Mem.mk v_rules v_slots).slots p).value), .int .i64 ((M.fnd (M.Mem.mk v_rules v_slots).slots p).bound)] (·.oneCell') = true by simp only [List.all_cons, List.all_nil, h21]; rfl) rfl rfl) (.inr rfl) ?_
  rintro _ _ _ ⟨rfl, rfl⟩ _
  refine znh ?_
  refine jA 12 rfl rfl ?_
  refine yd ?_
  exact zm ⟨_, _, rfl, rfl⟩ x20
 rintro _ _ u15 ⟨b11, v10, rfl, rfl⟩ x15
 refine zn ?_
 refine zS <| Qm rfl <| Qm rfl <| zg (Gd.t1 rfl rfl rfl) (fun hc => p_fieldAddr fld_49_5.h rfl) <| zgq (Gd.t1 rfl rfl rfl) (fun hc => q_load1 ty_2.h (gh hc rfl) (Mem.box (i := 0) rfl rfl)) <| zg (Gd.t1 rfl rfl rfl) (fun hc => p_eql (gh hc rfl) rfl) <| zg (Gd.t1 rfl rfl rfl) (fun hc => p_move (gh hc rfl)) <| zg (Gd.f2 rfl rfl rfl) (fun hc => p_fieldAddr fld_49_5.h rfl) <| zgq (Gd.f2 rfl rfl rfl) (fun hc => q_load1 ty_2.h (gh hc rfl) (Mem.box (i := 0) rfl rfl)) <| zg (Gd.f2 rfl rfl rfl) (fun hc => p_eql (gh hc rfl) rfl) <| zg (Gd.f2 rfl rfl rfl) (fun hc => p_move (gh hc rfl)) <| zg (Gd.t2 rfl rfl rfl) (fun hc => p_fieldAddr fld_49_4.h rfl) <| zgq (Gd.t2 rfl rfl rfl) (fun hc => q_load1 ty_2.h (gh hc rfl) (Mem.box (i := 0) rfl rfl)) <| zg (Gd.t2 rfl rfl rfl) (fun hc => p_move rfl) ?_
 refine zg (Gd.t2 rfl rfl rfl) (fun hc => p_geq (gh hc rfl) (gh hc rfl)) <| zg (Gd.f2 rfl rfl rfl) (fun hc => p_pickAnd (gh hc rfl) (gvl rfl hc) rfl) <| zg (Gd.t1 rfl rfl rfl) (fun hc => p_pickOr (gh hc rfl) rfl (gvl rfl hc)) <| zg (Gd.t1 rfl rfl rfl) (fun hc => p_move (gh hc rfl)) <| zg (Gd.f2 rfl rfl rfl) (fun hc => p_fieldAddr fld_49_5.h rfl) <| zgq (Gd.f2 rfl rfl rfl) (fun hc => q_load1 ty_2.h (gh hc rfl) (Mem.box (i := 0) rfl rfl)) <| zg (Gd.f2 rfl rfl rfl) (fun hc => p_eql (gh hc rfl) rfl) <| zg (Gd.f2 rfl rfl rfl) (fun hc => p_move (gh hc rfl)) <| zg (Gd.t2 rfl rfl rfl) (fun hc => p_fieldAddr fld_49_4.h rfl) <| zgq (Gd.t2 rfl rfl rfl) (fun hc => q_load1 ty_2.h (gh hc rfl) (Mem.box (i := 0) rfl rfl)) <| zg (Gd.t2 rfl rfl rfl) (fun hc => p_move rfl) <| zg (Gd.t2 rfl rfl rfl) (fun hc => p_leq (gh hc rfl) (gh hc rfl)) <| zg (Gd.f2 rfl rfl rfl) (fun hc => p_pickAnd (gh hc rfl) (gvl rfl hc) rfl) <| zg (Gd.t1 rfl rfl rfl) (fun hc => p_pickOr (gh hc rfl) rfl (gvl rfl hc)) ?_
 refine Qq (p_pickAnd rfl rfl rfl) <| JL.nil ?_
 refine zi (fun h22 h22' => ?_) fun h22 h22' => ?_
 ·
  have hfu : (M.fndB v_slots p depth && M.useS (M.fnd v_slots p) low high) = true := h22
  have hQ : (M.vis v_rules depth.toNat p low high (v_slots, v_hits)) = _ := M.vis_hit hd hne hfu
  have hfb := M.fnd_b (d := depth) r6 r3 (M.use_l hfu)
  refine zS <| Qm rfl <| Qc rfl <| Qf fh rfl <| Q0 3 rfl rfl rfl <| Qp rfl rfl <| Qc rfl <| Qf fh rfl <| zw 3 rfl rfl rfl ?_
  refine zN <| Qf fh rfl <| Q0 0 rfl rfl rfl <| Qa rfl <| JL.nil ?_
  refine zrb [3, 3, 3] hb (x5.trans x15) ?_
  have hE : (.int .i64 ((M.fnd (M.Mem.mk v_rules v_slots).slots p).value) : Value) = .int .i64 ((M.vis v_rules depth.toNat p low high (v_slots, v_hits)).1) := by first | (rw [hQ]; done) | (rw [hQ]; rfl) | (rw [M.vis_d hd hne hfu hV (M.bndV_2 (by omega))]; done) | (rw [M.vis_d hd hne hfu hV (M.bndV_1 (by omega) (by omega))]; done) | (rw [M.vis_d hd hne hfu hV (M.bndV_0 (by omega) (by omega))]; done)
  have hN10 : ((M.vis v_rules depth.toNat p low high (v_slots, v_hits)).2.1).length = v_slots.length := by first | (rw [hQ]; done) | (rw [hQ]; rfl) | (rw [M.vis_d hd hne hfu hV (M.bndV_2 (by omega))]; done) | (rw [M.vis_d hd hne hfu hV (M.bndV_1 (by omega) (by omega))]; done) | (rw [M.vis_d hd hne hfu hV (M.bndV_0 (by omega) (by omega))]; done) | (rw [M.vis_d hd hne hfu hV (M.bndV_2 (by omega)), M.stoS_len]; done) | (rw [M.vis_d hd hne hfu hV (M.bndV_1 (by omega) (by omega)), M.stoS_len]; done) | (rw [M.vis_d hd hne hfu hV (M.bndV_0 (by omega) (by omega)), M.stoS_len]; done)
  have hE10 : (M.vis v_rules depth.toNat p low high (v_slots, v_hits)).2.1 = v_slots := by first | (rw [hQ]; done) | (rw [hQ]; rfl) | (rw [M.vis_d hd hne hfu hV (M.bndV_2 (by omega))]; done) | (rw [M.vis_d hd hne hfu hV (M.bndV_1 (by omega) (by omega))]; done) | (rw [M.vis_d hd hne hfu hV (M.bndV_0 (by omega) (by omega))]; done)
  have hE11 : (M.vis v_rules depth.toNat p low high (v_slots, v_hits)).2.2 = (v_hits + 1) := by first | (rw [hQ]; done) | (rw [hQ]; rfl) | (rw [M.vis_d hd hne hfu hV (M.bndV_2 (by omega))]; done) | (rw [M.vis_d hd hne hfu hV (M.bndV_1 (by omega) (by omega))]; done) | (rw [M.vis_d hd hne hfu hV (M.bndV_0 (by omega) (by omega))]; done)
  refine ⟨Av_9, cv_9, gv_9, vsv_9, fv_9, hE, ?_, ?_, ?_⟩
  · rw [hN10, hE10, hE11]
  all_goals (first | (rw [hN10, hE10, hE11]; omega) | omega | (simp only [*]; omega) | (simp; done))
 have hfu0 : (M.fndB v_slots p depth && M.useS (M.fnd v_slots p) low high) = false := h22
 have hfu : ¬ (M.fndB v_slots p depth && M.useS (M.fnd v_slots p) low high) = true := by rw [hfu0]; decide
 refine Js.skip <| zS <| Qa rfl <| zJ <| zS <| Qm rfl <| Qz rfl <| Qm rfl <| JL.nil <| Js.block ?_
 refine zl [0, 2, 3, 4, 6, 86, 87] (fun F U l os u m => ∃ (k : Nat) (b h : Int) (sl : List M.Slo) (A23_0_9 : Option Addr) (c23_0_9 : Nat) (g23_0_9 : List Nat) (vs23_0_9 : List Value) (fl23_0_9 : List Nat) (G23_6 : List Nat), l = F [(15, .int .i64 b), (88, .int .i64 (k : Int))] ∧ os = U [nO, nO, nO, some (boxO bv [.int .i64 v_rules.pits, .int .i64 v_rules.seeds, .bool v_rules.stores, .bool v_rules.skip, .bool v_rules.relay, .bool v_rules.feed, .bool v_rules.again, .int .i64 v_rules.capture, .int .i64 v_rules.slam, .slice A23_0_9 sl.length c23_0_9, .int .i64 h] 87), some (rowO 49 6 (.slice A23_0_9 sl.length c23_0_9) sl.length vs23_0_9 g23_0_9), some (ownC (lSlot sl) vs23_0_9 fl23_0_9), some (anyO G23_6)] ∧ (M.vlp v_rules p depth low high b sl h k = M.vlp v_rules p depth low high (-1000) v_slots v_hits 0) ∧ (k ≤ (M.results v_rules p).length) ∧ (M.SzM 4194304 sl) ∧ (M.BdM sl) ∧ (sl.length = v_slots.length) ∧ (M.HB (M.e9 (depth - 1).toNat) v_hits k h) ∧ (-(1000 + 96 * depth) ≤ b) ∧ (b ≤ 1000 + 96 * depth) ∧ (sl.length ≤ c23_0_9) ∧ (c23_0_9 ≤ 9223372036854775807) ∧ m = (M.results v_rules p).length - k) ⟨0, (-1000), v_hits, v_slots, _, _, _, _, _, _, rfl, rfl, by rfl, zt, by exact r5, by exact r6, by rfl, by exact M.HB.zero _ _, by omega, by omega, zu, zu, rfl⟩ ?_
 rintro _ _ u23 _ ⟨k, b, h, sl, A23_0_9, c23_0_9, g23_0_9, vs23_0_9, fl23_0_9, G23_6, rfl, rfl, hS, hk, hsz, hbd, hln, hhb, b0, b1, f23_8, f23_9, rfl⟩ x23
 refine zn ?_
 have hhl := hhb.lim (by omega) g10
 refine zS <| Ql rfl rfl <| zJ ?_
 refine zi (fun h24 h24' => ?_) fun h24 h24' => ?_
 ·
  have hkk : k < (M.results v_rules p).length := by have := h24'; omega
  obtain ⟨y25, hy25⟩ : ∃ x, (M.results v_rules p)[k]? = some x := ⟨_, List.getElem?_eq_getElem (by omega)⟩
  obtain ⟨b25, o25, A25_3, c25_3, A25_4, c25_4, he25, hr25, h25_3, h25_4, bl25_3, bh25_3, bl25_4, bh25_4⟩ := elem_Result (Ty.mono _ h6 (x15.vis.trans x23.vis)) hy25
  refine Js.skip <| Js.seq <| Js.block <| zS <| Qq (p_indexAddr el_111 rfl rfl (by omega) (by omega) he25) <| QS 0 hr25 rfl ?_
  refine za zeh fun b26 => zw 0 rfl rfl rfl ?_
  refine zJ <| zS <| Qm rfl <| Qm rfl <| Qh rfl rfl <| JL.nil ?_
  refine zi (fun h27 h27' => ?_) fun h27 h27' => ?_
  ·
   have hV : M.vlp v_rules p depth low high (-1000) v_slots v_hits 0 = (b, (sl, h)) := hS.symm.trans (M.vlp_b rfl (by have := h27'; omega))
   have hln0 : 0 < sl.length := by omega
   have hps := M.okP_bare r0
   refine zx ?_
   refine zS <| Qf fh rfl <| Q0 3 rfl rfl rfl <| Qf fh rfl <| Q0 3 rfl rfl rfl <| Qm rfl <| Qm rfl <| Qb ?_
   refine za zeh fun b28 => zw 0 rfl rfl rfl ?_
   refine zJ <| Js.block <| zS <| Qm rfl <| Qm rfl <| Qk rfl rfl <| Qa rfl <| JL.nil ?_
   refine zi (fun h29 h29' => ?_) fun h29 h29' => ?_
   ·
    refine Js.region <| Qf fh rfl <| zw 0 rfl rfl rfl ?_
    refine JL.nil <| Js.blockEnd <| Js.seq ?_
    refine zdr [5] ?_
    refine jM 0 rfl rfl ?_
    refine jN 1 rfl rfl ?_
    refine jF 2 fld_87_0 rfl rfl ?_
    refine JH.q 3 rfl (L9 5 rfl rfl) ?_
    refine JH.q 4 rfl (L9 0 rfl rfl) ?_
    refine y1 5 ?_
    refine zhh [6, 6] ?_
    refine yBB 2 sp_ rfl rfl (fun w hb _ hw => c_impl_Memory_store v_rules sl (M.Slo.mk true p.pits p.player depth b 2) hb (ok_ hw) (r0 := hps)) ?_
    rintro _ _ G30 ⟨vs30mem_w0, f30mem_w0, rfl, rfl⟩
    refine znh ?_
    refine yd ?_
    refine zS <| Qm rfl <| Qa rfl <| JL.nil ?_
    refine zrb [8, 0, 0] hb ((x5.trans x15).trans x23) ?_
    have hE : (.int .i64 b : Value) = .int .i64 ((M.vis v_rules depth.toNat p low high (v_slots, v_hits)).1) := by first | (rw [hQ]; done) | (rw [hQ]; rfl) | (rw [M.vis_d hd hne hfu hV (M.bndV_2 (by omega))]; done) | (rw [M.vis_d hd hne hfu hV (M.bndV_1 (by omega) (by omega))]; done) | (rw [M.vis_d hd hne hfu hV (M.bndV_0 (by omega) (by omega))]; done)
    have hN10 : ((M.vis v_rules depth.toNat p low high (v_slots, v_hits)).2.1).length = sl.length := by first | (rw [hQ]; done) | (rw [hQ]; rfl) | (rw [M.vis_d hd hne hfu hV (M.bndV_2 (by omega))]; done) | (rw [M.vis_d hd hne hfu hV (M.bndV_1 (by omega) (by omega))]; done) | (rw [M.vis_d hd hne hfu hV (M.bndV_0 (by omega) (by omega))]; done) | (rw [M.vis_d hd hne hfu hV (M.bndV_2 (by omega)), M.stoS_len]; done) | (rw [M.vis_d hd hne hfu hV (M.bndV_1 (by omega) (by omega)), M.stoS_len]; done) | (rw [M.vis_d hd hne hfu hV (M.bndV_0 (by omega) (by omega)), M.stoS_len]; done)
    have hE10 : (M.vis v_rules depth.toNat p low high (v_slots, v_hits)).2.1 = (M.stoS sl (M.Slo.mk true p.pits p.player depth b 2)) := by first | (rw [hQ]; done) | (rw [hQ]; rfl) | (rw [M.vis_d hd hne hfu hV (M.bndV_2 (by omega))]; done) | (rw [M.vis_d hd hne hfu hV (M.bndV_1 (by omega) (by omega))]; done) | (rw [M.vis_d hd hne hfu hV (M.bndV_0 (by omega) (by omega))]; done)
    have hE11 : (M.vis v_rules depth.toNat p low high (v_slots, v_hits)).2.2 = h := by first | (rw [hQ]; done) | (rw [hQ]; rfl) | (rw [M.vis_d hd hne hfu hV (M.bndV_2 (by omega))]; done) | (rw [M.vis_d hd hne hfu hV (M.bndV_1 (by omega) (by omega))]; done) | (rw [M.vis_d hd hne hfu hV (M.bndV_0 (by omega) (by omega))]; done)
    refine ⟨A23_0_9, c23_0_9, g23_0_9, vs30mem_w0, f30mem_w0, hE, ?_, ?_, ?_⟩
    · rw [hN10, hE10, hE11]
    all_goals (first | (rw [hN10, hE10, hE11]; omega) | omega | (simp only [*]; omega) | (simp; done))
   refine zS <| Qm rfl <| Qm rfl <| Qh rfl rfl <| Qa rfl <| JL.nil ?_
   refine Js.condT rfl h27 ?_
   refine Js.region <| Qf fh rfl <| zw 0 rfl rfl rfl ?_
   refine JL.nil <| Js.blockEnd <| Js.seq ?_
   refine zdr [5] ?_
   refine jM 0 rfl rfl ?_
   refine jN 1 rfl rfl ?_
   refine jF 2 fld_87_0 rfl rfl ?_
   refine JH.q 3 rfl (L9 5 rfl rfl) ?_
   refine JH.q 4 rfl (L9 0 rfl rfl) ?_
   refine y1 5 ?_
   refine zhh [6, 6] ?_
   refine yBB 2 sp_ rfl rfl (fun w hb _ hw => c_impl_Memory_store v_rules sl (M.Slo.mk true p.pits p.player depth b 1) hb (ok_ hw) (r0 := hps)) ?_
   rintro _ _ G31 ⟨vs31mem_w0, f31mem_w0, rfl, rfl⟩
   refine znh ?_
   refine yd ?_
   refine zS <| Qm rfl <| Qa rfl <| JL.nil ?_
   refine zrb [8, 0, 0] hb ((x5.trans x15).trans x23) ?_
   have hE : (.int .i64 b : Value) = .int .i64 ((M.vis v_rules depth.toNat p low high (v_slots, v_hits)).1) := by first | (rw [hQ]; done) | (rw [hQ]; rfl) | (rw [M.vis_d hd hne hfu hV (M.bndV_2 (by omega))]; done) | (rw [M.vis_d hd hne hfu hV (M.bndV_1 (by omega) (by omega))]; done) | (rw [M.vis_d hd hne hfu hV (M.bndV_0 (by omega) (by omega))]; done)
   have hN10 : ((M.vis v_rules depth.toNat p low high (v_slots, v_hits)).2.1).length = sl.length := by first | (rw [hQ]; done) | (rw [hQ]; rfl) | (rw [M.vis_d hd hne hfu hV (M.bndV_2 (by omega))]; done) | (rw [M.vis_d hd hne hfu hV (M.bndV_1 (by omega) (by omega))]; done) | (rw [M.vis_d hd hne hfu hV (M.bndV_0 (by omega) (by omega))]; done) | (rw [M.vis_d hd hne hfu hV (M.bndV_2 (by omega)), M.stoS_len]; done) | (rw [M.vis_d hd hne hfu hV (M.bndV_1 (by omega) (by omega)), M.stoS_len]; done) | (rw [M.vis_d hd hne hfu hV (M.bndV_0 (by omega) (by omega)), M.stoS_len]; done)
   have hE10 : (M.vis v_rules depth.toNat p low high (v_slots, v_hits)).2.1 = (M.stoS sl (M.Slo.mk true p.pits p.player depth b 1)) := by first | (rw [hQ]; done) | (rw [hQ]; rfl) | (rw [M.vis_d hd hne hfu hV (M.bndV_2 (by omega))]; done) | (rw [M.vis_d hd hne hfu hV (M.bndV_1 (by omega) (by omega))]; done) | (rw [M.vis_d hd hne hfu hV (M.bndV_0 (by omega) (by omega))]; done)
   have hE11 : (M.vis v_rules depth.toNat p low high (v_slots, v_hits)).2.2 = h := by first | (rw [hQ]; done) | (rw [hQ]; rfl) | (rw [M.vis_d hd hne hfu hV (M.bndV_2 (by omega))]; done) | (rw [M.vis_d hd hne hfu hV (M.bndV_1 (by omega) (by omega))]; done) | (rw [M.vis_d hd hne hfu hV (M.bndV_0 (by omega) (by omega))]; done)
   refine ⟨A23_0_9, c23_0_9, g23_0_9, vs31mem_w0, f31mem_w0, hE, ?_, ?_, ?_⟩
   · rw [hN10, hE10, hE11]
   all_goals (first | (rw [hN10, hE10, hE11]; omega) | omega | (simp only [*]; omega) | (simp; done))
  have hbh : ¬ high ≤ b := by have := h27'; omega
  refine Js.skip <| zS <| Qm rfl <| Qm rfl <| Qq (p_cast (v' := .int .i64 (M.mx low b)) (p_max rfl rfl) rfl) <| Qa rfl <| Qa rfl <| zJ <| zS <| Qf fh rfl <| Q0 0 rfl rfl rfl <| JL.nil ?_
  refine zi (fun h32 h32' => ?_) fun h32 h32' => ?_
  ·
   have hag : y25.again = true := h32
   have hS2 := M.vlp_t hS hy25 hbh hag
   have hx1 := M.mx_le low b
   have hgb9 := M.results_gain (M.results_get0 hy25)
   have hok9 := M.results_ok (M.results_get0 hy25)
   have hv9 := M.vis_b (r := v_rules) (d := (depth - 1).toNat) (p := y25.next) (low := M.mx low b - y25.gain) (high := high - y25.gain) (sl := sl) (h := h) (M.results_ok (M.results_get0 hy25)) hbd (by omega)
   obtain ⟨w1_, w2_, w3_, w4_, w5_, w6_, w7_⟩ := hv9
   have hx2 := M.mx_le b (y25.gain + (M.vis v_rules (depth - 1).toNat y25.next (M.mx low b - y25.gain) (high - y25.gain) (sl, h)).1)
   refine zk [0, 2, 3, 4, 6, 15, 86, 87, 88] (fun F U l os u => ∃ (G33 : List Nat) (A33v_9 : Option Addr) (c33v_9 : Nat) (vs33v_9 : List Value) (g33v_9 f33v_9 : List Nat), l = F [(19, .int .i64 (y25.gain + ((M.vis v_rules (depth - 1).toNat y25.next ((M.mx low b) - y25.gain) (high - y25.gain) (sl, h)).1)))] ∧ os = [anyO G33] ++ U [nO, nO, nO, nO, some (boxO bv [.int .i64 v_rules.pits, .int .i64 v_rules.seeds, .bool v_rules.stores, .bool v_rules.skip, .bool v_rules.relay, .bool v_rules.feed, .bool v_rules.again, .int .i64 v_rules.capture, .int .i64 v_rules.slam, .slice A33v_9 (((M.vis v_rules (depth - 1).toNat y25.next ((M.mx low b) - y25.gain) (high - y25.gain) (sl, h)).2.1).length) c33v_9, .int .i64 ((M.vis v_rules (depth - 1).toNat y25.next ((M.mx low b) - y25.gain) (high - y25.gain) (sl, h)).2.2)] 87), some (rowO 49 6 (.slice A33v_9 (((M.vis v_rules (depth - 1).toNat y25.next ((M.mx low b) - y25.gain) (high - y25.gain) (sl, h)).2.1).length) c33v_9) (((M.vis v_rules (depth - 1).toNat y25.next ((M.mx low b) - y25.gain) (high - y25.gain) (sl, h)).2.1).length) vs33v_9 g33v_9), some (ownC (lSlot ((M.vis v_rules (depth - 1).toNat y25.next ((M.mx low b) - y25.gain) (high - y25.gain) (sl, h)).2.1)) vs33v_9 f33v_9)] ∧ (((M.vis v_rules (depth - 1).toNat y25.next ((M.mx low b) - y25.gain) (high - y25.gain) (sl, h)).2.1).length ≤ c33v_9) ∧ (c33v_9 ≤ 9223372036854775807)) ?_ ?_
   ·
    refine zdr [15] ?_
    refine jF 0 fld_114_1 rfl rfl ?_
    refine jM 2 rfl rfl ?_
    refine jF 3 fld_114_3 rfl rfl ?_
    refine JH.q 4 rfl (L9 0 rfl rfl) ?_
    refine jM 5 rfl rfl ?_
    refine JH.p 6 rfl (p_sub rfl rfl (IntWalk.i64_in _ (by omega))) ?_
    refine jM 7 rfl rfl ?_
    refine jF 8 fld_114_1 rfl rfl ?_
    refine jB 9 0 ty_2 rfl rfl rfl rfl ?_
    refine JH.p 10 rfl (p_sub rfl rfl (IntWalk.i64_in _ (by omega))) ?_
    refine jM 11 rfl rfl ?_
    refine jF 12 fld_114_1 rfl rfl ?_
    refine jB 13 0 ty_2 rfl rfl rfl rfl ?_
    refine JH.p 14 rfl (p_sub rfl rfl (IntWalk.i64_in _ (by omega))) ?_
    refine y2 1 15 ?_ ?_
    ·
     refine JHo.q rfl (q_load1 ty_2.h rfl (Mem.box (i := 0) rfl rfl)) ?_
     refine y1 15 ?_
     refine zhh [4, 4, 4] ?_
     refine yBB 3 sp_ rfl rfl (fun w hb _ hw => ih ((depth - 1).toNat) (by omega) v_rules sl h A23_0_9 c23_0_9 g23_0_9 vs23_0_9 fl23_0_9 y25.next _ (depth - 1) ((M.mx low b) - y25.gain) (high - y25.gain) bv w hb (ok_ hw) (by omega) (by omega) (M.results_ok (M.results_get0 hy25)) (by omega) (by omega) (by omega) (by omega) hsz hbd (by omega) (by omega) (by omega) (by omega) (by omega) (by omega) rfl) ?_
     rintro _ _ G36 ⟨A36v_9, c36v_9, g36v_9, vs36v_9, f36v_9, rfl, rfl, bl36_0, bl36_1⟩
     refine znh ?_
     refine JH.p 16 rfl (p_add rfl rfl (IntWalk.i64_in _ (by omega))) ?_
     refine jA 17 rfl rfl ?_
     refine yd ?_
     refine zh [3, 3, 3, 3, 3, 0, 0, 0, 0] ?_
     exact zm ⟨_, _, _, _, _, _, rfl, rfl, zt, zt⟩ (Up.refl _ _)
    refine zhh [4, 4, 4] ?_
    refine yBB 3 sp_ rfl rfl (fun w hb _ hw => ih ((depth - 1).toNat) (by omega) v_rules sl h A23_0_9 c23_0_9 g23_0_9 vs23_0_9 fl23_0_9 y25.next _ (depth - 1) ((M.mx low b) - y25.gain) (high - y25.gain) bv w hb (ok_ hw) (by omega) (by omega) (M.results_ok (M.results_get0 hy25)) (by omega) (by omega) (by omega) (by omega) hsz hbd (by omega) (by omega) (by omega) (by omega) (by omega) (by omega) rfl) ?_
    rintro _ _ G37 ⟨A37v_9, c37v_9, g37v_9, vs37v_9, f37v_9, rfl, rfl, bl37_0, bl37_1⟩
    refine znh ?_
    refine y1 1 ?_
    refine JHo.q rfl (q_load1 ty_2.h rfl (Mem.box (i := 4) rfl rfl)) ?_
    refine JH.p 16 rfl (p_add rfl rfl (IntWalk.i64_in _ (by omega))) ?_
    refine jA 17 rfl rfl ?_
    refine yd ?_
    refine zh [3, 3, 3, 3, 3, 0, 0, 0, 0] ?_
    exact zm ⟨_, _, _, _, _, _, rfl, rfl, zt, zt⟩ (Up.refl _ _)
   rintro _ _ u35 ⟨G33, A33v_9, c33v_9, vs33v_9, g33v_9, f33v_9, rfl, rfl, f35_0, f35_1⟩ x35
   refine zn ?_
   refine Js.region <| Qm rfl <| Qm rfl <| Qq (p_cast (v' := .int .i64 (M.mx b (y25.gain + ((M.vis v_rules (depth - 1).toNat y25.next ((M.mx low b) - y25.gain) (high - y25.gain) (sl, h)).1)))) (p_max rfl rfl) rfl) <| Qa rfl <| JL.nil <| Js.blockEnd <| Js.region <| Qp rfl rfl <| Qm rfl <| JL.nil ?_
   refine zf [2, 2, 2, 2, 2, 2] fun GG38 => ?_
   refine zn ?_
   exact zag ⟨k + 1, M.mx b (y25.gain + ((M.vis v_rules (depth - 1).toNat y25.next ((M.mx low b) - y25.gain) (high - y25.gain) (sl, h)).1)), (M.vis v_rules (depth - 1).toNat y25.next ((M.mx low b) - y25.gain) (high - y25.gain) (sl, h)).2.2, (M.vis v_rules (depth - 1).toNat y25.next ((M.mx low b) - y25.gain) (high - y25.gain) (sl, h)).2.1, _, _, _, _, _, _, rfl, rfl, by exact hS2, zt, by exact w2_ hsz, by exact w1_, by exact w7_.trans hln, by exact hhb.step w5_ w6_, by omega, by omega, zu, zu, rfl⟩ (x23.trans x35)
  have hag : y25.again = false := h32
  have hS2 := M.vlp_f hS hy25 hbh hag
  have hx1 := M.mx_le low b
  have hgb9 := M.results_gain (M.results_get0 hy25)
  have hok9 := M.results_ok (M.results_get0 hy25)
  have hv9 := M.vis_b (r := v_rules) (d := (depth - 1).toNat) (p := y25.next) (low := y25.gain - high) (high := y25.gain - M.mx low b) (sl := sl) (h := h) (M.results_ok (M.results_get0 hy25)) hbd (by omega)
  obtain ⟨w1_, w2_, w3_, w4_, w5_, w6_, w7_⟩ := hv9
  have hx2 := M.mx_le b (y25.gain - (M.vis v_rules (depth - 1).toNat y25.next (y25.gain - high) (y25.gain - M.mx low b) (sl, h)).1)
  refine zk [0, 2, 3, 4, 6, 15, 86, 87, 88] (fun F U l os u => ∃ (G39 : List Nat) (A39v_9 : Option Addr) (c39v_9 : Nat) (vs39v_9 : List Value) (g39v_9 f39v_9 : List Nat), l = F [(19, .int .i64 (y25.gain - ((M.vis v_rules (depth - 1).toNat y25.next (y25.gain - high) (y25.gain - (M.mx low b)) (sl, h)).1)))] ∧ os = [anyO G39] ++ U [nO, nO, nO, nO, some (boxO bv [.int .i64 v_rules.pits, .int .i64 v_rules.seeds, .bool v_rules.stores, .bool v_rules.skip, .bool v_rules.relay, .bool v_rules.feed, .bool v_rules.again, .int .i64 v_rules.capture, .int .i64 v_rules.slam, .slice A39v_9 (((M.vis v_rules (depth - 1).toNat y25.next (y25.gain - high) (y25.gain - (M.mx low b)) (sl, h)).2.1).length) c39v_9, .int .i64 ((M.vis v_rules (depth - 1).toNat y25.next (y25.gain - high) (y25.gain - (M.mx low b)) (sl, h)).2.2)] 87), some (rowO 49 6 (.slice A39v_9 (((M.vis v_rules (depth - 1).toNat y25.next (y25.gain - high) (y25.gain - (M.mx low b)) (sl, h)).2.1).length) c39v_9) (((M.vis v_rules (depth - 1).toNat y25.next (y25.gain - high) (y25.gain - (M.mx low b)) (sl, h)).2.1).length) vs39v_9 g39v_9), some (ownC (lSlot ((M.vis v_rules (depth - 1).toNat y25.next (y25.gain - high) (y25.gain - (M.mx low b)) (sl, h)).2.1)) vs39v_9 f39v_9)] ∧ (((M.vis v_rules (depth - 1).toNat y25.next (y25.gain - high) (y25.gain - (M.mx low b)) (sl, h)).2.1).length ≤ c39v_9) ∧ (c39v_9 ≤ 9223372036854775807)) ?_ ?_
  ·
   refine zdr [15] ?_
   refine jF 0 fld_114_1 rfl rfl ?_
   refine jM 2 rfl rfl ?_
   refine jF 3 fld_114_3 rfl rfl ?_
   refine JH.q 4 rfl (L9 0 rfl rfl) ?_
   refine jM 5 rfl rfl ?_
   refine JH.p 6 rfl (p_sub rfl rfl (IntWalk.i64_in _ (by omega))) ?_
   refine jF 7 fld_114_1 rfl rfl ?_
   refine jB 8 0 ty_2 rfl rfl rfl rfl ?_
   refine jM 9 rfl rfl ?_
   refine JH.p 10 rfl (p_sub rfl rfl (IntWalk.i64_in _ (by omega))) ?_
   refine jF 11 fld_114_1 rfl rfl ?_
   refine jB 12 0 ty_2 rfl rfl rfl rfl ?_
   refine jM 13 rfl rfl ?_
   refine JH.p 14 rfl (p_sub rfl rfl (IntWalk.i64_in _ (by omega))) ?_
   refine y2 1 15 ?_ ?_
   ·
    refine JHo.q rfl (q_load1 ty_2.h rfl (Mem.box (i := 0) rfl rfl)) ?_
    refine y1 15 ?_
    refine zhh [4, 4, 4] ?_
    refine yBB 3 sp_ rfl rfl (fun w hb _ hw => ih ((depth - 1).toNat) (by omega) v_rules sl h A23_0_9 c23_0_9 g23_0_9 vs23_0_9 fl23_0_9 y25.next _ (depth - 1) (y25.gain - high) (y25.gain - (M.mx low b)) bv w hb (ok_ hw) (by omega) (by omega) (M.results_ok (M.results_get0 hy25)) (by omega) (by omega) (by omega) (by omega) hsz hbd (by omega) (by omega) (by omega) (by omega) (by omega) (by omega) rfl) ?_
    rintro _ _ G42 ⟨A42v_9, c42v_9, g42v_9, vs42v_9, f42v_9, rfl, rfl, bl42_0, bl42_1⟩
    refine znh ?_
    refine JH.p 16 rfl (p_sub rfl rfl (IntWalk.i64_in _ (by omega))) ?_
    refine jA 17 rfl rfl ?_
    refine yd ?_
    refine zh [3, 3, 3, 3, 3, 0, 0, 0, 0] ?_
    exact zm ⟨_, _, _, _, _, _, rfl, rfl, zt, zt⟩ (Up.refl _ _)
   refine zhh [4, 4, 4] ?_
   refine yBB 3 sp_ rfl rfl (fun w hb _ hw => ih ((depth - 1).toNat) (by omega) v_rules sl h A23_0_9 c23_0_9 g23_0_9 vs23_0_9 fl23_0_9 y25.next _ (depth - 1) (y25.gain - high) (y25.gain - (M.mx low b)) bv w hb (ok_ hw) (by omega) (by omega) (M.results_ok (M.results_get0 hy25)) (by omega) (by omega) (by omega) (by omega) hsz hbd (by omega) (by omega) (by omega) (by omega) (by omega) (by omega) rfl) ?_
   rintro _ _ G43 ⟨A43v_9, c43v_9, g43v_9, vs43v_9, f43v_9, rfl, rfl, bl43_0, bl43_1⟩
   refine znh ?_
   refine y1 1 ?_
   refine JHo.q rfl (q_load1 ty_2.h rfl (Mem.box (i := 4) rfl rfl)) ?_
   refine JH.p 16 rfl (p_sub rfl rfl (IntWalk.i64_in _ (by omega))) ?_
   refine jA 17 rfl rfl ?_
   refine yd ?_
   refine zh [3, 3, 3, 3, 3, 0, 0, 0, 0] ?_
   exact zm ⟨_, _, _, _, _, _, rfl, rfl, zt, zt⟩ (Up.refl _ _)
  rintro _ _ u41 ⟨G39, A39v_9, c39v_9, vs39v_9, g39v_9, f39v_9, rfl, rfl, f41_0, f41_1⟩ x41
  refine zn ?_
  refine Js.region <| Qm rfl <| Qm rfl <| Qq (p_cast (v' := .int .i64 (M.mx b (y25.gain - ((M.vis v_rules (depth - 1).toNat y25.next (y25.gain - high) (y25.gain - (M.mx low b)) (sl, h)).1)))) (p_max rfl rfl) rfl) <| Qa rfl <| JL.nil <| Js.blockEnd <| Js.region <| Qp rfl rfl <| Qm rfl <| JL.nil ?_
  refine zf [2, 2, 2, 2, 2, 2] fun GG44 => ?_
  refine zn ?_
  exact zag ⟨k + 1, M.mx b (y25.gain - ((M.vis v_rules (depth - 1).toNat y25.next (y25.gain - high) (y25.gain - (M.mx low b)) (sl, h)).1)), (M.vis v_rules (depth - 1).toNat y25.next (y25.gain - high) (y25.gain - (M.mx low b)) (sl, h)).2.2, (M.vis v_rules (depth - 1).toNat y25.next (y25.gain - high) (y25.gain - (M.mx low b)) (sl, h)).2.1, _, _, _, _, _, _, rfl, rfl, by exact hS2, zt, by exact w2_ hsz, by exact w1_, by exact w7_.trans hln, by exact hhb.step w5_ w6_, by omega, by omega, zu, zu, rfl⟩ (x23.trans x41)
 have hV : M.vlp v_rules p depth low high (-1000) v_slots v_hits 0 = (b, (sl, h)) := hS.symm.trans (M.vlp_e rfl (by have := h24'; omega))
 have hln0 : 0 < sl.length := by omega
 have hps := M.okP_bare r0
 refine zx ?_
 refine zS <| Qf fh rfl <| Q0 2 rfl rfl rfl <| Qf fh rfl <| Q0 2 rfl rfl rfl <| Qm rfl <| Qm rfl <| Qb ?_
 refine za zeh fun b45 => zw 0 rfl rfl rfl ?_
 refine zJ <| Js.block <| zS <| Qm rfl <| Qm rfl <| Qk rfl rfl <| Qa rfl <| JL.nil ?_
 refine zi (fun h46 h46' => ?_) fun h46 h46' => ?_
 ·
  refine Js.region <| Qf fh rfl <| zw 0 rfl rfl rfl ?_
  refine JL.nil <| Js.blockEnd <| Js.seq ?_
  refine zdr [5] ?_
  refine jM 0 rfl rfl ?_
  refine jN 1 rfl rfl ?_
  refine jF 2 fld_87_0 rfl rfl ?_
  refine JH.q 3 rfl (L9 4 rfl rfl) ?_
  refine JH.q 4 rfl (L9 0 rfl rfl) ?_
  refine y1 5 ?_
  refine zhh [5, 5] ?_
  refine yBB 2 sp_ rfl rfl (fun w hb _ hw => c_impl_Memory_store v_rules sl (M.Slo.mk true p.pits p.player depth b 2) hb (ok_ hw) (r0 := hps)) ?_
  rintro _ _ G47 ⟨vs47mem_w0, f47mem_w0, rfl, rfl⟩
  refine znh ?_
  refine yd ?_
  refine zS <| Qm rfl <| Qa rfl <| JL.nil ?_
  refine zrb [7, 0, 0] hb ((x5.trans x15).trans x23) ?_
  have hE : (.int .i64 b : Value) = .int .i64 ((M.vis v_rules depth.toNat p low high (v_slots, v_hits)).1) := by first | (rw [hQ]; done) | (rw [hQ]; rfl) | (rw [M.vis_d hd hne hfu hV (M.bndV_2 (by omega))]; done) | (rw [M.vis_d hd hne hfu hV (M.bndV_1 (by omega) (by omega))]; done) | (rw [M.vis_d hd hne hfu hV (M.bndV_0 (by omega) (by omega))]; done)
  have hN10 : ((M.vis v_rules depth.toNat p low high (v_slots, v_hits)).2.1).length = sl.length := by first | (rw [hQ]; done) | (rw [hQ]; rfl) | (rw [M.vis_d hd hne hfu hV (M.bndV_2 (by omega))]; done) | (rw [M.vis_d hd hne hfu hV (M.bndV_1 (by omega) (by omega))]; done) | (rw [M.vis_d hd hne hfu hV (M.bndV_0 (by omega) (by omega))]; done) | (rw [M.vis_d hd hne hfu hV (M.bndV_2 (by omega)), M.stoS_len]; done) | (rw [M.vis_d hd hne hfu hV (M.bndV_1 (by omega) (by omega)), M.stoS_len]; done) | (rw [M.vis_d hd hne hfu hV (M.bndV_0 (by omega) (by omega)), M.stoS_len]; done)
  have hE10 : (M.vis v_rules depth.toNat p low high (v_slots, v_hits)).2.1 = (M.stoS sl (M.Slo.mk true p.pits p.player depth b 2)) := by first | (rw [hQ]; done) | (rw [hQ]; rfl) | (rw [M.vis_d hd hne hfu hV (M.bndV_2 (by omega))]; done) | (rw [M.vis_d hd hne hfu hV (M.bndV_1 (by omega) (by omega))]; done) | (rw [M.vis_d hd hne hfu hV (M.bndV_0 (by omega) (by omega))]; done)
  have hE11 : (M.vis v_rules depth.toNat p low high (v_slots, v_hits)).2.2 = h := by first | (rw [hQ]; done) | (rw [hQ]; rfl) | (rw [M.vis_d hd hne hfu hV (M.bndV_2 (by omega))]; done) | (rw [M.vis_d hd hne hfu hV (M.bndV_1 (by omega) (by omega))]; done) | (rw [M.vis_d hd hne hfu hV (M.bndV_0 (by omega) (by omega))]; done)
  refine ⟨A23_0_9, c23_0_9, g23_0_9, vs47mem_w0, f47mem_w0, hE, ?_, ?_, ?_⟩
  · rw [hN10, hE10, hE11]
  all_goals (first | (rw [hN10, hE10, hE11]; omega) | omega | (simp only [*]; omega) | (simp; done))
 refine zS <| Qm rfl <| Qm rfl <| Qh rfl rfl <| Qa rfl <| JL.nil ?_
 refine zi (fun h48 h48' => ?_) fun h48 h48' => ?_
 ·
  refine Js.region <| Qf fh rfl <| zw 0 rfl rfl rfl ?_
  refine JL.nil <| Js.blockEnd <| Js.seq ?_
  refine zdr [5] ?_
  refine jM 0 rfl rfl ?_
  refine jN 1 rfl rfl ?_
  refine jF 2 fld_87_0 rfl rfl ?_
  refine JH.q 3 rfl (L9 4 rfl rfl) ?_
  refine JH.q 4 rfl (L9 0 rfl rfl) ?_
  refine y1 5 ?_
  refine zhh [5, 5] ?_
  refine yBB 2 sp_ rfl rfl (fun w hb _ hw => c_impl_Memory_store v_rules sl (M.Slo.mk true p.pits p.player depth b 1) hb (ok_ hw) (r0 := hps)) ?_
  rintro _ _ G49 ⟨vs49mem_w0, f49mem_w0, rfl, rfl⟩
  refine znh ?_
  refine yd ?_
  refine zS <| Qm rfl <| Qa rfl <| JL.nil ?_
  refine zrb [7, 0, 0] hb ((x5.trans x15).trans x23) ?_
  have hE : (.int .i64 b : Value) = .int .i64 ((M.vis v_rules depth.toNat p low high (v_slots, v_hits)).1) := by first | (rw [hQ]; done) | (rw [hQ]; rfl) | (rw [M.vis_d hd hne hfu hV (M.bndV_2 (by omega))]; done) | (rw [M.vis_d hd hne hfu hV (M.bndV_1 (by omega) (by omega))]; done) | (rw [M.vis_d hd hne hfu hV (M.bndV_0 (by omega) (by omega))]; done)
  have hN10 : ((M.vis v_rules depth.toNat p low high (v_slots, v_hits)).2.1).length = sl.length := by first | (rw [hQ]; done) | (rw [hQ]; rfl) | (rw [M.vis_d hd hne hfu hV (M.bndV_2 (by omega))]; done) | (rw [M.vis_d hd hne hfu hV (M.bndV_1 (by omega) (by omega))]; done) | (rw [M.vis_d hd hne hfu hV (M.bndV_0 (by omega) (by omega))]; done) | (rw [M.vis_d hd hne hfu hV (M.bndV_2 (by omega)), M.stoS_len]; done) | (rw [M.vis_d hd hne hfu hV (M.bndV_1 (by omega) (by omega)), M.stoS_len]; done) | (rw [M.vis_d hd hne hfu hV (M.bndV_0 (by omega) (by omega)), M.stoS_len]; done)
  have hE10 : (M.vis v_rules depth.toNat p low high (v_slots, v_hits)).2.1 = (M.stoS sl (M.Slo.mk true p.pits p.player depth b 1)) := by first | (rw [hQ]; done) | (rw [hQ]; rfl) | (rw [M.vis_d hd hne hfu hV (M.bndV_2 (by omega))]; done) | (rw [M.vis_d hd hne hfu hV (M.bndV_1 (by omega) (by omega))]; done) | (rw [M.vis_d hd hne hfu hV (M.bndV_0 (by omega) (by omega))]; done)
  have hE11 : (M.vis v_rules depth.toNat p low high (v_slots, v_hits)).2.2 = h := by first | (rw [hQ]; done) | (rw [hQ]; rfl) | (rw [M.vis_d hd hne hfu hV (M.bndV_2 (by omega))]; done) | (rw [M.vis_d hd hne hfu hV (M.bndV_1 (by omega) (by omega))]; done) | (rw [M.vis_d hd hne hfu hV (M.bndV_0 (by omega) (by omega))]; done)
  refine ⟨A23_0_9, c23_0_9, g23_0_9, vs49mem_w0, f49mem_w0, hE, ?_, ?_, ?_⟩
  · rw [hN10, hE10, hE11]
  all_goals (first | (rw [hN10, hE10, hE11]; omega) | omega | (simp only [*]; omega) | (simp; done))
 refine Js.skip <| Js.blockEnd <| Js.seq ?_
 refine zdr [5] ?_
 refine jM 0 rfl rfl ?_
 refine jN 1 rfl rfl ?_
 refine jF 2 fld_87_0 rfl rfl ?_
 refine JH.q 3 rfl (L9 4 rfl rfl) ?_
 refine JH.q 4 rfl (L9 0 rfl rfl) ?_
 refine y1 5 ?_
 refine zhh [5, 5] ?_
 refine yBB 2 sp_ rfl rfl (fun w hb _ hw => c_impl_Memory_store v_rules sl (M.Slo.mk true p.pits p.player depth b 0) hb (ok_ hw) (r0 := hps)) ?_
 rintro _ _ G50 ⟨vs50mem_w0, f50mem_w0, rfl, rfl⟩
 refine znh ?_
 refine yd ?_
 refine zS <| Qm rfl <| Qa rfl <| JL.nil ?_
 refine zrb [7, 0, 0] hb ((x5.trans x15).trans x23) ?_
 have hE : (.int .i64 b : Value) = .int .i64 ((M.vis v_rules depth.toNat p low high (v_slots, v_hits)).1) := by first | (rw [hQ]; done) | (rw [hQ]; rfl) | (rw [M.vis_d hd hne hfu hV (M.bndV_2 (by omega))]; done) | (rw [M.vis_d hd hne hfu hV (M.bndV_1 (by omega) (by omega))]; done) | (rw [M.vis_d hd hne hfu hV (M.bndV_0 (by omega) (by omega))]; done)
 have hN10 : ((M.vis v_rules depth.toNat p low high (v_slots, v_hits)).2.1).length = sl.length := by first | (rw [hQ]; done) | (rw [hQ]; rfl) | (rw [M.vis_d hd hne hfu hV (M.bndV_2 (by omega))]; done) | (rw [M.vis_d hd hne hfu hV (M.bndV_1 (by omega) (by omega))]; done) | (rw [M.vis_d hd hne hfu hV (M.bndV_0 (by omega) (by omega))]; done) | (rw [M.vis_d hd hne hfu hV (M.bndV_2 (by omega)), M.stoS_len]; done) | (rw [M.vis_d hd hne hfu hV (M.bndV_1 (by omega) (by omega)), M.stoS_len]; done) | (rw [M.vis_d hd hne hfu hV (M.bndV_0 (by omega) (by omega)), M.stoS_len]; done)
 have hE10 : (M.vis v_rules depth.toNat p low high (v_slots, v_hits)).2.1 = (M.stoS sl (M.Slo.mk true p.pits p.player depth b 0)) := by first | (rw [hQ]; done) | (rw [hQ]; rfl) | (rw [M.vis_d hd hne hfu hV (M.bndV_2 (by omega))]; done) | (rw [M.vis_d hd hne hfu hV (M.bndV_1 (by omega) (by omega))]; done) | (rw [M.vis_d hd hne hfu hV (M.bndV_0 (by omega) (by omega))]; done)
 have hE11 : (M.vis v_rules depth.toNat p low high (v_slots, v_hits)).2.2 = h := by first | (rw [hQ]; done) | (rw [hQ]; rfl) | (rw [M.vis_d hd hne hfu hV (M.bndV_2 (by omega))]; done) | (rw [M.vis_d hd hne hfu hV (M.bndV_1 (by omega) (by omega))]; done) | (rw [M.vis_d hd hne hfu hV (M.bndV_0 (by omega) (by omega))]; done)
 refine ⟨A23_0_9, c23_0_9, g23_0_9, vs50mem_w0, f50mem_w0, hE, ?_, ?_, ?_⟩
 · rw [hN10, hE10, hE11]
 all_goals (first | (rw [hN10, hE10, hE11]; omega) | omega | (simp only [*]; omega) | (simp; done))
theorem c_impl_visitor_visit (v_rules : M.Rul) (v_slots : List M.Slo) (v_hits : Int) {Av_9 : Option Addr} {cv_9 : Nat} {gv_9 : List Nat} {vsv_9 : List Value} {fv_9 : List Nat} (p : M.Pos) {v_p : Value} (depth low high : Int) {bv : Nat} {w : World} (hb : Bw w [boxO bv [.int .i64 v_rules.pits, .int .i64 v_rules.seeds, .bool v_rules.stores, .bool v_rules.skip, .bool v_rules.relay, .bool v_rules.feed, .bool v_rules.again, .int .i64 v_rules.capture, .int .i64 v_rules.slam, .slice Av_9 v_slots.length cv_9, .int .i64 v_hits] 87, rowO 49 6 (.slice Av_9 v_slots.length cv_9) v_slots.length vsv_9 gv_9, ownC (lSlot v_slots) vsv_9 fv_9]) (h_p : (Ty.agg (cPosition p)).ok (offW w (([boxO bv [.int .i64 v_rules.pits, .int .i64 v_rules.seeds, .bool v_rules.stores, .bool v_rules.skip, .bool v_rules.relay, .bool v_rules.feed, .bool v_rules.again, .int .i64 v_rules.capture, .int .i64 v_rules.slam, .slice Av_9 v_slots.length cv_9, .int .i64 v_hits] 87, rowO 49 6 (.slice Av_9 v_slots.length cv_9) v_slots.length vsv_9 gv_9, ownC (lSlot v_slots) vsv_9 fv_9] : List Own).flatMap (·.fp))) v_p) (bd0 : v_slots.length ≤ cv_9 := by exact om_) (bd1 : cv_9 ≤ 9223372036854775807 := by exact om_) (r0 : M.okP v_rules p = true := by exact om_) (r1 : 0 ≤ depth := by exact om_) (r2 : depth ≤ 8 := by exact om_) (r3 : 0 < v_slots.length := by exact om_) (r4 : v_slots.length ≤ 4194304 := by exact om_) (r5 : M.SzM 4194304 v_slots := by exact om_) (r6 : M.BdM v_slots := by exact om_) (r7 : 0 ≤ v_hits := by exact om_) (r8 : v_hits + M.e9 depth.toNat ≤ 1000000000000 := by exact om_) (r9 : 96 * depth + low ≤ 3000 := by exact om_) (r10 : 96 * depth - low ≤ 3000 := by exact om_) (r11 : 96 * depth + high ≤ 3000 := by exact om_) (r12 : 96 * depth - high ≤ 3000 := by exact om_) : RetB Tryz.prog 46 [.pointer (some ⟨bv, 0, none⟩), v_p, .int .i64 depth, .int .i64 low, .int .i64 high] w [boxO bv [.int .i64 v_rules.pits, .int .i64 v_rules.seeds, .bool v_rules.stores, .bool v_rules.skip, .bool v_rules.relay, .bool v_rules.feed, .bool v_rules.again, .int .i64 v_rules.capture, .int .i64 v_rules.slam, .slice Av_9 v_slots.length cv_9, .int .i64 v_hits] 87, rowO 49 6 (.slice Av_9 v_slots.length cv_9) v_slots.length vsv_9 gv_9, ownC (lSlot v_slots) vsv_9 fv_9] (fun v bs' => ∃ (Axv_9 : Option Addr) (cxv_9 : Nat) (gxv_9 : List Nat) (vsxv_9 : List Value) (fxv_9 : List Nat), v = .int .i64 ((M.vis v_rules depth.toNat p low high (v_slots, v_hits)).1) ∧ bs' = [boxO bv [.int .i64 v_rules.pits, .int .i64 v_rules.seeds, .bool v_rules.stores, .bool v_rules.skip, .bool v_rules.relay, .bool v_rules.feed, .bool v_rules.again, .int .i64 v_rules.capture, .int .i64 v_rules.slam, .slice Axv_9 (((M.vis v_rules depth.toNat p low high (v_slots, v_hits)).2.1).length) cxv_9, .int .i64 ((M.vis v_rules depth.toNat p low high (v_slots, v_hits)).2.2)] 87, rowO 49 6 (.slice Axv_9 (((M.vis v_rules depth.toNat p low high (v_slots, v_hits)).2.1).length) cxv_9) (((M.vis v_rules depth.toNat p low high (v_slots, v_hits)).2.1).length) vsxv_9 gxv_9, ownC (lSlot ((M.vis v_rules depth.toNat p low high (v_slots, v_hits)).2.1)) vsxv_9 fxv_9] ∧ ((M.vis v_rules depth.toNat p low high (v_slots, v_hits)).2.1).length ≤ cxv_9 ∧ cxv_9 ≤ 9223372036854775807) := c_impl_visitor_visit_ _ v_rules v_slots v_hits Av_9 cv_9 gv_9 vsv_9 fv_9 p v_p depth low high bv w hb h_p bd0 bd1 r0 r1 r2 r3 r4 r5 r6 r7 r8 r9 r10 r11 r12 rfl
theorem c_impl_SearchWith (mem : M.Mem) {v_mem : Value} (p : M.Pos) {v_p : Value} (depth : Int) {w : World} (h_mem : (Ty.agg (cMemory mem)).ok w v_mem) (h_p : (Ty.agg (cPosition p)).ok w v_p) (r0 : mem.slots.length ≤ 4194304 := by exact om_) (r1 : ∀ x ∈ mem.slots, x.pits.length ≤ 4194304 := by exact om_) (r2 : p.pits.length ≤ 4194304 := by exact om_) (r3 : p.stores.length ≤ 4194304 := by exact om_) : Ret Tryz.prog 8 [v_mem, v_p, .int .i64 depth] w (Ty.tup [Ty.int ((M.swM mem p depth).1), Ty.int ((M.swM mem p depth).2.1), Ty.agg (cMemory ((M.swM mem p depth).2.2.1)), Ty.int ((M.swM mem p depth).2.2.2)]) := by
 revert v_mem; apply opn
 intro A1 c1 h1 bl1 bh1
 revert v_p; apply opn
 intro A2 c2 h2 bl2 bh2 A3 c3 h3 bl3 bh3
 refine enter @Tryz.func8 @Tryz.ntmps8 rfl rfl ?_
 refine zent ?_
 refine zS <| zb rfl fun b4 => zb rfl fun b5 => Qa rfl <| Qa rfl <| za zeh fun b6 => Qa rfl <| zJ <| zS <| Q9 2 rfl rfl ?_
 refine Q9 1 rfl rfl ?_
 refine zv rfl (fun w hw => c_impl_areRemembered mem p (ok_ hw) (ok_ hw) (r1 := r1)) <| Qt rfl <| JL.nil ?_
 refine zi (fun h7 h7' => ?_) fun h7 h7' => ?_
 ·
  have hE := M.swM_1 (d := depth) (M.rem_no (by have h9 := h7; simpa using h9))
  have hq0 : 0 = (M.swM mem p depth).1 := rp_ hE
  have hq1 : 0 = (M.swM mem p depth).2.1 := rp_ hE
  have hq2 : 0 = (((M.swM mem p depth).2.2.1).rules).pits := rp_ hE
  have hq3 : 0 = (((M.swM mem p depth).2.2.1).rules).seeds := rp_ hE
  have hq4 : false = (((M.swM mem p depth).2.2.1).rules).stores := rp_ hE
  have hq5 : false = (((M.swM mem p depth).2.2.1).rules).skip := rp_ hE
  have hq6 : false = (((M.swM mem p depth).2.2.1).rules).relay := rp_ hE
  have hq7 : false = (((M.swM mem p depth).2.2.1).rules).feed := rp_ hE
  have hq8 : false = (((M.swM mem p depth).2.2.1).rules).again := rp_ hE
  have hq9 : 0 = (((M.swM mem p depth).2.2.1).rules).capture := rp_ hE
  have hq10 : 0 = (((M.swM mem p depth).2.2.1).rules).slam := rp_ hE
  have hq11 : [] = ((M.swM mem p depth).2.2.1).slots := rp_ hE
  have hq12 : 1 = (M.swM mem p depth).2.2.2 := rp_ hE
  refine zS <| Qb ?_
  refine Qa rfl <| Qa rfl <| zw 0 rfl rfl rfl ?_
  refine Qa rfl <| JL.nil ?_
  exact zro (Up.refl _ _)
 have hrem : M.remB mem p = true := by simpa using h7
 obtain ⟨ho1, ho2, ho3, ho4, ho5⟩ := M.rem_parts hrem
 refine Js.skip <| Js.seq <| zS <| Qf fh rfl <| Q9 2 rfl rfl ?_
 refine Q9 1 rfl rfl ?_
 refine Qm rfl <| zv rfl (fun w hw => c_impl_searchCode mem.rules p depth (ok_ hw) (ok_ hw)) <| Qa rfl <| zN <| Qm rfl <| Qd rfl rfl <| JL.nil ?_
 refine zi (fun h8 h8' => ?_) fun h8 h8' => ?_
 ·
  have hE := M.swM_c hrem (by simpa using h8)
  have hq0 : 0 = (M.swM mem p depth).1 := rp_ hE
  have hq1 : 0 = (M.swM mem p depth).2.1 := rp_ hE
  have hq2 : 0 = (((M.swM mem p depth).2.2.1).rules).pits := rp_ hE
  have hq3 : 0 = (((M.swM mem p depth).2.2.1).rules).seeds := rp_ hE
  have hq4 : false = (((M.swM mem p depth).2.2.1).rules).stores := rp_ hE
  have hq5 : false = (((M.swM mem p depth).2.2.1).rules).skip := rp_ hE
  have hq6 : false = (((M.swM mem p depth).2.2.1).rules).relay := rp_ hE
  have hq7 : false = (((M.swM mem p depth).2.2.1).rules).feed := rp_ hE
  have hq8 : false = (((M.swM mem p depth).2.2.1).rules).again := rp_ hE
  have hq9 : 0 = (((M.swM mem p depth).2.2.1).rules).capture := rp_ hE
  have hq10 : 0 = (((M.swM mem p depth).2.2.1).rules).slam := rp_ hE
  have hq11 : [] = ((M.swM mem p depth).2.2.1).slots := rp_ hE
  have hq12 : (M.srchC mem.rules p depth) = (M.swM mem p depth).2.2.2 := rp_ hE
  refine zS <| Qb ?_
  refine Qm rfl <| Qa rfl <| Qa rfl <| zw 0 rfl rfl rfl ?_
  refine Qa rfl <| JL.nil ?_
  exact zro (Up.refl _ _)
 have hz : M.srchC mem.rules p depth = 0 := by simpa using h8
 have hsc := M.srchC_ok hz
 obtain ⟨hs1, hs2, hs3, hs4⟩ := hsc
 have hv9 := M.vis_b (d := depth.toNat) (low := -1000) (high := 1000) (h := 0) ho2 ho5 (by omega)
 obtain ⟨w1_, w2_, w3_, w4_, w5_, w6_, w7_⟩ := hv9
 have wz_ := w2_ r1
 have he8 := M.e9_8 (d := depth.toNat) (by omega)
 refine Js.skip <| zS <| Q9 2 rfl rfl ?_
 refine zc rfl (fun w hw => c_impl_Memory_copied mem (ok_ hw) (r1 := r1)) ?_
 intro A10 c10 vs10 f10 bl10 bh10
 refine Qb ?_
 refine zb rfl fun b11 => Qa rfl <| zN <| Qm rfl <| Q9 4 rfl rfl ?_
 refine Qm rfl <| zB 3 sp_ rfl (fun w hb hw => c_impl_visitor_visit mem.rules mem.slots 0 p depth (-1000) 1000 hb (ok_ hw) (r0 := ho2) (r5 := r1) (r6 := ho5)) ?_
 rintro _ _ G12 ⟨A12v_9, c12v_9, g12v_9, vs12v_9, f12v_9, rfl, rfl, bl12_0, bl12_1⟩
 refine znl ?_
 refine Qa rfl <| zJ <| zS <| Qm rfl <| zv rfl (fun w hw => c_impl_between ((M.vis mem.rules depth.toNat p (-1000) 1000 (mem.slots, 0)).1) (-96) 96) <| Qt rfl <| Qm rfl <| zg (Gd.f1 rfl rfl rfl) (fun hc => p_move rfl) <| zg (Gd.f1 rfl rfl rfl) (fun hc => p_nilCheck (gh hc rfl)) <| zg (Gd.f1 rfl rfl rfl) (fun hc => p_fieldAddr fld_87_0.h (gh hc rfl)) <| zgq (Gd.f1 rfl rfl rfl) (fun hc => L9 0 (gh hc rfl) rfl) <| zgv (Gd.f1 rfl rfl rfl) (fun hc => (opds_1 (gh hc rfl))) (fun hc => (fun w hw => c_impl_ValidMemory (M.Mem.mk mem.rules ((M.vis mem.rules depth.toNat p (-1000) 1000 (mem.slots, 0)).2.1)) (by exact ⟨_, rfl, ⟨rfl, rfl, rfl, rfl, rfl, rfl, rfl, rfl, rfl, (srow_ok lSlot (xs := ((M.vis mem.rules depth.toNat p (-1000) 1000 (mem.slots, 0)).2.1)) (hw.pr (i := 1) rfl) (hw.pr (i := 2) rfl) (lSlot_length _)), trivial⟩⟩) (r0 := (by dsimp only; omega)) (r1 := wz_))) ?_
 refine zg (Gd.f1 rfl rfl rfl) (fun hc => p_not (gh hc rfl)) <| Qq (p_pickOr rfl rfl rfl) <| JL.nil ?_
 refine zi (fun h13 h13' => ?_) fun h13 h13' => ?_
 ·
  have hE := M.swM_6 hrem hz (M.swOk_n h13)
  have hq0 : 0 = (M.swM mem p depth).1 := rp_ hE
  have hq1 : 0 = (M.swM mem p depth).2.1 := rp_ hE
  have hq2 : 0 = (((M.swM mem p depth).2.2.1).rules).pits := rp_ hE
  have hq3 : 0 = (((M.swM mem p depth).2.2.1).rules).seeds := rp_ hE
  have hq4 : false = (((M.swM mem p depth).2.2.1).rules).stores := rp_ hE
  have hq5 : false = (((M.swM mem p depth).2.2.1).rules).skip := rp_ hE
  have hq6 : false = (((M.swM mem p depth).2.2.1).rules).relay := rp_ hE
  have hq7 : false = (((M.swM mem p depth).2.2.1).rules).feed := rp_ hE
  have hq8 : false = (((M.swM mem p depth).2.2.1).rules).again := rp_ hE
  have hq9 : 0 = (((M.swM mem p depth).2.2.1).rules).capture := rp_ hE
  have hq10 : 0 = (((M.swM mem p depth).2.2.1).rules).slam := rp_ hE
  have hq11 : [] = ((M.swM mem p depth).2.2.1).slots := rp_ hE
  have hq12 : 6 = (M.swM mem p depth).2.2.2 := rp_ hE
  refine zS <| Qb ?_
  refine Qa rfl <| Qa rfl <| zw 4 rfl rfl rfl ?_
  refine Qa rfl <| JL.nil ?_
  exact zro (Up.refl _ _)
 have hE := M.swM_0 hrem hz (M.swOk_y h13)
 refine Js.skip <| Js.seq ?_
 refine zdr [11] ?_
 refine jM 0 rfl rfl ?_
 refine jM 1 rfl rfl ?_
 refine jN 2 rfl rfl ?_
 refine jF 3 fld_87_1 rfl rfl ?_
 refine jB 4 0 ty_2 rfl rfl rfl rfl ?_
 refine jM 5 rfl rfl ?_
 refine jN 6 rfl rfl ?_
 refine jF 7 fld_87_0 rfl rfl ?_
 refine JH.q 8 rfl (L9 0 rfl rfl) ?_
 refine jA 9 rfl rfl ?_
 refine jA 10 rfl rfl ?_
 refine y1 11 ?_
 refine yst rfl rfl rfl ?_
 refine jA 12 rfl rfl ?_
 refine yd ?_
 have hq0 : ((M.vis mem.rules depth.toNat p (-1000) 1000 (mem.slots, 0)).1) = (M.swM mem p depth).1 := rp_ hE
 have hq1 : ((M.vis mem.rules depth.toNat p (-1000) 1000 (mem.slots, 0)).2.2) = (M.swM mem p depth).2.1 := rp_ hE
 have hq2 : mem.rules.pits = (((M.swM mem p depth).2.2.1).rules).pits := rp_ hE
 have hq3 : mem.rules.seeds = (((M.swM mem p depth).2.2.1).rules).seeds := rp_ hE
 have hq4 : mem.rules.stores = (((M.swM mem p depth).2.2.1).rules).stores := rp_ hE
 have hq5 : mem.rules.skip = (((M.swM mem p depth).2.2.1).rules).skip := rp_ hE
 have hq6 : mem.rules.relay = (((M.swM mem p depth).2.2.1).rules).relay := rp_ hE
 have hq7 : mem.rules.feed = (((M.swM mem p depth).2.2.1).rules).feed := rp_ hE
 have hq8 : mem.rules.again = (((M.swM mem p depth).2.2.1).rules).again := rp_ hE
 have hq9 : mem.rules.capture = (((M.swM mem p depth).2.2.1).rules).capture := rp_ hE
 have hq10 : mem.rules.slam = (((M.swM mem p depth).2.2.1).rules).slam := rp_ hE
 have hq11 : ((M.vis mem.rules depth.toNat p (-1000) 1000 (mem.slots, 0)).2.1) = ((M.swM mem p depth).2.2.1).slots := rp_ hE
 have hq12 : 0 = (M.swM mem p depth).2.2.2 := rp_ hE
 exact zro (Up.refl _ _)
theorem c_spec_LegalMovesL (r : M.Rul) {v_r : Value} (p : M.Pos) {v_p : Value} {w : World} (h_r : (Ty.agg (cRules r)).ok w v_r) (h_p : (Ty.agg (cPosition p)).ok w v_p) (r0 : p.pits.length ≤ 4194304 := by exact om_) (r1 : p.stores.length ≤ 4194304 := by exact om_) : Ret Tryz.prog 17 [v_r, v_p] w (Ty.tup [Ty.ints 2 (M.legal r p), Ty.int (M.legC r p)]) := by
 revert v_r; apply opn
 revert v_p; apply opn
 intro A1 c1 h1 bl1 bh1 A2 c2 h2 bl2 bh2
 refine enter @Tryz.func17 @Tryz.ntmps17 rfl rfl ?_
 refine zent ?_
 refine zS <| zb rfl fun b3 => zb rfl fun b4 => Qa rfl <| Qa rfl <| zJ <| zS <| zv rfl (fun w hw => c_spec_l04Ok r p (ok_ hw) (ok_ hw)) <| Qt rfl <| JL.nil ?_
 refine zi (fun h5 h5' => ?_) fun h5 h5' => ?_
 ·
  have hE := M.legal_no (r := r) (p := p) (by simpa using h5)
  have hC := M.legC_n (r := r) (p := p) (by simpa using h5)
  have hq0 : [] = M.legal r p := by first | exact hE | (rw [hE]; done) | (rw [hC]; done) | exact hC
  have hq1 : 1 = M.legC r p := by first | exact hE | (rw [hE]; done) | (rw [hC]; done) | exact hC
  refine zS <| Qa rfl <| Qa rfl <| JL.nil ?_
  exact zro (Up.refl _ _)
 have hok : M.okP r p = true := by simpa using h5
 have hC := M.legC_y hok
 have g8 := M.results_8 hok
 refine Js.skip <| zS <| zbs fun b6 => ?_
 refine Qa rfl <| zN <| zp rfl (fun w hw => c_spec_l07All r p (ok_ hw) (ok_ hw) (r0 := hok)) ?_
 intro u8 x8 A9 c9 h9 bl9 bh9
 refine Qa rfl <| zJ <| zS <| Qa rfl <| JL.nil <| Js.block ?_
 refine zl [7] (fun F U l os u m => ∃ (k : Nat) (acc : List Int) (A10_6 : Option Addr) (c10_6 : Nat) (g10_6 : List Nat), l = F [(6, .slice A10_6 acc.length c10_6), (8, .int .i64 (k : Int))] ∧ os = U [some (rowO 2 1 (.slice A10_6 acc.length c10_6) acc.length (ints_ acc) g10_6)] ∧ (acc = ((M.results r p).map (·.move)).take k) ∧ (k ≤ (M.results r p).length) ∧ (acc.length = k) ∧ (acc.length ≤ c10_6) ∧ (c10_6 ≤ 9223372036854775807) ∧ m = (M.results r p).length - k) ⟨0, [], _, _, _, rfl, rfl, by rfl, zt, by rfl, zu, zu, rfl⟩ ?_
 rintro _ _ u10 _ ⟨k, acc, A10_6, c10_6, g10_6, rfl, rfl, hA, hk, hl, f10_3, f10_4, rfl⟩ x10
 refine zn ?_
 refine Js.seq <| zS <| Qm rfl <| Qm rfl <| Qz rfl <| Ql rfl rfl <| JL.nil ?_
 refine zi (fun h11 h11' => ?_) fun h11 h11' => ?_
 ·
  obtain ⟨y12, hy12⟩ : ∃ x, (M.results r p)[k]? = some x := ⟨_, List.getElem?_eq_getElem (by omega)⟩
  obtain ⟨b12, o12, A12_3, c12_3, A12_4, c12_4, he12, hr12, h12_3, h12_4, bl12_3, bh12_3, bl12_4, bh12_4⟩ := elem_Result (Ty.mono _ h9 x10.vis) hy12
  refine Js.skip <| Js.seq <| Js.block <| Js.region <| Qm rfl <| Qm rfl <| Qm rfl <| Qq (p_indexAddr el_111 rfl rfl (by omega) (by omega) he12) <| Qf fh rfl <| QC (hr12 0 _ rfl) rfl <| zbs fun b13 => ?_
  refine JL.e (e_append (i := 1) (n' := (acc ++ [y12.move]).length) (vs' := ints_ (acc ++ [y12.move])) el_29 rfl rfl rfl rfl (src_row (i := 0) und_29 rfl rfl) (by omega) (by omega) ln2_ (by simp [ints_])) ?_
  rintro v15 _ _ ⟨⟨g16, rfl⟩, rfl⟩ _
  refine JL.fact (row_form' (i := 1) rfl) (fun hf17 => ?_)
  obtain ⟨A17, c17, rfl, bl17, bh17⟩ := hf17
  refine znl ?_
  refine Qa rfl <| JL.nil <| Js.blockEnd <| Js.region <| Qm rfl <| Qp rfl rfl <| Qa rfl <| JL.nil ?_
  refine zd [1, 1, 1] rfl fun u18 x18 => ?_
  exact zag ⟨k + 1, acc ++ [y12.move], _, _, _, rfl, rfl, by rw [hA]; exact (M.moves_step (by assumption)).symm, zt, by simp [hl], zu, zu, rfl⟩ (x10.trans x18)
 have hE : acc = M.legal r p := by rw [hA, M.legal_yes hok, List.take_of_length_le (by rw [List.length_map]; have := h11'; omega)]
 refine zx ?_
 have hq0 : acc = M.legal r p := by first | exact hE | (rw [hE]; done) | (rw [hC]; done) | exact hC
 have hq1 : 0 = M.legC r p := by first | exact hE | (rw [hE]; done) | (rw [hC]; done) | exact hC
 refine zS <| Qm rfl <| Qa rfl <| Qa rfl <| JL.nil ?_
 exact zro (x8.trans x10)
theorem c_laws_f6big (code : Nat) {v_code : Value} {w : World} (h_code : (Ty.bytes 5 code).ok w v_code) : RetV Tryz.prog 6 [v_code] w (.bool (decide (4096 < (code : Int)))) := by
 revert v_code; apply opn
 intro A1 c1 h1 bl1 bh1
 have h_code := h1
 refine enter @Tryz.func6 @Tryz.ntmps6 rfl rfl ?_
 refine zent ?_
 refine zS <| Qa rfl <| zN <| Qm rfl <| Qz rfl <| Qg rfl rfl <| Qa rfl <| JL.nil ?_
 exact zr (Up.refl _ _)
theorem c_laws_f6roll (code : Nat) {v_code : Value} (seed : Int) {w : World} (h_code : (Ty.bytes 5 code).ok w v_code) (r0 : code ≤ 1048576 := by exact om_) : Ret Tryz.prog 14 [v_code, .int .u64 seed] w (Ty.ex (fun (HX : Int) => True) (fun HX => Ty.box 108 [Ty.val v_code, Ty.int 0, Ty.val (.int .u64 HX)])) := by
 revert v_code; apply opn
 intro A1 c1 h1 bl1 bh1
 have h_code := h1
 refine enter @Tryz.func14 @Tryz.ntmps14 rfl rfl ?_
 refine zent ?_
 refine zS <| Qa rfl <| zN <| Qm rfl <| Qm rfl <| Qq (p_mul rfl rfl rfl) <| Qm rfl <| Qz rfl <| Qq (p_conv @Tryz.underlying3 @Tryz.underlying42 rfl rfl) <| Qq (p_add rfl rfl rfl) <| Qb ?_
 refine zb rfl fun b2 => Qa rfl <| zJ <| zS <| Qa rfl <| JL.nil <| Js.block ?_
 refine zl [0, 5] (fun F U l os u m => ∃ (k : Nat) (hh : Int), l = F [(6, .int .i64 (k : Int))] ∧ os = U [some (boxO b2 [.slice A1 code c1, .int .i64 0, .int .u64 hh] 108)] ∧ (k ≤ code) ∧ m = code - k) ⟨0, IntKind.u64.wrap ((IntKind.u64.wrap (seed * 7919)) + (IntKind.u64.wrap (code : Int))), rfl, rfl, zt, rfl⟩ ?_
 rintro _ _ u3 _ ⟨k, hh, rfl, rfl, hk, rfl⟩ x3
 refine zn ?_
 refine Js.seq <| zS <| Qm rfl <| Qm rfl <| Qz rfl <| Ql rfl rfl <| JL.nil ?_
 refine zi (fun h4 h4' => ?_) fun h4 h4' => ?_
 ·
  refine Js.skip <| Js.seq <| Js.block ?_
  refine zdr [15] ?_
  refine jM 0 rfl rfl ?_
  refine jM 1 rfl rfl ?_
  refine jN 2 rfl rfl ?_
  refine jF 3 fld_108_2 rfl rfl ?_
  refine jB 4 0 ty_42 rfl rfl rfl rfl ?_
  refine JH.p 5 rfl (p_mul rfl rfl rfl) ?_
  refine jM 6 rfl rfl ?_
  refine jM 7 rfl rfl ?_
  obtain ⟨b5, o5, z5, he5, hc5, hz5⟩ := bytes_elem (Ty.mono _ h1 x3.vis) (i := k) (by omega)
  refine jI 8 el_22 rfl rfl rfl he5 ?_
  refine jW 9 ty_5 rfl rfl hc5.vis ?_
  refine y1 10 ?_
  refine JHo.q rfl (OpP.q (p_conv @Tryz.underlying5 @Tryz.underlying42 rfl rfl)) ?_
  refine JH.p 11 rfl (p_add rfl rfl rfl) ?_
  refine JH.p 12 rfl (p_add rfl rfl rfl) ?_
  refine jN 13 rfl rfl ?_
  refine jF 14 fld_108_2 rfl rfl ?_
  refine y1 15 ?_
  refine yst rfl rfl rfl ?_
  refine yd ?_
  refine Js.blockEnd <| Js.region <| Qm rfl <| Qp rfl rfl <| Qa rfl <| JL.nil ?_
  exact zag ⟨k + 1, IntKind.u64.wrap ((IntKind.u64.wrap ((IntKind.u64.wrap (hh * 1099511628211)) + (IntKind.u64.wrap z5))) + 3), rfl, rfl, zt, rfl⟩ x3
 refine zx ?_
 refine zS <| Qm rfl <| Qa rfl <| JL.nil ?_
 exact zro x3 (g := by exact (gv_ex hh (by first | trivial | omega) gv_))
theorem c_laws_f6dice_below (d_b : Nat) (d_i d_h : Int) {Ad_0 : Option Addr} {cd_0 : Nat} (n : Int) {bd : Nat} {w : World} (hb : Bw w [boxO bd [.slice Ad_0 d_b cd_0, .int .i64 d_i, .int .u64 d_h] 108]) (hpd_0 : (Ty.bytes 5 d_b).ok (offW w (([boxO bd [.slice Ad_0 d_b cd_0, .int .i64 d_i, .int .u64 d_h] 108] : List Own).flatMap (·.fp))) (.slice Ad_0 d_b cd_0)) (r0 : 1 ≤ n := by exact om_) (r1 : n ≤ 1000000 := by exact om_) (r2 : d_b ≤ 1048576 := by exact om_) (r3 : 0 ≤ d_i := by exact om_) (r4 : d_i ≤ 1000000 := by exact om_) : RetB Tryz.prog 15 [.pointer (some ⟨bd, 0, none⟩), .int .i64 n] w [boxO bd [.slice Ad_0 d_b cd_0, .int .i64 d_i, .int .u64 d_h] 108] (fun v bs' => ∃ (KX IX HX : Int), v = .int .i64 KX ∧ bs' = [boxO bd [.slice Ad_0 d_b cd_0, .int .i64 IX, .int .u64 HX] 108] ∧ (0 ≤ KX) ∧ (KX < n)) := by
 refine enterB hb @Tryz.func15 @Tryz.ntmps15 rfl rfl ?_
 refine zent ?_
 refine Js.trashE ?_
 refine zn ?_
 have had1 := andI_24 ((IntKind.u64.wrap ((IntKind.u64.wrap (d_h * 6364136223846793005)) + 1442695040888963407)).fdiv (2 ^ (min (33 : Int).toNat IntKind.u64.bits)))
 refine zS <| Qa rfl <| zN <| Qm rfl <| Qm rfl <| Qc rfl <| Qf fh rfl <| Q0 0 rfl rfl rfl <| Qq (p_mul rfl rfl rfl) <| Qq (p_add rfl rfl rfl) <| Qc rfl <| Qf fh rfl <| zw 0 rfl rfl rfl ?_
 refine zN <| Qm rfl <| Qc rfl <| Qf fh rfl <| Q0 0 rfl rfl rfl <| Qq (p_shr rfl rfl (by decide)) <| Qq (p_and rfl rfl) <| Qq (p_conv @Tryz.underlying42 @Tryz.underlying2 rfl (IntWalk.i64_in _ (by omega))) <| Qa rfl <| zJ <| Js.seq ?_
 refine zdr [] ?_
 refine jM 0 rfl rfl ?_
 refine jN 1 rfl rfl ?_
 refine jF 2 fld_108_1 rfl rfl ?_
 refine jB 3 0 ty_3 rfl rfl rfl rfl ?_
 refine jM 4 rfl rfl ?_
 refine jN 5 rfl rfl ?_
 refine jF 6 fld_108_0 rfl rfl ?_
 refine jB 7 0 ty_22 rfl rfl rfl rfl ?_
 refine JH.p 8 rfl (p_len el_22 rfl) ?_
 refine JH.p 9 rfl (p_lss rfl rfl) ?_
 refine yd ?_
 refine zi (fun h2 h2' => ?_) fun h2 h2' => ?_
 ·
  refine Js.seq ?_
  refine zdr [] ?_
  refine jM 0 rfl rfl ?_
  refine jM 1 rfl rfl ?_
  refine jN 2 rfl rfl ?_
  refine jF 3 fld_108_0 rfl rfl ?_
  refine jB 4 0 ty_22 rfl rfl rfl rfl ?_
  refine jM 5 rfl rfl ?_
  refine jN 6 rfl rfl ?_
  refine jF 7 fld_108_1 rfl rfl ?_
  refine jB 8 0 ty_3 rfl rfl rfl rfl ?_
  obtain ⟨b3, o3, z3, he3, hc3, hz3⟩ := bytes_elem hpd_0 (i := d_i.toNat) (by omega)
  refine jI 9 el_22 rfl rfl rfl he3 ?_
  refine jW 10 ty_5 rfl rfl hc3.vis ?_
  refine y1 11 ?_
  refine JHo.q rfl (OpP.q (p_conv @Tryz.underlying5 @Tryz.underlying2 rfl (IntWalk.i64_in _ (by omega)))) ?_
  refine JH.p 12 rfl (p_add rfl rfl (IntWalk.i64_in _ (by omega))) ?_
  refine jA 13 rfl rfl ?_
  refine yd ?_
  have hrn4 := Int.emod_nonneg ((andI .u64 ((IntKind.u64.wrap ((IntKind.u64.wrap (d_h * 6364136223846793005)) + 1442695040888963407)).fdiv (2 ^ (min (33 : Int).toNat IntKind.u64.bits))) 16777215) + z3) (b := n) (by omega)
  have hrl4 := Int.emod_lt_of_pos ((andI .u64 ((IntKind.u64.wrap ((IntKind.u64.wrap (d_h * 6364136223846793005)) + 1442695040888963407)).fdiv (2 ^ (min (33 : Int).toNat IntKind.u64.bits))) 16777215) + z3) (show 0 < n by omega)
  refine Js.region <| Qm rfl <| Qm rfl <| Qc rfl <| Qf fh rfl <| Q0 0 rfl rfl rfl <| Qp rfl rfl <| Qc rfl <| Qf fh rfl <| zw 0 rfl rfl rfl ?_
  refine zN <| Qm rfl <| Qm rfl <| Qq (p_rem rfl rfl (by omega) (Int.tmod_eq_emod_of_nonneg (by omega))) <| Qa rfl <| JL.nil ?_
  refine zrb [0] hb (Up.refl _ _) ?_
  refine ⟨(((andI .u64 ((IntKind.u64.wrap ((IntKind.u64.wrap (d_h * 6364136223846793005)) + 1442695040888963407)).fdiv (2 ^ (min (33 : Int).toNat IntKind.u64.bits))) 16777215) + z3) % n), ((d_i + 1)), ((IntKind.u64.wrap ((IntKind.u64.wrap (d_h * 6364136223846793005)) + 1442695040888963407))), rfl, ?_, by first | trivial | omega | (dsimp only; omega), by first | trivial | omega | (dsimp only; omega)⟩
  · rfl
 have hrn5 := Int.emod_nonneg (andI .u64 ((IntKind.u64.wrap ((IntKind.u64.wrap (d_h * 6364136223846793005)) + 1442695040888963407)).fdiv (2 ^ (min (33 : Int).toNat IntKind.u64.bits))) 16777215) (b := n) (by omega)
 have hrl5 := Int.emod_lt_of_pos (andI .u64 ((IntKind.u64.wrap ((IntKind.u64.wrap (d_h * 6364136223846793005)) + 1442695040888963407)).fdiv (2 ^ (min (33 : Int).toNat IntKind.u64.bits))) 16777215) (show 0 < n by omega)
 refine Js.skip <| zS <| Qm rfl <| Qm rfl <| Qq (p_rem rfl rfl (by omega) (Int.tmod_eq_emod_of_nonneg (by omega))) <| Qa rfl <| JL.nil ?_
 refine zrb [0] hb (Up.refl _ _) ?_
 refine ⟨((andI .u64 ((IntKind.u64.wrap ((IntKind.u64.wrap (d_h * 6364136223846793005)) + 1442695040888963407)).fdiv (2 ^ (min (33 : Int).toNat IntKind.u64.bits))) 16777215) % n), (d_i), ((IntKind.u64.wrap ((IntKind.u64.wrap (d_h * 6364136223846793005)) + 1442695040888963407))), rfl, ?_, by first | trivial | omega | (dsimp only; omega), by first | trivial | omega | (dsimp only; omega)⟩
 · rfl
theorem c_laws_FnMemories (code : Nat) {v_code : Value} {w : World} (h_code : (Ty.bytes 5 code).ok w v_code) : RetV Tryz.prog 3 [v_code] w (.bool true) := by
 revert v_code; apply opn
 intro A1 c1 h1 bl1 bh1
 have h_code := h1
 refine enter @Tryz.func3 @Tryz.ntmps3 rfl rfl ?_
 refine zent ?_
 refine zS <| Qa rfl <| zJ <| zS <| Qm rfl <| zv rfl (fun w hw => c_laws_f6big code (ok_ hw)) <| JL.nil ?_
 refine zi (fun h2 h2' => ?_) fun h2 h2' => ?_
 ·
  refine zS <| Qa rfl <| JL.nil ?_
  refine zR (Up.refl _ _) ?_
  first | rfl | (simp [outV, m7]; done)
 refine Js.skip <| zS <| Qm rfl <| zp rfl (fun w hw => c_spec_DrawSearchWith code (ok_ hw)) ?_
 intro u3 x3 X4 hX4 A5 c5 h5 bl5 bh5 X6 hX6 A7 c7 h7 bl7 bh7 A8 c8 h8 bl8 bh8 X9 hX9
 obtain ⟨hm64, hz1⟩ := (by assumption : X4.slots.length ≤ 65 ∧ M.SzM 16 X4.slots)
 refine Qm rfl <| Qx rfl rfl <| Qx rfl rfl <| Qx rfl rfl <| za zeh fun b10 => za zeh fun b11 => zw 1 rfl rfl rfl ?_
 refine zw 0 rfl rfl rfl ?_
 refine Qa rfl <| zN <| Q9 1 rfl rfl ?_
 refine Q9 0 rfl rfl ?_
 refine Qm rfl <| zp rfl (fun w hw => c_impl_SearchWith X4 X6 X9 (ok_ hw) (ok_ hw) (r1 := (by first | exact hz1.mono (by omega) | exact hz2.mono (by omega) | exact hz3.mono (by omega)))) ?_
 intro u12 x12 A13 c13 h13 bl13 bh13
 refine Qm rfl <| Qx rfl rfl <| Qx rfl rfl <| Qx rfl rfl <| Qx rfl rfl <| za zeh fun b14 => Qa rfl <| Qa rfl <| zw 0 rfl rfl rfl ?_
 refine Qa rfl <| zN <| Q9 2 rfl rfl ?_
 refine Q9 1 rfl rfl ?_
 refine Qm rfl <| zp rfl (fun w hw => c_spec_SearchWith X4 X6 X9 (ok_ hw) (ok_ hw) (r1 := (by first | exact hz1.mono (by omega) | exact hz2.mono (by omega) | exact hz3.mono (by omega)))) ?_
 intro u15 x15 A16 c16 h16 bl16 bh16
 have hsw := M.swM_sz X4 X6 X9
 obtain ⟨hsw1, hsw2⟩ := hsw
 have hsw3 := hsw2.mono (by omega : 16 ≤ 4194304)
 refine Qm rfl <| Qx rfl rfl <| Qx rfl rfl <| Qx rfl rfl <| Qx rfl rfl <| za zeh fun b17 => Qa rfl <| Qa rfl <| zw 0 rfl rfl rfl ?_
 refine Qa rfl <| zJ <| Js.seq ?_
 refine zdr [] ?_
 refine jM 0 rfl rfl ?_
 refine jM 1 rfl rfl ?_
 refine JH.p 2 rfl (p_neq rfl rfl) ?_
 refine jM 3 rfl rfl ?_
 refine JH.pg 4 rfl (Gd.f1 rfl rfl rfl) (fun hc => p_move rfl) ?_
 refine JH.pg 5 rfl (Gd.f1 rfl rfl rfl) (fun hc => p_move rfl) ?_
 refine JH.pg 6 rfl (Gd.f1 rfl rfl rfl) (fun hc => p_neq (gvt rfl hc) (gvt rfl hc)) ?_
 refine JH.p 7 rfl (p_pickOr rfl rfl rfl) ?_
 refine jM 8 rfl rfl ?_
 refine JH.pg 9 rfl (Gd.f1 rfl rfl rfl) (fun hc => p_move rfl) ?_
 refine JH.pg 10 rfl (Gd.f1 rfl rfl rfl) (fun hc => p_move rfl) ?_
 refine JH.pg 11 rfl (Gd.f1 rfl rfl rfl) (fun hc => p_neq (gvt rfl hc) (gvt rfl hc)) ?_
 refine JH.p 12 rfl (p_pickOr rfl rfl rfl) ?_
 refine jM 13 rfl rfl ?_
 refine JH.qg 14 rfl (Gd.f1 rfl rfl rfl) (fun hc => L9 1 rfl rfl) ?_
 refine JH.qg 15 rfl (Gd.f1 rfl rfl rfl) (fun hc => L9 0 rfl rfl) ?_
 refine y1 16 ?_
 refine JHo.ge rfl (Gd.f1 rfl rfl rfl) (fun hc => e_callV fn_10.h (opds_2 (gvt rfl hc) (gvt rfl hc)) (fun w hw => c_spec_SameMemory ((M.swM X4 X6 X9).2.2.1) ((M.swM X4 X6 X9).2.2.1) (ok_ hw) (ok_ hw) (r0 := (by have hc9 := hc; (try simp only [Bool.not_eq_true', Bool.or_eq_false_iff, Bool.not_eq_false', decide_eq_true_eq] at hc9); omega)) (r1 := hsw3) (r2 := (by have hc9 := hc; (try simp only [Bool.not_eq_true', Bool.or_eq_false_iff, Bool.not_eq_false', decide_eq_true_eq] at hc9); omega)) (r3 := hsw3))) ?_
 refine JH.pg 17 rfl (Gd.f1 rfl rfl rfl) (fun hc => p_not (gvt rfl hc)) ?_
 refine JH.p 18 rfl (p_pickOr rfl rfl rfl) ?_
 refine jM 19 rfl rfl ?_
 refine JH.qg 20 rfl (Gd.f1 rfl rfl rfl) (fun hc => L9 3 rfl rfl) ?_
 refine JH.qg 22 rfl (Gd.f1 rfl rfl rfl) (fun hc => L9 3 rfl rfl) ?_
 refine y1 21 ?_
 refine JHo.ge rfl (Gd.f1 rfl rfl rfl) (fun hc => e_callV fn_11.h (opds_1 (gvt rfl hc)) (fun w hw => c_impl_ValidMemory X4 (ok_ hw) (r0 := (by have hc9 := hc; (try simp only [Bool.not_eq_true', Bool.or_eq_false_iff, Bool.not_eq_false', decide_eq_true_eq] at hc9); omega)) (r1 := (by first | exact hz1.mono (by omega) | exact hz2.mono (by omega) | exact hz3.mono (by omega))))) ?_
 refine y1 23 ?_
 refine JHo.ge rfl (Gd.f1 rfl rfl rfl) (fun hc => e_callV fn_12.h (opds_1 (gvt rfl hc)) (fun w hw => c_spec_ValidMemory X4 (ok_ hw) (r0 := (by have hc9 := hc; (try simp only [Bool.not_eq_true', Bool.or_eq_false_iff, Bool.not_eq_false', decide_eq_true_eq] at hc9); omega)) (r1 := (by first | exact hz1.mono (by omega) | exact hz2.mono (by omega) | exact hz3.mono (by omega))))) ?_
 refine JH.pg 24 rfl (Gd.f1 rfl rfl rfl) (fun hc => p_neqB und_4 (gvt rfl hc) (gvt rfl hc)) ?_
 refine JH.p 25 rfl (p_pickOr rfl rfl rfl) ?_
 refine yd ?_
 refine zi (fun h18 h18' => ?_) fun h18 h18' => ?_
 · exact absurd h18 (by simp [M.sameM_iff])
 refine Js.skip <| zS <| Qf fh rfl <| Q9 3 rfl rfl ?_
 refine za zeh fun b19 => zw 0 rfl rfl rfl ?_
 refine zJ ?_
 refine zk [4, 5, 14] (fun F U l os u => ∃ (b25 : Nat) (X22KX : Int) (A24 : Option Addr) (c24 b21 : Nat) (X22IX X22HX : Int) (G22 : List Nat), l = F [(15, .pointer (some ⟨b25, 0, none⟩)), (16, .int .i64 ((M.newM X4.rules (1 + X22KX)).2))] ∧ os = [boxO b25 [.int .i64 ((((M.newM X4.rules (1 + X22KX)).1).rules).pits), .int .i64 ((((M.newM X4.rules (1 + X22KX)).1).rules).seeds), .bool ((((M.newM X4.rules (1 + X22KX)).1).rules).stores), .bool ((((M.newM X4.rules (1 + X22KX)).1).rules).skip), .bool ((((M.newM X4.rules (1 + X22KX)).1).rules).relay), .bool ((((M.newM X4.rules (1 + X22KX)).1).rules).feed), .bool ((((M.newM X4.rules (1 + X22KX)).1).rules).again), .int .i64 ((((M.newM X4.rules (1 + X22KX)).1).rules).capture), .int .i64 ((((M.newM X4.rules (1 + X22KX)).1).rules).slam), .slice A24 ((((M.newM X4.rules (1 + X22KX)).1).slots).length) c24] 28, boxO b21 [.slice A1 code c1, .int .i64 X22IX, .int .u64 X22HX] 108, anyO G22] ++ U [] ∧ ((((M.newM X4.rules (1 + X22KX)).1).slots).length ≤ c24) ∧ (c24 ≤ 9223372036854775807) ∧ ((Ty.sl 49 6 (((M.newM X4.rules (1 + X22KX)).1).slots).length (lSlot (((M.newM X4.rules (1 + X22KX)).1).slots))).ok u (.slice A24 ((((M.newM X4.rules (1 + X22KX)).1).slots).length) c24)) ∧ (0 ≤ X22KX) ∧ (X22KX < 64)) ?_ ?_
 ·
  refine zdr [3, 10] ?_
  refine jM 1 rfl rfl ?_
  refine y3 0 2 9 ?_ ?_ ?_
  ·
   refine JHo.q rfl (L9 0 rfl rfl) ?_
   refine y2 2 9 ?_ ?_
   ·
    refine ycs rfl rfl (fun w hw => c_laws_f6roll code 1601 (ok_ hw)) ?_
    intro X84 hX84 b85
    refine y2 3 9 ?_ ?_
    ·
     refine yB 1 sp_ rfl rfl (fun w hb hw => c_laws_f6dice_below code 0 X84 64 hb (ok_ hw)) ?_
     rintro _ _ G86 ⟨X86KX, X86IX, X86HX, rfl, rfl, hX86_0, hX86_1⟩
     refine znh ?_
     refine JH.p 4 rfl (p_add rfl rfl (IntWalk.i64_in _ (by omega))) ?_
     refine y2 5 9 ?_ ?_
     ·
      refine yp rfl rfl (fun w hw => c_impl_NewMemory X4.rules (1 + X86KX) (ok_ hw)) ?_
      intro u87 x87 A88 c88 h88 bl88 bh88
      refine jM 6 rfl rfl ?_
      refine JH.p 7 rfl (p_extract rfl rfl) ?_
      refine JH.p 8 rfl (p_extract rfl rfl) ?_
      refine y1 9 ?_
      refine ya rfl fun b89 => ?_
      refine y1 10 ?_
      refine yst rfl rfl rfl ?_
      refine jA 11 rfl rfl ?_
      refine yd ?_
      exact zm ⟨_, _, _, _, _, _, _, _, rfl, rfl, zt, zt, h88, zt, zt⟩ x87 ⟨rfl, rfl, rfl, rfl, rfl, trivial⟩
     refine ya rfl fun b90 => ?_
     refine y1 5 ?_
     refine yp rfl rfl (fun w hw => c_impl_NewMemory X4.rules (1 + X86KX) (ok_ hw)) ?_
     intro u91 x91 A92 c92 h92 bl92 bh92
     refine jM 6 rfl rfl ?_
     refine JH.p 7 rfl (p_extract rfl rfl) ?_
     refine JH.p 8 rfl (p_extract rfl rfl) ?_
     refine y1 10 ?_
     refine yst rfl rfl rfl ?_
     refine jA 11 rfl rfl ?_
     refine yd ?_
     exact zm ⟨_, _, _, _, _, _, _, _, rfl, rfl, zt, zt, h92, zt, zt⟩ x91 ⟨rfl, rfl, rfl, rfl, rfl, trivial⟩
    refine ya rfl fun b93 => ?_
    refine y1 3 ?_
    refine zhh [1] ?_
    refine yB 1 sp_ rfl rfl (fun w hb hw => c_laws_f6dice_below code 0 X84 64 hb (ok_ hw)) ?_
    rintro _ _ G94 ⟨X94KX, X94IX, X94HX, rfl, rfl, hX94_0, hX94_1⟩
    refine znh ?_
    refine JH.p 4 rfl (p_add rfl rfl (IntWalk.i64_in _ (by omega))) ?_
    refine y1 5 ?_
    refine yp rfl rfl (fun w hw => c_impl_NewMemory X4.rules (1 + X94KX) (ok_ hw)) ?_
    intro u95 x95 A96 c96 h96 bl96 bh96
    refine jM 6 rfl rfl ?_
    refine JH.p 7 rfl (p_extract rfl rfl) ?_
    refine JH.p 8 rfl (p_extract rfl rfl) ?_
    refine y1 10 ?_
    refine yst rfl rfl rfl ?_
    refine jA 11 rfl rfl ?_
    refine yd ?_
    refine zh [2, 0, 0, 0, 0, 0, 0, 0] ?_
    exact zm ⟨_, _, _, _, _, _, _, _, rfl, rfl, zt, zt, h96, zt, zt⟩ x95 ⟨rfl, rfl, rfl, rfl, rfl, trivial⟩
   refine ya rfl fun b97 => ?_
   refine y1 2 ?_
   refine ycs rfl rfl (fun w hw => c_laws_f6roll code 1601 (ok_ hw)) ?_
   intro X98 hX98 b99
   refine y1 3 ?_
   refine yB 1 sp_ rfl rfl (fun w hb hw => c_laws_f6dice_below code 0 X98 64 hb (ok_ hw)) ?_
   rintro _ _ G100 ⟨X100KX, X100IX, X100HX, rfl, rfl, hX100_0, hX100_1⟩
   refine znh ?_
   refine JH.p 4 rfl (p_add rfl rfl (IntWalk.i64_in _ (by omega))) ?_
   refine y1 5 ?_
   refine yp rfl rfl (fun w hw => c_impl_NewMemory X4.rules (1 + X100KX) (ok_ hw)) ?_
   intro u101 x101 A102 c102 h102 bl102 bh102
   refine jM 6 rfl rfl ?_
   refine JH.p 7 rfl (p_extract rfl rfl) ?_
   refine JH.p 8 rfl (p_extract rfl rfl) ?_
   refine y1 10 ?_
   refine yst rfl rfl rfl ?_
   refine jA 11 rfl rfl ?_
   refine yd ?_
   refine zh [2, 0, 0, 0, 0, 0, 0, 0] ?_
   exact zm ⟨_, _, _, _, _, _, _, _, rfl, rfl, zt, zt, h102, zt, zt⟩ x101 ⟨rfl, rfl, rfl, rfl, rfl, trivial⟩
  ·
   refine ycs rfl rfl (fun w hw => c_laws_f6roll code 1601 (ok_ hw)) ?_
   intro X103 hX103 b104
   refine y3 0 3 9 ?_ ?_ ?_
   ·
    refine JHo.q rfl (L9 1 rfl rfl) ?_
    refine y2 3 9 ?_ ?_
    ·
     refine yB 1 sp_ rfl rfl (fun w hb hw => c_laws_f6dice_below code 0 X103 64 hb (ok_ hw)) ?_
     rintro _ _ G105 ⟨X105KX, X105IX, X105HX, rfl, rfl, hX105_0, hX105_1⟩
     refine znh ?_
     refine JH.p 4 rfl (p_add rfl rfl (IntWalk.i64_in _ (by omega))) ?_
     refine y2 5 9 ?_ ?_
     ·
      refine yp rfl rfl (fun w hw => c_impl_NewMemory X4.rules (1 + X105KX) (ok_ hw)) ?_
      intro u106 x106 A107 c107 h107 bl107 bh107
      refine jM 6 rfl rfl ?_
      refine JH.p 7 rfl (p_extract rfl rfl) ?_
      refine JH.p 8 rfl (p_extract rfl rfl) ?_
      refine y1 9 ?_
      refine ya rfl fun b108 => ?_
      refine y1 10 ?_
      refine yst rfl rfl rfl ?_
      refine jA 11 rfl rfl ?_
      refine yd ?_
      exact zm ⟨_, _, _, _, _, _, _, _, rfl, rfl, zt, zt, h107, zt, zt⟩ x106 ⟨rfl, rfl, rfl, rfl, rfl, trivial⟩
     refine ya rfl fun b109 => ?_
     refine y1 5 ?_
     refine yp rfl rfl (fun w hw => c_impl_NewMemory X4.rules (1 + X105KX) (ok_ hw)) ?_
     intro u110 x110 A111 c111 h111 bl111 bh111
     refine jM 6 rfl rfl ?_
     refine JH.p 7 rfl (p_extract rfl rfl) ?_
     refine JH.p 8 rfl (p_extract rfl rfl) ?_
     refine y1 10 ?_
     refine yst rfl rfl rfl ?_
     refine jA 11 rfl rfl ?_
     refine yd ?_
     exact zm ⟨_, _, _, _, _, _, _, _, rfl, rfl, zt, zt, h111, zt, zt⟩ x110 ⟨rfl, rfl, rfl, rfl, rfl, trivial⟩
    refine ya rfl fun b112 => ?_
    refine y1 3 ?_
    refine zhh [1] ?_
    refine yB 1 sp_ rfl rfl (fun w hb hw => c_laws_f6dice_below code 0 X103 64 hb (ok_ hw)) ?_
    rintro _ _ G113 ⟨X113KX, X113IX, X113HX, rfl, rfl, hX113_0, hX113_1⟩
    refine znh ?_
    refine JH.p 4 rfl (p_add rfl rfl (IntWalk.i64_in _ (by omega))) ?_
    refine y1 5 ?_
    refine yp rfl rfl (fun w hw => c_impl_NewMemory X4.rules (1 + X113KX) (ok_ hw)) ?_
    intro u114 x114 A115 c115 h115 bl115 bh115
    refine jM 6 rfl rfl ?_
    refine JH.p 7 rfl (p_extract rfl rfl) ?_
    refine JH.p 8 rfl (p_extract rfl rfl) ?_
    refine y1 10 ?_
    refine yst rfl rfl rfl ?_
    refine jA 11 rfl rfl ?_
    refine yd ?_
    refine zh [2, 0, 0, 0, 0, 0, 0, 0] ?_
    exact zm ⟨_, _, _, _, _, _, _, _, rfl, rfl, zt, zt, h115, zt, zt⟩ x114 ⟨rfl, rfl, rfl, rfl, rfl, trivial⟩
   ·
    refine yB 1 sp_ rfl rfl (fun w hb hw => c_laws_f6dice_below code 0 X103 64 hb (ok_ hw)) ?_
    rintro _ _ G116 ⟨X116KX, X116IX, X116HX, rfl, rfl, hX116_0, hX116_1⟩
    refine znh ?_
    refine JH.p 4 rfl (p_add rfl rfl (IntWalk.i64_in _ (by omega))) ?_
    refine y2 0 9 ?_ ?_
    ·
     refine JHo.q rfl (L9 2 rfl rfl) ?_
     refine y2 5 9 ?_ ?_
     ·
      refine yp rfl rfl (fun w hw => c_impl_NewMemory X4.rules (1 + X116KX) (ok_ hw)) ?_
      intro u117 x117 A118 c118 h118 bl118 bh118
      refine jM 6 rfl rfl ?_
      refine JH.p 7 rfl (p_extract rfl rfl) ?_
      refine JH.p 8 rfl (p_extract rfl rfl) ?_
      refine y1 9 ?_
      refine ya rfl fun b119 => ?_
      refine y1 10 ?_
      refine yst rfl rfl rfl ?_
      refine jA 11 rfl rfl ?_
      refine yd ?_
      exact zm ⟨_, _, _, _, _, _, _, _, rfl, rfl, zt, zt, h118, zt, zt⟩ x117 ⟨rfl, rfl, rfl, rfl, rfl, trivial⟩
     refine ya rfl fun b120 => ?_
     refine y1 5 ?_
     refine yp rfl rfl (fun w hw => c_impl_NewMemory X4.rules (1 + X116KX) (ok_ hw)) ?_
     intro u121 x121 A122 c122 h122 bl122 bh122
     refine jM 6 rfl rfl ?_
     refine JH.p 7 rfl (p_extract rfl rfl) ?_
     refine JH.p 8 rfl (p_extract rfl rfl) ?_
     refine y1 10 ?_
     refine yst rfl rfl rfl ?_
     refine jA 11 rfl rfl ?_
     refine yd ?_
     exact zm ⟨_, _, _, _, _, _, _, _, rfl, rfl, zt, zt, h122, zt, zt⟩ x121 ⟨rfl, rfl, rfl, rfl, rfl, trivial⟩
    refine ya rfl fun b123 => ?_
    refine y1 0 ?_
    refine JHo.q rfl (L9 3 rfl rfl) ?_
    refine y1 5 ?_
    refine yp rfl rfl (fun w hw => c_impl_NewMemory X4.rules (1 + X116KX) (ok_ hw)) ?_
    intro u124 x124 A125 c125 h125 bl125 bh125
    refine jM 6 rfl rfl ?_
    refine JH.p 7 rfl (p_extract rfl rfl) ?_
    refine JH.p 8 rfl (p_extract rfl rfl) ?_
    refine y1 10 ?_
    refine yst rfl rfl rfl ?_
    refine jA 11 rfl rfl ?_
    refine yd ?_
    exact zm ⟨_, _, _, _, _, _, _, _, rfl, rfl, zt, zt, h125, zt, zt⟩ x124 ⟨rfl, rfl, rfl, rfl, rfl, trivial⟩
   refine ya rfl fun b126 => ?_
   refine y2 0 3 ?_ ?_
   ·
    refine JHo.q rfl (L9 2 rfl rfl) ?_
    refine y1 3 ?_
    refine zhh [1] ?_
    refine yB 1 sp_ rfl rfl (fun w hb hw => c_laws_f6dice_below code 0 X103 64 hb (ok_ hw)) ?_
    rintro _ _ G127 ⟨X127KX, X127IX, X127HX, rfl, rfl, hX127_0, hX127_1⟩
    refine znh ?_
    refine JH.p 4 rfl (p_add rfl rfl (IntWalk.i64_in _ (by omega))) ?_
    refine y1 5 ?_
    refine yp rfl rfl (fun w hw => c_impl_NewMemory X4.rules (1 + X127KX) (ok_ hw)) ?_
    intro u128 x128 A129 c129 h129 bl129 bh129
    refine jM 6 rfl rfl ?_
    refine JH.p 7 rfl (p_extract rfl rfl) ?_
    refine JH.p 8 rfl (p_extract rfl rfl) ?_
    refine y1 10 ?_
    refine yst rfl rfl rfl ?_
    refine jA 11 rfl rfl ?_
    refine yd ?_
    refine zh [2, 0, 0, 0, 0, 0, 0, 0] ?_
    exact zm ⟨_, _, _, _, _, _, _, _, rfl, rfl, zt, zt, h129, zt, zt⟩ x128 ⟨rfl, rfl, rfl, rfl, rfl, trivial⟩
   refine zhh [1] ?_
   refine yB 1 sp_ rfl rfl (fun w hb hw => c_laws_f6dice_below code 0 X103 64 hb (ok_ hw)) ?_
   rintro _ _ G130 ⟨X130KX, X130IX, X130HX, rfl, rfl, hX130_0, hX130_1⟩
   refine znh ?_
   refine JH.p 4 rfl (p_add rfl rfl (IntWalk.i64_in _ (by omega))) ?_
   refine y1 0 ?_
   refine JHo.q rfl (L9 3 rfl rfl) ?_
   refine y1 5 ?_
   refine yp rfl rfl (fun w hw => c_impl_NewMemory X4.rules (1 + X130KX) (ok_ hw)) ?_
   intro u131 x131 A132 c132 h132 bl132 bh132
   refine jM 6 rfl rfl ?_
   refine JH.p 7 rfl (p_extract rfl rfl) ?_
   refine JH.p 8 rfl (p_extract rfl rfl) ?_
   refine y1 10 ?_
   refine yst rfl rfl rfl ?_
   refine jA 11 rfl rfl ?_
   refine yd ?_
   refine zh [2, 0, 0, 0, 0, 0, 0, 0] ?_
   exact zm ⟨_, _, _, _, _, _, _, _, rfl, rfl, zt, zt, h132, zt, zt⟩ x131 ⟨rfl, rfl, rfl, rfl, rfl, trivial⟩
  refine ya rfl fun b133 => ?_
  refine y2 0 2 ?_ ?_
  ·
   refine JHo.q rfl (L9 1 rfl rfl) ?_
   refine y1 2 ?_
   refine ycs rfl rfl (fun w hw => c_laws_f6roll code 1601 (ok_ hw)) ?_
   intro X134 hX134 b135
   refine y1 3 ?_
   refine yB 1 sp_ rfl rfl (fun w hb hw => c_laws_f6dice_below code 0 X134 64 hb (ok_ hw)) ?_
   rintro _ _ G136 ⟨X136KX, X136IX, X136HX, rfl, rfl, hX136_0, hX136_1⟩
   refine znh ?_
   refine JH.p 4 rfl (p_add rfl rfl (IntWalk.i64_in _ (by omega))) ?_
   refine y1 5 ?_
   refine yp rfl rfl (fun w hw => c_impl_NewMemory X4.rules (1 + X136KX) (ok_ hw)) ?_
   intro u137 x137 A138 c138 h138 bl138 bh138
   refine jM 6 rfl rfl ?_
   refine JH.p 7 rfl (p_extract rfl rfl) ?_
   refine JH.p 8 rfl (p_extract rfl rfl) ?_
   refine y1 10 ?_
   refine yst rfl rfl rfl ?_
   refine jA 11 rfl rfl ?_
   refine yd ?_
   refine zh [2, 0, 0, 0, 0, 0, 0, 0] ?_
   exact zm ⟨_, _, _, _, _, _, _, _, rfl, rfl, zt, zt, h138, zt, zt⟩ x137 ⟨rfl, rfl, rfl, rfl, rfl, trivial⟩
  refine ycs rfl rfl (fun w hw => c_laws_f6roll code 1601 (ok_ hw)) ?_
  intro X139 hX139 b140
  refine y2 0 3 ?_ ?_
  ·
   refine JHo.q rfl (L9 2 rfl rfl) ?_
   refine y1 3 ?_
   refine yB 1 sp_ rfl rfl (fun w hb hw => c_laws_f6dice_below code 0 X139 64 hb (ok_ hw)) ?_
   rintro _ _ G141 ⟨X141KX, X141IX, X141HX, rfl, rfl, hX141_0, hX141_1⟩
   refine znh ?_
   refine JH.p 4 rfl (p_add rfl rfl (IntWalk.i64_in _ (by omega))) ?_
   refine y1 5 ?_
   refine yp rfl rfl (fun w hw => c_impl_NewMemory X4.rules (1 + X141KX) (ok_ hw)) ?_
   intro u142 x142 A143 c143 h143 bl143 bh143
   refine jM 6 rfl rfl ?_
   refine JH.p 7 rfl (p_extract rfl rfl) ?_
   refine JH.p 8 rfl (p_extract rfl rfl) ?_
   refine y1 10 ?_
   refine yst rfl rfl rfl ?_
   refine jA 11 rfl rfl ?_
   refine yd ?_
   refine zh [2, 0, 0, 0, 0, 0, 0, 0] ?_
   exact zm ⟨_, _, _, _, _, _, _, _, rfl, rfl, zt, zt, h143, zt, zt⟩ x142 ⟨rfl, rfl, rfl, rfl, rfl, trivial⟩
  refine yB 1 sp_ rfl rfl (fun w hb hw => c_laws_f6dice_below code 0 X139 64 hb (ok_ hw)) ?_
  rintro _ _ G144 ⟨X144KX, X144IX, X144HX, rfl, rfl, hX144_0, hX144_1⟩
  refine znh ?_
  refine JH.p 4 rfl (p_add rfl rfl (IntWalk.i64_in _ (by omega))) ?_
  refine y1 0 ?_
  refine JHo.q rfl (L9 3 rfl rfl) ?_
  refine y1 5 ?_
  refine yp rfl rfl (fun w hw => c_impl_NewMemory X4.rules (1 + X144KX) (ok_ hw)) ?_
  intro u145 x145 A146 c146 h146 bl146 bh146
  refine jM 6 rfl rfl ?_
  refine JH.p 7 rfl (p_extract rfl rfl) ?_
  refine JH.p 8 rfl (p_extract rfl rfl) ?_
  refine y1 10 ?_
  refine yst rfl rfl rfl ?_
  refine jA 11 rfl rfl ?_
  refine yd ?_
  refine zh [2, 0, 0, 0, 0, 0, 0, 0] ?_
  exact zm ⟨_, _, _, _, _, _, _, _, rfl, rfl, zt, zt, h146, zt, zt⟩ x145 ⟨rfl, rfl, rfl, rfl, rfl, trivial⟩
 rintro _ _ u83 ⟨b25, X22KX, A24, c24, b21, X22IX, X22HX, G22, rfl, rfl, f83_0, f83_1, f83_2, f83_3, f83_4⟩ x83
 refine zn ?_
 refine zS <| Q9 3 rfl rfl ?_
 refine Q9 6 rfl rfl ?_
 refine Qm rfl <| zv rfl (fun w hw => c_spec_SearchValue X4.rules X6 X9 (ok_ hw) (ok_ hw)) <| Qm rfl <| Qx rfl rfl <| Qx rfl rfl <| Qa rfl <| Qa rfl <| zJ <| zS <| Qm rfl <| Qd rfl rfl <| Qm rfl <| zg (Gd.f1 rfl rfl rfl) (fun hc => p_move rfl) <| zg (Gd.f1 rfl rfl rfl) (fun hc => p_neq (gh hc rfl) rfl) ?_
 refine Qq (p_pickOr rfl rfl rfl) <| JL.nil ?_
 refine zi (fun h147 h147' => ?_) fun h147 h147' => ?_
 ·
  refine zS <| Qa rfl <| JL.nil ?_
  refine zR (((x3.trans x12).trans x15).trans x83) ?_
  first | rfl | (simp [outV, m7]; done)
 obtain ⟨hn0, hc0⟩ : ((M.newM X4.rules (1 + X22KX)).2) = 0 ∧ (M.ask X4.rules X6 X9).2.2 = 0 := by have h9 := h147; simpa using h9
 have hz : M.srchC X4.rules X6 X9 = 0 := by rw [← M.ask_c]; exact hc0
 have hL := M.memL hn0 hz
 obtain ⟨hok, _, _, _⟩ := M.srchC_ok hz
 have hlc := M.legC_y hok
 have hll := M.legal_len' hok
 obtain ⟨m1, m2, m3, m4, m5, m6, m7, m8, m9, m10, m11⟩ := hL
 obtain ⟨hnr, hn1, hn2, hne⟩ := M.newM_ok hn0
 obtain ⟨hn3, hz2⟩ := (M.newM_sz _ _ : (M.newM X4.rules (1 + X22KX)).1.slots.length ≤ 64 ∧ M.SzM 16 (M.newM X4.rules (1 + X22KX)).1.slots)
 obtain ⟨hn4, hz3⟩ := M.swM_sz (M.newM X4.rules (1 + X22KX)).1 X6 X9
 refine Js.skip <| zS <| Q9 0 rfl rfl ?_
 refine Q9 6 rfl rfl ?_
 refine Qm rfl <| zp rfl (fun w hw => c_impl_SearchWith ((M.newM X4.rules (1 + X22KX)).1) X6 X9 (ok_ hw) (ok_ hw) (r1 := (by first | exact hz1.mono (by omega) | exact hz2.mono (by omega) | exact hz3.mono (by omega)))) ?_
 intro u148 x148 A149 c149 h149 bl149 bh149
 refine Qm rfl <| Qx rfl rfl <| Qx rfl rfl <| Qx rfl rfl <| Qx rfl rfl <| za zeh fun b150 => Qa rfl <| Qa rfl <| zw 0 rfl rfl rfl ?_
 refine Qa rfl <| zJ <| zS <| Qm rfl <| Qd rfl rfl <| Qm rfl <| zg (Gd.f1 rfl rfl rfl) (fun hc => p_move rfl) <| zg (Gd.f1 rfl rfl rfl) (fun hc => p_move rfl) <| zg (Gd.f1 rfl rfl rfl) (fun hc => p_neq (gh hc rfl) (gh hc rfl)) <| Qq (p_pickOr rfl rfl rfl) <| JL.nil ?_
 refine zi (fun h151 h151' => ?_) fun h151 h151' => ?_
 · exact absurd h151 (by simp [m1, m2, m11])
 refine Js.skip <| zS <| Q9 0 rfl rfl ?_
 refine Q9 7 rfl rfl ?_
 refine Qm rfl <| zp rfl (fun w hw => c_impl_SearchWith ((M.swM ((M.newM X4.rules (1 + X22KX)).1) X6 X9).2.2.1) X6 X9 (ok_ hw) (ok_ hw) (r1 := (by first | exact hz1.mono (by omega) | exact hz2.mono (by omega) | exact hz3.mono (by omega)))) ?_
 intro u152 x152 A153 c153 h153 bl153 bh153
 refine Qm rfl <| Qx rfl rfl <| Qx rfl rfl <| Qx rfl rfl <| Qx rfl rfl <| za zeh fun b154 => Qa rfl <| Qa rfl <| zw 0 rfl rfl rfl ?_
 refine Qa rfl <| zN <| Q9 5 rfl rfl ?_
 refine Q9 8 rfl rfl ?_
 refine zp rfl (fun w hw => c_spec_LegalMovesL X4.rules X6 (ok_ hw) (ok_ hw)) ?_
 intro u155 x155 A156 c156 h156 bl156 bh156
 refine Qm rfl <| Qx rfl rfl <| Qx rfl rfl <| Qa rfl <| Qa rfl <| zJ <| zS <| Qm rfl <| Qd rfl rfl <| Qm rfl <| zg (Gd.f1 rfl rfl rfl) (fun hc => p_move rfl) <| zg (Gd.f1 rfl rfl rfl) (fun hc => p_move rfl) <| zg (Gd.f1 rfl rfl rfl) (fun hc => p_neq (gh hc rfl) (gh hc rfl)) <| Qq (p_pickOr rfl rfl rfl) ?_
 refine Qm rfl <| zg (Gd.f1 rfl rfl rfl) (fun hc => p_move rfl) <| zg (Gd.f1 rfl rfl rfl) (fun hc => p_neq (gh hc rfl) rfl) <| Qq (p_pickOr rfl rfl rfl) <| Qm rfl <| zg (Gd.f1 rfl rfl rfl) (fun hc => p_move rfl) <| zg (Gd.f1 rfl rfl rfl) (fun hc => p_gtr (gh hc rfl) rfl) <| zg (Gd.f1 rfl rfl rfl) (fun hc => p_move (gh hc rfl)) <| zg (Gd.t2 rfl rfl rfl) (fun hc => p_move rfl) <| zg (Gd.t2 rfl rfl rfl) (fun hc => p_len el_29 (gh hc rfl)) <| zg (Gd.t2 rfl rfl rfl) (fun hc => p_gtr (gh hc rfl) rfl) <| zg (Gd.f1 rfl rfl rfl) (fun hc => p_pickAnd (gh hc rfl) (gvl rfl hc) rfl) <| zg (Gd.f1 rfl rfl rfl) (fun hc => p_move (gh hc rfl)) <| zg (Gd.t2 rfl rfl rfl) (fun hc => p_move rfl) ?_
 refine zg (Gd.t2 rfl rfl rfl) (fun hc => p_lss (gh hc rfl) rfl) <| zg (Gd.f1 rfl rfl rfl) (fun hc => p_pickAnd (gh hc rfl) (gvl rfl hc) rfl) <| Qq (p_pickOr rfl rfl rfl) <| JL.nil ?_
 refine zi (fun h157 h157' => ?_) fun h157 h157' => ?_
 · have h9 := h157; simp [m8, m9, m11, hlc] at h9; have := m10 h9.1.1 (by omega); omega
 refine Js.skip <| Js.seq <| zS <| Qa rfl <| JL.nil <| Js.block ?_
 refine zl [14, 21] (fun F U l os u m => ∃ (k : Nat) (G158_4 : List Nat), l = F [(29, .int .i64 (k : Int))] ∧ os = U [nO, nO, nO, nO, some (anyO G158_4)] ∧ (k ≤ ((M.swM ((M.newM X4.rules (1 + X22KX)).1) X6 X9).2.2.1).slots.length) ∧ m = ((M.swM ((M.newM X4.rules (1 + X22KX)).1) X6 X9).2.2.1).slots.length - k) ⟨0, _, rfl, rfl, zt, rfl⟩ ?_
 rintro _ _ u158 _ ⟨k, G158_4, rfl, rfl, hk, rfl⟩ x158
 refine zn ?_
 refine Js.seq <| zS <| Qm rfl <| Qf fh rfl <| Q0 1 rfl rfl rfl <| Qz rfl <| Ql rfl rfl <| JL.nil ?_
 refine zi (fun h159 h159' => ?_) fun h159 h159' => ?_
 ·
  have hkk : k < ((M.swM ((M.newM X4.rules (1 + X22KX)).1) X6 X9).2.2.1).slots.length := by have := h159'; omega
  have hz8 := hz3 _ (M.slo_mem hkk)
  have hy160 : (((M.swM ((M.newM X4.rules (1 + X22KX)).1) X6 X9).2.2.1).slots)[k]? = some (M.slo (((M.swM ((M.newM X4.rules (1 + X22KX)).1) X6 X9).2.2.1).slots) k) := M.slo_get (by omega)
  obtain ⟨b160, o160, A160_1, c160_1, he160, hr160, h160_1, bl160_1, bh160_1⟩ := elem_Slot (Ty.mono _ h149 ((x152.vis.trans x155.vis).trans x158.vis)) hy160
  refine Js.skip <| Js.seq <| Js.block <| zS <| Qf fh rfl <| Q0 1 rfl rfl rfl <| Qm rfl <| Qq (p_indexAddr el_26 rfl rfl (by omega) (by omega) he160) <| QS 0 hr160 rfl ?_
  refine za zeh fun b161 => zw 0 rfl rfl rfl ?_
  refine zJ <| zS <| Qf fh rfl <| Q0 0 rfl rfl rfl <| Qt rfl <| JL.nil ?_
  refine zi (fun h162 h162' => ?_) fun h162 h162' => ?_
  ·
   refine zx ?_
   refine Js.region <| Qm rfl <| Qp rfl rfl <| Qa rfl <| JL.nil ?_
   refine zd [1, 1, 1, 1, 1, 1, 1, 1, 1, 1] rfl fun u163 x163 => ?_
   exact zag ⟨k + 1, _, rfl, rfl, zt, rfl⟩ (x158.trans x163)
  obtain ⟨q1_, _, _⟩ := m3.us k hkk (by simpa using h162)
  obtain ⟨a1_, a2_⟩ := M.snd_ask q1_
  have hd9 := M.mem_dead q1_
  refine Js.skip <| zS <| Q9 6 rfl rfl ?_
  refine Qf fh rfl <| Q0 0 rfl rfl rfl <| zbs fun b164 => ?_
  refine Qf fh rfl <| Q0 1 rfl rfl rfl <| Qb ?_
  refine Qf fh rfl <| Q0 1 rfl rfl rfl <| zv rfl (fun w hw => c_spec_SearchValue X4.rules (M.Pos.mk ((M.slo (((M.swM ((M.newM X4.rules (1 + X22KX)).1) X6 X9).2.2.1).slots) k).pits) [0, 0] ((M.slo (((M.swM ((M.newM X4.rules (1 + X22KX)).1) X6 X9).2.2.1).slots) k).player)) ((M.slo (((M.swM ((M.newM X4.rules (1 + X22KX)).1) X6 X9).2.2.1).slots) k).depth) (ok_ hw) (by exact ⟨_, rfl, ⟨(ok_ hw), (ints_rowok (xs := [0, 0]) (hw.pr (i := 0) rfl)), rfl, trivial⟩⟩)) <| Qm rfl <| Qx rfl rfl <| Qx rfl rfl <| Qa rfl <| Qa rfl <| zN <| Qm rfl <| Qd rfl rfl <| Qm rfl <| zg (Gd.f1 rfl rfl rfl) (fun hc => p_fieldAddr fld_49_5.h rfl) <| zgq (Gd.f1 rfl rfl rfl) (fun hc => q_load1 ty_2.h (gh hc rfl) (Mem.box (i := 1) rfl rfl)) ?_
  refine zg (Gd.f1 rfl rfl rfl) (fun hc => p_eql (gh hc rfl) rfl) <| zg (Gd.f1 rfl rfl rfl) (fun hc => p_move (gh hc rfl)) <| zg (Gd.t2 rfl rfl rfl) (fun hc => p_fieldAddr fld_49_4.h rfl) <| zgq (Gd.t2 rfl rfl rfl) (fun hc => q_load1 ty_2.h (gh hc rfl) (Mem.box (i := 1) rfl rfl)) <| zg (Gd.t2 rfl rfl rfl) (fun hc => p_move rfl) <| zg (Gd.t2 rfl rfl rfl) (fun hc => p_neq (gh hc rfl) (gh hc rfl)) <| zg (Gd.f1 rfl rfl rfl) (fun hc => p_pickAnd (gh hc rfl) (gvl rfl hc) rfl) <| Qq (p_pickOr rfl rfl rfl) <| Qm rfl <| zg (Gd.f1 rfl rfl rfl) (fun hc => p_fieldAddr fld_49_5.h rfl) <| zgq (Gd.f1 rfl rfl rfl) (fun hc => q_load1 ty_2.h (gh hc rfl) (Mem.box (i := 1) rfl rfl)) <| zg (Gd.f1 rfl rfl rfl) (fun hc => p_eql (gh hc rfl) rfl) <| zg (Gd.f1 rfl rfl rfl) (fun hc => p_move (gh hc rfl)) <| zg (Gd.t2 rfl rfl rfl) (fun hc => p_fieldAddr fld_49_4.h rfl) ?_
  refine zgq (Gd.t2 rfl rfl rfl) (fun hc => q_load1 ty_2.h (gh hc rfl) (Mem.box (i := 1) rfl rfl)) <| zg (Gd.t2 rfl rfl rfl) (fun hc => p_move rfl) <| zg (Gd.t2 rfl rfl rfl) (fun hc => p_gtr (gh hc rfl) (gh hc rfl)) <| zg (Gd.f1 rfl rfl rfl) (fun hc => p_pickAnd (gh hc rfl) (gvl rfl hc) rfl) <| Qq (p_pickOr rfl rfl rfl) <| Qm rfl <| zg (Gd.f1 rfl rfl rfl) (fun hc => p_fieldAddr fld_49_5.h rfl) <| zgq (Gd.f1 rfl rfl rfl) (fun hc => q_load1 ty_2.h (gh hc rfl) (Mem.box (i := 1) rfl rfl)) <| zg (Gd.f1 rfl rfl rfl) (fun hc => p_eql (gh hc rfl) rfl) <| zg (Gd.f1 rfl rfl rfl) (fun hc => p_move (gh hc rfl)) <| zg (Gd.t2 rfl rfl rfl) (fun hc => p_fieldAddr fld_49_4.h rfl) <| zgq (Gd.t2 rfl rfl rfl) (fun hc => q_load1 ty_2.h (gh hc rfl) (Mem.box (i := 1) rfl rfl)) <| zg (Gd.t2 rfl rfl rfl) (fun hc => p_move rfl) <| zg (Gd.t2 rfl rfl rfl) (fun hc => p_lss (gh hc rfl) (gh hc rfl)) ?_
  refine zg (Gd.f1 rfl rfl rfl) (fun hc => p_pickAnd (gh hc rfl) (gvl rfl hc) rfl) <| Qq (p_pickOr rfl rfl rfl) <| JL.nil ?_
  refine zi (fun h166 h166' => ?_) fun h166 h166' => ?_
  · have h9 := h166; simp [M.ask_c, a1_, a2_] at h9; exact absurd h9 (by first | exact hd9 | (intro h8; apply hd9; simpa [or_assoc] using h8))
  refine Js.skip <| Js.blockEnd <| Js.region <| Qm rfl <| Qp rfl rfl <| Qa rfl <| JL.nil ?_
  refine zd [2, 2, 2, 2, 2, 2, 2, 2, 2, 2] rfl fun u167 x167 => ?_
  exact zag ⟨k + 1, _, rfl, rfl, zt, rfl⟩ (x158.trans x167)
 refine zx ?_
 refine zS <| Q9 1 rfl rfl ?_
 refine zv rfl (fun w hw => c_impl_ValidMemory ((M.swM ((M.newM X4.rules (1 + X22KX)).1) X6 X9).2.2.1) (ok_ hw) (r1 := (by first | exact hz1.mono (by omega) | exact hz2.mono (by omega) | exact hz3.mono (by omega)))) <| Qa rfl <| JL.nil ?_
 refine zR (((((((x3.trans x12).trans x15).trans x83).trans x148).trans x152).trans x155).trans x158) ?_
 first | rfl | (simp [outV, m7]; done)
end Go.Proofs.YtmgnckfhghibeaaGreat

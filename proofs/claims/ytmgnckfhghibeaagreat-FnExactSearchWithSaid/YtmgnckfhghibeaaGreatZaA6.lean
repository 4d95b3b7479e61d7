/- Walks: K42. -/
import Derived.Test.YtmgnckfhghibeaaGreatZaA3
import Derived.Test.YtmgnckfhghibeaaGreatZaA5
set_option linter.unusedSimpArgs false
set_option linter.unusedVariables false
set_option maxRecDepth 100000
attribute [local irreducible] Go.Proofs.YtmgnckfhghibeaaGreat.gv
set_option maxHeartbeats 4000000
namespace Go.Proofs.YtmgnckfhghibeaaGreat
open Go.RowKit
theorem c_spec_l16Slot (mem : M.Mem) {v_mem : Value} (k : Int) {w : World} (h_mem : (Ty.ref (cMemory mem)).ok w v_mem) (r0 : mem.slots.length ≤ 4194304 := by exact om_) (r1 : ∀ x ∈ mem.slots, x.pits.length ≤ 4194304 := by exact om_) (r2 : 0 ≤ k := by exact om_) (r3 : k < mem.slots.length := by exact om_) : RetV Tryz.prog 104 [v_mem, .int .i64 k] w (.bool (M.okSI mem.rules mem.slots.length k (M.slo mem.slots k.toNat))) := by
 have hsz := r1 _ (M.slo_mem (l := mem.slots) (k := k.toNat) (by omega))
 revert v_mem; apply opn
 intro b2 o2 A1 c1 h1 bl1 bh1 hr2
 refine enter @Tryz.func104 @Tryz.ntmps104 rfl rfl ?_
 refine zent ?_
 have hy3 : mem.slots[k.toNat]? = some (M.slo mem.slots k.toNat) := M.slo_get (by omega)
 obtain ⟨b3, o3, A3_1, c3_1, he3, hr3, h3_1, bl3_1, bh3_1⟩ := elem_Slot h1 hy3
 refine zS <| Qa rfl <| zN <| Qm rfl <| Qc rfl <| Qf fh rfl <| QC (hr2 9 _ rfl) rfl <| Qm rfl <| Qq (p_indexAddr el_26 rfl rfl (by omega) (by omega) he3) <| Qa rfl <| zJ <| zS <| Qm rfl <| Qc rfl ?_
 refine Qf fh rfl <| QC (hr3 0 _ rfl) rfl <| Qt rfl <| JL.nil ?_
 refine zi (fun h4 h4' => ?_) fun h4 h4' => ?_
 ·
  have hE := M.okSI_n (r := mem.rules) (n := mem.slots.length) (i := k) (s := (M.slo mem.slots k.toNat)) (by simpa using h4)
  refine zS <| Qm rfl <| Qc rfl <| Qf fh rfl <| QC (hr3 1 _ rfl) rfl <| Qz rfl <| Qe rfl rfl <| Qm rfl <| zg (Gd.t1 rfl rfl rfl) (fun hc => p_move rfl) <| zg (Gd.t1 rfl rfl rfl) (fun hc => p_nilCheck (gh hc rfl)) <| zg (Gd.t1 rfl rfl rfl) (fun hc => p_fieldAddr fld_49_2.h (gh hc rfl)) <| zgq (Gd.t1 rfl rfl rfl) (fun hc => q_load1 ty_2.h (gh hc rfl) (Mem.pub (hr3 2 _ rfl))) <| zg (Gd.t1 rfl rfl rfl) (fun hc => p_eql (gh hc rfl) rfl) <| Qq (p_pickAnd rfl rfl rfl) ?_
  refine Qm rfl <| zg (Gd.t1 rfl rfl rfl) (fun hc => p_move rfl) <| zg (Gd.t1 rfl rfl rfl) (fun hc => p_nilCheck (gh hc rfl)) <| zg (Gd.t1 rfl rfl rfl) (fun hc => p_fieldAddr fld_49_3.h (gh hc rfl)) <| zgq (Gd.t1 rfl rfl rfl) (fun hc => q_load1 ty_2.h (gh hc rfl) (Mem.pub (hr3 3 _ rfl))) <| zg (Gd.t1 rfl rfl rfl) (fun hc => p_eql (gh hc rfl) rfl) <| Qq (p_pickAnd rfl rfl rfl) <| Qm rfl <| zg (Gd.t1 rfl rfl rfl) (fun hc => p_move rfl) <| zg (Gd.t1 rfl rfl rfl) (fun hc => p_nilCheck (gh hc rfl)) <| zg (Gd.t1 rfl rfl rfl) (fun hc => p_fieldAddr fld_49_4.h (gh hc rfl)) <| zgq (Gd.t1 rfl rfl rfl) (fun hc => q_load1 ty_2.h (gh hc rfl) (Mem.pub (hr3 4 _ rfl))) <| zg (Gd.t1 rfl rfl rfl) (fun hc => p_eql (gh hc rfl) rfl) <| Qq (p_pickAnd rfl rfl rfl) ?_
  refine Qm rfl <| zg (Gd.t1 rfl rfl rfl) (fun hc => p_move rfl) <| zg (Gd.t1 rfl rfl rfl) (fun hc => p_nilCheck (gh hc rfl)) <| zg (Gd.t1 rfl rfl rfl) (fun hc => p_fieldAddr fld_49_5.h (gh hc rfl)) <| zgq (Gd.t1 rfl rfl rfl) (fun hc => q_load1 ty_2.h (gh hc rfl) (Mem.pub (hr3 5 _ rfl))) <| zg (Gd.t1 rfl rfl rfl) (fun hc => p_eql (gh hc rfl) rfl) <| Qq (p_pickAnd rfl rfl rfl) <| Qa rfl <| JL.nil ?_
  refine zR (Up.refl _ _) ?_
  first | (rw [hE]; rfl) | (rw [hE, hn9]; rfl) | (rw [hE, ho9, hc9]; rfl) | (rw [hE]; simp [outV, M.freeS, Bool.and_assoc]; done)
 have hE := M.okSI_y (r := mem.rules) (n := mem.slots.length) (i := k) (s := (M.slo mem.slots k.toNat)) (by simpa using h4)
 refine Js.skip <| zS <| Qm rfl <| zc rfl (fun w hw => c_spec_l16Key (M.slo mem.slots k.toNat) (Ty.mono _ h3_1 hw.vis) (hr3.vis hw.vis)) ?_
 intro A5 c5 bl5 bh5
 refine za zeh fun b6 => zw 0 rfl rfl rfl ?_
 refine zJ <| zS <| Qm rfl <| Qc rfl <| Qf fh rfl <| zv rfl (fun w hw => c_spec_l04Ok mem.rules (M.Pos.mk ((M.slo mem.slots k.toNat).pits) [0, 0] ((M.slo mem.slots k.toNat).player)) (ok_ hw) (ok_ hw)) <| Qt rfl <| Qm rfl <| zg (Gd.f1 rfl rfl rfl) (fun hc => p_move rfl) <| zg (Gd.f1 rfl rfl rfl) (fun hc => p_nilCheck (gh hc rfl)) <| zg (Gd.f1 rfl rfl rfl) (fun hc => p_fieldAddr fld_49_3.h (gh hc rfl)) <| zgq (Gd.f1 rfl rfl rfl) (fun hc => q_load1 ty_2.h (gh hc rfl) (Mem.pub (hr3 3 _ rfl))) <| zgv (Gd.f1 rfl rfl rfl) (fun hc => (opds_3 (gh hc rfl) rfl rfl)) (fun hc => (fun w hw => c_spec_l00In ((M.slo mem.slots k.toNat).depth) 1 8)) ?_
 refine zg (Gd.f1 rfl rfl rfl) (fun hc => p_not (gh hc rfl)) <| Qq (p_pickOr rfl rfl rfl) <| Qm rfl <| zg (Gd.f1 rfl rfl rfl) (fun hc => p_move rfl) <| zg (Gd.f1 rfl rfl rfl) (fun hc => p_nilCheck (gh hc rfl)) <| zg (Gd.f1 rfl rfl rfl) (fun hc => p_fieldAddr fld_49_4.h (gh hc rfl)) <| zgq (Gd.f1 rfl rfl rfl) (fun hc => q_load1 ty_2.h (gh hc rfl) (Mem.pub (hr3 4 _ rfl))) <| zgv (Gd.f1 rfl rfl rfl) (fun hc => (opds_1 (gh hc rfl))) (fun hc => (fun w hw => c_spec_l16Value ((M.slo mem.slots k.toNat).value))) ?_
 refine zg (Gd.f1 rfl rfl rfl) (fun hc => p_not (gh hc rfl)) <| Qq (p_pickOr rfl rfl rfl) <| Qm rfl <| zg (Gd.f1 rfl rfl rfl) (fun hc => p_move rfl) <| zg (Gd.f1 rfl rfl rfl) (fun hc => p_nilCheck (gh hc rfl)) <| zg (Gd.f1 rfl rfl rfl) (fun hc => p_fieldAddr fld_49_5.h (gh hc rfl)) <| zgq (Gd.f1 rfl rfl rfl) (fun hc => q_load1 ty_2.h (gh hc rfl) (Mem.pub (hr3 5 _ rfl))) <| zgv (Gd.f1 rfl rfl rfl) (fun hc => (opds_3 (gh hc rfl) rfl rfl)) (fun hc => (fun w hw => c_spec_l00In ((M.slo mem.slots k.toNat).bound) 0 2)) ?_
 refine zg (Gd.f1 rfl rfl rfl) (fun hc => p_not (gh hc rfl)) <| Qq (p_pickOr rfl rfl rfl) <| JL.nil ?_
 refine zi (fun h7 h7' => ?_) fun h7 h7' => ?_
 ·
  have hn9 : (M.okP mem.rules (M.posS (M.slo mem.slots k.toNat)) && M.okCt (M.slo mem.slots k.toNat).depth (M.slo mem.slots k.toNat).value (M.slo mem.slots k.toNat).bound) = false := M.okCt_no (by have h9 := h7; simpa using h9)
  refine zS <| Qa rfl <| JL.nil ?_
  refine zR (Up.refl _ _) ?_
  first | (rw [hE]; rfl) | (rw [hE, hn9]; rfl) | (rw [hE, ho9, hc9]; rfl) | (rw [hE]; simp [outV, M.freeS, Bool.and_assoc]; done)
 obtain ⟨ho9, hc9⟩ := M.okCt_yes (by have h9 := h7; simpa using h9)
 obtain ⟨g1, g2, g3, g4, g5, g6, g7⟩ := M.okP_bd ho9
 have g7 : (M.slo mem.slots k.toNat).player = 0 ∨ (M.slo mem.slots k.toNat).player = 1 := g7
 refine Js.skip <| Js.seq ?_
 refine zdr [] ?_
 refine jM 0 rfl rfl ?_
 refine jN 1 rfl rfl ?_
 refine jF 2 fld_49_1 rfl rfl ?_
 refine jW 3 ty_29 rfl rfl (fun hv => (hr3.vis hv) 1 _ rfl) ?_
 refine jM 4 rfl rfl ?_
 refine jN 5 rfl rfl ?_
 refine jF 6 fld_49_2 rfl rfl ?_
 refine jW 7 ty_2 rfl rfl (fun hv => (hr3.vis hv) 2 _ rfl) ?_
 refine jM 8 rfl rfl ?_
 refine jN 9 rfl rfl ?_
 refine jF 10 fld_28_1 rfl rfl ?_
 refine jW 11 ty_26 rfl rfl (fun hv => (hr2.vis hv) 9 _ rfl) ?_
 refine JH.p 12 rfl (p_len el_26 rfl) ?_
 refine jM 14 rfl rfl ?_
 refine y1 13 ?_
 refine yv rfl rfl (fun w hw => c_spec_l16Hash ((M.slo mem.slots k.toNat).pits) ((M.slo mem.slots k.toNat).player) (mem.slots.length : Int) (ok_ hw) (r0 := g5) (r1 := (by constructor <;> omega))) ?_
 refine JH.p 15 rfl (p_eql rfl rfl) ?_
 refine jA 16 rfl rfl ?_
 refine yd ?_
 refine zR (Up.refl _ _) ?_
 first | (rw [hE]; rfl) | (rw [hE, hn9]; rfl) | (rw [hE, ho9, hc9]; rfl) | (rw [hE]; simp [outV, M.freeS, Bool.and_assoc]; done)
theorem c_spec_l16Ok (mem : M.Mem) {v_mem : Value} {w : World} (h_mem : (Ty.ref (cMemory mem)).ok w v_mem) (r0 : mem.slots.length ≤ 4194304 := by exact om_) (r1 : ∀ x ∈ mem.slots, x.pits.length ≤ 4194304 := by exact om_) : RetV Tryz.prog 53 [v_mem] w (.bool (M.okM mem)) := by
 revert v_mem; apply opn
 intro b2 o2 A1 c1 h1 bl1 bh1 hr2
 refine enter @Tryz.func53 @Tryz.ntmps53 rfl rfl ?_
 refine zent ?_
 refine zS <| Qa rfl <| zJ <| zS <| Qm rfl <| Qc rfl <| Qf fh rfl <| zv rfl (fun w hw => c_spec_l02Ok mem.rules (ok_ hw)) <| Qt rfl <| Qm rfl <| zg (Gd.f1 rfl rfl rfl) (fun hc => p_move rfl) <| zg (Gd.f1 rfl rfl rfl) (fun hc => p_nilCheck (gh hc rfl)) <| zg (Gd.f1 rfl rfl rfl) (fun hc => p_fieldAddr fld_28_1.h (gh hc rfl)) <| zgq (Gd.f1 rfl rfl rfl) (fun hc => q_load1 ty_26.h (gh hc rfl) (Mem.pub (hr2 9 _ rfl))) ?_
 refine zg (Gd.f1 rfl rfl rfl) (fun hc => p_len el_26 (gh hc rfl)) <| zgv (Gd.f1 rfl rfl rfl) (fun hc => (opds_3 (gh hc rfl) rfl rfl)) (fun hc => (fun w hw => c_spec_l00In (mem.slots.length : Int) 1 64)) ?_
 refine zg (Gd.f1 rfl rfl rfl) (fun hc => p_not (gh hc rfl)) <| Qq (p_pickOr rfl rfl rfl) <| JL.nil ?_
 refine zi (fun h3 h3' => ?_) fun h3 h3' => ?_
 ·
  have hE : M.okM mem = false := by by_cases e : M.okR mem.rules = true; (exact M.okM_l (by have h9 := h3; simpa [e] using h9)); exact M.okM_r (by simpa using e)
  refine zS <| Qa rfl <| JL.nil ?_
  refine zR (Up.refl _ _) ?_
  rw [hE]; rfl
 obtain ⟨hr, hb⟩ : M.okR mem.rules = true ∧ M.betw (mem.slots.length : Int) 1 64 = true := by have h9 := h3; simpa using h9
 obtain ⟨hl1, hl2⟩ := M.betw_iff.1 hb
 refine Js.skip <| Js.seq <| zS <| Qa rfl <| JL.nil <| Js.block ?_
 refine zl [0] (fun F U l os u m => ∃ (k : Nat), l = F [(3, .int .i64 (k : Int))] ∧ os = U [] ∧ (k ≤ mem.slots.length) ∧ (∀ i : Nat, i < k → M.okSI mem.rules mem.slots.length i (M.slo mem.slots i) = true) ∧ m = mem.slots.length - k) ⟨0, rfl, rfl, zt, by exact fun i hi => absurd hi (by omega), rfl⟩ ?_
 rintro _ _ u4 _ ⟨k, rfl, rfl, hk, hA, rfl⟩ x4
 refine zn ?_
 refine Js.seq <| zS <| Qm rfl <| Qm rfl <| Qc rfl <| Qf fh rfl <| QC ((hr2.vis x4.vis) 9 _ rfl) rfl <| Qz rfl <| Ql rfl rfl <| JL.nil ?_
 refine zi (fun h5 h5' => ?_) fun h5 h5' => ?_
 ·
  have hkk : k < mem.slots.length := by have := h5'; omega
  refine Js.skip <| Js.seq <| Js.block <| zS <| Qm rfl <| Qm rfl <| zv rfl (fun w hw => c_spec_l16Slot mem (k : Int) (ok_ hw) (r1 := r1)) <| Qt rfl <| JL.nil ?_
  refine zi (fun h6 h6' => ?_) fun h6 h6' => ?_
  ·
   have hE := M.okM_no hkk (by simpa using h6)
   refine zS <| Qa rfl <| JL.nil ?_
   refine zR x4 ?_
   rw [hE]; rfl
  have hx9 : M.okSI mem.rules mem.slots.length k (M.slo mem.slots k) = true := by simpa using h6
  have hA2 : ∀ i : Nat, i < k + 1 → M.okSI mem.rules mem.slots.length i (M.slo mem.slots i) = true := fun i hi => by rcases Nat.lt_succ_iff_lt_or_eq.1 hi with h9 | h9; (exact hA i h9); subst h9; exact hx9
  refine Js.skip <| Js.blockEnd <| Js.region <| Qm rfl <| Qp rfl rfl <| Qa rfl <| JL.nil ?_
  exact zag ⟨k + 1, rfl, rfl, zt, by exact hA2, rfl⟩ x4
 have hE : M.okM mem = true := M.okM_of hr (by omega) (by omega) (fun i hi => hA i (by have := h5'; omega))
 refine zx ?_
 refine zS <| Qa rfl <| JL.nil ?_
 refine zR x4 ?_
 rw [hE]; rfl
theorem c_spec_l16Own (mem : M.Mem) {v_mem : Value} {w : World} (h_mem : (Ty.ref (cMemory mem)).ok w v_mem) (r0 : mem.slots.length ≤ 4194304 := by exact om_) (r1 : ∀ x ∈ mem.slots, x.pits.length ≤ 4194304 := by exact om_) : Ret Tryz.prog 50 [v_mem] w (Ty.agg (cMemory mem)) := by
 revert v_mem; apply opn
 intro b2 o2 A1 c1 h1 bl1 bh1 hr2
 refine enter @Tryz.func50 @Tryz.ntmps50 rfl rfl ?_
 refine zent ?_
 refine zS <| za zeh fun b3 => zN <| Qm rfl <| Qc rfl <| Qf fh rfl <| QS 0 hr2 rfl ?_
 refine Qb ?_
 refine za zeh fun b4 => zw 0 rfl rfl rfl ?_
 refine zJ <| zS <| Qa rfl <| JL.nil <| Js.block ?_
 refine Js.conv (fun w hw => St.nilRowS 49 6 hw) ?_
 refine Js.vals (Ts := lSlot []) (vs := []) (fun w => rfl) ?_
 refine zl [0, 2, 3] (fun F U l os u m => ∃ (k : Nat) (acc : List M.Slo) (A5_3_9 : Option Addr) (c5_3_9 : Nat) (g5_3_9 : List Nat) (vs5_3_9 : List Value) (fl5_3_9 : List Nat), l = F [(4, .int .i64 (k : Int))] ∧ os = U [some (ownC (lSlot acc) vs5_3_9 fl5_3_9), some (rowO 49 6 (.slice A5_3_9 acc.length c5_3_9) acc.length vs5_3_9 g5_3_9), some (boxO b4 [.int .i64 mem.rules.pits, .int .i64 mem.rules.seeds, .bool mem.rules.stores, .bool mem.rules.skip, .bool mem.rules.relay, .bool mem.rules.feed, .bool mem.rules.again, .int .i64 mem.rules.capture, .int .i64 mem.rules.slam, .slice A5_3_9 acc.length c5_3_9] 28)] ∧ (acc = mem.slots.take k) ∧ (k ≤ mem.slots.length) ∧ (acc.length ≤ c5_3_9) ∧ (c5_3_9 ≤ 9223372036854775807) ∧ m = mem.slots.length - k) ⟨0, [], _, _, _, _, _, rfl, rfl, by rfl, zt, zu, zu, rfl⟩ ?_
 rintro _ _ u5 _ ⟨k, acc, A5_3_9, c5_3_9, g5_3_9, vs5_3_9, fl5_3_9, rfl, rfl, hA, hk, f5_2, f5_3, rfl⟩ x5
 refine zn ?_
 have hla : acc.length = k := by rw [hA, List.length_take]; omega
 refine Js.seq <| zS <| Qm rfl <| Qm rfl <| Qc rfl <| Qf fh rfl <| QC ((hr2.vis x5.vis) 9 _ rfl) rfl <| Qz rfl <| Ql rfl rfl <| JL.nil ?_
 refine zi (fun h6 h6' => ?_) fun h6 h6' => ?_
 ·
  have hkk : k < mem.slots.length := by have := h6'; omega
  have e1_ := r1 _ (M.slo_mem (l := mem.slots) (k := k) hkk)
  have hA2 := M.takeS hkk
  rw [← hA] at hA2
  have hA2 := hA2.symm
  have hy7 : mem.slots[k]? = some (M.slo mem.slots k) := M.slo_get (by omega)
  obtain ⟨b7, o7, A7_1, c7_1, he7, hr7, h7_1, bl7_1, bh7_1⟩ := elem_Slot (Ty.mono _ h1 x5.vis) hy7
  refine Js.skip <| Js.seq <| Js.block <| zS <| Qm rfl <| Qc rfl <| Qf fh rfl <| QC ((hr2.vis x5.vis) 9 _ rfl) rfl <| Qm rfl <| Qq (p_indexAddr el_26 rfl rfl (by omega) (by omega) he7) <| QS 0 hr7 rfl ?_
  refine za zeh fun b8 => zw 0 rfl rfl rfl ?_
  refine zN <| Qf fh rfl <| Q0 0 rfl rfl rfl <| zcs rfl (fun w hw => c_spec_l00Own ((M.slo mem.slots k).pits) (ok_ hw)) ?_
  intro A9 c9 bl9 bh9
  refine Qf fh rfl <| zw 1 rfl rfl rfl ?_
  refine zG <| Qf fh rfl <| Q0 4 rfl rfl rfl <| Q9 1 rfl rfl ?_
  refine zbs fun b10 => ?_
  refine JL.e (e_append (i := 4) (n' := (acc ++ [(M.slo mem.slots k)]).length) (vs' := vs5_3_9 ++ [.bool ((M.slo mem.slots k).used), .slice A9 (((M.slo mem.slots k).pits).length) c9, .int .i64 ((M.slo mem.slots k).player), .int .i64 ((M.slo mem.slots k).depth), .int .i64 ((M.slo mem.slots k).value), .int .i64 ((M.slo mem.slots k).bound)]) el_26 rfl rfl rfl rfl (src_row (i := 0) und_26 rfl rfl) (by omega) (by omega) ln2_ (rfl)) ?_
  rintro v12 _ _ ⟨⟨g13, rfl⟩, rfl⟩ _
  refine JL.fact (row_form' (i := 4) rfl) (fun hf14 => ?_)
  obtain ⟨A14, c14, rfl, bl14, bh14⟩ := hf14
  refine znl ?_
  refine Qf fh rfl <| zw 5 rfl rfl rfl ?_
  refine JL.nil ?_
  refine Js.pk (cSlot (M.slo mem.slots k)) [.bool ((M.slo mem.slots k).used), .slice A9 (((M.slo mem.slots k).pits).length) c9, .int .i64 ((M.slo mem.slots k).player), .int .i64 ((M.slo mem.slots k).depth), .int .i64 ((M.slo mem.slots k).value), .int .i64 ((M.slo mem.slots k).bound)] (fun f16 G16 => ?_)
  refine zn ?_
  refine Js.joinL (i := 4) (j := 0) (Vs := lSlot (acc ++ [(M.slo mem.slots k)])) rfl rfl (lSlot_snoc _ _) (fun f17 => ?_)
  refine zn ?_
  refine Js.blockEnd <| Js.region <| Qm rfl <| Qp rfl rfl <| Qa rfl <| JL.nil ?_
  refine zd [0, 3, 3, 3] rfl fun u18 x18 => ?_
  exact zag ⟨k + 1, acc ++ [(M.slo mem.slots k)], _, _, _, _, _, rfl, rfl, by exact hA2, zt, zu, zu, rfl⟩ (x5.trans x18)
 have hE : acc = mem.slots := by rw [hA, List.take_of_length_le (by have := h6'; omega)]
 refine zx ?_
 have hq0 : acc = mem.slots := by first | rfl | (rw [hE]; done) | (rw [hE]; rfl)
 refine zS <| Q9 2 rfl rfl ?_
 refine zw 3 rfl rfl rfl ?_
 refine JL.nil ?_
 exact zro x5
theorem c_spec_l16Code (mem : M.Mem) {v_mem : Value} (p : M.Pos) {v_p : Value} {w : World} (h_mem : (Ty.ref (cMemory mem)).ok w v_mem) (h_p : (Ty.ref (cPosition p)).ok w v_p) (r0 : mem.slots.length ≤ 4194304 := by exact om_) (r1 : ∀ x ∈ mem.slots, x.pits.length ≤ 4194304 := by exact om_) (r2 : p.pits.length ≤ 4194304 := by exact om_) (r3 : p.stores.length ≤ 4194304 := by exact om_) : RetV Tryz.prog 48 [v_mem, v_p] w (.int .i64 (M.remC mem p)) := by
 revert v_mem; apply opn
 intro b2 o2 A1 c1 h1 bl1 bh1 hr2
 revert v_p; apply opn
 intro b5 o5 A3 c3 h3 bl3 bh3 A4 c4 h4 bl4 bh4 hr5
 refine enter @Tryz.func48 @Tryz.ntmps48 rfl rfl ?_
 refine zent ?_
 refine zS <| Qa rfl <| zJ <| zS <| Qm rfl <| zv rfl (fun w hw => c_spec_l16Ok mem (ok_ hw) (r1 := r1)) <| Qt rfl <| Qm rfl <| zg (Gd.f1 rfl rfl rfl) (fun hc => p_move rfl) <| zg (Gd.f1 rfl rfl rfl) (fun hc => p_nilCheck (gh hc rfl)) <| zg (Gd.f1 rfl rfl rfl) (fun hc => p_fieldAddr fld_28_0.h (gh hc rfl)) <| zg (Gd.f1 rfl rfl rfl) (fun hc => p_move rfl) <| zgv (Gd.f1 rfl rfl rfl) (fun hc => (opds_2 (gh hc rfl) (gh hc rfl))) (fun hc => (fun w hw => c_spec_l04Ok mem.rules p (ok_ hw) (ok_ hw) (r0 := (by have hc9 := hc; (try simp only [Bool.not_eq_true', Bool.not_eq_false'] at hc9); omega)) (r1 := (by have hc9 := hc; (try simp only [Bool.not_eq_true', Bool.not_eq_false'] at hc9); omega)))) ?_
 refine zg (Gd.f1 rfl rfl rfl) (fun hc => p_not (gh hc rfl)) <| Qq (p_pickOr rfl rfl rfl) <| JL.nil ?_
 refine zi (fun h6 h6' => ?_) fun h6 h6' => ?_
 ·
  have hE := M.remC_1 (m := mem) (p := p) (by have h9 := h6; rintro h8; simp only [M.remB, Bool.and_eq_true] at h8; simp [h8.1, h8.2] at h9)
  refine zS <| Qa rfl <| JL.nil ?_
  refine zR (Up.refl _ _) ?_
  rw [hE]; rfl
 have hE := M.remC_0 (m := mem) (p := p) (by have h9 := h6; simpa [M.remB] using h9)
 refine Js.skip <| zS <| Qa rfl <| JL.nil ?_
 refine zR (Up.refl _ _) ?_
 rw [hE]; rfl
theorem c_spec_l16Place (mem : M.Mem) {v_mem : Value} (p : M.Pos) {v_p : Value} {w : World} (h_mem : (Ty.ref (cMemory mem)).ok w v_mem) (h_p : (Ty.ref (cPosition p)).ok w v_p) (r0 : M.okP mem.rules p = true := by exact om_) (r1 : 0 < mem.slots.length := by exact om_) (r2 : mem.slots.length ≤ 4194304 := by exact om_) : RetV Tryz.prog 133 [v_mem, v_p] w (.int .i64 (M.plc mem.slots.length p.pits p.player)) := by
 obtain ⟨g1, g2, g3, g4, g5, g6, g7⟩ := M.okP_bd r0
 revert v_mem; apply opn
 intro b2 o2 A1 c1 h1 bl1 bh1 hr2
 revert v_p; apply opn
 intro b5 o5 A3 c3 h3 bl3 bh3 A4 c4 h4 bl4 bh4 hr5
 refine enter @Tryz.func133 @Tryz.ntmps133 rfl rfl ?_
 refine zent ?_
 refine zS <| Qa rfl <| zJ ?_
 refine zdr [] ?_
 refine jM 0 rfl rfl ?_
 refine jN 1 rfl rfl ?_
 refine jF 2 fld_31_0 rfl rfl ?_
 refine jW 3 ty_29 rfl rfl (fun hv => (hr5.vis hv) 0 _ rfl) ?_
 refine jM 4 rfl rfl ?_
 refine jN 5 rfl rfl ?_
 refine jF 6 fld_31_2 rfl rfl ?_
 refine jW 7 ty_2 rfl rfl (fun hv => (hr5.vis hv) 2 _ rfl) ?_
 refine jM 8 rfl rfl ?_
 refine jN 9 rfl rfl ?_
 refine jF 10 fld_28_1 rfl rfl ?_
 refine jW 11 ty_26 rfl rfl (fun hv => (hr2.vis hv) 9 _ rfl) ?_
 refine JH.p 12 rfl (p_len el_26 rfl) ?_
 refine y1 13 ?_
 refine yv rfl rfl (fun w hw => c_spec_l16Hash p.pits p.player (mem.slots.length : Int) (ok_ hw) (r0 := g5) (r1 := (by constructor <;> omega))) ?_
 refine jA 14 rfl rfl ?_
 refine yd ?_
 refine zR (Up.refl _ _) ?_
 rfl
theorem c_spec_l16Find (mem : M.Mem) {bmem_p omem_p : Nat} {Amem_9 : Option Addr} {cmem_9 : Nat} (p : M.Pos) {v_p : Value} (depth : Int) {w : World} (hemem_9 : (Ty.sl 49 6 mem.slots.length (lSlot mem.slots)).ok w (.slice Amem_9 mem.slots.length cmem_9)) (hrmem : RowAt w bmem_p omem_p [.int .i64 mem.rules.pits, .int .i64 mem.rules.seeds, .bool mem.rules.stores, .bool mem.rules.skip, .bool mem.rules.relay, .bool mem.rules.feed, .bool mem.rules.again, .int .i64 mem.rules.capture, .int .i64 mem.rules.slam, .slice Amem_9 mem.slots.length cmem_9]) (h_p : (Ty.ref (cPosition p)).ok w v_p) (bd0 : mem.slots.length ≤ cmem_9 := by exact om_) (bd1 : cmem_9 ≤ 9223372036854775807 := by exact om_) (r0 : mem.slots.length ≤ 4194304 := by exact om_) (r1 : ∀ x ∈ mem.slots, x.pits.length ≤ 4194304 := by exact om_) (r2 : p.pits.length ≤ 4194304 := by exact om_) (r3 : p.stores.length ≤ 4194304 := by exact om_) (r4 : M.okP mem.rules p = true := by exact om_) (r5 : 0 < mem.slots.length := by exact om_) : RetX Tryz.prog 99 [.pointer (some ⟨bmem_p, omem_p, none⟩), v_p, .int .i64 depth] w (fun v => v = .tuple #[.pointer (elemA 6 (.slice Amem_9 mem.slots.length cmem_9) (M.plc mem.slots.length p.pits p.player).toNat), .bool (M.fndB mem.slots p depth)]) := by
 obtain ⟨hp1, hp2⟩ := M.plc_bd (n := mem.slots.length) p.pits p.player r5
 have hfs := r1 _ (M.slo_mem (l := mem.slots) (k := (M.plc mem.slots.length p.pits p.player).toNat) (by omega))
 revert v_p; apply opn
 intro b3 o3 A1 c1 h1 bl1 bh1 A2 c2 h2 bl2 bh2 hr3
 refine enter @Tryz.func99 @Tryz.ntmps99 rfl rfl ?_
 refine zent ?_
 refine zS <| Qa rfl <| Qa rfl <| zJ ?_
 refine zdr [] ?_
 refine jM 0 rfl rfl ?_
 refine jN 1 rfl rfl ?_
 refine jF 2 fld_28_1 rfl rfl ?_
 refine jW 3 ty_26 rfl rfl (fun hv => (hrmem.vis hv) 9 _ rfl) ?_
 refine jM 4 rfl rfl ?_
 refine jM 5 rfl rfl ?_
 refine y1 6 ?_
 refine yv rfl rfl (fun w hw => c_spec_l16Place mem p (ok_ hw) (ok_ hw) (r0 := r4)) ?_
 have hy4 : mem.slots[(M.plc mem.slots.length p.pits p.player).toNat]? = some (M.slo mem.slots ((M.plc mem.slots.length p.pits p.player).toNat)) := M.slo_get (by omega)
 obtain ⟨b4, o4, A4_1, c4_1, he4, hr4, h4_1, bl4_1, bh4_1⟩ := elem_Slot hemem_9 hy4
 refine jI 7 el_26 rfl rfl rfl he4 ?_
 refine jA 8 rfl rfl ?_
 refine yd ?_
 refine Js.seq ?_
 refine zdr [] ?_
 refine jM 0 rfl rfl ?_
 refine jM 1 rfl rfl ?_
 refine jN 2 rfl rfl ?_
 refine jF 3 fld_49_0 rfl rfl ?_
 refine jW 4 ty_4 rfl rfl (fun hv => (hr4.vis hv) 0 _ rfl) ?_
 refine jM 5 rfl rfl ?_
 refine JH.pg 6 rfl (Gd.t1 rfl rfl rfl) (fun hc => p_move rfl) ?_
 refine JH.pg 7 rfl (Gd.t1 rfl rfl rfl) (fun hc => p_nilCheck (gvt rfl hc)) ?_
 refine JH.pg 8 rfl (Gd.t1 rfl rfl rfl) (fun hc => p_fieldAddr fld_49_3.h (gvt rfl hc)) ?_
 refine JH.wg 9 rfl (Gd.t1 rfl rfl rfl) (fun hc os' u' hv => q_load1 ty_2.h (gvt rfl hc) (Mem.pub ((hr4.vis hv) 3 _ rfl))) ?_
 refine JH.pg 10 rfl (Gd.t1 rfl rfl rfl) (fun hc => p_move rfl) ?_
 refine JH.pg 11 rfl (Gd.t1 rfl rfl rfl) (fun hc => p_eql (gvt rfl hc) (gvt rfl hc)) ?_
 refine JH.p 12 rfl (p_pickAnd rfl rfl rfl) ?_
 refine jM 13 rfl rfl ?_
 refine JH.pg 14 rfl (Gd.t1 rfl rfl rfl) (fun hc => p_move rfl) ?_
 refine JH.pg 15 rfl (Gd.t1 rfl rfl rfl) (fun hc => p_nilCheck (gvt rfl hc)) ?_
 refine JH.pg 16 rfl (Gd.t1 rfl rfl rfl) (fun hc => p_fieldAddr fld_49_2.h (gvt rfl hc)) ?_
 refine JH.wg 17 rfl (Gd.t1 rfl rfl rfl) (fun hc os' u' hv => q_load1 ty_2.h (gvt rfl hc) (Mem.pub ((hr4.vis hv) 2 _ rfl))) ?_
 refine JH.pg 18 rfl (Gd.t1 rfl rfl rfl) (fun hc => p_move rfl) ?_
 refine JH.pg 19 rfl (Gd.t1 rfl rfl rfl) (fun hc => p_nilCheck (gvt rfl hc)) ?_
 refine JH.pg 20 rfl (Gd.t1 rfl rfl rfl) (fun hc => p_fieldAddr fld_31_2.h (gvt rfl hc)) ?_
 refine JH.wg 21 rfl (Gd.t1 rfl rfl rfl) (fun hc os' u' hv => q_load1 ty_2.h (gvt rfl hc) (Mem.pub ((hr3.vis hv) 2 _ rfl))) ?_
 refine JH.pg 22 rfl (Gd.t1 rfl rfl rfl) (fun hc => p_eql (gvt rfl hc) (gvt rfl hc)) ?_
 refine JH.p 23 rfl (p_pickAnd rfl rfl rfl) ?_
 refine jM 24 rfl rfl ?_
 refine JH.pg 25 rfl (Gd.t1 rfl rfl rfl) (fun hc => p_move rfl) ?_
 refine JH.pg 26 rfl (Gd.t1 rfl rfl rfl) (fun hc => p_nilCheck (gvt rfl hc)) ?_
 refine JH.pg 27 rfl (Gd.t1 rfl rfl rfl) (fun hc => p_fieldAddr fld_49_1.h (gvt rfl hc)) ?_
 refine JH.wg 28 rfl (Gd.t1 rfl rfl rfl) (fun hc os' u' hv => q_load1 ty_29.h (gvt rfl hc) (Mem.pub ((hr4.vis hv) 1 _ rfl))) ?_
 refine JH.pg 29 rfl (Gd.t1 rfl rfl rfl) (fun hc => p_move rfl) ?_
 refine JH.pg 30 rfl (Gd.t1 rfl rfl rfl) (fun hc => p_nilCheck (gvt rfl hc)) ?_
 refine JH.pg 31 rfl (Gd.t1 rfl rfl rfl) (fun hc => p_fieldAddr fld_31_0.h (gvt rfl hc)) ?_
 refine JH.wg 32 rfl (Gd.t1 rfl rfl rfl) (fun hc os' u' hv => q_load1 ty_29.h (gvt rfl hc) (Mem.pub ((hr3.vis hv) 0 _ rfl))) ?_
 refine y1 33 ?_
 refine JHo.ge rfl (Gd.t1 rfl rfl rfl) (fun hc => e_callV fn_105.h (opds_2 (gvt rfl hc) (gvt rfl hc)) (fun w hw => c_spec_l00Same ((M.slo mem.slots ((M.plc mem.slots.length p.pits p.player).toNat)).pits) p.pits (ok_ hw) (ok_ hw) (r0 := (by have hc9 := hc; (try simp only [Bool.and_eq_true, decide_eq_true_eq] at hc9); omega)) (r1 := (by have hc9 := hc; (try simp only [Bool.and_eq_true, decide_eq_true_eq] at hc9); omega)))) ?_
 refine JH.p 34 rfl (p_pickAnd rfl rfl rfl) ?_
 refine jA 35 rfl rfl ?_
 refine jA 36 rfl rfl ?_
 refine yd ?_
 refine zX (Up.refl _ _) ?_
 show (_ : Value) = _; rw [he4]; first | rfl | (simp [outV, M.fndB, M.fnd, Bool.and_assoc]; done)
theorem c_spec_l16StoreL (mem_rules : M.Rul) (mem_slots : List M.Slo) (mem_hits : Int) {Amem_9 : Option Addr} {cmem_9 : Nat} {gmem_9 : List Nat} {vsmem_9 : List Value} {fmem_9 : List Nat} (x : M.Slo) {v_x : Value} {bmem : Nat} {w : World} (hb : Bw w [boxO bmem [.int .i64 mem_rules.pits, .int .i64 mem_rules.seeds, .bool mem_rules.stores, .bool mem_rules.skip, .bool mem_rules.relay, .bool mem_rules.feed, .bool mem_rules.again, .int .i64 mem_rules.capture, .int .i64 mem_rules.slam, .slice Amem_9 mem_slots.length cmem_9, .int .i64 mem_hits] 99, rowO 49 6 (.slice Amem_9 mem_slots.length cmem_9) mem_slots.length vsmem_9 gmem_9, ownC (lSlot mem_slots) vsmem_9 fmem_9]) (h_x : (Ty.ref (cSlot x)).ok (offW w (([boxO bmem [.int .i64 mem_rules.pits, .int .i64 mem_rules.seeds, .bool mem_rules.stores, .bool mem_rules.skip, .bool mem_rules.relay, .bool mem_rules.feed, .bool mem_rules.again, .int .i64 mem_rules.capture, .int .i64 mem_rules.slam, .slice Amem_9 mem_slots.length cmem_9, .int .i64 mem_hits] 99, rowO 49 6 (.slice Amem_9 mem_slots.length cmem_9) mem_slots.length vsmem_9 gmem_9, ownC (lSlot mem_slots) vsmem_9 fmem_9] : List Own).flatMap (·.fp))) v_x) (bd0 : mem_slots.length ≤ cmem_9 := by exact om_) (bd1 : cmem_9 ≤ 9223372036854775807 := by exact om_) (r0 : M.okP mem_rules (M.posS x) = true := by exact om_) (r1 : 0 < mem_slots.length := by exact om_) (r2 : mem_slots.length ≤ 4194304 := by exact om_) (r3 : x.pits.length ≤ 4194304 := by exact om_) : RetB Tryz.prog 101 [.pointer (some ⟨bmem, 0, none⟩), v_x] w [boxO bmem [.int .i64 mem_rules.pits, .int .i64 mem_rules.seeds, .bool mem_rules.stores, .bool mem_rules.skip, .bool mem_rules.relay, .bool mem_rules.feed, .bool mem_rules.again, .int .i64 mem_rules.capture, .int .i64 mem_rules.slam, .slice Amem_9 mem_slots.length cmem_9, .int .i64 mem_hits] 99, rowO 49 6 (.slice Amem_9 mem_slots.length cmem_9) mem_slots.length vsmem_9 gmem_9, ownC (lSlot mem_slots) vsmem_9 fmem_9] (fun v bs' => ∃ (Axmem_9 : Option Addr) (cxmem_9 : Nat) (gxmem_9 : List Nat) (vsxmem_9 : List Value) (fxmem_9 : List Nat), v = .tuple #[] ∧ bs' = [boxO bmem [.int .i64 mem_rules.pits, .int .i64 mem_rules.seeds, .bool mem_rules.stores, .bool mem_rules.skip, .bool mem_rules.relay, .bool mem_rules.feed, .bool mem_rules.again, .int .i64 mem_rules.capture, .int .i64 mem_rules.slam, .slice Axmem_9 ((M.stoS mem_slots x).length) cxmem_9, .int .i64 mem_hits] 99, rowO 49 6 (.slice Axmem_9 ((M.stoS mem_slots x).length) cxmem_9) ((M.stoS mem_slots x).length) vsxmem_9 gxmem_9, ownC (lSlot (M.stoS mem_slots x)) vsxmem_9 fxmem_9] ∧ (M.stoS mem_slots x).length ≤ cxmem_9 ∧ cxmem_9 ≤ 9223372036854775807) := by
 obtain ⟨hp1, hp2⟩ := M.plc_bd (n := mem_slots.length) x.pits x.player r1
 obtain ⟨g1, g2, g3, g4, g5, g6, g7⟩ := M.okP_bd r0
 have g7 : x.player = 0 ∨ x.player = 1 := g7
 have hq1 : 0 ≤ M.hashP x.pits x.player % (mem_slots.length : Int) := hp1
 have hq2 : M.hashP x.pits x.player % (mem_slots.length : Int) < (mem_slots.length : Int) := hp2
 revert v_x; apply opn
 intro b2 o2 A1 c1 h1 bl1 bh1 hr2
 refine enterB hb @Tryz.func101 @Tryz.ntmps101 rfl rfl ?_
 refine zent ?_
 refine Js.trashE ?_
 refine zn ?_
 refine Js.seq ?_
 refine zdr [] ?_
 refine jM 0 rfl rfl ?_
 refine jN 1 rfl rfl ?_
 refine jF 2 fld_49_1 rfl rfl ?_
 refine jW 3 ty_29 rfl rfl (fun hv => (hr2.vis hv) 1 _ rfl) ?_
 refine jM 4 rfl rfl ?_
 refine jN 5 rfl rfl ?_
 refine jF 6 fld_49_2 rfl rfl ?_
 refine jW 7 ty_2 rfl rfl (fun hv => (hr2.vis hv) 2 _ rfl) ?_
 refine jM 8 rfl rfl ?_
 refine jN 9 rfl rfl ?_
 refine jF 10 fld_28_1 rfl rfl ?_
 refine jB 11 0 ty_26 rfl rfl rfl rfl ?_
 refine JH.p 12 rfl (p_len el_26 rfl) ?_
 refine y1 13 ?_
 refine yv rfl rfl (fun w hw => c_spec_l16Hash x.pits x.player (mem_slots.length : Int) (ok_ hw) (r0 := g5) (r1 := (by constructor <;> omega))) ?_
 refine jA 14 rfl rfl ?_
 refine yd ?_
 refine Js.seq <| Js.seq ?_
 refine zdr [] ?_
 refine jM 0 rfl rfl ?_
 refine jN 1 rfl rfl ?_
 refine jF 2 fld_28_1 rfl rfl ?_
 refine jB 3 0 ty_26 rfl rfl rfl rfl ?_
 refine jM 4 rfl rfl ?_
 refine JH.fact (row_some (i := 1) rfl (by omega)) (fun hf4 => ?_)
 obtain ⟨b4, rfl⟩ := hf4
 have hy3 : mem_slots[(M.hashP x.pits x.player % (mem_slots.length : Int)).toNat]? = some (M.slo mem_slots ((M.hashP x.pits x.player % (mem_slots.length : Int)).toNat)) := M.slo_get len_
 refine JH.fact (fun w hw => elemv_Slot (Mem.ownC (i := 2) rfl w hw) hy3) (fun hf3 => ?_)
 obtain ⟨A3_1, c3_1, he3, bl3_1, bh3_1⟩ := hf3
 refine jI 5 el_26 rfl rfl rfl rfl ?_
 refine jF 6 fld_49_0 rfl rfl ?_
 refine JH.q 7 rfl (q_load1 ty_4.h rfl (fun w hw => (Mem.rowR' (i := 1) rfl he3 w hw) 0 _ rfl)) ?_
 refine jM 8 rfl rfl ?_
 refine JH.pg 9 rfl (Gd.t1 rfl rfl rfl) (fun hc => p_move rfl) ?_
 refine JH.pg 10 rfl (Gd.t1 rfl rfl rfl) (fun hc => p_nilCheck (gvt rfl hc)) ?_
 refine JH.pg 11 rfl (Gd.t1 rfl rfl rfl) (fun hc => p_fieldAddr fld_28_1.h (gvt rfl hc)) ?_
 refine JH.pg 13 rfl (Gd.t1 rfl rfl rfl) (fun hc => p_move rfl) ?_
 refine JH.pg 17 rfl (Gd.t1 rfl rfl rfl) (fun hc => p_move rfl) ?_
 refine JH.pg 18 rfl (Gd.t1 rfl rfl rfl) (fun hc => p_nilCheck (gvt rfl hc)) ?_
 refine JH.pg 19 rfl (Gd.t1 rfl rfl rfl) (fun hc => p_fieldAddr fld_49_3.h (gvt rfl hc)) ?_
 refine JH.wg 20 rfl (Gd.t1 rfl rfl rfl) (fun hc os' u' hv => q_load1 ty_2.h (gvt rfl hc) (Mem.pub ((hr2.vis hv) 3 _ rfl))) ?_
 refine y1 12 ?_
 refine JHo.qg rfl (Gd.t1 rfl rfl rfl) (fun hc => q_load1 ty_26.h (gvt rfl hc) (Mem.box (i := 0) rfl rfl)) ?_
 have hy5 : mem_slots[(M.hashP x.pits x.player % (mem_slots.length : Int)).toNat]? = some (M.slo mem_slots ((M.hashP x.pits x.player % (mem_slots.length : Int)).toNat)) := M.slo_get len_
 refine JH.fact (fun w hw => elemv_Slot (Mem.ownC (i := 2) rfl w hw) hy5) (fun hf5 => ?_)
 obtain ⟨A5_1, c5_1, he5, bl5_1, bh5_1⟩ := hf5
 refine JH.pg 14 rfl (Gd.t1 rfl rfl rfl) (fun hc => p_indexAddr el_26 (gvt rfl hc) (gvt rfl hc) (by omega) (by omega) rfl) ?_
 refine JH.pg 15 rfl (Gd.t1 rfl rfl rfl) (fun hc => p_fieldAddr fld_49_3.h (gvt rfl hc)) ?_
 refine JH.qg 16 rfl (Gd.t1 rfl rfl rfl) (fun hc => q_load1 ty_2.h (gvt rfl hc) (fun w hw => (Mem.rowR' (i := 1) rfl he5 w hw) 3 _ rfl)) ?_
 refine JH.pg 21 rfl (Gd.t1 rfl rfl rfl) (fun hc => p_gtr (gvt rfl hc) (gvt rfl hc)) ?_
 refine JH.p 22 rfl (p_pickAnd rfl rfl rfl) ?_
 refine yd ?_
 refine zi (fun h6 h6' => ?_) fun h6 h6' => ?_
 ·
  have hE9 : M.stoS mem_slots x = mem_slots := if_neg (by have h9 := h6; exact M.sto_no h9)
  refine zrb0 [0, 0, 0] hb (Up.refl _ _) ?_
  have hN10 : (M.stoS mem_slots x).length = mem_slots.length := by first | exact M.stoS_len _ _ | rfl
  have hE10 : (M.stoS mem_slots x) = mem_slots := by first | exact hE9 | rfl
  refine ⟨(some ⟨b4, 0, none⟩), cmem_9, gmem_9, vsmem_9, fmem_9, rfl, ?_, ?_, ?_⟩
  · first | rfl | (dsimp only; rw [hN10, hE10]; done) | (dsimp only; rw [hN10, hE10]; rfl) | (dsimp only; simp only [hN10, hE10]) | (rw [hN10, hE10]; done) | (rw [hN10, hE10]; rfl)
  all_goals (try dsimp only)
  all_goals (first | (rw [hN10, hE10]; omega) | omega | (simp only [*]; omega) | (simp; done))
 have hE9 : M.stoS mem_slots x = mem_slots.set (M.plc mem_slots.length x.pits x.player).toNat x := if_pos (by have h9 := h6; exact M.sto_yes h9)
 refine Js.skip <| zS <| Qm rfl <| Qc rfl <| QS 0 hr2 rfl ?_
 refine za zeh fun b7 => zw 0 rfl rfl rfl ?_
 refine zN <| Qm rfl <| Qc rfl <| Qf fh rfl <| QC (hr2 1 _ rfl) rfl <| zcs rfl (fun w hw => c_spec_l00Own x.pits (ok_ hw)) ?_
 intro A8 c8 bl8 bh8
 refine Qf fh rfl <| zw 1 rfl rfl rfl ?_
 refine JL.nil ?_
 refine Js.fact (fun w hw => elem_in cSlot (m := 6) (k := (M.hashP x.pits x.player % (mem_slots.length : Int)).toNat) (xs := mem_slots) (fun _ => rfl) (Mem.ownC (i := 4) rfl w hw) (by omega)) (fun hl9 => ?_)
 refine Js.ex3 (fun w hw => St.elemS cSlot (m := 6) (i := 4) (xs := mem_slots) (fun _ => rfl) rfl hy5 he5 hw) (fun f9_1 f9_2 f9_3 => ?_)
 refine Js.unp 0 ?_
 refine zn ?_
 refine zdr [7] ?_
 refine jM 0 rfl rfl ?_
 refine jN 1 rfl rfl ?_
 refine jF 2 fld_28_1 rfl rfl ?_
 refine jB 3 5 ty_26 rfl rfl rfl rfl ?_
 refine jM 4 rfl rfl ?_
 refine JH.q 5 rfl (L9 4 rfl rfl) ?_
 refine jI 6 el_26 rfl rfl rfl rfl ?_
 refine y1 7 ?_
 refine JHo.s rfl (e_storeRow (i := 6) (xs' := setL vsmem_9 (0 + ((M.hashP x.pits x.player % (mem_slots.length : Int)).toNat) * 6) [.bool x.used, .slice A8 x.pits.length c8, .int .i64 x.player, .int .i64 x.depth, .int .i64 x.value, .int .i64 x.bound]) ty_49.h rfl rfl rfl rfl rfl rfl (by omega) rfl) (.inr rfl) ?_
 rintro _ _ _ ⟨rfl, rfl⟩ _
 refine znh ?_
 refine yd ?_
 refine Js.pk (cSlot x) [.bool x.used, .slice A8 x.pits.length c8, .int .i64 x.player, .int .i64 x.depth, .int .i64 x.value, .int .i64 x.bound] (fun f12 G12 => ?_)
 refine Js.front (i := 3) rfl ?_
 refine zn ?_
 refine Js.front (i := 1) rfl ?_
 refine zn ?_
 refine Js.front (i := 4) rfl ?_
 refine zn ?_
 refine Js.conv (fun w hw => St.closeE cSlot (k := (M.hashP x.pits x.player % (mem_slots.length : Int)).toNat) (m := 6) (xs := mem_slots) (y := x) (vs := vsmem_9) (vs' := (setL vsmem_9 (0 + ((M.hashP x.pits x.player % (mem_slots.length : Int)).toNat) * 6) [.bool x.used, .slice A8 x.pits.length c8, .int .i64 x.player, .int .i64 x.depth, .int .i64 x.value, .int .i64 x.bound])) (by omega) rfl rfl hw) ?_
 refine zn ?_
 refine zrbE [4, 4, 0] hb (Up.refl _ _) ?_
 have hN10 : (M.stoS mem_slots x).length = mem_slots.length := by first | exact M.stoS_len _ _ | rfl
 have hE10 : (M.stoS mem_slots x) = (mem_slots.set ((M.hashP x.pits x.player % (mem_slots.length : Int)).toNat) x) := by first | exact hE9 | rfl
 refine ⟨(some ⟨b4, 0, none⟩), cmem_9, gmem_9, (setL vsmem_9 (0 + ((M.hashP x.pits x.player % (mem_slots.length : Int)).toNat) * 6) [.bool x.used, .slice A8 x.pits.length c8, .int .i64 x.player, .int .i64 x.depth, .int .i64 x.value, .int .i64 x.bound]), (f9_3 ++ f12 ++ f9_2), rfl, ?_, ?_, ?_⟩
 · first | rfl | (dsimp only; rw [hN10, hE10]; done) | (dsimp only; rw [hN10, hE10]; rfl) | (dsimp only; simp only [hN10, hE10]) | (rw [hN10, hE10]; done) | (rw [hN10, hE10]; rfl)
 all_goals (try dsimp only)
 all_goals (first | (rw [hN10, hE10]; omega) | omega | (simp only [*]; omega) | (simp; done))
theorem c_spec_l06Raw (r : M.Rul) {v_r : Value} (s : M.Sw) {v_s : Value} (player : Int) {w : World} (h_r : (Ty.ref (cRules r)).ok w v_r) (h_s : (Ty.ref (cSown s)).ok w v_s) (r0 : 2 ≤ r.pits := by exact om_) (r1 : r.pits ≤ 8 := by exact om_) (r2 : player = 0 ∨ player = 1 := by exact om_) (r3 : M.Good r s.pits s.stores 0 := by exact om_) (r4 : -1 ≤ s.last := by exact om_) (r5 : s.last < 2 * r.pits := by exact om_) : Ret Tryz.prog 150 [v_r, v_s, .int .i64 player] w (Ty.ints 2 (M.taken r s player)) := by
 have l1 := r3.lp
 have l2 := r3.ls
 have hv9 := r3.pit s.last
 revert v_r; apply opn
 intro b1 o1 hr1
 revert v_s; apply opn
 intro b4 o4 A2 c2 h2 bl2 bh2 A3 c3 h3 bl3 bh3 hr4
 refine enter @Tryz.func150 @Tryz.ntmps150 rfl rfl ?_
 refine zent ?_
 obtain ⟨b5, o5, rfl⟩ := ints_some h2 (by omega)
 refine zS <| Qa rfl <| zN <| zbs fun b6 => ?_
 refine Qa rfl <| zN <| Qm rfl <| Qc rfl <| Qf fh rfl <| QC (hr4 2 _ rfl) rfl <| Qa rfl <| zJ <| zS <| Qm rfl <| Ql rfl rfl <| JL.nil ?_
 refine zi (fun h8 h8' => ?_) fun h8 h8' => ?_
 ·
  have hR : M.taken r s player = [] := by unfold M.taken; rw [if_pos (by simpa using h8)]
  have hq0 : [] = M.taken r s player := by rw [hR]
  refine zS <| Qm rfl <| Qa rfl <| JL.nil ?_
  exact zro (Up.refl _ _)
 have hl0 : ¬ s.last < 0 := by simpa using h8
 refine Js.skip <| zS <| Qm rfl <| Qm rfl <| zv rfl (fun w hw => c_spec_l02Owner r s.last (ok_ hw)) <| Qm rfl <| Qe rfl rfl <| Qa rfl <| zJ <| zS <| Qm rfl <| Qc rfl <| Qf fh rfl <| QC (hr1 7 _ rfl) rfl ?_
 refine JL.nil <| Js.block <| zS <| Qe rfl rfl <| Qa rfl <| JL.nil ?_
 refine zi (fun h9 h9' => ?_) fun h9 h9' => ?_
 ·
  have hcap : r.capture = 1 := by simpa using h9
  refine Js.block ?_
  refine zl [0, 1, 2] (fun F U l os u m => ∃ (k : Int) (out : List Int) (A10_7 : Option Addr) (c10_7 : Nat) (g10_7 : List Nat), l = F [(7, .slice A10_7 out.length c10_7), (8, .int .i64 k)] ∧ os = U [some (rowO 2 1 (.slice A10_7 out.length c10_7) out.length (ints_ out) g10_7)] ∧ (out ++ M.ttI r player s.pits k = M.ttI r player s.pits s.last) ∧ (-1 ≤ k) ∧ (k < 2 * r.pits) ∧ ((out.length : Int) + k = s.last) ∧ (out.length ≤ c10_7) ∧ (c10_7 ≤ 9223372036854775807) ∧ m = (k + 1).toNat) ⟨s.last, [], _, _, _, rfl, rfl, by rfl, zt, zt, by simp, zu, zu, rfl⟩ ?_
  rintro _ _ u10 _ ⟨k, out, A10_7, c10_7, g10_7, rfl, rfl, hS, k0, k1, hl, f10_4, f10_5, rfl⟩ x10
  refine zn ?_
  refine Js.seq <| zS <| Qm rfl <| Qh rfl rfl <| Qm rfl <| zg (Gd.t1 rfl rfl rfl) (fun hc => p_move rfl) <| zg (Gd.t1 rfl rfl rfl) (fun hc => p_move rfl) <| zgv (Gd.t1 rfl rfl rfl) (fun hc => (opds_2 (gh hc rfl) (gh hc rfl))) (fun hc => (fun w hw => c_spec_l02Owner r k (ok_ hw) (r0 := (oh_ hc)) (r1 := (oh_ hc)) (r2 := (oh_ hc)) (r3 := (oh_ hc)))) ?_
  refine zg (Gd.t1 rfl rfl rfl) (fun hc => p_move rfl) <| zg (Gd.t1 rfl rfl rfl) (fun hc => p_neq (gh hc rfl) (gh hc rfl)) <| Qq (p_pickAnd rfl rfl rfl) <| Qm rfl <| zg (Gd.t1 rfl rfl rfl) (fun hc => p_move rfl) <| zg (Gd.t1 rfl rfl rfl) (fun hc => p_nilCheck (gh hc rfl)) <| zg (Gd.t1 rfl rfl rfl) (fun hc => p_fieldAddr fld_181_0.h (gh hc rfl)) <| zgq (Gd.t1 rfl rfl rfl) (fun hc => q_load1 ty_29.h (gh hc rfl) (Mem.pub ((hr4.vis x10.vis) 0 _ rfl))) <| zg (Gd.t1 rfl rfl rfl) (fun hc => p_move rfl) <| zg (Gd.t1 rfl rfl rfl) (fun hc => p_indexAddr el_29 (gh hc rfl) (gh hc rfl) (by have hc9 := hc; (try simp only [Bool.and_eq_true, decide_eq_true_eq, Bool.not_eq_true', decide_eq_false_iff_not] at hc9); omega) (by have hc9 := hc; (try simp only [Bool.and_eq_true, decide_eq_true_eq, Bool.not_eq_true', decide_eq_false_iff_not] at hc9); omega) rfl) ?_
  refine zgq (Gd.t1 rfl rfl rfl) (fun hc => q_load1 ty_2.h (gh hc rfl) (Mem.pub (ints_cellI (i := k) (Ty.mono _ h2 x10.vis) (by have hc9 := hc; (try simp only [Bool.and_eq_true, decide_eq_true_eq, Bool.not_eq_true', decide_eq_false_iff_not] at hc9); omega)))) ?_
  refine zgv (Gd.t1 rfl rfl rfl) (fun hc => (opds_3 (gh hc rfl) rfl rfl)) (fun hc => (fun w hw => c_spec_l00In (M.getI s.pits k) 2 3)) ?_
  refine Qq (p_pickAnd rfl rfl rfl) <| JL.nil ?_
  refine zi (fun h12 h12' => ?_) fun h12 h12' => ?_
  ·
   obtain ⟨⟨c0, c1⟩, c2⟩ : (0 ≤ k ∧ ¬ M.owner r k = player) ∧ M.betw (M.getI s.pits k) 2 3 = true := by simpa using h12
   have hS2 : (out ++ [k]) ++ M.ttI r player s.pits (k - 1) = M.ttI r player s.pits s.last := by rw [← hS, M.ttI_yes c0 c1 c2]; simp
   refine Js.skip <| Js.block <| zS <| Qm rfl <| Qm rfl <| zbs fun b13 => ?_
   refine JL.e (e_append (i := 1) (n' := (out ++ [k]).length) (vs' := ints_ (out ++ [k])) el_29 rfl rfl rfl rfl (src_row (i := 0) und_29 rfl rfl) (by omega) (by omega) ln2_ (by simp [ints_])) ?_
   rintro v15 _ _ ⟨⟨g16, rfl⟩, rfl⟩ _
   refine JL.fact (row_form' (i := 1) rfl) (fun hf17 => ?_)
   obtain ⟨A17, c17, rfl, bl17, bh17⟩ := hf17
   refine znl ?_
   refine Qa rfl <| zG <| Qm rfl <| Qs rfl rfl <| Qa rfl <| JL.nil <| Js.blockEnd ?_
   refine zd [1] rfl fun u18 x18 => ?_
   exact zag ⟨k - 1, out ++ [k], _, _, _, rfl, rfl, by exact hS2, zt, zt, by simp only [List.length_append, List.length_cons, List.length_nil]; omega, zu, zu, rfl⟩ (x10.trans x18)
  have hF : M.ttI r player s.pits k = [] := by rcases h12' with (h | h) | h; exact M.ttI_neg h; exact M.ttI_no (.inl h); exact M.ttI_no (.inr h)
  rw [hF, List.append_nil] at hS
  have hR : M.taken r s player = out := by unfold M.taken; rw [if_neg hl0, if_pos hcap, hS]; simp [M.ttI, hl0]
  refine zx ?_
  have hq0 : out = M.taken r s player := by rw [hR]
  refine Js.blockEnd <| zS <| Qm rfl <| Qa rfl <| JL.nil ?_
  exact zro x10
 have hcap1 : ¬ r.capture = 1 := by simpa using h9
 refine zS <| Qe rfl rfl <| Qa rfl <| JL.nil ?_
 refine zi (fun h19 h19' => ?_) fun h19 h19' => ?_
 ·
  have hcap : r.capture = 2 := by simpa using h19
  have ho : M.opp r s.last = 2 * r.pits - 1 - s.last := rfl
  refine Js.seq ?_
  refine zdr [] ?_
  refine jM 0 rfl rfl ?_
  refine jM 1 rfl rfl ?_
  refine JH.pg 2 rfl (Gd.t1 rfl rfl rfl) (fun hc => p_move rfl) ?_
  refine JH.pg 3 rfl (Gd.t1 rfl rfl rfl) (fun hc => p_nilCheck (gvt rfl hc)) ?_
  refine JH.pg 4 rfl (Gd.t1 rfl rfl rfl) (fun hc => p_fieldAddr fld_181_0.h (gvt rfl hc)) ?_
  refine JH.wg 5 rfl (Gd.t1 rfl rfl rfl) (fun hc os' u' hv => q_load1 ty_29.h (gvt rfl hc) (Mem.pub ((hr4.vis hv) 0 _ rfl))) ?_
  refine JH.pg 6 rfl (Gd.t1 rfl rfl rfl) (fun hc => p_move rfl) ?_
  refine JH.pg 7 rfl (Gd.t1 rfl rfl rfl) (fun hc => p_indexAddr el_29 (gvt rfl hc) (gvt rfl hc) (oh_ hc) (oh_ hc) rfl) ?_
  refine JH.wg 8 rfl (Gd.t1 rfl rfl rfl) (fun hc os' u' hv => q_load1 ty_2.h (gvt rfl hc) (Mem.pub (ints_cellI (i := s.last) (Ty.mono _ h2 hv) (oh_ hc)))) ?_
  refine JH.pg 9 rfl (Gd.t1 rfl rfl rfl) (fun hc => p_eql (gvt rfl hc) rfl) ?_
  refine JH.p 10 rfl (p_pickAnd rfl rfl rfl) ?_
  refine jM 11 rfl rfl ?_
  refine JH.pg 12 rfl (Gd.t1 rfl rfl rfl) (fun hc => p_move rfl) ?_
  refine JH.pg 13 rfl (Gd.t1 rfl rfl rfl) (fun hc => p_nilCheck (gvt rfl hc)) ?_
  refine JH.pg 14 rfl (Gd.t1 rfl rfl rfl) (fun hc => p_fieldAddr fld_181_0.h (gvt rfl hc)) ?_
  refine JH.wg 15 rfl (Gd.t1 rfl rfl rfl) (fun hc os' u' hv => q_load1 ty_29.h (gvt rfl hc) (Mem.pub ((hr4.vis hv) 0 _ rfl))) ?_
  refine JH.pg 16 rfl (Gd.t1 rfl rfl rfl) (fun hc => p_move rfl) ?_
  refine JH.pg 17 rfl (Gd.t1 rfl rfl rfl) (fun hc => p_move rfl) ?_
  refine y1 18 ?_
  refine JHo.ge rfl (Gd.t1 rfl rfl rfl) (fun hc => e_callV fn_166.h (opds_2 (gvt rfl hc) (gvt rfl hc)) (fun w hw => c_spec_l02Opposite r s.last (ok_ hw) (r0 := (by have hc9 := hc; (try simp only [Bool.and_eq_true, decide_eq_true_eq] at hc9); omega)) (r1 := (by have hc9 := hc; (try simp only [Bool.and_eq_true, decide_eq_true_eq] at hc9); omega)) (r2 := (by have hc9 := hc; (try simp only [Bool.and_eq_true, decide_eq_true_eq] at hc9); omega)) (r3 := (by have hc9 := hc; (try simp only [Bool.and_eq_true, decide_eq_true_eq] at hc9); omega)))) ?_
  refine JH.pg 19 rfl (Gd.t1 rfl rfl rfl) (fun hc => p_indexAddr el_29 (gvt rfl hc) (gvt rfl hc) (by have hc9 := hc; (try simp only [Bool.and_eq_true, decide_eq_true_eq] at hc9); omega) (by have hc9 := hc; (try simp only [Bool.and_eq_true, decide_eq_true_eq] at hc9); omega) rfl) ?_
  refine JH.wg 20 rfl (Gd.t1 rfl rfl rfl) (fun hc os' u' hv => q_load1 ty_2.h (gvt rfl hc) (Mem.pub (ints_cellI (i := M.opp r s.last) (Ty.mono _ h2 hv) (by have hc9 := hc; (try simp only [Bool.and_eq_true, decide_eq_true_eq] at hc9); omega)))) ?_
  refine JH.pg 21 rfl (Gd.t1 rfl rfl rfl) (fun hc => p_gtr (gvt rfl hc) rfl) ?_
  refine JH.p 22 rfl (p_pickAnd rfl rfl rfl) ?_
  refine yd ?_
  refine zi (fun h22 h22' => ?_) fun h22 h22' => ?_
  ·
   have hR : M.taken r s player = [s.last, M.opp r s.last] := by unfold M.taken; rw [if_neg hl0, if_neg hcap1, if_pos hcap, if_pos (by simpa [and_assoc] using h22)]
   refine Js.region <| Qm rfl <| Qm rfl <| Qm rfl <| Qm rfl <| zv rfl (fun w hw => c_spec_l02Opposite r s.last (ok_ hw)) <| zbs fun b23 => ?_
   refine JL.e (e_append (i := 1) (n' := 2) (vs' := ints_ [s.last, (M.opp r s.last)]) el_29 rfl rfl rfl rfl (src_row (i := 0) und_29 rfl rfl) (by omega) (by omega) ln2_ (by simp [ints_])) ?_
   rintro v25 _ _ ⟨⟨g26, rfl⟩, rfl⟩ _
   refine JL.fact (row_form' (i := 1) rfl) (fun hf27 => ?_)
   obtain ⟨A27, c27, rfl, bl27, bh27⟩ := hf27
   refine znl ?_
   have hq0 : [s.last, (M.opp r s.last)] = M.taken r s player := by rw [hR]
   refine Qa rfl <| JL.nil <| Js.blockEnd <| zS <| Qm rfl <| Qa rfl <| JL.nil ?_
   exact zro (Up.refl _ _)
  have hR : M.taken r s player = [] := by unfold M.taken; rw [if_neg hl0, if_neg hcap1, if_pos hcap, if_neg (by simpa [and_assoc] using h22)]
  have hq0 : [] = M.taken r s player := by rw [hR]
  refine Js.skip <| Js.blockEnd <| zS <| Qm rfl <| Qa rfl <| JL.nil ?_
  exact zro (Up.refl _ _)
 have hcap2 : ¬ r.capture = 2 := by simpa using h19
 refine zS <| Qe rfl rfl <| Qa rfl <| JL.nil ?_
 refine zi (fun h28 h28' => ?_) fun h28 h28' => ?_
 ·
  have hcap : r.capture = 3 := by simpa using h28
  refine zS <| Qm rfl <| Qt rfl <| Qm rfl <| zg (Gd.t1 rfl rfl rfl) (fun hc => p_move rfl) <| zg (Gd.t1 rfl rfl rfl) (fun hc => p_nilCheck (gh hc rfl)) <| zg (Gd.t1 rfl rfl rfl) (fun hc => p_fieldAddr fld_181_0.h (gh hc rfl)) <| zgq (Gd.t1 rfl rfl rfl) (fun hc => q_load1 ty_29.h (gh hc rfl) (Mem.pub (hr4 0 _ rfl))) <| zg (Gd.t1 rfl rfl rfl) (fun hc => p_move rfl) <| zg (Gd.t1 rfl rfl rfl) (fun hc => p_indexAddr el_29 (gh hc rfl) (gh hc rfl) (by have hc9 := hc; (try simp only [Bool.not_eq_true', decide_eq_false_iff_not] at hc9); omega) (by have hc9 := hc; (try simp only [Bool.not_eq_true', decide_eq_false_iff_not] at hc9); omega) rfl) ?_
  refine zgq (Gd.t1 rfl rfl rfl) (fun hc => q_load1 ty_2.h (gh hc rfl) (Mem.pub (ints_cellI (i := s.last) h2 (by have hc9 := hc; (try simp only [Bool.not_eq_true', decide_eq_false_iff_not] at hc9); omega)))) ?_
  refine zg (Gd.t1 rfl rfl rfl) (fun hc => p_rem (gh hc rfl) rfl (by have hc9 := hc; (try simp only [Bool.not_eq_true', decide_eq_false_iff_not] at hc9); omega) (Int.tmod_eq_emod_of_nonneg (by have hc9 := hc; (try simp only [Bool.not_eq_true', decide_eq_false_iff_not] at hc9); omega))) ?_
  refine zg (Gd.t1 rfl rfl rfl) (fun hc => p_eql (gh hc rfl) rfl) <| Qq (p_pickAnd rfl rfl rfl) <| JL.nil ?_
  refine zi (fun h30 h30' => ?_) fun h30 h30' => ?_
  ·
   have hR : M.taken r s player = [s.last] := by unfold M.taken; rw [if_neg hl0, if_neg hcap1, if_neg hcap2, if_pos hcap, if_pos (by simpa using h30)]
   refine Js.region <| Qm rfl <| Qm rfl <| zbs fun b31 => ?_
   refine JL.e (e_append (i := 1) (n' := 1) (vs' := ints_ [s.last]) el_29 rfl rfl rfl rfl (src_row (i := 0) und_29 rfl rfl) (by omega) (by omega) ln2_ (by simp [ints_])) ?_
   rintro v33 _ _ ⟨⟨g34, rfl⟩, rfl⟩ _
   refine JL.fact (row_form' (i := 1) rfl) (fun hf35 => ?_)
   obtain ⟨A35, c35, rfl, bl35, bh35⟩ := hf35
   refine znl ?_
   have hq0 : [s.last] = M.taken r s player := by rw [hR]
   refine Qa rfl <| JL.nil <| Js.blockEnd <| zS <| Qm rfl <| Qa rfl <| JL.nil ?_
   exact zro (Up.refl _ _)
  have hR : M.taken r s player = [] := by unfold M.taken; rw [if_neg hl0, if_neg hcap1, if_neg hcap2, if_pos hcap, if_neg (by simpa using h30)]
  have hq0 : [] = M.taken r s player := by rw [hR]
  refine Js.skip <| Js.blockEnd <| zS <| Qm rfl <| Qa rfl <| JL.nil ?_
  exact zro (Up.refl _ _)
 have hcap3 : ¬ r.capture = 3 := by simpa using h28
 have hR : M.taken r s player = [] := by unfold M.taken; rw [if_neg hl0, if_neg hcap1, if_neg hcap2, if_neg hcap3]
 have hq0 : [] = M.taken r s player := by rw [hR]
 refine Js.skip <| Js.blockEnd <| zS <| Qm rfl <| Qa rfl <| JL.nil ?_
 exact zro (Up.refl _ _)
theorem c_spec_l06Sum (s : M.Sw) {v_s : Value} (list : List Int) {v_list : Value} {w : World} (h_s : (Ty.ref (cSown s)).ok w v_s) (h_list : (Ty.ints 2 list).ok w v_list) (r0 : s.pits.length ≤ 16 := by exact om_) (r1 : list.length ≤ 16 := by exact om_) (r2 : ∀ x ∈ list, 0 ≤ x ∧ x < s.pits.length := by exact om_) (r3 : ∀ k : Int, 0 ≤ M.getI s.pits k ∧ M.getI s.pits k ≤ 96 := by exact om_) : RetV Tryz.prog 153 [v_s, v_list] w (.int .i64 (M.isum (list.map (M.getI s.pits)))) := by
 revert v_s; apply opn
 intro b3 o3 A1 c1 h1 bl1 bh1 A2 c2 h2 bl2 bh2 hr3
 revert v_list; apply opn
 intro A4 c4 h4 bl4 bh4
 have h_list := h4
 refine enter @Tryz.func153 @Tryz.ntmps153 rfl rfl ?_
 refine zent ?_
 refine zS <| Qa rfl <| zN <| Qa rfl <| zJ <| zS <| Qa rfl <| JL.nil <| Js.block ?_
 refine zl [0, 1] (fun F U l os u m => ∃ (k : Nat) (t : Int), l = F [(5, .int .i64 t), (6, .int .i64 (k : Int))] ∧ os = U [] ∧ (t + M.isum ((list.drop k).map (M.getI s.pits)) = M.isum (list.map (M.getI s.pits))) ∧ (k ≤ list.length) ∧ (0 ≤ t) ∧ (t ≤ 96 * k) ∧ m = list.length - k) ⟨0, 0, rfl, rfl, by simp, zt, zt, zt, rfl⟩ ?_
 rintro _ _ u5 _ ⟨k, t, rfl, rfl, hS, hk, t0, t1, rfl⟩ x5
 refine zn ?_
 refine Js.seq <| zS <| Qm rfl <| Qm rfl <| Qz rfl <| Ql rfl rfl <| JL.nil ?_
 refine zi (fun h6 h6' => ?_) fun h6 h6' => ?_
 ·
  have hk2 : k < list.length := by have := h6'; omega
  have hx := r2 _ (M.nth_mem hk2)
  have hv := r3 (M.nth list k)
  simp only [M.getI] at hv
  have hS2 := hS
  rw [M.drop_nth hk2, List.map_cons, M.isum_cons, ← Int.add_assoc] at hS2
  refine Js.skip <| Js.seq <| Js.block ?_
  refine zdr [] ?_
  refine jM 0 rfl rfl ?_
  refine jM 1 rfl rfl ?_
  refine jN 2 rfl rfl ?_
  refine jF 3 fld_181_0 rfl rfl ?_
  refine jW 4 ty_29 rfl rfl (fun hv => (hr3.vis (x5.vis.trans hv)) 0 _ rfl) ?_
  refine jM 5 rfl rfl ?_
  refine jM 6 rfl rfl ?_
  obtain ⟨b7, o7, he7, hc7⟩ := ints_elem (Ty.mono _ h4 x5.vis) (i := k) (by omega)
  refine jI 7 el_29 rfl rfl rfl he7 ?_
  refine jW 8 ty_2 rfl rfl hc7.vis ?_
  obtain ⟨b8, o8, he8, hc8⟩ := ints_elem (Ty.mono _ h1 x5.vis) (i := (M.nth list k).toNat) (by omega)
  refine jI 9 el_29 rfl rfl rfl he8 ?_
  refine jW 10 ty_2 rfl rfl hc8.vis ?_
  refine JH.p 11 rfl (p_add rfl rfl (IntWalk.i64_in _ (by omega))) ?_
  refine jA 12 rfl rfl ?_
  refine yd ?_
  refine Js.blockEnd <| Js.region <| Qm rfl <| Qp rfl rfl <| Qa rfl <| JL.nil ?_
  exact zag ⟨k + 1, t + (M.nth s.pits ((M.nth list k).toNat)), rfl, rfl, by exact hS2, zt, zt, zt, rfl⟩ x5
 have hT : M.isum (list.map (M.getI s.pits)) = t := by rw [← hS, List.drop_eq_nil_of_le (by have := h6'; omega)]; simp
 refine zx ?_
 refine zS <| Qm rfl <| Qa rfl <| JL.nil ?_
 refine zR x5 ?_
 rw [hT]; rfl
theorem c_spec_l06Slam (r : M.Rul) {v_r : Value} (s : M.Sw) {v_s : Value} (player : Int) {w : World} (h_r : (Ty.ref (cRules r)).ok w v_r) (h_s : (Ty.ref (cSown s)).ok w v_s) (r0 : 2 ≤ r.pits := by exact om_) (r1 : r.pits ≤ 8 := by exact om_) (r2 : player = 0 ∨ player = 1 := by exact om_) (r3 : M.Good r s.pits s.stores 0 := by exact om_) (r4 : -1 ≤ s.last := by exact om_) (r5 : s.last < 2 * r.pits := by exact om_) : RetV Tryz.prog 137 [v_r, v_s, .int .i64 player] w (.bool (M.slams r s player)) := by
 have l1 := r3.lp
 have l2 := r3.ls
 have hao := M.Good.ok r3
 have hlen := M.taken_len (s := s) (player := player) r5 r1
 revert v_r; apply opn
 intro b1 o1 hr1
 revert v_s; apply opn
 intro b4 o4 A2 c2 h2 bl2 bh2 A3 c3 h3 bl3 bh3 hr4
 refine enter @Tryz.func137 @Tryz.ntmps137 rfl rfl ?_
 refine zent ?_
 obtain ⟨b5, o5, rfl⟩ := ints_some h2 (by omega)
 refine zS <| Qa rfl <| zN <| Qm rfl <| Qm rfl <| Qm rfl <| zp rfl (fun w hw => c_spec_l06Raw r s player (ok_ hw) (ok_ hw) (r3 := r3)) ?_
 intro u6 x6 A7 c7 h7 bl7 bh7
 refine Qa rfl <| zN <| Qa rfl <| zJ <| zS <| Qa rfl <| JL.nil <| Js.block ?_
 refine zl [0, 1, 2, 7] (fun F U l os u m => ∃ (k : Nat) (g : Int), l = F [(8, .int .i64 g), (9, .int .i64 (k : Int))] ∧ os = U [] ∧ (g + M.gone r s player ((M.taken r s player).drop k) = M.gone r s player (M.taken r s player)) ∧ (k ≤ (M.taken r s player).length) ∧ (0 ≤ g) ∧ (g ≤ 96 * k) ∧ m = (M.taken r s player).length - k) ⟨0, 0, rfl, rfl, by simp, zt, zt, zt, rfl⟩ ?_
 rintro _ _ u8 _ ⟨k, g, rfl, rfl, hS, hk, g0, g1, rfl⟩ x8
 refine zn ?_
 refine Js.seq <| zS <| Qm rfl <| Qm rfl <| Qz rfl <| Ql rfl rfl <| JL.nil ?_
 refine zi (fun h9 h9' => ?_) fun h9 h9' => ?_
 ·
  have hk2 : k < (M.taken r s player).length := by have := h9'; omega
  have hx := M.taken_mem (r := r) (s := s) (player := player) r5 (M.nth_mem hk2)
  have hvx := r3.pit (M.nth (M.taken r s player) k)
  have hS1 := hS
  rw [M.drop_nth hk2, M.gone_cons] at hS1
  obtain ⟨b10, o10, he10, hc10⟩ := ints_elem (Ty.mono _ h7 x8.vis) (i := k) (by omega)
  refine Js.skip <| Js.seq <| Js.block <| zS <| Qm rfl <| Qm rfl <| Qm rfl <| Qq (p_indexAddr el_29 rfl rfl (by omega) (by omega) he10) <| QC hc10 rfl <| zv rfl (fun w hw => c_spec_l02Owner r (M.nth (M.taken r s player) k) (ok_ hw)) <| Qm rfl <| Qd rfl rfl <| JL.nil ?_
  refine zi (fun h11 h11' => ?_) fun h11 h11' => ?_
  ·
   have hS2 : (g + M.getI s.pits (M.nth (M.taken r s player) k)) + M.gone r s player ((M.taken r s player).drop (k + 1)) = M.gone r s player (M.taken r s player) := by rw [if_neg (by simpa using h11)] at hS1; omega
   refine zdr [] ?_
   refine jM 0 rfl rfl ?_
   refine jM 1 rfl rfl ?_
   refine jN 2 rfl rfl ?_
   refine jF 3 fld_181_0 rfl rfl ?_
   refine JH.w 4 rfl (fun os' u' hv => q_load1 ty_29.h rfl (Mem.pub ((hr4.vis ((x6.vis.trans x8.vis).trans hv)) 0 _ rfl))) ?_
   refine jM 5 rfl rfl ?_
   refine jM 6 rfl rfl ?_
   obtain ⟨b12, o12, he12, hc12⟩ := ints_elem (Ty.mono _ h7 x8.vis) (i := k) (by omega)
   refine jI 7 el_29 rfl rfl rfl he12 ?_
   refine jW 8 ty_2 rfl rfl hc12.vis ?_
   refine jI 9 el_29 rfl rfl rfl rfl ?_
   refine JH.w 10 rfl (fun os' u' hv => q_load1 ty_2.h rfl (Mem.pub (ints_cellI (i := M.nth (M.taken r s player) k) (Ty.mono _ h2 ((x6.vis.trans x8.vis).trans hv)) (by omega)))) ?_
   refine JH.p 11 rfl (p_add rfl rfl (IntWalk.i64_in _ (by omega))) ?_
   refine jA 12 rfl rfl ?_
   refine yd ?_
   refine Js.blockEnd <| Js.region <| Qm rfl <| Qp rfl rfl <| Qa rfl <| JL.nil ?_
   exact zag ⟨k + 1, g + (M.getI s.pits (M.nth (M.taken r s player) k)), rfl, rfl, by exact hS2, zt, zt, zt, rfl⟩ x8
  have hS2 : g + M.gone r s player ((M.taken r s player).drop (k + 1)) = M.gone r s player (M.taken r s player) := by rw [if_pos (by simpa using h11)] at hS1; omega
  refine Js.skip <| Js.blockEnd <| Js.region <| Qm rfl <| Qp rfl rfl <| Qa rfl <| JL.nil ?_
  exact zag ⟨k + 1, g, rfl, rfl, by exact hS2, zt, zt, zt, rfl⟩ x8
 have hg : g = M.gone r s player (M.taken r s player) := by rw [← hS, List.drop_eq_nil_of_le (by have := h9'; omega), M.gone_nil]; omega
 refine zx ?_
 refine zS <| Qm rfl <| Qg rfl rfl <| Qm rfl <| zg (Gd.t1 rfl rfl rfl) (fun hc => p_move rfl) <| zg (Gd.t1 rfl rfl rfl) (fun hc => p_move rfl) <| zg (Gd.t1 rfl rfl rfl) (fun hc => p_move rfl) <| zg (Gd.t1 rfl rfl rfl) (fun hc => p_nilCheck (gh hc rfl)) <| zg (Gd.t1 rfl rfl rfl) (fun hc => p_fieldAddr fld_181_0.h (gh hc rfl)) <| zgq (Gd.t1 rfl rfl rfl) (fun hc => q_load1 ty_29.h (gh hc rfl) (Mem.pub ((hr4.vis (x6.vis.trans x8.vis)) 0 _ rfl))) <| zg (Gd.t1 rfl rfl rfl) (fun hc => p_move rfl) <| zg (Gd.t1 rfl rfl rfl) (fun hc => p_sub rfl (gh hc rfl) (IntWalk.i64_in _ (oh_ hc))) ?_
 refine zgv (Gd.t1 rfl rfl rfl) (fun hc => (opds_3 (gh hc rfl) (gh hc rfl) (gh hc rfl))) (fun hc => (fun w hw => c_spec_l04Side r s.pits (1 - player) (ok_ hw) (ok_ hw) (r0 := (oh_ hc)) (r1 := (oh_ hc)) (r2 := (oh_ hc)) (r3 := (oh_ hc)) (r4 := hao.1))) ?_
 refine zg (Gd.t1 rfl rfl rfl) (fun hc => p_eql (gh hc rfl) (gh hc rfl)) <| Qq (p_pickAnd rfl rfl rfl) <| Qa rfl <| JL.nil ?_
 refine zR (x6.trans x8) ?_
 subst hg; simp [outV, M.slams, eq_comm]
theorem c_spec_l06Pits (r : M.Rul) {v_r : Value} (s : M.Sw) {v_s : Value} (player : Int) {w : World} (h_r : (Ty.ref (cRules r)).ok w v_r) (h_s : (Ty.ref (cSown s)).ok w v_s) (r0 : 2 ≤ r.pits := by exact om_) (r1 : r.pits ≤ 8 := by exact om_) (r2 : player = 0 ∨ player = 1 := by exact om_) (r3 : M.Good r s.pits s.stores 0 := by exact om_) (r4 : -1 ≤ s.last := by exact om_) (r5 : s.last < 2 * r.pits := by exact om_) : Ret Tryz.prog 152 [v_r, v_s, .int .i64 player] w (Ty.ints 2 (M.captured r s player)) := by
 revert v_r; apply opn
 intro b1 o1 hr1
 revert v_s; apply opn
 intro b4 o4 A2 c2 h2 bl2 bh2 A3 c3 h3 bl3 bh3 hr4
 refine enter @Tryz.func152 @Tryz.ntmps152 rfl rfl ?_
 refine zent ?_
 refine zS <| Qa rfl <| zJ <| zS <| Qm rfl <| Qc rfl <| Qf fh rfl <| QC (hr1 8 _ rfl) rfl <| Qe rfl rfl <| Qm rfl <| zg (Gd.t1 rfl rfl rfl) (fun hc => p_move rfl) <| zg (Gd.t1 rfl rfl rfl) (fun hc => p_move rfl) <| zg (Gd.t1 rfl rfl rfl) (fun hc => p_move rfl) <| zgv (Gd.t1 rfl rfl rfl) (fun hc => (opds_3 (gh hc rfl) (gh hc rfl) (gh hc rfl))) (fun hc => (fun w hw => c_spec_l06Slam r s player (ok_ hw) (ok_ hw) (r0 := (oh_ hc)) (r1 := (oh_ hc)) (r2 := (oh_ hc)) (r3 := r3) (r4 := (oh_ hc)) (r5 := (oh_ hc)))) ?_
 refine Qq (p_pickAnd rfl rfl rfl) <| JL.nil ?_
 refine zi (fun h5 h5' => ?_) fun h5 h5' => ?_
 ·
  have hR : M.captured r s player = [] := by unfold M.captured; rw [if_pos (by simpa using h5)]
  have hq0 : [] = M.captured r s player := by rw [hR]
  refine zS <| zbs fun b6 => ?_
  refine Qa rfl <| JL.nil ?_
  exact zro (Up.refl _ _)
 have hR : M.captured r s player = M.taken r s player := by unfold M.captured; rw [if_neg (by simpa using h5)]
 refine Js.skip <| zS <| Qm rfl <| Qm rfl <| Qm rfl <| zcs rfl (fun w hw => c_spec_l06Raw r s player (ok_ hw) (ok_ hw) (r3 := r3)) ?_
 intro A8 c8 bl8 bh8
 have hq0 : (M.taken r s player) = M.captured r s player := by rw [hR]
 refine Qa rfl <| JL.nil ?_
 exact zro (Up.refl _ _)
theorem c_spec_l06Take (r : M.Rul) {v_r : Value} (s : M.Sw) {v_s : Value} (player : Int) {w : World} (h_r : (Ty.ref (cRules r)).ok w v_r) (h_s : (Ty.ref (cSown s)).ok w v_s) (r0 : 2 ≤ r.pits := by exact om_) (r1 : r.pits ≤ 8 := by exact om_) (r2 : player = 0 ∨ player = 1 := by exact om_) (r3 : M.Good r s.pits s.stores 0 := by exact om_) (r4 : -1 ≤ s.last := by exact om_) (r5 : s.last < 2 * r.pits := by exact om_) : Ret Tryz.prog 138 [v_r, v_s, .int .i64 player] w (Ty.agg (cSown (M.take r s player))) := by
 have l1 := r3.lp
 have l2 := r3.ls
 have hlen := M.captured_len (s := s) (player := player) r5 r1
 have hmem : ∀ x ∈ (M.captured r s player), 0 ≤ x ∧ x < s.pits.length := fun x hx => by have := M.captured_mem r5 hx; omega
 have hbs := r3.store player
 have hbi := M.cap_sum (r := r) (s := s) (player := player) r3 r5
 revert v_r; apply opn
 intro b1 o1 hr1
 revert v_s; apply opn
 intro b4 o4 A2 c2 h2 bl2 bh2 A3 c3 h3 bl3 bh3 hr4
 refine enter @Tryz.func138 @Tryz.ntmps138 rfl rfl ?_
 refine zent ?_
 obtain ⟨b5, o5, rfl⟩ := ints_some h2 (by omega)
 obtain ⟨b6, o6, rfl⟩ := ints_some h3 (by omega)
 refine zS <| za zeh fun b7 => zN <| Qm rfl <| Qm rfl <| Qm rfl <| zp rfl (fun w hw => c_spec_l06Pits r s player (ok_ hw) (ok_ hw) (r3 := r3)) ?_
 intro u8 x8 A9 c9 h9 bl9 bh9
 refine Qa rfl <| zJ ?_
 refine zk [1, 2, 6, 7] (fun F U l os u => ∃ (b12 : Nat) (A10 : Option Addr) (c10 : Nat) (A11 : Option Addr) (c11 : Nat), l = F [(8, .pointer (some ⟨b12, 0, none⟩))] ∧ os = [boxO b12 [.slice A10 s.pits.length c10, .slice A11 s.stores.length c11, .int .i64 s.last, .int .i64 s.laps] 181, rowO 2 1 (.slice A11 s.stores.length c11) s.stores.length (ints_ s.stores) [], rowO 2 1 (.slice A10 s.pits.length c10) s.pits.length (ints_ s.pits) []] ++ U [] ∧ (s.pits.length ≤ c10) ∧ (c10 ≤ 9223372036854775807) ∧ (s.stores.length ≤ c11) ∧ (c11 ≤ 9223372036854775807)) ?_ ?_
 ·
  refine zdr [20] ?_
  refine jM 0 rfl rfl ?_
  refine jN 1 rfl rfl ?_
  refine jF 2 fld_181_0 rfl rfl ?_
  refine jW 3 ty_29 rfl rfl (fun hv => (hr4.vis (x8.vis.trans hv)) 0 _ rfl) ?_
  refine jM 5 rfl rfl ?_
  refine jN 6 rfl rfl ?_
  refine jF 7 fld_181_1 rfl rfl ?_
  refine jW 8 ty_29 rfl rfl (fun hv => (hr4.vis (x8.vis.trans hv)) 1 _ rfl) ?_
  refine jM 10 rfl rfl ?_
  refine jN 11 rfl rfl ?_
  refine jF 12 fld_181_2 rfl rfl ?_
  refine jW 13 ty_2 rfl rfl (fun hv => (hr4.vis (x8.vis.trans hv)) 2 _ rfl) ?_
  refine jM 14 rfl rfl ?_
  refine jN 15 rfl rfl ?_
  refine jF 16 fld_181_3 rfl rfl ?_
  refine jW 17 ty_2 rfl rfl (fun hv => (hr4.vis (x8.vis.trans hv)) 3 _ rfl) ?_
  refine y2 4 19 ?_ ?_
  ·
   refine ycs rfl rfl (fun w hw => c_spec_l00Own s.pits (ok_ hw)) ?_
   intro A19 c19 bl19 bh19
   refine y2 9 19 ?_ ?_
   ·
    refine ycs rfl rfl (fun w hw => c_spec_l00Own s.stores (ok_ hw)) ?_
    intro A20 c20 bl20 bh20
    refine JH.p 18 rfl (q_bld) ?_
    refine y1 19 ?_
    refine ya rfl fun b21 => ?_
    refine y1 20 ?_
    refine yst rfl rfl rfl ?_
    refine yd ?_
    exact zm ⟨_, _, _, _, _, rfl, rfl, zt, zt, zt, zt⟩ (Up.refl _ _)
   refine ya rfl fun b22 => ?_
   refine y1 9 ?_
   refine ycs rfl rfl (fun w hw => c_spec_l00Own s.stores (ok_ hw)) ?_
   intro A23 c23 bl23 bh23
   refine JH.p 18 rfl (q_bld) ?_
   refine y1 20 ?_
   refine yst rfl rfl rfl ?_
   refine yd ?_
   refine zh [1, 0, 0, 0] ?_
   exact zm ⟨_, _, _, _, _, rfl, rfl, zt, zt, zt, zt⟩ (Up.refl _ _)
  refine ya rfl fun b24 => ?_
  refine y1 4 ?_
  refine ycs rfl rfl (fun w hw => c_spec_l00Own s.pits (ok_ hw)) ?_
  intro A25 c25 bl25 bh25
  refine y1 9 ?_
  refine ycs rfl rfl (fun w hw => c_spec_l00Own s.stores (ok_ hw)) ?_
  intro A26 c26 bl26 bh26
  refine JH.p 18 rfl (q_bld) ?_
  refine y1 20 ?_
  refine yst rfl rfl rfl ?_
  refine yd ?_
  refine zh [2, 0, 0, 0] ?_
  exact zm ⟨_, _, _, _, _, rfl, rfl, zt, zt, zt, zt⟩ (Up.refl _ _)
 rintro _ _ u18 ⟨b12, A10, c10, A11, c11, rfl, rfl, f18_0, f18_1, f18_2, f18_3⟩ x18
 refine zn ?_
 refine Js.fact (row_some (i := 1) rfl (by omega)) (fun hf27 => ?_)
 obtain ⟨b27, rfl⟩ := hf27
 refine Js.fact (row_some (i := 2) rfl (by omega)) (fun hf28 => ?_)
 obtain ⟨b28, rfl⟩ := hf28
 refine Js.seq ?_
 refine zdr [10] ?_
 refine jF 0 fld_181_1 rfl rfl ?_
 refine jB 1 0 ty_29 rfl rfl rfl rfl ?_
 refine jM 2 rfl rfl ?_
 refine jI 3 el_29 rfl rfl rfl rfl ?_
 refine JH.q 4 rfl (q_load1 ty_2.h rfl (Mem.row (i := 1) rfl (ints_getI (i := player) (by omega)))) ?_
 refine jM 5 rfl rfl ?_
 refine jM 6 rfl rfl ?_
 refine y1 7 ?_
 refine yv rfl rfl (fun w hw => c_spec_l06Sum s (M.captured r s player) (ok_ hw) (ok_ hw) (r2 := hmem) (r3 := r3.pit)) ?_
 refine JH.p 8 rfl (p_add rfl rfl (IntWalk.i64_in _ (by omega))) ?_
 refine jI 9 el_29 rfl rfl rfl rfl ?_
 refine y1 10 ?_
 refine JHo.s rfl (e_storeRow (i := 1) (xs' := ints_ (M.setI s.stores player ((M.getI s.stores player) + (M.isum ((M.captured r s player).map (M.getI s.pits)))))) ty_2.h rfl rfl rfl rfl rfl rfl (ints_lt (i := player.toNat) (by omega)) (ints_setL (i := player.toNat) (by omega))) (.inr rfl) ?_
 rintro _ _ _ ⟨rfl, rfl⟩ _
 refine znh ?_
 refine yd ?_
 refine Js.seq <| zS <| Qa rfl <| JL.nil <| Js.block ?_
 refine zl [6, 7, 8] (fun F U l os u m => ∃ (k : Nat) (ps : List Int), l = F [(9, .int .i64 (k : Int))] ∧ os = U [nO, nO, some (rowO 2 1 (.slice (some ⟨b28, 0, none⟩) s.pits.length c10) s.pits.length (ints_ ps) [])] ∧ (ps = M.zeros ((M.captured r s player).take k) s.pits) ∧ (k ≤ (M.captured r s player).length) ∧ (ps.length = s.pits.length) ∧ m = (M.captured r s player).length - k) ⟨0, s.pits, rfl, rfl, by rfl, zt, by rfl, rfl⟩ ?_
 rintro _ _ u31 _ ⟨k, ps, rfl, rfl, hP, hk, hpl, rfl⟩ x31
 refine zn ?_
 refine Js.seq <| zS <| Qm rfl <| Qm rfl <| Qz rfl <| Ql rfl rfl <| JL.nil ?_
 refine zi (fun h32 h32' => ?_) fun h32 h32' => ?_
 ·
  have hk2 : k < (M.captured r s player).length := by have := h32'; omega
  have hx := hmem _ (M.nth_mem hk2)
  refine Js.skip <| Js.seq <| Js.block ?_
  refine zdr [7] ?_
  refine jF 0 fld_181_0 rfl rfl ?_
  refine jB 1 0 ty_29 rfl rfl rfl rfl ?_
  refine jM 2 rfl rfl ?_
  refine jM 3 rfl rfl ?_
  obtain ⟨b33, o33, he33, hc33⟩ := ints_elem (Ty.mono _ h9 (x18.vis.trans x31.vis)) (i := k) (by omega)
  refine jI 4 el_29 rfl rfl rfl he33 ?_
  refine jW 5 ty_2 rfl rfl hc33.vis ?_
  refine jI 6 el_29 rfl rfl rfl rfl ?_
  refine y1 7 ?_
  refine JHo.s rfl (e_storeRow (i := 2) (xs' := ints_ (M.setI ps (M.nth (M.captured r s player) k) 0)) ty_2.h rfl rfl rfl rfl rfl rfl (ints_lt (i := (M.nth (M.captured r s player) k).toNat) (by omega)) (ints_setL (i := (M.nth (M.captured r s player) k).toNat) (by omega))) (.inr rfl) ?_
  rintro _ _ _ ⟨rfl, rfl⟩ _
  refine znh ?_
  refine yd ?_
  refine Js.blockEnd <| Js.region <| Qm rfl <| Qp rfl rfl <| Qa rfl <| JL.nil ?_
  exact zag ⟨k + 1, M.setI ps (M.nth (M.captured r s player) k) 0, rfl, rfl, by rw [hP]; exact (M.zeros_step hk2 _).symm, zt, by rw [M.setI_length]; exact hpl, rfl⟩ x31
 have hR : ps = (M.take r s player).pits := by rw [hP, List.take_of_length_le (by have := h32'; omega)]; rfl
 refine zx ?_
 have hq0 : ps = (M.take r s player).pits := by first | exact hR | rfl
 have hq1 : (M.setI s.stores player ((M.getI s.stores player) + (M.isum ((M.captured r s player).map (M.getI s.pits))))) = (M.take r s player).stores := by first | exact hR | rfl
 have hq2 : s.last = (M.take r s player).last := by first | exact hR | rfl
 have hq3 : s.laps = (M.take r s player).laps := by first | exact hR | rfl
 refine zS <| Q9 0 rfl rfl ?_
 refine zw 3 rfl rfl rfl ?_
 refine JL.nil ?_
 exact zro ((x8.trans x18).trans x31)
theorem c_spec_l07Feed (r : M.Rul) {v_r : Value} (p : M.Pos) {v_p : Value} {w : World} (h_r : (Ty.ref (cRules r)).ok w v_r) (h_p : (Ty.ref (cPosition p)).ok w v_p) (r0 : M.okP r p = true := by exact om_) : RetV Tryz.prog 139 [v_r, v_p] w (.bool (M.mustFeed r p)) := by
 obtain ⟨g1, g2, g3, g4, g5, g6, g7⟩ := M.okP_bd r0
 revert v_r; apply opn
 intro b1 o1 hr1
 revert v_p; apply opn
 intro b4 o4 A2 c2 h2 bl2 bh2 A3 c3 h3 bl3 bh3 hr4
 refine enter @Tryz.func139 @Tryz.ntmps139 rfl rfl ?_
 refine zent ?_
 refine zS <| Qa rfl <| zJ ?_
 refine zdr [] ?_
 refine jM 0 rfl rfl ?_
 refine jN 1 rfl rfl ?_
 refine jF 2 fld_25_5 rfl rfl ?_
 refine jW 3 ty_4 rfl rfl (fun hv => (hr1.vis hv) 5 _ rfl) ?_
 refine jM 4 rfl rfl ?_
 refine JH.pg 5 rfl (Gd.t1 rfl rfl rfl) (fun hc => p_move rfl) ?_
 refine JH.pg 6 rfl (Gd.t1 rfl rfl rfl) (fun hc => p_move rfl) ?_
 refine JH.pg 7 rfl (Gd.t1 rfl rfl rfl) (fun hc => p_nilCheck (gvt rfl hc)) ?_
 refine JH.pg 8 rfl (Gd.t1 rfl rfl rfl) (fun hc => p_fieldAddr fld_31_0.h (gvt rfl hc)) ?_
 refine JH.wg 9 rfl (Gd.t1 rfl rfl rfl) (fun hc os' u' hv => q_load1 ty_29.h (gvt rfl hc) (Mem.pub ((hr4.vis hv) 0 _ rfl))) ?_
 refine JH.pg 10 rfl (Gd.t1 rfl rfl rfl) (fun hc => p_move rfl) ?_
 refine JH.pg 11 rfl (Gd.t1 rfl rfl rfl) (fun hc => p_nilCheck (gvt rfl hc)) ?_
 refine JH.pg 12 rfl (Gd.t1 rfl rfl rfl) (fun hc => p_fieldAddr fld_31_2.h (gvt rfl hc)) ?_
 refine JH.wg 13 rfl (Gd.t1 rfl rfl rfl) (fun hc os' u' hv => q_load1 ty_2.h (gvt rfl hc) (Mem.pub ((hr4.vis hv) 2 _ rfl))) ?_
 refine JH.pg 14 rfl (Gd.t1 rfl rfl rfl) (fun hc => p_sub rfl (gvt rfl hc) (IntWalk.i64_in _ (by omega))) ?_
 refine y1 15 ?_
 refine JHo.ge rfl (Gd.t1 rfl rfl rfl) (fun hc => e_callV fn_132.h (opds_3 (gvt rfl hc) (gvt rfl hc) (gvt rfl hc)) (fun w hw => c_spec_l04Side r p.pits (1 - p.player) (ok_ hw) (ok_ hw) (r4 := g5))) ?_
 refine JH.pg 16 rfl (Gd.t1 rfl rfl rfl) (fun hc => p_eql (gvt rfl hc) rfl) ?_
 refine JH.p 17 rfl (p_pickAnd rfl rfl rfl) ?_
 refine jA 18 rfl rfl ?_
 refine yd ?_
 refine zR (Up.refl _ _) ?_
 simp [outV, M.mustFeed]
theorem c_spec_l07Make (r : M.Rul) {v_r : Value} (p : M.Pos) {v_p : Value} (move : Int) {w : World} (h_r : (Ty.ref (cRules r)).ok w v_r) (h_p : (Ty.ref (cPosition p)).ok w v_p) (r0 : p.pits.length ≤ 4194304 := by exact om_) (r1 : p.stores.length ≤ 4194304 := by exact om_) : Ret Tryz.prog 110 [v_r, v_p, .int .i64 move] w (Ty.tup [Ty.agg (cResult ((M.make r p move).1)), Ty.int ((M.make r p move).2)]) := by
 revert v_r; apply opn
 intro b1 o1 hr1
 revert v_p; apply opn
 intro b4 o4 A2 c2 h2 bl2 bh2 A3 c3 h3 bl3 bh3 hr4
 refine enter @Tryz.func110 @Tryz.ntmps110 rfl rfl ?_
 refine zent ?_
 refine zS <| za zeh fun b5 => Qa rfl <| zN <| Qm rfl <| Qm rfl <| Qm rfl <| zp rfl (fun w hw => c_spec_l05Move r p move (ok_ hw) (ok_ hw)) ?_
 intro u6 x6 A7 c7 h7 bl7 bh7 A8 c8 h8 bl8 bh8 A9 c9 h9 bl9 bh9
 refine Qm rfl <| Qx rfl rfl <| Qx rfl rfl <| Qx rfl rfl <| za zeh fun b10 => zw 0 rfl rfl rfl ?_
 refine Qa rfl <| Qa rfl <| zJ <| zS <| Qm rfl <| Qd rfl rfl <| JL.nil ?_
 refine zi (fun h11 h11' => ?_) fun h11 h11' => ?_
 ·
  have hD := M.make_sow (r := r) (p := p) (move := move) (by simpa using h11)
  have hq0 : 0 = ((M.make r p move).1).move := rp_ hD
  have hq1 : 0 = ((M.make r p move).1).gain := rp_ hD
  have hq2 : false = ((M.make r p move).1).again := rp_ hD
  have hq3 : [] = (((M.make r p move).1).next).pits := rp_ hD
  have hq4 : [] = (((M.make r p move).1).next).stores := rp_ hD
  have hq5 : 0 = (((M.make r p move).1).next).player := rp_ hD
  have hq6 : ((M.sowMove r p move).1) = (M.make r p move).2 := rp_ hD
  refine zS <| Qb ?_
  refine Qm rfl <| zw 1 rfl rfl rfl ?_
  refine Qa rfl <| JL.nil ?_
  exact zro x6
 have hz : (M.sowMove r p move).1 = 0 := by simpa using h11
 obtain ⟨hok, m0, m1, hG, q0, q1, hsum⟩ := M.sowMove_ok hz
 obtain ⟨g1, g2, g3, g4, g5, g6, g7⟩ := M.okP_bd hok
 have hG2 := (M.take_keeps g7 hG q1).1
 have hao := M.Good.ok hG2
 have hl2 := hG2.lp
 have hl3 := hG2.ls
 have hs1 := hG2.store p.player
 have hs2 := (M.Good.of_ok hok).store p.player
 simp only [M.getI] at hs2
 refine Js.skip <| Js.seq <| zS <| Qm rfl <| Qc rfl <| Qf fh rfl <| QC ((hr1.vis x6.vis) 8 _ rfl) rfl <| Qe rfl rfl <| Qm rfl <| zg (Gd.t1 rfl rfl rfl) (fun hc => p_move rfl) <| zg (Gd.t1 rfl rfl rfl) (fun hc => p_move rfl) <| zg (Gd.t1 rfl rfl rfl) (fun hc => p_nilCheck (gh hc rfl)) <| zg (Gd.t1 rfl rfl rfl) (fun hc => p_fieldAddr fld_31_2.h (gh hc rfl)) <| zgq (Gd.t1 rfl rfl rfl) (fun hc => q_load1 ty_2.h (gh hc rfl) (Mem.pub ((hr4.vis x6.vis) 2 _ rfl))) ?_
 refine zgv (Gd.t1 rfl rfl rfl) (fun hc => (opds_3 (gh hc rfl) rfl (gh hc rfl))) (fun hc => (fun w hw => c_spec_l06Slam r ((M.sowMove r p move).2.1) p.player (ok_ hw) (ok_ hw) (r0 := (oh_ hc)) (r1 := (oh_ hc)) (r2 := (oh_ hc)) (r3 := hG) (r4 := (oh_ hc)) (r5 := (oh_ hc)))) ?_
 refine Qq (p_pickAnd rfl rfl rfl) <| JL.nil ?_
 refine zi (fun h12 h12' => ?_) fun h12 h12' => ?_
 ·
  have hD := M.make_slam hz (by simpa using h12)
  have hq0 : 0 = ((M.make r p move).1).move := rp_ hD
  have hq1 : 0 = ((M.make r p move).1).gain := rp_ hD
  have hq2 : false = ((M.make r p move).1).again := rp_ hD
  have hq3 : [] = (((M.make r p move).1).next).pits := rp_ hD
  have hq4 : [] = (((M.make r p move).1).next).stores := rp_ hD
  have hq5 : 0 = (((M.make r p move).1).next).player := rp_ hD
  have hq6 : 9 = (M.make r p move).2 := rp_ hD
  refine zS <| Qb ?_
  refine zw 1 rfl rfl rfl ?_
  refine Qa rfl <| JL.nil ?_
  exact zro x6
 have hns : ¬ (r.slam = 1 ∧ M.slams r (M.sowMove r p move).2.1 p.player = true) := by simpa using h12
 refine Js.skip <| zS <| Qm rfl <| Qm rfl <| Qc rfl <| Qf fh rfl <| QC ((hr4.vis x6.vis) 2 _ rfl) rfl <| zc rfl (fun w hw => c_spec_l06Take r ((M.sowMove r p move).2.1) p.player (ok_ hw) (ok_ hw) (r3 := hG)) ?_
 intro A14 c14 bl14 bh14 A15 c15 bl15 bh15
 refine za zeh fun b16 => zw 0 rfl rfl rfl ?_
 refine zJ <| Js.seq ?_
 refine zdr [] ?_
 refine jM 0 rfl rfl ?_
 refine jM 1 rfl rfl ?_
 refine y1 2 ?_
 refine yv rfl rfl (fun w hw => c_spec_l07Feed r p (ok_ hw) (ok_ hw) (r0 := hok)) ?_
 refine jM 3 rfl rfl ?_
 refine JH.pg 4 rfl (Gd.t1 rfl rfl rfl) (fun hc => p_move rfl) ?_
 refine JH.pg 5 rfl (Gd.t1 rfl rfl rfl) (fun hc => p_fieldAddr fld_181_0.h rfl) ?_
 refine JH.qg 6 rfl (Gd.t1 rfl rfl rfl) (fun hc => q_load1 ty_29.h (gvt rfl hc) (Mem.box (i := 0) rfl rfl)) ?_
 refine JH.pg 7 rfl (Gd.t1 rfl rfl rfl) (fun hc => p_move rfl) ?_
 refine JH.pg 8 rfl (Gd.t1 rfl rfl rfl) (fun hc => p_nilCheck (gvt rfl hc)) ?_
 refine JH.pg 9 rfl (Gd.t1 rfl rfl rfl) (fun hc => p_fieldAddr fld_31_2.h (gvt rfl hc)) ?_
 refine JH.wg 10 rfl (Gd.t1 rfl rfl rfl) (fun hc os' u' hv => q_load1 ty_2.h (gvt rfl hc) (Mem.pub ((hr4.vis (x6.vis.trans hv)) 2 _ rfl))) ?_
 refine JH.pg 11 rfl (Gd.t1 rfl rfl rfl) (fun hc => p_sub rfl (gvt rfl hc) (IntWalk.i64_in _ (by omega))) ?_
 refine y1 12 ?_
 refine JHo.ge rfl (Gd.t1 rfl rfl rfl) (fun hc => e_callV fn_132.h (opds_3 (gvt rfl hc) (gvt rfl hc) (gvt rfl hc)) (fun w hw => c_spec_l04Side r ((M.take r ((M.sowMove r p move).2.1) p.player).pits) (1 - p.player) (ok_ hw) (ok_ hw) (r4 := hao.1))) ?_
 refine JH.pg 13 rfl (Gd.t1 rfl rfl rfl) (fun hc => p_eql (gvt rfl hc) rfl) ?_
 refine JH.p 14 rfl (p_pickAnd rfl rfl rfl) ?_
 refine yd ?_
 refine zi (fun h17 h17' => ?_) fun h17 h17' => ?_
 ·
  have hD := M.make_feed hz hns (by simpa using h17)
  have hq0 : 0 = ((M.make r p move).1).move := rp_ hD
  have hq1 : 0 = ((M.make r p move).1).gain := rp_ hD
  have hq2 : false = ((M.make r p move).1).again := rp_ hD
  have hq3 : [] = (((M.make r p move).1).next).pits := rp_ hD
  have hq4 : [] = (((M.make r p move).1).next).stores := rp_ hD
  have hq5 : 0 = (((M.make r p move).1).next).player := rp_ hD
  have hq6 : 9 = (M.make r p move).2 := rp_ hD
  refine zS <| Qb ?_
  refine zw 4 rfl rfl rfl ?_
  refine Qa rfl <| JL.nil ?_
  exact zro x6
 have hD := M.make_go hz hns (by simpa using h17)
 refine Js.skip <| Js.seq ?_
 refine zk [1, 6, 11] (fun F U l os u => ∃ (b21 b19 : Nat), l = F [(12, .pointer (some ⟨b21, 0, none⟩))] ∧ os = [boxO b21 [.int .i64 move, .int .i64 ((M.getI ((M.take r ((M.sowMove r p move).2.1) p.player).stores) p.player) - (M.nth p.stores p.player.toNat)), .bool (r.again && (decide ((M.take r ((M.sowMove r p move).2.1) p.player).last = (-1)))), .slice none 0 0, .slice none 0 0, .int .i64 0] 114] ++ U [some (boxO b16 [.slice A14 (((M.take r ((M.sowMove r p move).2.1) p.player).pits).length) c14, .slice (some ⟨b19, 0, none⟩) (((M.take r ((M.sowMove r p move).2.1) p.player).stores).length) c15, .int .i64 ((M.take r ((M.sowMove r p move).2.1) p.player).last), .int .i64 ((M.take r ((M.sowMove r p move).2.1) p.player).laps)] 181), some (rowO 2 1 (.slice (some ⟨b19, 0, none⟩) (((M.take r ((M.sowMove r p move).2.1) p.player).stores).length) c15) (((M.take r ((M.sowMove r p move).2.1) p.player).stores).length) (ints_ ((M.take r ((M.sowMove r p move).2.1) p.player).stores)) [])]) ?_ ?_
 ·
  refine zdr [31] ?_
  refine jM 0 rfl rfl ?_
  refine jF 1 fld_181_1 rfl rfl ?_
  refine jB 2 0 ty_29 rfl rfl rfl rfl ?_
  refine jM 3 rfl rfl ?_
  refine jN 4 rfl rfl ?_
  refine jF 5 fld_31_2 rfl rfl ?_
  refine jW 6 ty_2 rfl rfl (fun hv => (hr4.vis (x6.vis.trans hv)) 2 _ rfl) ?_
  refine JH.fact (row_some (i := 1) rfl (by omega)) (fun hf25 => ?_)
  obtain ⟨b25, rfl⟩ := hf25
  refine jI 7 el_29 rfl rfl rfl rfl ?_
  refine JH.q 8 rfl (q_load1 ty_2.h rfl (Mem.row (i := 1) rfl (ints_getI (i := p.player) (by omega)))) ?_
  refine jM 9 rfl rfl ?_
  refine jN 10 rfl rfl ?_
  refine jF 11 fld_31_1 rfl rfl ?_
  refine jW 12 ty_29 rfl rfl (fun hv => (hr4.vis (x6.vis.trans hv)) 1 _ rfl) ?_
  refine jM 13 rfl rfl ?_
  refine jN 14 rfl rfl ?_
  refine jF 15 fld_31_2 rfl rfl ?_
  refine jW 16 ty_2 rfl rfl (fun hv => (hr4.vis (x6.vis.trans hv)) 2 _ rfl) ?_
  obtain ⟨b26, o26, he26, hc26⟩ := ints_elem (Ty.mono _ h3 x6.vis) (i := p.player.toNat) (by omega)
  refine jI 17 el_29 rfl rfl rfl he26 ?_
  refine jW 18 ty_2 rfl rfl hc26.vis ?_
  refine JH.p 19 rfl (p_sub rfl rfl (IntWalk.i64_in _ (by omega))) ?_
  refine jM 20 rfl rfl ?_
  refine jN 21 rfl rfl ?_
  refine jF 22 fld_25_6 rfl rfl ?_
  refine jW 23 ty_4 rfl rfl (fun hv => (hr1.vis (x6.vis.trans hv)) 6 _ rfl) ?_
  refine jM 24 rfl rfl ?_
  refine JH.pg 25 rfl (Gd.t1 rfl rfl rfl) (fun hc => p_fieldAddr fld_181_2.h rfl) ?_
  refine y2 26 30 ?_ ?_
  ·
   refine JHo.qg rfl (Gd.t1 rfl rfl rfl) (fun hc => q_load1 ty_2.h (gvt rfl hc) (Mem.box (i := 0) rfl rfl)) ?_
   refine JH.pg 27 rfl (Gd.t1 rfl rfl rfl) (fun hc => p_eql (gvt rfl hc) rfl) ?_
   refine JH.p 28 rfl (p_pickAnd rfl rfl rfl) ?_
   refine JH.p 29 rfl (q_bld) ?_
   refine y1 30 ?_
   refine ya rfl fun b27 => ?_
   refine y1 31 ?_
   refine yst rfl rfl rfl ?_
   refine yd ?_
   exact zm ⟨_, _, rfl, rfl⟩ (Up.refl _ _)
  refine ya rfl fun b28 => ?_
  refine y1 26 ?_
  refine JHo.qg rfl (Gd.t1 rfl rfl rfl) (fun hc => q_load1 ty_2.h (gvt rfl hc) (Mem.box (i := 1) rfl rfl)) ?_
  refine JH.pg 27 rfl (Gd.t1 rfl rfl rfl) (fun hc => p_eql (gvt rfl hc) rfl) ?_
  refine JH.p 28 rfl (p_pickAnd rfl rfl rfl) ?_
  refine JH.p 29 rfl (q_bld) ?_
  refine y1 31 ?_
  refine yst rfl rfl rfl ?_
  refine yd ?_
  exact zm ⟨_, _, rfl, rfl⟩ (Up.refl _ _)
 rintro _ _ u23 ⟨b21, b19, rfl, rfl⟩ x23
 refine zn ?_
 refine Js.seq ?_
 refine zdr [11] ?_
 refine jF 0 fld_181_0 rfl rfl ?_
 refine jB 1 1 ty_29 rfl rfl rfl rfl ?_
 refine jF 2 fld_181_1 rfl rfl ?_
 refine jB 3 1 ty_29 rfl rfl rfl rfl ?_
 refine jM 4 rfl rfl ?_
 refine jN 5 rfl rfl ?_
 refine jF 6 fld_31_2 rfl rfl ?_
 refine JH.w 7 rfl (fun os' u' hv => q_load1 ty_2.h rfl (Mem.pub ((hr4.vis ((x6.vis.trans x23.vis).trans hv)) 2 _ rfl))) ?_
 refine JH.p 8 rfl (p_sub rfl rfl (IntWalk.i64_in _ (by omega))) ?_
 refine JH.p 9 rfl (q_bld) ?_
 refine jF 10 fld_114_3 rfl rfl ?_
 refine y1 11 ?_
 refine yst rfl rfl rfl ?_
 refine yd ?_
 refine Js.seq <| zS <| Qf fh rfl <| Q0 0 rfl rfl rfl <| JL.nil ?_
 refine zi (fun h29 h29' => ?_) fun h29 h29' => ?_
 ·
  unfold M.resOf at hD
  rw [if_pos h29] at hD
  have hq0 : move = ((M.make r p move).1).move := rp_ hD
  have hq1 : ((M.getI ((M.take r ((M.sowMove r p move).2.1) p.player).stores) p.player) - (M.nth p.stores p.player.toNat)) = ((M.make r p move).1).gain := rp_ hD
  have hq2 : (r.again && (decide ((M.take r ((M.sowMove r p move).2.1) p.player).last = (-1)))) = ((M.make r p move).1).again := rp_ hD
  have hq3 : ((M.take r ((M.sowMove r p move).2.1) p.player).pits) = (((M.make r p move).1).next).pits := rp_ hD
  have hq4 : ((M.take r ((M.sowMove r p move).2.1) p.player).stores) = (((M.make r p move).1).next).stores := rp_ hD
  have hq5 : p.player = (((M.make r p move).1).next).player := rp_ hD
  have hq6 : 0 = (M.make r p move).2 := rp_ hD
  refine Js.region <| Qm rfl <| Qc rfl <| Qf fh rfl <| QC ((hr4.vis (x6.vis.trans x23.vis)) 2 _ rfl) rfl <| Qf fh rfl <| Qf fh rfl <| zw 0 rfl rfl rfl ?_
  refine zN <| Q9 0 rfl rfl ?_
  refine zw 5 rfl rfl rfl ?_
  refine Qa rfl <| JL.nil ?_
  exact zro (x6.trans x23)
 unfold M.resOf at hD
 rw [if_neg (by simpa using h29)] at hD
 have hq0 : move = ((M.make r p move).1).move := rp_ hD
 have hq1 : ((M.getI ((M.take r ((M.sowMove r p move).2.1) p.player).stores) p.player) - (M.nth p.stores p.player.toNat)) = ((M.make r p move).1).gain := rp_ hD
 have hq2 : (r.again && (decide ((M.take r ((M.sowMove r p move).2.1) p.player).last = (-1)))) = ((M.make r p move).1).again := rp_ hD
 have hq3 : ((M.take r ((M.sowMove r p move).2.1) p.player).pits) = (((M.make r p move).1).next).pits := rp_ hD
 have hq4 : ((M.take r ((M.sowMove r p move).2.1) p.player).stores) = (((M.make r p move).1).next).stores := rp_ hD
 have hq5 : (1 - p.player) = (((M.make r p move).1).next).player := rp_ hD
 have hq6 : 0 = (M.make r p move).2 := rp_ hD
 refine Js.skip <| zS <| Q9 0 rfl rfl ?_
 refine zw 5 rfl rfl rfl ?_
 refine Qa rfl <| JL.nil ?_
 exact zro (x6.trans x23)
theorem c_spec_l07All (r : M.Rul) {v_r : Value} (p : M.Pos) {v_p : Value} {w : World} (h_r : (Ty.ref (cRules r)).ok w v_r) (h_p : (Ty.ref (cPosition p)).ok w v_p) (r0 : M.okP r p = true := by exact om_) : Ret Tryz.prog 58 [v_r, v_p] w (Ty.sl 114 6 (M.results r p).length (lResult (M.results r p))) := by
 obtain ⟨g1, g2, g3, g4, g5, g6, g7⟩ := M.okP_bd r0
 revert v_r; apply opn
 intro b1 o1 hr1
 revert v_p; apply opn
 intro b4 o4 A2 c2 h2 bl2 bh2 A3 c3 h3 bl3 bh3 hr4
 refine enter @Tryz.func58 @Tryz.ntmps58 rfl rfl ?_
 refine zent ?_
 refine zS <| Qa rfl <| zN <| zbs fun b5 => ?_
 refine Qa rfl <| zJ <| zS <| Qa rfl <| JL.nil <| Js.block ?_
 refine Js.vals (Ts := lResult []) (vs := []) (fun w => rfl) ?_
 refine zl [0, 1] (fun F U l os u m => ∃ (k : Nat) (acc : List M.Res) (A7_5 : Option Addr) (c7_5 : Nat) (g7_5 : List Nat) (vs7_5 : List Value) (fl7_5 : List Nat), l = F [(5, .slice A7_5 acc.length c7_5), (6, .int .i64 (k : Int))] ∧ os = U [some (ownC (lResult acc) vs7_5 fl7_5), some (rowO 114 6 (.slice A7_5 acc.length c7_5) acc.length vs7_5 g7_5)] ∧ (acc = M.resultsTo r p k) ∧ (k ≤ r.pits) ∧ (acc.length ≤ c7_5) ∧ (c7_5 ≤ 9223372036854775807) ∧ m = (r.pits - k).toNat) ⟨0, [], _, _, _, _, _, rfl, rfl, by rfl, zt, zu, zu, rfl⟩ ?_
 rintro _ _ u7 _ ⟨k, acc, A7_5, c7_5, g7_5, vs7_5, fl7_5, rfl, rfl, hacc, hk, f7_2, f7_3, rfl⟩ x7
 refine zn ?_
 have hlen := M.resultsTo_len (r := r) (p := p) k
 have hlacc : acc.length ≤ k := by rw [hacc]; exact hlen
 refine Js.seq <| zS <| Qm rfl <| Qm rfl <| Qc rfl <| Qf fh rfl <| QC ((hr1.vis x7.vis) 0 _ rfl) rfl <| Ql rfl rfl <| JL.nil ?_
 refine zi (fun h8 h8' => ?_) fun h8 h8' => ?_
 ·
  refine Js.skip <| Js.seq <| Js.block <| zS <| Qm rfl <| Qm rfl <| Qm rfl <| zc rfl (fun w hw => c_spec_l07Make r p (k : Int) (ok_ hw) (ok_ hw)) ?_
  intro A11 c11 bl11 bh11 A12 c12 bl12 bh12
  refine Qm rfl <| Qx rfl rfl <| Qx rfl rfl <| za zeh fun b13 => zw 0 rfl rfl rfl ?_
  refine Qa rfl <| zN <| Qm rfl <| Qe rfl rfl <| JL.nil ?_
  refine zi (fun h14 h14' => ?_) fun h14 h14' => ?_
  ·
   have hacc2 := (M.resultsTo_yes2 (r := r) (p := p) (k := k) (by simpa using h14)).symm
   refine Js.region <| Qm rfl <| Q9 0 rfl rfl ?_
   refine zbs fun b15 => ?_
   refine JL.e (e_append (i := 5) (n' := (acc ++ [((M.make r p (k : Int)).1)]).length) (vs' := vs7_5 ++ [.int .i64 (((M.make r p (k : Int)).1).move), .int .i64 (((M.make r p (k : Int)).1).gain), .bool (((M.make r p (k : Int)).1).again), .slice A11 (((((M.make r p (k : Int)).1).next).pits).length) c11, .slice A12 (((((M.make r p (k : Int)).1).next).stores).length) c12, .int .i64 ((((M.make r p (k : Int)).1).next).player)]) el_111 rfl rfl rfl rfl (src_row (i := 0) und_111 rfl rfl) (by omega) (by omega) ln2_ (rfl)) ?_
   rintro v17 _ _ ⟨⟨g18, rfl⟩, rfl⟩ _
   refine JL.fact (row_form' (i := 5) rfl) (fun hf19 => ?_)
   obtain ⟨A19, c19, rfl, bl19, bh19⟩ := hf19
   refine znl ?_
   refine Qa rfl <| JL.nil ?_
   refine Js.pack2 (i := 3) (j := 2) (cResult ((M.make r p (k : Int)).1)) [.int .i64 (((M.make r p (k : Int)).1).move), .int .i64 (((M.make r p (k : Int)).1).gain), .bool (((M.make r p (k : Int)).1).again), .slice A11 (((((M.make r p (k : Int)).1).next).pits).length) c11, .slice A12 (((((M.make r p (k : Int)).1).next).stores).length) c12, .int .i64 ((((M.make r p (k : Int)).1).next).player)] rfl rfl (fun w h1 h2 => pack_Result (ints_row h1 rfl) (ints_row h2 rfl)) (fun f20 => ?_)
   refine Js.joinL (i := 3) (j := 0) (Vs := lResult (acc ++ [((M.make r p (k : Int)).1)])) rfl rfl (lResult_snoc _ _) (fun f21 => ?_)
   refine zn ?_
   refine Js.blockEnd <| Js.region <| Qm rfl <| Qp rfl rfl <| Qa rfl <| JL.nil ?_
   refine zd [0, 2] rfl fun u22 x22 => ?_
   exact zag ⟨k + 1, acc ++ [((M.make r p (k : Int)).1)], _, _, _, _, _, rfl, rfl, by rw [hacc]; exact hacc2, zt, zu, zu, rfl⟩ (x7.trans x22)
  have hacc2 := (M.resultsTo_no2 (r := r) (p := p) (k := k) (by simpa using h14)).symm
  refine Js.skip <| Js.blockEnd <| Js.region <| Qm rfl <| Qp rfl rfl <| Qa rfl <| JL.nil ?_
  refine zd [3, 3] rfl fun u23 x23 => ?_
  exact zag ⟨k + 1, acc, _, _, _, _, _, rfl, rfl, by rw [hacc]; exact hacc2, zt, zu, zu, rfl⟩ (x7.trans x23)
 have hR : acc = M.results r p := by rw [hacc]; unfold M.results; rw [show k = r.pits.toNat by have := h8'; omega]
 refine zx ?_
 have hq0 : acc = M.results r p := by exact hR
 refine zS <| Qm rfl <| Qa rfl <| JL.nil ?_
 exact zro x7
theorem c_spec_l15End (r : M.Rul) {v_r : Value} (p : M.Pos) {v_p : Value} {w : World} (h_r : (Ty.ref (cRules r)).ok w v_r) (h_p : (Ty.ref (cPosition p)).ok w v_p) (r0 : M.okP r p = true := by exact om_) : RetV Tryz.prog 98 [v_r, v_p] w (.int .i64 (M.endV r p)) := by
 obtain ⟨g1, g2, g3, g4, g5, g6, g7⟩ := M.okP_bd r0
 have g8 := M.results_8 r0
 have b1 := M.side_bd g5 g2 p.player
 have b2 := M.side_bd g5 g2 (1 - p.player)
 revert v_r; apply opn
 intro b1 o1 hr1
 revert v_p; apply opn
 intro b4 o4 A2 c2 h2 bl2 bh2 A3 c3 h3 bl3 bh3 hr4
 refine enter @Tryz.func98 @Tryz.ntmps98 rfl rfl ?_
 refine zent ?_
 refine zS <| Qa rfl <| zJ ?_
 refine zdr [] ?_
 refine jM 0 rfl rfl ?_
 refine jM 1 rfl rfl ?_
 refine jN 2 rfl rfl ?_
 refine jF 3 fld_31_0 rfl rfl ?_
 refine jW 4 ty_29 rfl rfl (fun hv => (hr4.vis hv) 0 _ rfl) ?_
 refine jM 5 rfl rfl ?_
 refine jN 6 rfl rfl ?_
 refine jF 7 fld_31_2 rfl rfl ?_
 refine jW 8 ty_2 rfl rfl (fun hv => (hr4.vis hv) 2 _ rfl) ?_
 refine jM 10 rfl rfl ?_
 refine jM 11 rfl rfl ?_
 refine jN 12 rfl rfl ?_
 refine jF 13 fld_31_0 rfl rfl ?_
 refine jW 14 ty_29 rfl rfl (fun hv => (hr4.vis hv) 0 _ rfl) ?_
 refine jM 15 rfl rfl ?_
 refine jN 16 rfl rfl ?_
 refine jF 17 fld_31_2 rfl rfl ?_
 refine jW 18 ty_2 rfl rfl (fun hv => (hr4.vis hv) 2 _ rfl) ?_
 refine JH.p 19 rfl (p_sub rfl rfl (IntWalk.i64_in _ (by omega))) ?_
 refine y1 9 ?_
 refine yv rfl rfl (fun w hw => c_spec_l04Side r p.pits p.player (ok_ hw) (ok_ hw) (r4 := g5)) ?_
 refine y1 20 ?_
 refine yv rfl rfl (fun w hw => c_spec_l04Side r p.pits (1 - p.player) (ok_ hw) (ok_ hw) (r4 := g5)) ?_
 refine JH.p 21 rfl (p_sub rfl rfl (IntWalk.i64_in _ (by omega))) ?_
 refine jA 22 rfl rfl ?_
 refine yd ?_
 refine zR (Up.refl _ _) ?_
 rfl
def S_spec_l15S_value (N : Nat) : Prop := ∀ (s_r : M.Rul) (s_size : Int) (bs_0 : Nat) (os_0 : Nat) (p : M.Pos) (v_p : Value) (depth : Int) (bs : Nat) (w : World) (hb : Bw w [boxO bs [.pointer (some ⟨bs_0, os_0, none⟩), .int .i64 s_size] 150]) (hps_0 : RowAt (offW w (([boxO bs [.pointer (some ⟨bs_0, os_0, none⟩), .int .i64 s_size] 150] : List Own).flatMap (·.fp))) bs_0 os_0 [.int .i64 s_r.pits, .int .i64 s_r.seeds, .bool s_r.stores, .bool s_r.skip, .bool s_r.relay, .bool s_r.feed, .bool s_r.again, .int .i64 s_r.capture, .int .i64 s_r.slam]) (h_p : (Ty.ref (cPosition p)).ok (offW w (([boxO bs [.pointer (some ⟨bs_0, os_0, none⟩), .int .i64 s_size] 150] : List Own).flatMap (·.fp))) v_p) (r0 : M.okP s_r p = true) (r1 : 0 ≤ depth) (r2 : depth ≤ 8) (r3 : 0 ≤ s_size) (r4 : s_size ≤ 100000) (_ : depth.toNat = N), RetB Tryz.prog 96 [.pointer (some ⟨bs, 0, none⟩), v_p, .int .i64 depth] w [boxO bs [.pointer (some ⟨bs_0, os_0, none⟩), .int .i64 s_size] 150] (fun v bs' => v = .int .i64 ((M.sv s_r depth.toNat p s_size).1) ∧ bs' = [boxO bs [.pointer (some ⟨bs_0, os_0, none⟩), .int .i64 ((M.sv s_r depth.toNat p s_size).2)] 150])
theorem c_spec_l15S_option_ (N : Nat) (ih : ∀ m, m < N → S_spec_l15S_value m) (s_r : M.Rul) (s_size : Int) (bs_0 : Nat) (os_0 : Nat) (x : M.Res) (v_x : Value) (depth : Int) (bs : Nat) (w : World) (hb : Bw w [boxO bs [.pointer (some ⟨bs_0, os_0, none⟩), .int .i64 s_size] 150]) (hps_0 : RowAt (offW w (([boxO bs [.pointer (some ⟨bs_0, os_0, none⟩), .int .i64 s_size] 150] : List Own).flatMap (·.fp))) bs_0 os_0 [.int .i64 s_r.pits, .int .i64 s_r.seeds, .bool s_r.stores, .bool s_r.skip, .bool s_r.relay, .bool s_r.feed, .bool s_r.again, .int .i64 s_r.capture, .int .i64 s_r.slam]) (h_x : (Ty.ref (cResult x)).ok (offW w (([boxO bs [.pointer (some ⟨bs_0, os_0, none⟩), .int .i64 s_size] 150] : List Own).flatMap (·.fp))) v_x) (r0 : M.okP s_r x.next = true) (r1 : 1 ≤ depth) (r2 : depth ≤ 8) (r3 : 0 ≤ s_size) (r4 : s_size ≤ 100000) (r5 : -96 ≤ x.gain ∧ x.gain ≤ 96) (hN : depth.toNat = N) : RetB Tryz.prog 131 [.pointer (some ⟨bs, 0, none⟩), v_x, .int .i64 depth] w [boxO bs [.pointer (some ⟨bs_0, os_0, none⟩), .int .i64 s_size] 150] (fun v bs' => v = .int .i64 (M.moveV x (M.sv s_r (depth - 1).toNat x.next s_size).1) ∧ bs' = [boxO bs [.pointer (some ⟨bs_0, os_0, none⟩), .int .i64 ((M.sv s_r (depth - 1).toNat x.next s_size).2)] 150]) := by
 have hvb := M.sv_vbd (depth - 1).toNat x.next s_size r0
 have g9 := M.okP_len r0
 revert v_x; apply opn
 intro b3 o3 A1 c1 h1 bl1 bh1 A2 c2 h2 bl2 bh2 hr3
 refine enterB hb @Tryz.func131 @Tryz.ntmps131 rfl rfl ?_
 refine zent ?_
 refine Js.trashE ?_
 refine zn ?_
 refine zS <| Qa rfl <| zN <| Qm rfl <| Qm rfl <| Qc rfl <| Qf fh rfl <| Qm rfl <| Qs rfl rfl <| zBB 1 sp_ rfl (fun w hb _ hw => ih ((depth - 1).toNat) (by omega) s_r s_size bs_0 os_0 x.next _ (depth - 1) bs w hb (hps_0.vis hw.vis) (ok_ hw) r0 (by omega) (by omega) (by omega) (by omega) rfl) ?_
 rintro _ _ G4 ⟨rfl, rfl⟩
 refine znl ?_
 refine Qa rfl <| zJ <| zS <| Qm rfl <| Qc rfl <| Qf fh rfl <| QC (hr3 2 _ rfl) rfl <| JL.nil ?_
 refine zi (fun h5 h5' => ?_) fun h5 h5' => ?_
 ·
  have hQ := M.moveV_y (v := (M.sv s_r (depth - 1).toNat x.next s_size).1) h5
  refine zS <| Qm rfl <| Qc rfl <| Qf fh rfl <| QC (hr3 1 _ rfl) rfl <| Qm rfl <| Qp rfl rfl <| Qa rfl <| JL.nil ?_
  refine zrb [0] hb (Up.refl _ _) ?_
  have hE : (.int .i64 (x.gain + ((M.sv s_r (depth - 1).toNat x.next s_size).1)) : Value) = .int .i64 (M.moveV x (M.sv s_r (depth - 1).toNat x.next s_size).1) := by rw [hQ]
  exact ⟨hE, rfl⟩
 have hQ := M.moveV_n (v := (M.sv s_r (depth - 1).toNat x.next s_size).1) (by simpa using h5)
 refine Js.skip <| zS <| Qm rfl <| Qc rfl <| Qf fh rfl <| QC (hr3 1 _ rfl) rfl <| Qm rfl <| Qs rfl rfl <| Qa rfl <| JL.nil ?_
 refine zrb [0] hb (Up.refl _ _) ?_
 have hE : (.int .i64 (x.gain - ((M.sv s_r (depth - 1).toNat x.next s_size).1)) : Value) = .int .i64 (M.moveV x (M.sv s_r (depth - 1).toNat x.next s_size).1) := by rw [hQ]
 exact ⟨hE, rfl⟩
theorem c_spec_l15S_value_ : ∀ N, S_spec_l15S_value N := by
 intro N
 induction N using Nat.strongRecOn with
 | ind N ih =>
 intro s_r s_size bs_0 os_0 p v_p depth bs w hb hps_0 h_p r0 r1 r2 r3 r4 hN
 obtain ⟨g1, g2, g3, g4, g5, g6, g7⟩ := M.okP_bd r0
 have g8 := M.results_8 r0
 have g9 := M.okP_len r0
 have g10 := M.results_8R (M.okP_okR r0)
 revert v_p; apply opn
 intro b3 o3 A1 c1 h1 bl1 bh1 A2 c2 h2 bl2 bh2 hr3
 refine enterB hb @Tryz.func96 @Tryz.ntmps96 rfl rfl ?_
 refine zent ?_
 refine Js.trashE ?_
 refine zn ?_
 refine zS <| Qa rfl <| zN <| Qm rfl <| Qc rfl <| Qf fh rfl <| Q0 0 rfl rfl rfl <| Qp rfl rfl <| Qc rfl <| Qf fh rfl <| zw 0 rfl rfl rfl ?_
 refine zJ <| zS <| Qm rfl <| Qc rfl <| Qf fh rfl <| Q0 0 rfl rfl rfl <| Qg rfl rfl <| JL.nil ?_
 refine zi (fun h4 h4' => ?_) fun h4 h4' => ?_
 ·
  have hQ := M.sv_big (r := s_r) (d := depth.toNat) (p := p) (s := s_size) (by have := h4'; omega)
  refine zS <| Qa rfl <| JL.nil ?_
  refine zrb [0] hb (Up.refl _ _) ?_
  have hE : (.int .i64 0 : Value) = .int .i64 ((M.sv s_r depth.toNat p s_size).1) := by rw [hQ]
  have hE1 : (M.sv s_r depth.toNat p s_size).2 = (s_size + 1) := by rw [hQ]
  refine ⟨hE, ?_⟩
  · rw [hE1]
 have hbg : ¬ 3000 < s_size + 1 := by have := h4'; omega
 refine Js.skip <| zS <| Qm rfl <| Qc rfl <| Qf fh rfl <| Q0 0 rfl rfl rfl <| Qm rfl <| zp rfl (fun w hw => c_spec_l07All s_r p (ok_ hw) (ok_ hw) (r0 := r0)) ?_
 intro u5 x5 A6 c6 h6 bl6 bh6
 refine Qa rfl <| zJ <| zS <| Qm rfl <| Qz rfl <| Qe rfl rfl <| JL.nil ?_
 refine zi (fun h7 h7' => ?_) fun h7 h7' => ?_
 ·
  have hQ := M.sv_end (r := s_r) (p := p) (d := depth.toNat) hbg (by have := h7'; omega)
  refine zS <| Qm rfl <| Qc rfl <| Qf fh rfl <| Q0 0 rfl rfl rfl <| Qm rfl <| zv rfl (fun w hw => c_spec_l15End s_r p (ok_ hw) (ok_ hw) (r0 := r0)) <| Qa rfl <| JL.nil ?_
  refine zrb [0] hb x5 ?_
  have hE : (.int .i64 (M.endV s_r p) : Value) = .int .i64 ((M.sv s_r depth.toNat p s_size).1) := by rw [hQ]
  have hE1 : (M.sv s_r depth.toNat p s_size).2 = (s_size + 1) := by rw [hQ]
  refine ⟨hE, ?_⟩
  · rw [hE1]
 have hne : (M.results s_r p).length ≠ 0 := by have := h7'; omega
 refine Js.skip <| Js.seq <| zS <| Qm rfl <| Qe rfl rfl <| JL.nil ?_
 refine zi (fun h8 h8' => ?_) fun h8 h8' => ?_
 ·
  have hQ : (M.sv s_r depth.toNat p s_size) = (0, s_size + 1) := by rw [show depth.toNat = 0 by have := h8'; omega]; exact M.sv_0 hbg hne
  refine zS <| Qa rfl <| JL.nil ?_
  refine zrb [0] hb x5 ?_
  have hE : (.int .i64 0 : Value) = .int .i64 ((M.sv s_r depth.toNat p s_size).1) := by rw [hQ]
  have hE1 : (M.sv s_r depth.toNat p s_size).2 = (s_size + 1) := by rw [hQ]
  refine ⟨hE, ?_⟩
  · rw [hE1]
 have hd : 1 ≤ depth := by have := h8'; omega
 refine Js.skip <| zS <| Qa rfl <| zJ <| zS <| Qa rfl <| JL.nil <| Js.block ?_
 refine zl [0, 2, 7] (fun F U l os u m => ∃ (k : Nat) (b z : Int) (G9_1 : List Nat), l = F [(8, .int .i64 b), (9, .int .i64 (k : Int))] ∧ os = U [some (boxO bs [.pointer (some ⟨bs_0, os_0, none⟩), .int .i64 z] 150), some (anyO G9_1)] ∧ (M.svL (M.sv s_r (depth - 1).toNat) (decide (k = 0)) b z ((M.results s_r p).drop k) = (M.sv s_r depth.toNat p s_size)) ∧ (0 ≤ z) ∧ (z ≤ 3001 + 8 * (depth - 1) + k) ∧ (-2000 ≤ b) ∧ (b ≤ 2000) ∧ (k ≤ (M.results s_r p).length) ∧ m = (M.results s_r p).length - k) ⟨0, 0, s_size + 1, _, rfl, rfl, by exact (M.sv_d hbg hne hd).symm, zt, zt, zt, zt, zt, rfl⟩ ?_
 rintro _ _ u9 _ ⟨k, b, z, G9_1, rfl, rfl, hS, z0, z1, b0, b1, hk, rfl⟩ x9
 refine zn ?_
 refine Js.seq <| zS <| Qm rfl <| Qm rfl <| Qz rfl <| Ql rfl rfl <| JL.nil ?_
 refine zi (fun h10 h10' => ?_) fun h10 h10' => ?_
 ·
  obtain ⟨y11, hy11⟩ : ∃ x, (M.results s_r p)[k]? = some x := ⟨_, List.getElem?_eq_getElem (by omega)⟩
  obtain ⟨b11, o11, A11_3, c11_3, A11_4, c11_4, he11, hr11, h11_3, h11_4, bl11_3, bh11_3, bl11_4, bh11_4⟩ := elem_Result (Ty.mono _ h6 x9.vis) hy11
  have hgb9 := M.results_gain (M.results_get0 hy11)
  have hsb9 := M.sv_bd (depth - 1).toNat y11.next z g10
  have hvb9 := M.moveV_bd hgb9 (M.sv_vbd (depth - 1).toNat y11.next z (M.results_ok (M.results_get0 hy11)))
  refine Js.skip <| Js.seq <| Js.block <| zS <| Qm rfl <| Qm rfl <| Qm rfl <| Qq (p_indexAddr el_111 rfl rfl (by omega) (by omega) he11) <| Qm rfl <| zBB 1 sp_ rfl (fun w hb _ hw => c_spec_l15S_option_ _ ih s_r z bs_0 os_0 y11 _ depth bs w hb (hps_0.vis ((x5.vis.trans x9.vis).trans hw.vis)) (ok_ hw) (M.results_ok (M.results_get0 hy11)) (by omega) (by omega) (by omega) (by omega) hgb9 (by omega)) ?_
  rintro _ _ G12 ⟨rfl, rfl⟩
  refine znl ?_
  refine Qa rfl <| zN <| Qm rfl <| Qe rfl rfl <| Qm rfl <| zg (Gd.f1 rfl rfl rfl) (fun hc => p_move rfl) <| zg (Gd.f1 rfl rfl rfl) (fun hc => p_move rfl) <| zg (Gd.f1 rfl rfl rfl) (fun hc => p_gtr (gh hc rfl) (gh hc rfl)) <| Qq (p_pickOr rfl rfl rfl) <| JL.nil ?_
  refine zi (fun h13 h13' => ?_) fun h13 h13' => ?_
  ·
   have hS2 := M.svL_y hS hy11 (by have := h13'; omega)
   refine Js.region <| Qm rfl <| Qa rfl <| JL.nil <| Js.blockEnd <| Js.region <| Qm rfl <| Qp rfl rfl <| Qa rfl <| JL.nil ?_
   refine zf [0] fun GG14 => ?_
   refine zn ?_
   exact zag ⟨k + 1, M.moveV y11 (M.sv s_r (depth - 1).toNat y11.next z).1, (M.sv s_r (depth - 1).toNat y11.next z).2, _, rfl, rfl, by exact hS2, zt, zt, zt, zt, zt, rfl⟩ x9
  have hS2 := M.svL_n hS hy11 (by have := h13'; omega)
  refine Js.skip <| Js.blockEnd <| Js.region <| Qm rfl <| Qp rfl rfl <| Qa rfl <| JL.nil ?_
  refine zf [0] fun GG15 => ?_
  refine zn ?_
  exact zag ⟨k + 1, b, (M.sv s_r (depth - 1).toNat y11.next z).2, _, rfl, rfl, by exact hS2, zt, zt, zt, zt, zt, rfl⟩ x9
 have hQ := M.svL_e hS (by have := h10'; omega)
 refine zx ?_
 refine zS <| Qm rfl <| Qa rfl <| JL.nil ?_
 refine zrb [0] hb (x5.trans x9) ?_
 have hE : (.int .i64 b : Value) = .int .i64 ((M.sv s_r depth.toNat p s_size).1) := by rw [hQ]
 have hE1 : (M.sv s_r depth.toNat p s_size).2 = z := by rw [hQ]
 refine ⟨hE, ?_⟩
 · rw [hE1]
theorem c_spec_l15S_value (s_r : M.Rul) (s_size : Int) {bs_0 os_0 : Nat} (p : M.Pos) {v_p : Value} (depth : Int) {bs : Nat} {w : World} (hb : Bw w [boxO bs [.pointer (some ⟨bs_0, os_0, none⟩), .int .i64 s_size] 150]) (hps_0 : RowAt (offW w (([boxO bs [.pointer (some ⟨bs_0, os_0, none⟩), .int .i64 s_size] 150] : List Own).flatMap (·.fp))) bs_0 os_0 [.int .i64 s_r.pits, .int .i64 s_r.seeds, .bool s_r.stores, .bool s_r.skip, .bool s_r.relay, .bool s_r.feed, .bool s_r.again, .int .i64 s_r.capture, .int .i64 s_r.slam]) (h_p : (Ty.ref (cPosition p)).ok (offW w (([boxO bs [.pointer (some ⟨bs_0, os_0, none⟩), .int .i64 s_size] 150] : List Own).flatMap (·.fp))) v_p) (r0 : M.okP s_r p = true := by exact om_) (r1 : 0 ≤ depth := by exact om_) (r2 : depth ≤ 8 := by exact om_) (r3 : 0 ≤ s_size := by exact om_) (r4 : s_size ≤ 100000 := by exact om_) : RetB Tryz.prog 96 [.pointer (some ⟨bs, 0, none⟩), v_p, .int .i64 depth] w [boxO bs [.pointer (some ⟨bs_0, os_0, none⟩), .int .i64 s_size] 150] (fun v bs' => v = .int .i64 ((M.sv s_r depth.toNat p s_size).1) ∧ bs' = [boxO bs [.pointer (some ⟨bs_0, os_0, none⟩), .int .i64 ((M.sv s_r depth.toNat p s_size).2)] 150]) := c_spec_l15S_value_ _ s_r s_size bs_0 os_0 p v_p depth bs w hb hps_0 h_p r0 r1 r2 r3 r4 rfl
theorem c_spec_l15Code (r : M.Rul) {v_r : Value} (p : M.Pos) {v_p : Value} (depth : Int) {w : World} (h_r : (Ty.ref (cRules r)).ok w v_r) (h_p : (Ty.ref (cPosition p)).ok w v_p) (r0 : p.pits.length ≤ 4194304 := by exact om_) (r1 : p.stores.length ≤ 4194304 := by exact om_) : RetV Tryz.prog 95 [v_r, v_p, .int .i64 depth] w (.int .i64 (M.baseC r p depth)) := by
 revert v_r; apply opn
 intro b1 o1 hr1
 revert v_p; apply opn
 intro b4 o4 A2 c2 h2 bl2 bh2 A3 c3 h3 bl3 bh3 hr4
 refine enter @Tryz.func95 @Tryz.ntmps95 rfl rfl ?_
 refine zent ?_
 refine zS <| Qa rfl <| zJ <| zS <| Qm rfl <| Qm rfl <| zv rfl (fun w hw => c_spec_l04Ok r p (ok_ hw) (ok_ hw)) <| Qt rfl <| JL.nil ?_
 refine zi (fun h5 h5' => ?_) fun h5 h5' => ?_
 ·
  have hE := M.baseC_1 (depth := depth) (by simpa using h5)
  refine zS <| Qa rfl <| JL.nil ?_
  refine zR (Up.refl _ _) ?_
  rw [hE]; rfl
 have hok : M.okP r p = true := by simpa using h5
 refine Js.skip <| Js.seq <| zS <| Qm rfl <| zv rfl (fun w hw => c_spec_l00In depth 0 8) <| Qt rfl <| JL.nil ?_
 refine zi (fun h6 h6' => ?_) fun h6 h6' => ?_
 ·
  have hE := M.baseC_2 hok (by simpa using h6)
  refine zS <| Qa rfl <| JL.nil ?_
  refine zR (Up.refl _ _) ?_
  rw [hE]; rfl
 have hE := M.baseC_0 hok (by simpa using h6)
 refine Js.skip <| zS <| Qa rfl <| JL.nil ?_
 refine zR (Up.refl _ _) ?_
 rw [hE]; rfl
theorem c_spec_l15Ask (r : M.Rul) {v_r : Value} (p : M.Pos) {v_p : Value} (depth : Int) {w : World} (h_r : (Ty.ref (cRules r)).ok w v_r) (h_p : (Ty.ref (cPosition p)).ok w v_p) (r0 : p.pits.length ≤ 4194304 := by exact om_) (r1 : p.stores.length ≤ 4194304 := by exact om_) : RetV Tryz.prog 49 [v_r, v_p, .int .i64 depth] w (.tuple #[.int .i64 ((M.ask r p depth).1), .int .i64 ((M.ask r p depth).2.1), .int .i64 ((M.ask r p depth).2.2)]) := by
 revert v_r; apply opn
 intro b1 o1 hr1
 revert v_p; apply opn
 intro b4 o4 A2 c2 h2 bl2 bh2 A3 c3 h3 bl3 bh3 hr4
 refine enter @Tryz.func49 @Tryz.ntmps49 rfl rfl ?_
 refine zent ?_
 refine zS <| Qa rfl <| Qa rfl <| Qa rfl <| zN <| Qm rfl <| Qm rfl <| Qm rfl <| zv rfl (fun w hw => c_spec_l15Code r p depth (ok_ hw) (ok_ hw)) <| Qa rfl <| zJ <| zS <| Qm rfl <| Qd rfl rfl ?_
 refine JL.nil ?_
 refine zi (fun h5 h5' => ?_) fun h5 h5' => ?_
 ·
  have hE := M.ask_b (r := r) (p := p) (depth := depth) (by simpa using h5)
  refine zS <| Qm rfl <| Qa rfl <| Qa rfl <| Qa rfl <| JL.nil ?_
  refine zR (Up.refl _ _) ?_
  rw [hE]; rfl
 have hz : M.baseC r p depth = 0 := by simpa using h5
 have ho := M.baseC_ok hz
 refine Js.skip <| zS <| Qm rfl <| Qb ?_
 refine zb rfl fun b6 => Qa rfl <| zN <| Qm rfl <| Qm rfl <| Qm rfl <| zB 1 sp_ rfl (fun w hb hw => c_spec_l15S_value r 0 p depth hb (hr1.vis hw.vis) (ok_ hw) (r0 := ho.1)) ?_
 rintro _ _ G7 ⟨rfl, rfl⟩
 refine znl ?_
 refine Qa rfl <| zJ <| zS <| Qm rfl <| Qc rfl <| Qf fh rfl <| Q0 0 rfl rfl rfl <| Qg rfl rfl <| JL.nil ?_
 refine zi (fun h8 h8' => ?_) fun h8 h8' => ?_
 ·
  have hE := M.ask_5 hz (by simpa using h8)
  refine zS <| Qa rfl <| Qa rfl <| Qa rfl <| JL.nil ?_
  refine zR (Up.refl _ _) ?_
  rw [hE]; rfl
 have hE := M.ask_0 hz (by simpa using h8)
 refine Js.skip <| Js.seq ?_
 refine zdr [] ?_
 refine jM 0 rfl rfl ?_
 refine jM 1 rfl rfl ?_
 refine jN 2 rfl rfl ?_
 refine jF 3 fld_150_1 rfl rfl ?_
 refine jB 4 0 ty_2 rfl rfl rfl rfl ?_
 refine jA 5 rfl rfl ?_
 refine jA 6 rfl rfl ?_
 refine jA 7 rfl rfl ?_
 refine yd ?_
 refine zR (Up.refl _ _) ?_
 rw [hE]; rfl
end Go.Proofs.YtmgnckfhghibeaaGreat

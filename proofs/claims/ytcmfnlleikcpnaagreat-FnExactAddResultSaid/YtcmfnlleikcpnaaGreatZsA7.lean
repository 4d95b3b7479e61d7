/- Walks: K31. -/
import Derived.Test.YtcmfnlleikcpnaaGreatZsA3
import Derived.Test.YtcmfnlleikcpnaaGreatZsA6
import Derived.Test.YtcmfnlleikcpnaaGreatZsA4
set_option linter.unusedSimpArgs false
set_option linter.unusedVariables false
set_option maxRecDepth 100000
attribute [local irreducible] Go.Proofs.YtcmfnlleikcpnaaGreat.gv
namespace Go.Proofs.YtcmfnlleikcpnaaGreat
open Go.RowKit

set_option maxHeartbeats 12000000 in
theorem c_spec_l04Turn (r : M.Rul) {v_r : Value} (p : M.Pos) {v_p : Value} {w : World} (h_r : (Ty.ref (cRules r)).ok w v_r) (h_p : (Ty.ref (cPosition p)).ok w v_p) (r0 : M.okP r p = true := by exact om_) : Ret Tryz.prog 132 [v_r, v_p] w (Ty.agg (cPosition (M.turnP r p))) := by
 obtain ⟨g1, g2, g3, g4, g5, g6, g7⟩ := M.okP_bd r0
 revert v_r; apply opn
 intro b1 o1 hr1
 revert v_p; apply opn
 intro b4 o4 A2 c2 h2 bl2 bh2 A3 c3 h3 bl3 bh3 hr4
 refine enter @Tryz.func132 @Tryz.ntmps132 rfl rfl ?_
 refine zent ?_
 refine zS <| za zeh fun b5 => zJ ?_
 refine zdr [] ?_
 refine JH.p 0 rfl (p_move rfl) ?_
 refine JH.p 1 rfl (p_nilCheck rfl) ?_
 refine JH.p 2 rfl (p_fieldAddr fld_39_0.h rfl) ?_
 refine JH.w 3 rfl (fun os' u' hv => q_load1 ty_27.h rfl (Mem.pub ((hr4.vis hv) 0 _ rfl))) ?_
 refine JH.p 4 rfl (p_move rfl) ?_
 refine JH.p 5 rfl (p_nilCheck rfl) ?_
 refine JH.p 6 rfl (p_fieldAddr fld_34_0.h rfl) ?_
 refine JH.w 7 rfl (fun os' u' hv => q_load1 ty_2.h rfl (Mem.pub ((hr1.vis hv) 0 _ rfl))) ?_
 have hs6 := ints_cut (a := r.pits.toNat) (b := p.pits.length) (m := c2) h2 (by omega) (by omega) (by omega) (by omega)
 have hl6 : ((p.pits.drop r.pits.toNat).take (p.pits.length - r.pits.toNat)).length = p.pits.length - r.pits.toNat := by rw [List.length_take, List.length_drop]; omega
 refine JH.p 8 rfl (p_slice (lo' := r.pits.toNat) (hi' := p.pits.length) (mx' := c2) el_27 rfl rfl ⟨rfl, rfl⟩ ⟨_, by rw [Int.toNat_of_nonneg (by omega)]; exact rfl, by omega⟩) ?_
 refine y1 9 ?_
 refine ycs rfl rfl (fun w hw => c_spec_l00Own ((p.pits.drop r.pits.toNat).take (p.pits.length - r.pits.toNat)) (ok_ hw)) ?_
 intro A7 c7 bl7 bh7
 refine JH.p 10 rfl (p_assign rfl) ?_
 refine yd ?_
 refine Js.seq ?_
 refine zk [4] (fun F U l os u => ∃ (b14 : Nat) (A13 : Option Addr) (c13 : Nat) (g12 : List Nat), l = F [] ∧ os = [rowO 2 1 (.slice (some ⟨b14, 0, none⟩) 2 2) 2 [.int .i64 (M.nth p.stores 1), .int .i64 (M.nth p.stores 0)] []] ++ U [some (rowO 2 1 (.slice A13 ((((p.pits.drop r.pits.toNat).take (p.pits.length - r.pits.toNat)) ++ ((p.pits.drop 0).take (r.pits.toNat - 0))).length) c13) ((((p.pits.drop r.pits.toNat).take (p.pits.length - r.pits.toNat)) ++ ((p.pits.drop 0).take (r.pits.toNat - 0))).length) (ints_ (((p.pits.drop r.pits.toNat).take (p.pits.length - r.pits.toNat)) ++ ((p.pits.drop 0).take (r.pits.toNat - 0)))) g12), some (boxO b5 [.slice A13 ((((p.pits.drop r.pits.toNat).take (p.pits.length - r.pits.toNat)) ++ ((p.pits.drop 0).take (r.pits.toNat - 0))).length) c13, .slice (some ⟨b14, 0, none⟩) 2 2, .int .i64 (1 - p.player)] 39)] ∧ ((((p.pits.drop r.pits.toNat).take (p.pits.length - r.pits.toNat)) ++ ((p.pits.drop 0).take (r.pits.toNat - 0))).length ≤ c13) ∧ (c13 ≤ 9223372036854775807)) ?_ ?_
 ·
  refine zdr [10, 30] ?_
  refine JH.p 0 rfl (p_move rfl) ?_
  refine JH.p 1 rfl (p_move rfl) ?_
  refine JH.p 2 rfl (p_nilCheck rfl) ?_
  refine JH.p 3 rfl (p_fieldAddr fld_39_0.h rfl) ?_
  refine JH.w 4 rfl (fun os' u' hv => q_load1 ty_27.h rfl (Mem.pub ((hr4.vis hv) 0 _ rfl))) ?_
  refine JH.p 5 rfl (p_move rfl) ?_
  refine JH.p 6 rfl (p_nilCheck rfl) ?_
  refine JH.p 7 rfl (p_fieldAddr fld_34_0.h rfl) ?_
  refine JH.w 8 rfl (fun os' u' hv => q_load1 ty_2.h rfl (Mem.pub ((hr1.vis hv) 0 _ rfl))) ?_
  have hs22 := ints_cut (a := 0) (b := r.pits.toNat) (m := c2) h2 (by omega) (by omega) (by omega) (by omega)
  have hl22 : ((p.pits.drop 0).take (r.pits.toNat - 0)).length = r.pits.toNat - 0 := by rw [List.length_take, List.length_drop]; omega
  refine JH.p 9 rfl (p_slice (lo' := 0) (hi' := r.pits.toNat) (mx' := c2) el_27 rfl rfl ⟨_, by rw [Int.toNat_of_nonneg (by omega)]; exact rfl, by omega⟩ rfl) ?_
  refine JH.p 11 rfl (p_move rfl) ?_
  refine JH.p 12 rfl (p_nilCheck rfl) ?_
  refine JH.p 13 rfl (p_fieldAddr fld_39_1.h rfl) ?_
  refine JH.w 14 rfl (fun os' u' hv => q_load1 ty_27.h rfl (Mem.pub ((hr4.vis hv) 1 _ rfl))) ?_
  obtain ⟨b23, o23, he23, hc23⟩ := ints_elem h3 (i := 1) (by omega)
  refine JH.p 15 rfl (p_indexAddr el_27 rfl rfl (by omega) (by omega) he23) ?_
  refine JH.w 16 rfl (fun os' u' hv => q_load1 ty_2.h rfl (Mem.pub (hc23.vis hv))) ?_
  refine JH.p 17 rfl (p_move rfl) ?_
  refine JH.p 18 rfl (p_nilCheck rfl) ?_
  refine JH.p 19 rfl (p_fieldAddr fld_39_1.h rfl) ?_
  refine JH.w 20 rfl (fun os' u' hv => q_load1 ty_27.h rfl (Mem.pub ((hr4.vis hv) 1 _ rfl))) ?_
  obtain ⟨b24, o24, he24, hc24⟩ := ints_elem h3 (i := 0) (by omega)
  refine JH.p 21 rfl (p_indexAddr el_27 rfl rfl (by omega) (by omega) he24) ?_
  refine JH.w 22 rfl (fun os' u' hv => q_load1 ty_2.h rfl (Mem.pub (hc24.vis hv))) ?_
  refine JH.p 24 rfl (p_move rfl) ?_
  refine JH.p 25 rfl (p_nilCheck rfl) ?_
  refine JH.p 26 rfl (p_fieldAddr fld_39_2.h rfl) ?_
  refine JH.w 27 rfl (fun os' u' hv => q_load1 ty_2.h rfl (Mem.pub ((hr4.vis hv) 2 _ rfl))) ?_
  refine JH.p 28 rfl (p_sub rfl rfl (IntWalk.i64_in _ (by omega))) ?_
  refine y2 10 23 ?_ ?_
  ·
   refine JHo.e rfl (e_append (i := 0) (n' := (((p.pits.drop r.pits.toNat).take (p.pits.length - r.pits.toNat)) ++ ((p.pits.drop 0).take (r.pits.toNat - 0))).length) (vs' := ints_ (((p.pits.drop r.pits.toNat).take (p.pits.length - r.pits.toNat)) ++ ((p.pits.drop 0).take (r.pits.toNat - 0)))) el_27 rfl rfl rfl rfl (src_intsN und_27 hl22 hs22) (by omega) (by omega) (by first | omega | (simp only [List.length_append, List.length_cons, List.length_nil, List.length_take, List.length_drop] <;> omega)) (by simp [ints_])) (.inr rfl) ?_
   rintro v25 _ _ ⟨⟨g26, rfl⟩, rfl⟩ _
   refine JH.fact (row_form' (i := 0) rfl) (fun hf27 => ?_)
   obtain ⟨A27, c27, rfl, bl27, bh27⟩ := hf27
   refine znh ?_
   refine y1 23 ?_
   refine ybs rfl fun b28 => ?_
   refine JH.p 29 rfl (q_bld) ?_
   refine y1 30 ?_
   refine yst rfl rfl rfl ?_
   refine yd ?_
   exact zm ⟨_, _, _, _, rfl, rfl, zt, zt⟩ (Up.refl _ _)
  refine ybs rfl fun b30 => ?_
  refine y1 10 ?_
  refine JHo.e rfl (e_append (i := 1) (n' := (((p.pits.drop r.pits.toNat).take (p.pits.length - r.pits.toNat)) ++ ((p.pits.drop 0).take (r.pits.toNat - 0))).length) (vs' := ints_ (((p.pits.drop r.pits.toNat).take (p.pits.length - r.pits.toNat)) ++ ((p.pits.drop 0).take (r.pits.toNat - 0)))) el_27 rfl rfl rfl rfl (src_intsN und_27 hl22 hs22) (by omega) (by omega) (by first | omega | (simp only [List.length_append, List.length_cons, List.length_nil, List.length_take, List.length_drop] <;> omega)) (by simp [ints_])) (.inr rfl) ?_
  rintro v32 _ _ ⟨⟨g33, rfl⟩, rfl⟩ _
  refine JH.fact (row_form' (i := 1) rfl) (fun hf34 => ?_)
  obtain ⟨A34, c34, rfl, bl34, bh34⟩ := hf34
  refine znh ?_
  refine JH.p 29 rfl (q_bld) ?_
  refine y1 30 ?_
  refine yst rfl rfl rfl ?_
  refine yd ?_
  exact zm ⟨_, _, _, _, rfl, rfl, zt, zt⟩ (Up.refl _ _)
 rintro _ _ u21 ⟨b14, A13, c13, g12, rfl, rfl, f21_0, f21_1⟩ x21
 refine zn ?_
 have hq0 : (((p.pits.drop r.pits.toNat).take (p.pits.length - r.pits.toNat)) ++ ((p.pits.drop 0).take (r.pits.toNat - 0))) = (M.turnP r p).pits := by first | rfl | (simp [M.turnP, List.take_of_length_le]; done) | (unfold M.turnP; simp; omega)
 have hq1 : [(M.nth p.stores 1), (M.nth p.stores 0)] = (M.turnP r p).stores := by first | rfl | (simp [M.turnP, List.take_of_length_le]; done) | (unfold M.turnP; simp; omega)
 have hq2 : (1 - p.player) = (M.turnP r p).player := by first | rfl | (simp [M.turnP, List.take_of_length_le]; done) | (unfold M.turnP; simp; omega)
 exact zro x21

set_option maxHeartbeats 1000000 in
theorem c_spec_l04View (r : M.Rul) {v_r : Value} (p : M.Pos) {v_p : Value} {w : World} (h_r : (Ty.ref (cRules r)).ok w v_r) (h_p : (Ty.ref (cPosition p)).ok w v_p) (r0 : M.okV r p := by exact om_) : Ret Tryz.prog 74 [v_r, v_p] w (Ty.agg (cPosition (M.viewP r p))) := by
 have hl := M.okV_len r0
 have hpl := M.okV_pl r0
 revert v_r; apply opn
 intro b1 o1 hr1
 revert v_p; apply opn
 intro b4 o4 A2 c2 h2 bl2 bh2 A3 c3 h3 bl3 bh3 hr4
 refine enter @Tryz.func74 @Tryz.ntmps74 rfl rfl ?_
 refine zent ?_
 refine zS <| za zeh fun b5 => zJ <| zS <| Qm rfl <| Qc rfl <| Qf fh rfl <| QC (hr4 2 _ rfl) rfl <| Qe rfl rfl <| JL.nil ?_
 refine zi (fun h6 h6' => ?_) fun h6 h6' => ?_
 ·
  have hn0 : ¬ p.player = 0 := by have := h6'; omega
  have hK := M.okV_turn r0 hn0
  have hE := M.viewP_1 (r := r) hn0
  refine zS <| Qm rfl <| Qm rfl <| zc rfl (fun w hw => c_spec_l04Turn r p (ok_ hw) (ok_ hw) (r0 := hK)) ?_
  intro A8 c8 bl8 bh8 A9 c9 bl9 bh9
  have hq0 : ((M.turnP r p).pits) = (M.viewP r p).pits := by rw [hE]
  have hq1 : ((M.turnP r p).stores) = (M.viewP r p).stores := by rw [hE]
  have hq2 : ((M.turnP r p).player) = (M.viewP r p).player := by rw [hE]
  refine zw 2 rfl rfl rfl ?_
  refine JL.nil ?_
  exact zro (Up.refl _ _)
 have hE := M.viewP_0 (r := r) (p := p) (by have := h6'; omega)
 refine Js.skip <| zS <| Qm rfl <| zc rfl (fun w hw => c_spec_l04Own p (ok_ hw)) ?_
 intro A11 c11 bl11 bh11 A12 c12 bl12 bh12
 have hq0 : p.pits = (M.viewP r p).pits := by rw [hE]
 have hq1 : p.stores = (M.viewP r p).stores := by rw [hE]
 have hq2 : p.player = (M.viewP r p).player := by rw [hE]
 refine zw 2 rfl rfl rfl ?_
 refine JL.nil ?_
 exact zro (Up.refl _ _)

set_option maxHeartbeats 1000000 in
theorem c_spec_l20Find (b : M.Boo) {v_b : Value} (q : List Int) {v_q : Value} {w : World} (h_b : (Ty.ref (cBook b)).ok w v_b) (h_q : (Ty.ints 2 q).ok w v_q) (r0 : b.entries.length ≤ 4194304 := by exact om_) (r1 : ∀ x ∈ b.entries, x.pits.length ≤ 4194304 ∧ x.choices.length ≤ 4194304 := by exact om_) (r2 : q.length ≤ 4194304 := by exact om_) : RetV Tryz.prog 130 [v_b, v_q] w (.tuple #[.int .i64 (M.findE b.entries q : Int), .bool (M.hasE b.entries q)]) := by
 revert v_b; apply opn
 intro b2 o2 A1 c1 h1 bl1 bh1 hr2
 revert v_q; apply opn
 intro A3 c3 h3 bl3 bh3
 have h_q := h3
 refine enter @Tryz.func130 @Tryz.ntmps130 rfl rfl ?_
 refine zent ?_
 refine zS <| Qa rfl <| Qa rfl <| zJ <| zS <| Qa rfl <| JL.nil <| Js.block ?_
 refine zl [0, 1] (fun F U l os u m => ∃ (k : Nat), l = F [(6, .int .i64 (k : Int))] ∧ os = U [] ∧ (k + M.findE (b.entries.drop k) q = M.findE b.entries q) ∧ (k ≤ b.entries.length) ∧ m = b.entries.length - k) ⟨0, rfl, rfl, by simp, zt, rfl⟩ ?_
 rintro _ _ u4 _ ⟨k, rfl, rfl, hL, hk, rfl⟩ x4
 refine zn ?_
 refine Js.seq <| zS <| Qm rfl <| Qm rfl <| Qc rfl <| Qf fh rfl <| QC ((hr2.vis x4.vis) 9 _ rfl) rfl <| Qz rfl <| Ql rfl rfl <| JL.nil ?_
 refine zi (fun h5 h5' => ?_) fun h5 h5' => ?_
 ·
  have hkk : k < b.entries.length := by have := h5'; omega
  obtain ⟨e1_, e2_⟩ := r1 _ (M.ent_mem (es := b.entries) (k := k) hkk)
  have hy6 : b.entries[k]? = some (M.ent b.entries k) := M.ent_get (by omega)
  obtain ⟨b6, o6, A6_0, c6_0, A6_1, c6_1, he6, hr6, h6_0, h6_1, bl6_0, bh6_0, bl6_1, bh6_1⟩ := elem_BookEntry (Ty.mono _ h1 x4.vis) hy6
  refine Js.skip <| Js.seq <| Js.block <| zS <| Qm rfl <| Qc rfl <| Qf fh rfl <| QC ((hr2.vis x4.vis) 9 _ rfl) rfl <| Qm rfl <| Qq (p_indexAddr el_35 rfl rfl (by omega) (by omega) he6) <| Qf fh rfl <| QC (hr6 0 _ rfl) rfl <| Qm rfl <| zv rfl (fun w hw => c_spec_l04Lists ((M.ent b.entries k).pits) q (ok_ hw) (ok_ hw)) ?_
  refine Qa rfl <| zN <| Qm rfl <| Qh rfl rfl <| JL.nil ?_
  refine zi (fun h7 h7' => ?_) fun h7 h7' => ?_
  ·
   have hE := M.findE_hit hL hkk (by have := h7'; omega)
   have hE2 := M.hasE_hit hE hkk
   refine zS <| Qm rfl <| Qm rfl <| Qe rfl rfl <| Qa rfl <| Qa rfl <| JL.nil ?_
   refine zR x4 ?_
   rw [hE, hE2]; rfl
  have hL2 := M.findE_step hL hkk (by have := h7'; omega)
  refine Js.skip <| Js.blockEnd <| Js.region <| Qm rfl <| Qp rfl rfl <| Qa rfl <| JL.nil ?_
  exact zag ⟨k + 1, rfl, rfl, by exact hL2, zt, rfl⟩ x4
 have hE := M.findE_end hL (by have := h5'; omega) hk
 have hE2 := M.hasE_end hE
 refine zx ?_
 refine zS <| Qm rfl <| Qc rfl <| Qf fh rfl <| QC ((hr2.vis x4.vis) 9 _ rfl) rfl <| Qz rfl <| Qa rfl <| Qa rfl <| JL.nil ?_
 refine zR x4 ?_
 rw [hE, hE2]; rfl

end Go.Proofs.YtcmfnlleikcpnaaGreat

namespace Go.Proofs.YtcmfnlleikcpnaaGreat
open Go.RowKit

set_option maxHeartbeats 1000000 in
theorem c_spec_l20Own (e : M.Ent) {v_e : Value} {w : World} (h_e : (Ty.ref (cBookEntry e)).ok w v_e) (r0 : e.pits.length ≤ 4194304 := by exact om_) (r1 : e.choices.length ≤ 4194304 := by exact om_) : Ret Tryz.prog 129 [v_e] w (Ty.agg (cBookEntry e)) := by
 revert v_e; apply opn
 intro b3 o3 A1 c1 h1 bl1 bh1 A2 c2 h2 bl2 bh2 hr3
 refine enter @Tryz.func129 @Tryz.ntmps129 rfl rfl ?_
 refine zent ?_
 refine zS <| za zeh fun b4 => zJ ?_
 refine zk [2] (fun F U l os u => ∃ (A10 : Option Addr) (c10 : Nat) (g9 : List Nat) (A5 : Option Addr) (c5 : Nat), l = F [] ∧ os = [rowO 81 3 (.slice A10 e.choices.length c10) e.choices.length (fltV vcChoice e.choices) g9, rowO 2 1 (.slice A5 e.pits.length c5) e.pits.length (ints_ e.pits) []] ++ U [some (boxO b4 [.slice A5 e.pits.length c5, .slice A10 e.choices.length c10] 89)] ∧ (e.choices.length ≤ c10) ∧ (c10 ≤ 9223372036854775807) ∧ (e.pits.length ≤ c5) ∧ (c5 ≤ 9223372036854775807)) ?_ ?_
 ·
  refine zdr [10, 12] ?_
  refine JH.p 0 rfl (p_move rfl) ?_
  refine JH.p 1 rfl (p_nilCheck rfl) ?_
  refine JH.p 2 rfl (p_fieldAddr fld_89_0.h rfl) ?_
  refine JH.w 3 rfl (fun os' u' hv => q_load1 ty_27.h rfl (Mem.pub ((hr3.vis hv) 0 _ rfl))) ?_
  refine JH.p 6 rfl (p_move rfl) ?_
  refine JH.p 7 rfl (p_nilCheck rfl) ?_
  refine JH.p 8 rfl (p_fieldAddr fld_89_1.h rfl) ?_
  refine JH.w 9 rfl (fun os' u' hv => q_load1 ty_67.h rfl (Mem.pub ((hr3.vis hv) 1 _ rfl))) ?_
  refine y2 4 5 ?_ ?_
  ·
   refine ycs rfl rfl (fun w hw => c_spec_l00Own e.pits (ok_ hw)) ?_
   intro A18 c18 bl18 bh18
   refine y1 5 ?_
   refine ybs rfl fun b19 => ?_
   refine y1 10 ?_
   refine JHo.e rfl (e_append (i := 0) (n' := e.choices.length) (vs' := fltV vcChoice e.choices) el_67 rfl rfl rfl rfl (src_flat lChoice und_67 rfl h2) (by omega) (by omega) (by first | omega | (simp only [List.length_append, List.length_cons, List.length_nil, List.length_take, List.length_drop] <;> omega)) (by first | rfl | exact fltV_app _ _ _ | exact fltV_snoc _ _ _ | (simp [fltV]; done))) (.inr rfl) ?_
   rintro v21 _ _ ⟨⟨g22, rfl⟩, rfl⟩ _
   refine JH.fact (row_form' (i := 0) rfl) (fun hf23 => ?_)
   obtain ⟨A23, c23, rfl, bl23, bh23⟩ := hf23
   refine znh ?_
   refine JH.p 11 rfl (q_bld) ?_
   refine y1 12 ?_
   refine yst rfl rfl rfl ?_
   refine yd ?_
   exact zm ⟨_, _, _, _, _, rfl, rfl, zt, zt, zt, zt⟩ (Up.refl _ _)
  refine ybs rfl fun b24 => ?_
  refine y1 4 ?_
  refine ycs rfl rfl (fun w hw => c_spec_l00Own e.pits (ok_ hw)) ?_
  intro A26 c26 bl26 bh26
  refine y1 10 ?_
  refine JHo.e rfl (e_append (i := 1) (n' := e.choices.length) (vs' := fltV vcChoice e.choices) el_67 rfl rfl rfl rfl (src_flat lChoice und_67 rfl h2) (by omega) (by omega) (by first | omega | (simp only [List.length_append, List.length_cons, List.length_nil, List.length_take, List.length_drop] <;> omega)) (by first | rfl | exact fltV_app _ _ _ | exact fltV_snoc _ _ _ | (simp [fltV]; done))) (.inr rfl) ?_
  rintro v27 _ _ ⟨⟨g28, rfl⟩, rfl⟩ _
  refine JH.fact (row_form' (i := 1) rfl) (fun hf29 => ?_)
  obtain ⟨A29, c29, rfl, bl29, bh29⟩ := hf29
  refine znh ?_
  refine JH.p 11 rfl (q_bld) ?_
  refine y1 12 ?_
  refine yst rfl rfl rfl ?_
  refine yd ?_
  refine zh [1, 0, 0] ?_
  exact zm ⟨_, _, _, _, _, rfl, rfl, zt, zt, zt, zt⟩ (Up.refl _ _)
 rintro _ _ u17 ⟨A10, c10, g9, A5, c5, rfl, rfl, f17_0, f17_1, f17_2, f17_3⟩ x17
 refine zn ?_
 exact zro x17 (g := by exact (gv_agg (gvc gv_ (gvc (gv_flat lChoice (xs := e.choices) po_ (by first | rfl | (simp [fltV]; done)) (by first | with_reducible rfl | assumption | rfl)) gvn))))

set_option maxHeartbeats 1000000 in
theorem c_spec_l20Copy (b : M.Boo) {v_b : Value} {w : World} (h_b : (Ty.ref (cBook b)).ok w v_b) (r0 : b.entries.length ≤ 4194304 := by exact om_) (r1 : ∀ x ∈ b.entries, x.pits.length ≤ 4194304 ∧ x.choices.length ≤ 4194304 := by exact om_) : Ret Tryz.prog 72 [v_b] w (Ty.agg (cBook b)) := by
 revert v_b; apply opn
 intro b2 o2 A1 c1 h1 bl1 bh1 hr2
 refine enter @Tryz.func72 @Tryz.ntmps72 rfl rfl ?_
 refine zent ?_
 refine zS <| za zeh fun b3 => zN <| Qm rfl <| Qc rfl <| Qf fh rfl <| QS 0 hr2 rfl ?_
 refine Qb ?_
 refine za zeh fun b4 => zw 0 rfl rfl rfl ?_
 refine zJ <| zS <| Qa rfl <| JL.nil <| Js.block ?_
 refine Js.conv (fun w hw => St.nilRowS 89 2 hw) ?_
 refine Js.vals (Ts := lBookEntry []) (vs := []) (fun w => rfl) ?_
 refine zl [0, 2, 3] (fun F U l os u m => ∃ (k : Nat) (acc : List M.Ent) (A5_3_9 : Option Addr) (c5_3_9 : Nat) (g5_3_9 : List Nat) (vs5_3_9 : List Value) (fl5_3_9 : List Nat), l = F [(4, .int .i64 (k : Int))] ∧ os = U [some (ownC (lBookEntry acc) vs5_3_9 fl5_3_9), some (rowO 89 2 (.slice A5_3_9 acc.length c5_3_9) acc.length vs5_3_9 g5_3_9), some (boxO b4 [.int .i64 b.rules.pits, .int .i64 b.rules.seeds, .bool b.rules.stores, .bool b.rules.skip, .bool b.rules.relay, .bool b.rules.feed, .bool b.rules.again, .int .i64 b.rules.capture, .int .i64 b.rules.slam, .slice A5_3_9 acc.length c5_3_9] 37)] ∧ (acc = b.entries.take k) ∧ (k ≤ b.entries.length) ∧ (acc.length ≤ c5_3_9) ∧ (c5_3_9 ≤ 9223372036854775807) ∧ m = b.entries.length - k) ⟨0, [], _, _, _, _, _, rfl, rfl, by rfl, zt, zu, zu, rfl⟩ ?_
 rintro _ _ u5 _ ⟨k, acc, A5_3_9, c5_3_9, g5_3_9, vs5_3_9, fl5_3_9, rfl, rfl, hA, hk, f5_2, f5_3, rfl⟩ x5
 refine zn ?_
 have hla : acc.length = k := by rw [hA, List.length_take]; omega
 refine Js.seq <| zS <| Qm rfl <| Qm rfl <| Qc rfl <| Qf fh rfl <| QC ((hr2.vis x5.vis) 9 _ rfl) rfl <| Qz rfl <| Ql rfl rfl <| JL.nil ?_
 refine zi (fun h6 h6' => ?_) fun h6 h6' => ?_
 ·
  have hkk : k < b.entries.length := by have := h6'; omega
  obtain ⟨e1_, e2_⟩ := r1 _ (M.ent_mem (es := b.entries) (k := k) hkk)
  have hA2 := M.takeE hkk
  rw [← hA] at hA2
  have hA2 := hA2.symm
  refine Js.skip <| Js.seq <| Js.block ?_
  refine zdr [10, 12] ?_
  refine JH.p 0 rfl (p_fieldAddr fld_37_1.h rfl) ?_
  refine JH.q 1 rfl (q_load1 ty_35.h rfl (Mem.box (i := 2) rfl rfl)) ?_
  refine JH.p 2 rfl (p_move rfl) ?_
  refine JH.p 3 rfl (p_nilCheck rfl) ?_
  refine JH.p 4 rfl (p_fieldAddr fld_37_1.h rfl) ?_
  refine JH.w 5 rfl (fun os' u' hv => q_load1 ty_35.h rfl (Mem.pub ((hr2.vis (x5.vis.trans hv)) 9 _ rfl))) ?_
  refine JH.p 6 rfl (p_move rfl) ?_
  have hy7 : b.entries[k]? = some (M.ent b.entries k) := M.ent_get (by omega)
  obtain ⟨b7, o7, A7_0, c7_0, A7_1, c7_1, he7, hr7, h7_0, h7_1, bl7_0, bh7_0, bl7_1, bh7_1⟩ := elem_BookEntry (Ty.mono _ h1 x5.vis) hy7
  refine JH.p 7 rfl (p_indexAddr el_35 rfl rfl (by omega) (by omega) he7) ?_
  refine y1 8 ?_
  refine yc rfl rfl (fun w hw => c_spec_l20Own (M.ent b.entries k) (ok_ hw)) ?_
  intro A9 c9 bl9 bh9 A10 c10 bl10 bh10
  refine y1 9 ?_
  refine ybs rfl fun b11 => ?_
  refine y1 10 ?_
  refine JHo.e rfl (e_append (i := 4) (n' := (acc ++ [(M.ent b.entries k)]).length) (vs' := vs5_3_9 ++ [.slice A9 (((M.ent b.entries k).pits).length) c9, .slice A10 (((M.ent b.entries k).choices).length) c10]) el_35 rfl rfl rfl rfl (src_row (i := 0) und_35 rfl rfl) (by omega) (by omega) (by first | omega | (simp only [List.length_append, List.length_cons, List.length_nil, List.length_take, List.length_drop] <;> omega)) (rfl)) (.inr rfl) ?_
  rintro v13 _ _ ⟨⟨g14, rfl⟩, rfl⟩ _
  refine JH.fact (row_form' (i := 4) rfl) (fun hf15 => ?_)
  obtain ⟨A15, c15, rfl, bl15, bh15⟩ := hf15
  refine znh ?_
  refine JH.p 11 rfl (p_fieldAddr fld_37_1.h rfl) ?_
  refine y1 12 ?_
  refine yst rfl rfl rfl ?_
  refine yd ?_
  refine Js.pk (cBookEntry (M.ent b.entries k)) [.slice A9 (((M.ent b.entries k).pits).length) c9, .slice A10 (((M.ent b.entries k).choices).length) c10] (fun f17 G17 => ?_) (by exact (gv_agg (gvc gv_ (gvc (gv_flat lChoice (xs := ((M.ent b.entries k).choices)) po_ (by first | rfl | (simp [fltV]; done)) (by first | with_reducible rfl | assumption | rfl)) gvn))))
  refine zn ?_
  refine Js.joinL (i := 3) (j := 0) (Vs := lBookEntry (acc ++ [(M.ent b.entries k)])) rfl rfl (lBookEntry_snoc _ _) (fun f18 => ?_)
  refine zn ?_
  refine Js.blockEnd <| Js.region <| Qm rfl <| Qp rfl rfl <| Qa rfl <| JL.nil ?_
  refine zd [0, 2, 2, 2] rfl fun u19 x19 => ?_
  exact zag ⟨k + 1, acc ++ [(M.ent b.entries k)], _, _, _, _, _, rfl, rfl, by exact hA2, zt, zu, zu, rfl⟩ (x5.trans x19)
 have hE : acc = b.entries := by rw [hA, List.take_of_length_le (by have := h6'; omega)]
 refine zx ?_
 have hq0 : acc = b.entries := by first | rfl | (rw [hE]; done) | (rw [hE]; rfl)
 refine zS <| Q9 2 rfl rfl ?_
 refine zw 3 rfl rfl rfl ?_
 refine JL.nil ?_
 exact zro x5

set_option maxHeartbeats 4000000 in
theorem c_spec_l20Count (e : List M.Ent) (e_k : Nat) {be_0 ce_0 : Nat} {ge_0 : List Nat} {vse_0 : List Value} {fe_0 : List Nat} (c : M.Cho) {v_c : Value} {w : World} (hb : Bw w [rowO 89 2 (.slice (some ⟨be_0, 0, none⟩) e.length ce_0) e.length vse_0 ge_0, ownC (lBookEntry e) vse_0 fe_0]) (h_c : (Ty.agg (cChoice c)).ok (offW w (([rowO 89 2 (.slice (some ⟨be_0, 0, none⟩) e.length ce_0) e.length vse_0 ge_0, ownC (lBookEntry e) vse_0 fe_0] : List Own).flatMap (·.fp))) v_c) (bd0 : e.length ≤ ce_0 := by exact om_) (bd1 : ce_0 ≤ 9223372036854775807 := by exact om_) (bd2 : e_k < e.length := by exact om_) (r0 : (M.ent e e_k).choices.length ≤ 4194304 := by exact om_) (r1 : ∀ y ∈ (M.ent e e_k).choices, 0 ≤ y.games ∧ y.games ≤ 1000000000000000 ∧ 0 ≤ y.score ∧ y.score ≤ 1000000000000000 := by exact om_) (r2 : 0 ≤ c.games := by exact om_) (r3 : c.games ≤ 2000000 := by exact om_) (r4 : 0 ≤ c.score := by exact om_) (r5 : c.score ≤ 2000000 := by exact om_) : RetB Tryz.prog 131 [.pointer (some ⟨be_0, 0 + e_k * 2, none⟩), v_c] w [rowO 89 2 (.slice (some ⟨be_0, 0, none⟩) e.length ce_0) e.length vse_0 ge_0, ownC (lBookEntry e) vse_0 fe_0] (fun v bs' => ∃ (vsxe : List Value) (fxe : List Nat), v = .tuple #[] ∧ bs' = [rowO 89 2 (.slice (some ⟨be_0, 0, none⟩) e.length ce_0) e.length vsxe ge_0, ownC (lBookEntry (e.set e_k (M.Ent.mk (M.ent e e_k).pits (M.addC (M.ent e e_k).choices c)))) vsxe fxe]) := by
 revert v_c; apply opn
 refine enterB hb @Tryz.func131 @Tryz.ntmps131 rfl rfl ?_
 refine zent ?_
 refine Js.trashE ?_
 refine zn ?_
 have hy1 : e[e_k]? = some (M.ent e e_k) := M.ent_get (by first | omega | (simp only [List.length_set, List.length_append, List.length_cons, List.length_nil, List.length_take, List.length_drop, List.length_replicate]; omega))
 refine Js.fact (fun w hw => elemv_BookEntry (Mem.ownC (i := 1) rfl w hw) hy1) (fun hf1 => ?_)
 obtain ⟨A1_0, c1_0, A1_1, c1_1, he1, bl1_0, bh1_0, bl1_1, bh1_1⟩ := hf1
 refine Js.fact (fun w hw => elem_in cBookEntry (m := 2) (k := e_k) (xs := e) (fun _ => rfl) (Mem.ownC (i := 1) rfl w hw) (by omega)) (fun hl2 => ?_)
 refine Js.ex3 (fun w hw => St.elemS cBookEntry (m := 2) (i := 1) (xs := e) (fun _ => rfl) rfl hy1 he1 hw) (fun f2_1 f2_2 f2_3 => ?_)
 refine Js.unp 0 ?_
 refine zn ?_
 refine zS <| zb rfl fun b3 => zN <| Qa rfl <| zJ <| Js.block ?_
 refine zl [0, 3] (fun F U l os u m => ∃ (j : Nat) (G4_6 : List Nat), l = F [(4, .int .i64 (j : Int))] ∧ os = U [nO, nO, nO, nO, nO, nO, some (anyO G4_6)] ∧ (j + M.findC ((M.ent e e_k).choices.drop j) c.move = M.findC (M.ent e e_k).choices c.move) ∧ (j ≤ (M.ent e e_k).choices.length) ∧ m = (M.ent e e_k).choices.length - j) ⟨0, _, rfl, rfl, by simp, zt, rfl⟩ ?_
 rintro _ _ u4 _ ⟨j, G4_6, rfl, rfl, hM, hj, rfl⟩ x4
 refine zn ?_
 refine Js.seq <| Js.seq ?_
 refine zk [0, 3, 4] (fun F U l os u => ∃ (e25_ : Bool) (G5_6 : List Nat), l = F [(25, .bool e25_)] ∧ os = U [nO, nO, nO, nO, nO, nO, some (anyO G5_6)] ∧ (e25_ = (decide ((j : Int) < ((M.ent e e_k).choices.length : Int)) && decide ((M.cho (M.ent e e_k).choices j).move < c.move)))) ?_ ?_
 ·
  rcases Bool.eq_false_or_eq_true (decide ((j : Int) < ((((M.ent e e_k).choices).length) : Int))) with h6 | h6
  ·
   have h6' := h6; simp only [decide_eq_true_eq, Int.not_lt, Int.not_le] at h6'
   refine zdr [] ?_
   refine JH.p 0 rfl (p_move rfl) ?_
   refine JH.p 1 rfl (p_move rfl) ?_
   refine JH.p 2 rfl (p_nilCheck rfl) ?_
   refine JH.p 3 rfl (p_fieldAddr fld_89_1.h rfl) ?_
   refine JH.q 4 rfl (q_load1 ty_67.h rfl (fun w hw => (Mem.rowR' (i := 5) rfl he1 w hw) 1 _ rfl)) ?_
   refine JH.p 5 rfl (p_len el_67 rfl) ?_
   refine JH.p 6 rfl (p_lss rfl rfl) ?_
   refine JH.p 7 rfl (p_move rfl) ?_
   refine JH.pgT 8 rfl (Gd.t1 rfl rfl rfl) (show (decide ((j : Int) < ((((M.ent e e_k).choices).length) : Int))) = true by first | exact h6 | (rw [h6]; rfl) | simp [h6]) (p_move rfl) ?_
   refine JH.pgT 9 rfl (Gd.t1 rfl rfl rfl) (show (decide ((j : Int) < ((((M.ent e e_k).choices).length) : Int))) = true by first | exact h6 | (rw [h6]; rfl) | simp [h6]) (p_nilCheck rfl) ?_
   refine JH.pgT 10 rfl (Gd.t1 rfl rfl rfl) (show (decide ((j : Int) < ((((M.ent e e_k).choices).length) : Int))) = true by first | exact h6 | (rw [h6]; rfl) | simp [h6]) (p_fieldAddr fld_89_1.h rfl) ?_
   refine JH.qgT 11 rfl (Gd.t1 rfl rfl rfl) (show (decide ((j : Int) < ((((M.ent e e_k).choices).length) : Int))) = true by first | exact h6 | (rw [h6]; rfl) | simp [h6]) (q_load1 ty_67.h rfl (fun w hw => (Mem.rowR' (i := 5) rfl he1 w hw) 1 _ rfl)) ?_
   refine JH.pgT 12 rfl (Gd.t1 rfl rfl rfl) (show (decide ((j : Int) < ((((M.ent e e_k).choices).length) : Int))) = true by first | exact h6 | (rw [h6]; rfl) | simp [h6]) (p_move rfl) ?_
   refine JH.fact (row_some (i := 1) rfl (by first | omega | (simp only [List.length_set, List.length_append, List.length_cons, List.length_nil, List.length_take, List.length_drop, List.length_replicate]; omega))) (fun hf8 => ?_)
   obtain ⟨b8, rfl⟩ := hf8
   have hy7 : ((M.ent e e_k).choices)[j]? = some (M.cho ((M.ent e e_k).choices) j) := M.cho_get (by first | omega | (simp only [List.length_set, List.length_append, List.length_cons, List.length_nil, List.length_take, List.length_drop, List.length_replicate]; omega))
   refine JH.pgT 13 rfl (Gd.t1 rfl rfl rfl) (show (decide ((j : Int) < ((((M.ent e e_k).choices).length) : Int))) = true by first | exact h6 | (rw [h6]; rfl) | simp [h6]) (p_indexAddr el_67 rfl rfl (by first | omega | (simp only [List.length_set, List.length_append, List.length_cons, List.length_nil, List.length_take, List.length_drop, List.length_replicate]; omega)) (by first | omega | (simp only [List.length_set, List.length_append, List.length_cons, List.length_nil, List.length_take, List.length_drop, List.length_replicate]; omega)) rfl) ?_
   refine JH.pgT 14 rfl (Gd.t1 rfl rfl rfl) (show (decide ((j : Int) < ((((M.ent e e_k).choices).length) : Int))) = true by first | exact h6 | (rw [h6]; rfl) | simp [h6]) (p_fieldAddr fld_81_0.h rfl) ?_
   refine JH.qgT 15 rfl (Gd.t1 rfl rfl rfl) (show (decide ((j : Int) < ((((M.ent e e_k).choices).length) : Int))) = true by first | exact h6 | (rw [h6]; rfl) | simp [h6]) (q_load1 ty_2.h rfl (fun w hw => (Mem.rowR' (i := 1) rfl (fltV_at (C := vcChoice) (fun _ => rfl) hy7) w hw) 0 _ rfl)) ?_
   refine JH.pgT 16 rfl (Gd.t1 rfl rfl rfl) (show (decide ((j : Int) < ((((M.ent e e_k).choices).length) : Int))) = true by first | exact h6 | (rw [h6]; rfl) | simp [h6]) (p_fieldAddr fld_81_0.h rfl) ?_
   refine JH.qgT 17 rfl (Gd.t1 rfl rfl rfl) (show (decide ((j : Int) < ((((M.ent e e_k).choices).length) : Int))) = true by first | exact h6 | (rw [h6]; rfl) | simp [h6]) (q_load1 ty_2.h rfl (Mem.box (i := 0) rfl rfl)) ?_
   refine JH.pgT 18 rfl (Gd.t1 rfl rfl rfl) (show (decide ((j : Int) < ((((M.ent e e_k).choices).length) : Int))) = true by first | exact h6 | (rw [h6]; rfl) | simp [h6]) (p_lss rfl rfl) ?_
   refine JH.p 19 rfl (p_pickAnd2 rfl rfl rfl) ?_
   refine yd ?_
   exact zm ⟨((decide ((j : Int) < ((((M.ent e e_k).choices).length) : Int))) && (decide ((M.cho ((M.ent e e_k).choices) j).move < c.move))), _, rfl, rfl, by first | rfl | (rw [‹decide ((j : Int) < ((M.ent e e_k).choices.length : Int)) = false›]; rfl) | (rw [‹decide ((j : Int) < ((M.ent e e_k).choices.length : Int)) = true›]; simp)⟩ (Up.refl _ _)
  have h6' := h6; simp only [decide_eq_false_iff_not, Int.not_lt, Int.not_le] at h6'
  refine zdr [] ?_
  refine JH.p 0 rfl (p_move rfl) ?_
  refine JH.p 1 rfl (p_move rfl) ?_
  refine JH.p 2 rfl (p_nilCheck rfl) ?_
  refine JH.p 3 rfl (p_fieldAddr fld_89_1.h rfl) ?_
  refine JH.q 4 rfl (q_load1 ty_67.h rfl (fun w hw => (Mem.rowR' (i := 5) rfl he1 w hw) 1 _ rfl)) ?_
  refine JH.p 5 rfl (p_len el_67 rfl) ?_
  refine JH.p 6 rfl (p_lss rfl rfl) ?_
  refine JH.p 7 rfl (p_move rfl) ?_
  refine JH.pg (v := undef) 8 rfl (Gd.t1 rfl rfl rfl) (fun hc => absurd hc (by first | (rw [h6]; simp; done) | simp [h6])) ?_
  refine JH.pg (v := undef) 9 rfl (Gd.t1 rfl rfl rfl) (fun hc => absurd hc (by first | (rw [h6]; simp; done) | simp [h6])) ?_
  refine JH.pg (v := undef) 10 rfl (Gd.t1 rfl rfl rfl) (fun hc => absurd hc (by first | (rw [h6]; simp; done) | simp [h6])) ?_
  refine JH.pg (v := undef) 11 rfl (Gd.t1 rfl rfl rfl) (fun hc => absurd hc (by first | (rw [h6]; simp; done) | simp [h6])) ?_
  refine JH.pg (v := undef) 12 rfl (Gd.t1 rfl rfl rfl) (fun hc => absurd hc (by first | (rw [h6]; simp; done) | simp [h6])) ?_
  refine JH.pg (v := undef) 13 rfl (Gd.t1 rfl rfl rfl) (fun hc => absurd hc (by first | (rw [h6]; simp; done) | simp [h6])) ?_
  refine JH.pg (v := undef) 14 rfl (Gd.t1 rfl rfl rfl) (fun hc => absurd hc (by first | (rw [h6]; simp; done) | simp [h6])) ?_
  refine JH.pg (v := undef) 15 rfl (Gd.t1 rfl rfl rfl) (fun hc => absurd hc (by first | (rw [h6]; simp; done) | simp [h6])) ?_
  refine JH.pg (v := undef) 16 rfl (Gd.t1 rfl rfl rfl) (fun hc => absurd hc (by first | (rw [h6]; simp; done) | simp [h6])) ?_
  refine JH.pg (v := undef) 17 rfl (Gd.t1 rfl rfl rfl) (fun hc => absurd hc (by first | (rw [h6]; simp; done) | simp [h6])) ?_
  refine JH.pg (v := .bool false) 18 rfl (Gd.t1 rfl rfl rfl) (fun hc => absurd hc (by first | (rw [h6]; simp; done) | simp [h6])) ?_
  refine JH.p 19 rfl (p_pickAnd rfl rfl rfl) ?_
  refine yd ?_
  exact zm ⟨((decide ((j : Int) < ((((M.ent e e_k).choices).length) : Int))) && false), _, rfl, rfl, by first | rfl | (rw [‹decide ((j : Int) < ((M.ent e e_k).choices.length : Int)) = false›]; rfl) | (rw [‹decide ((j : Int) < ((M.ent e e_k).choices.length : Int)) = true›]; simp)⟩ (Up.refl _ _)
 rintro _ _ u5 ⟨e25_, G5_6, rfl, rfl, hB25⟩ x5
 refine zn ?_
 refine zi (fun h9 h9' => ?_) fun h9 h9' => ?_
 ·
  have q25 := hB25.symm.trans h9; simp only [Bool.and_eq_true, Bool.or_eq_true, decide_eq_true_eq, Bool.and_eq_false_iff, Bool.or_eq_false_iff, decide_eq_false_iff_not, Int.not_lt, Decidable.not_not] at q25
  have hM2 := M.findC_step hM (by omega) (by omega)
  refine Js.skip <| Js.block <| Js.region <| Qm rfl <| Qp rfl rfl <| Qa rfl <| JL.nil <| Js.blockEnd ?_
  exact zag ⟨j + 1, _, rfl, rfl, by exact hM2, zt, rfl⟩ (x4.trans x5)
 have q25 := hB25.symm.trans h9; simp only [Bool.and_eq_true, Bool.or_eq_true, decide_eq_true_eq, Bool.and_eq_false_iff, Bool.or_eq_false_iff, decide_eq_false_iff_not, Int.not_lt, Decidable.not_not] at q25
 have hN : M.findC (M.ent e e_k).choices c.move = j := q25.elim (fun q => M.findC_end hM (by omega)) (fun q => if q8 : j < (M.ent e e_k).choices.length then M.findC_hit hM q8 (by omega) else M.findC_end hM (by omega))
 refine zx ?_
 refine Js.seq <| Js.seq ?_
 refine zk [0, 3, 4] (fun F U l os u => ∃ (e47_ : Bool) (G10_6 : List Nat), l = F [(47, .bool e47_)] ∧ os = U [nO, nO, nO, nO, nO, nO, some (anyO G10_6)] ∧ (e47_ = (decide ((j : Int) < ((M.ent e e_k).choices.length : Int)) && decide ((M.cho (M.ent e e_k).choices j).move = c.move)))) ?_ ?_
 ·
  rcases Bool.eq_false_or_eq_true (decide ((j : Int) < ((((M.ent e e_k).choices).length) : Int))) with h11 | h11
  ·
   have h11' := h11; simp only [decide_eq_true_eq, Int.not_lt, Int.not_le] at h11'
   refine zdr [] ?_
   refine JH.p 0 rfl (p_move rfl) ?_
   refine JH.p 1 rfl (p_move rfl) ?_
   refine JH.p 2 rfl (p_nilCheck rfl) ?_
   refine JH.p 3 rfl (p_fieldAddr fld_89_1.h rfl) ?_
   refine JH.q 4 rfl (q_load1 ty_67.h rfl (fun w hw => (Mem.rowR' (i := 5) rfl he1 w hw) 1 _ rfl)) ?_
   refine JH.p 5 rfl (p_len el_67 rfl) ?_
   refine JH.p 6 rfl (p_lss rfl rfl) ?_
   refine JH.p 7 rfl (p_move rfl) ?_
   refine JH.pgT 8 rfl (Gd.t1 rfl rfl rfl) (show (decide ((j : Int) < ((((M.ent e e_k).choices).length) : Int))) = true by first | exact h11 | (rw [h11]; rfl) | simp [h11]) (p_move rfl) ?_
   refine JH.pgT 9 rfl (Gd.t1 rfl rfl rfl) (show (decide ((j : Int) < ((((M.ent e e_k).choices).length) : Int))) = true by first | exact h11 | (rw [h11]; rfl) | simp [h11]) (p_nilCheck rfl) ?_
   refine JH.pgT 10 rfl (Gd.t1 rfl rfl rfl) (show (decide ((j : Int) < ((((M.ent e e_k).choices).length) : Int))) = true by first | exact h11 | (rw [h11]; rfl) | simp [h11]) (p_fieldAddr fld_89_1.h rfl) ?_
   refine JH.qgT 11 rfl (Gd.t1 rfl rfl rfl) (show (decide ((j : Int) < ((((M.ent e e_k).choices).length) : Int))) = true by first | exact h11 | (rw [h11]; rfl) | simp [h11]) (q_load1 ty_67.h rfl (fun w hw => (Mem.rowR' (i := 5) rfl he1 w hw) 1 _ rfl)) ?_
   refine JH.pgT 12 rfl (Gd.t1 rfl rfl rfl) (show (decide ((j : Int) < ((((M.ent e e_k).choices).length) : Int))) = true by first | exact h11 | (rw [h11]; rfl) | simp [h11]) (p_move rfl) ?_
   refine JH.fact (row_some (i := 1) rfl (by first | omega | (simp only [List.length_set, List.length_append, List.length_cons, List.length_nil, List.length_take, List.length_drop, List.length_replicate]; omega))) (fun hf13 => ?_)
   obtain ⟨b13, rfl⟩ := hf13
   have hy12 : ((M.ent e e_k).choices)[j]? = some (M.cho ((M.ent e e_k).choices) j) := M.cho_get (by first | omega | (simp only [List.length_set, List.length_append, List.length_cons, List.length_nil, List.length_take, List.length_drop, List.length_replicate]; omega))
   refine JH.pgT 13 rfl (Gd.t1 rfl rfl rfl) (show (decide ((j : Int) < ((((M.ent e e_k).choices).length) : Int))) = true by first | exact h11 | (rw [h11]; rfl) | simp [h11]) (p_indexAddr el_67 rfl rfl (by first | omega | (simp only [List.length_set, List.length_append, List.length_cons, List.length_nil, List.length_take, List.length_drop, List.length_replicate]; omega)) (by first | omega | (simp only [List.length_set, List.length_append, List.length_cons, List.length_nil, List.length_take, List.length_drop, List.length_replicate]; omega)) rfl) ?_
   refine JH.pgT 14 rfl (Gd.t1 rfl rfl rfl) (show (decide ((j : Int) < ((((M.ent e e_k).choices).length) : Int))) = true by first | exact h11 | (rw [h11]; rfl) | simp [h11]) (p_fieldAddr fld_81_0.h rfl) ?_
   refine JH.qgT 15 rfl (Gd.t1 rfl rfl rfl) (show (decide ((j : Int) < ((((M.ent e e_k).choices).length) : Int))) = true by first | exact h11 | (rw [h11]; rfl) | simp [h11]) (q_load1 ty_2.h rfl (fun w hw => (Mem.rowR' (i := 1) rfl (fltV_at (C := vcChoice) (fun _ => rfl) hy12) w hw) 0 _ rfl)) ?_
   refine JH.pgT 16 rfl (Gd.t1 rfl rfl rfl) (show (decide ((j : Int) < ((((M.ent e e_k).choices).length) : Int))) = true by first | exact h11 | (rw [h11]; rfl) | simp [h11]) (p_fieldAddr fld_81_0.h rfl) ?_
   refine JH.qgT 17 rfl (Gd.t1 rfl rfl rfl) (show (decide ((j : Int) < ((((M.ent e e_k).choices).length) : Int))) = true by first | exact h11 | (rw [h11]; rfl) | simp [h11]) (q_load1 ty_2.h rfl (Mem.box (i := 0) rfl rfl)) ?_
   refine JH.pgT 18 rfl (Gd.t1 rfl rfl rfl) (show (decide ((j : Int) < ((((M.ent e e_k).choices).length) : Int))) = true by first | exact h11 | (rw [h11]; rfl) | simp [h11]) (p_eql rfl rfl) ?_
   refine JH.p 19 rfl (p_pickAnd2 rfl rfl rfl) ?_
   refine yd ?_
   exact zm ⟨((decide ((j : Int) < ((((M.ent e e_k).choices).length) : Int))) && (decide ((M.cho ((M.ent e e_k).choices) j).move = c.move))), _, rfl, rfl, by first | rfl | (rw [‹decide ((j : Int) < ((M.ent e e_k).choices.length : Int)) = false›]; rfl) | (rw [‹decide ((j : Int) < ((M.ent e e_k).choices.length : Int)) = true›]; simp)⟩ (Up.refl _ _)
  have h11' := h11; simp only [decide_eq_false_iff_not, Int.not_lt, Int.not_le] at h11'
  refine zdr [] ?_
  refine JH.p 0 rfl (p_move rfl) ?_
  refine JH.p 1 rfl (p_move rfl) ?_
  refine JH.p 2 rfl (p_nilCheck rfl) ?_
  refine JH.p 3 rfl (p_fieldAddr fld_89_1.h rfl) ?_
  refine JH.q 4 rfl (q_load1 ty_67.h rfl (fun w hw => (Mem.rowR' (i := 5) rfl he1 w hw) 1 _ rfl)) ?_
  refine JH.p 5 rfl (p_len el_67 rfl) ?_
  refine JH.p 6 rfl (p_lss rfl rfl) ?_
  refine JH.p 7 rfl (p_move rfl) ?_
  refine JH.pg (v := undef) 8 rfl (Gd.t1 rfl rfl rfl) (fun hc => absurd hc (by first | (rw [h11]; simp; done) | simp [h11])) ?_
  refine JH.pg (v := undef) 9 rfl (Gd.t1 rfl rfl rfl) (fun hc => absurd hc (by first | (rw [h11]; simp; done) | simp [h11])) ?_
  refine JH.pg (v := undef) 10 rfl (Gd.t1 rfl rfl rfl) (fun hc => absurd hc (by first | (rw [h11]; simp; done) | simp [h11])) ?_
  refine JH.pg (v := undef) 11 rfl (Gd.t1 rfl rfl rfl) (fun hc => absurd hc (by first | (rw [h11]; simp; done) | simp [h11])) ?_
  refine JH.pg (v := undef) 12 rfl (Gd.t1 rfl rfl rfl) (fun hc => absurd hc (by first | (rw [h11]; simp; done) | simp [h11])) ?_
  refine JH.pg (v := undef) 13 rfl (Gd.t1 rfl rfl rfl) (fun hc => absurd hc (by first | (rw [h11]; simp; done) | simp [h11])) ?_
  refine JH.pg (v := undef) 14 rfl (Gd.t1 rfl rfl rfl) (fun hc => absurd hc (by first | (rw [h11]; simp; done) | simp [h11])) ?_
  refine JH.pg (v := undef) 15 rfl (Gd.t1 rfl rfl rfl) (fun hc => absurd hc (by first | (rw [h11]; simp; done) | simp [h11])) ?_
  refine JH.pg (v := undef) 16 rfl (Gd.t1 rfl rfl rfl) (fun hc => absurd hc (by first | (rw [h11]; simp; done) | simp [h11])) ?_
  refine JH.pg (v := undef) 17 rfl (Gd.t1 rfl rfl rfl) (fun hc => absurd hc (by first | (rw [h11]; simp; done) | simp [h11])) ?_
  refine JH.pg (v := .bool false) 18 rfl (Gd.t1 rfl rfl rfl) (fun hc => absurd hc (by first | (rw [h11]; simp; done) | simp [h11])) ?_
  refine JH.p 19 rfl (p_pickAnd rfl rfl rfl) ?_
  refine yd ?_
  exact zm ⟨((decide ((j : Int) < ((((M.ent e e_k).choices).length) : Int))) && false), _, rfl, rfl, by first | rfl | (rw [‹decide ((j : Int) < ((M.ent e e_k).choices.length : Int)) = false›]; rfl) | (rw [‹decide ((j : Int) < ((M.ent e e_k).choices.length : Int)) = true›]; simp)⟩ (Up.refl _ _)
 rintro _ _ u10 ⟨e47_, G10_6, rfl, rfl, hB47⟩ x10
 refine zn ?_
 refine zi (fun h14 h14' => ?_) fun h14 h14' => ?_
 ·
  have q47 := hB47.symm.trans h14; simp only [Bool.and_eq_true, Bool.or_eq_true, decide_eq_true_eq, Bool.and_eq_false_iff, Bool.or_eq_false_iff, decide_eq_false_iff_not, Int.not_lt, Decidable.not_not] at q47
  have hC := M.addC_yes (c := c) hN (by omega) q47.2
  have hB9 := M.bump_yes (show j < (M.ent e e_k).choices.length by omega) hC
  have hx14 := r1 _ (M.cho_mem (show j < (M.ent e e_k).choices.length by omega))
  refine Js.seq ?_
  refine zdr [13] ?_
  refine JH.p 0 rfl (p_move rfl) ?_
  refine JH.p 1 rfl (p_nilCheck rfl) ?_
  refine JH.p 2 rfl (p_fieldAddr fld_89_1.h rfl) ?_
  refine JH.q 3 rfl (q_load1 ty_67.h rfl (fun w hw => (Mem.rowR' (i := 5) rfl he1 w hw) 1 _ rfl)) ?_
  refine JH.p 4 rfl (p_move rfl) ?_
  refine JH.fact (row_some (i := 1) rfl (by first | omega | (simp only [List.length_set, List.length_append, List.length_cons, List.length_nil, List.length_take, List.length_drop, List.length_replicate]; omega))) (fun hf16 => ?_)
  obtain ⟨b16, rfl⟩ := hf16
  have hy15 : ((M.ent e e_k).choices)[j]? = some (M.cho ((M.ent e e_k).choices) j) := M.cho_get (by first | omega | (simp only [List.length_set, List.length_append, List.length_cons, List.length_nil, List.length_take, List.length_drop, List.length_replicate]; omega))
  refine JH.p 5 rfl (p_indexAddr el_67 rfl rfl (by first | omega | (simp only [List.length_set, List.length_append, List.length_cons, List.length_nil, List.length_take, List.length_drop, List.length_replicate]; omega)) (by first | omega | (simp only [List.length_set, List.length_append, List.length_cons, List.length_nil, List.length_take, List.length_drop, List.length_replicate]; omega)) rfl) ?_
  refine JH.p 6 rfl (p_fieldAddr fld_81_1.h rfl) ?_
  refine JH.q 7 rfl (q_load1 ty_2.h rfl (fun w hw => (Mem.rowR' (i := 1) rfl (fltV_at (C := vcChoice) (fun _ => rfl) hy15) w hw) 1 _ rfl)) ?_
  refine JH.p 8 rfl (p_fieldAddr fld_81_1.h rfl) ?_
  refine JH.q 9 rfl (q_load1 ty_2.h rfl (Mem.box (i := 0) rfl rfl)) ?_
  refine JH.p 10 rfl (p_add rfl rfl (IntWalk.i64_in _ (by omega))) ?_
  have hy17 : ((M.ent e e_k).choices)[j]? = some (M.cho ((M.ent e e_k).choices) j) := M.cho_get (by first | omega | (simp only [List.length_set, List.length_append, List.length_cons, List.length_nil, List.length_take, List.length_drop, List.length_replicate]; omega))
  refine JH.p 11 rfl (p_indexAddr el_67 rfl rfl (by first | omega | (simp only [List.length_set, List.length_append, List.length_cons, List.length_nil, List.length_take, List.length_drop, List.length_replicate]; omega)) (by first | omega | (simp only [List.length_set, List.length_append, List.length_cons, List.length_nil, List.length_take, List.length_drop, List.length_replicate]; omega)) rfl) ?_
  refine JH.p 12 rfl (p_fieldAddr fld_81_1.h rfl) ?_
  refine y1 13 ?_
  refine JHo.s rfl (e_storeRow (i := 1) (xs' := fltV vcChoice (((M.ent e e_k).choices).set j (M.Cho.mk ((M.cho ((M.ent e e_k).choices) j).move) (((M.cho ((M.ent e e_k).choices) j).games) + c.games) ((M.cho ((M.ent e e_k).choices) j).score)))) ty_2.h rfl rfl rfl rfl rfl rfl (fltV_lt (C := vcChoice) (j := 1) (fun _ => rfl) (by first | omega | (simp only [List.length_set, List.length_append, List.length_cons, List.length_nil, List.length_take, List.length_drop, List.length_replicate]; omega)) (by decide)) (fltV_cell (C := vcChoice) (j := 1) (y' := (M.Cho.mk ((M.cho ((M.ent e e_k).choices) j).move) (((M.cho ((M.ent e e_k).choices) j).games) + c.games) ((M.cho ((M.ent e e_k).choices) j).score))) (fun _ => rfl) hy17 (by decide) rfl)) (.inr rfl) ?_
  rintro _ _ _ ⟨rfl, rfl⟩ _
  refine znh ?_
  refine yd ?_
  have hx15 : (M.cho (((M.ent e e_k).choices).set j (M.Cho.mk ((M.cho ((M.ent e e_k).choices) j).move) (((M.cho ((M.ent e e_k).choices) j).games) + c.games) ((M.cho ((M.ent e e_k).choices) j).score))) j).score = (M.cho (M.ent e e_k).choices j).score := by rw [M.cho_set (by first | omega | (simp only [List.length_append, List.length_cons, List.length_nil, List.length_take, List.length_drop]; omega))]
  refine Js.seq ?_
  refine zdr [13] ?_
  refine JH.p 0 rfl (p_move rfl) ?_
  refine JH.p 1 rfl (p_nilCheck rfl) ?_
  refine JH.p 2 rfl (p_fieldAddr fld_89_1.h rfl) ?_
  refine JH.q 3 rfl (q_load1 ty_67.h rfl (fun w hw => (Mem.rowR' (i := 5) rfl he1 w hw) 1 _ rfl)) ?_
  refine JH.p 4 rfl (p_move rfl) ?_
  have hy18 : (((M.ent e e_k).choices).set j (M.Cho.mk ((M.cho ((M.ent e e_k).choices) j).move) (((M.cho ((M.ent e e_k).choices) j).games) + c.games) ((M.cho ((M.ent e e_k).choices) j).score)))[j]? = some (M.cho (((M.ent e e_k).choices).set j (M.Cho.mk ((M.cho ((M.ent e e_k).choices) j).move) (((M.cho ((M.ent e e_k).choices) j).games) + c.games) ((M.cho ((M.ent e e_k).choices) j).score))) j) := M.cho_get (by first | omega | (simp only [List.length_set, List.length_append, List.length_cons, List.length_nil, List.length_take, List.length_drop, List.length_replicate]; omega))
  refine JH.p 5 rfl (p_indexAddr el_67 rfl rfl (by first | omega | (simp only [List.length_set, List.length_append, List.length_cons, List.length_nil, List.length_take, List.length_drop, List.length_replicate]; omega)) (by first | omega | (simp only [List.length_set, List.length_append, List.length_cons, List.length_nil, List.length_take, List.length_drop, List.length_replicate]; omega)) rfl) ?_
  refine JH.p 6 rfl (p_fieldAddr fld_81_2.h rfl) ?_
  refine JH.q 7 rfl (q_load1 ty_2.h rfl (fun w hw => (Mem.rowR' (i := 1) rfl (fltV_at (C := vcChoice) (fun _ => rfl) hy18) w hw) 2 _ rfl)) ?_
  refine JH.p 8 rfl (p_fieldAddr fld_81_2.h rfl) ?_
  refine JH.q 9 rfl (q_load1 ty_2.h rfl (Mem.box (i := 0) rfl rfl)) ?_
  refine JH.p 10 rfl (p_add rfl rfl (IntWalk.i64_in _ (by omega))) ?_
  have hy19 : (((M.ent e e_k).choices).set j (M.Cho.mk ((M.cho ((M.ent e e_k).choices) j).move) (((M.cho ((M.ent e e_k).choices) j).games) + c.games) ((M.cho ((M.ent e e_k).choices) j).score)))[j]? = some (M.cho (((M.ent e e_k).choices).set j (M.Cho.mk ((M.cho ((M.ent e e_k).choices) j).move) (((M.cho ((M.ent e e_k).choices) j).games) + c.games) ((M.cho ((M.ent e e_k).choices) j).score))) j) := M.cho_get (by first | omega | (simp only [List.length_set, List.length_append, List.length_cons, List.length_nil, List.length_take, List.length_drop, List.length_replicate]; omega))
  refine JH.p 11 rfl (p_indexAddr el_67 rfl rfl (by first | omega | (simp only [List.length_set, List.length_append, List.length_cons, List.length_nil, List.length_take, List.length_drop, List.length_replicate]; omega)) (by first | omega | (simp only [List.length_set, List.length_append, List.length_cons, List.length_nil, List.length_take, List.length_drop, List.length_replicate]; omega)) rfl) ?_
  refine JH.p 12 rfl (p_fieldAddr fld_81_2.h rfl) ?_
  refine y1 13 ?_
  refine JHo.s rfl (e_storeRow (i := 1) (xs' := fltV vcChoice ((((M.ent e e_k).choices).set j (M.Cho.mk ((M.cho ((M.ent e e_k).choices) j).move) (((M.cho ((M.ent e e_k).choices) j).games) + c.games) ((M.cho ((M.ent e e_k).choices) j).score))).set j (M.Cho.mk ((M.cho (((M.ent e e_k).choices).set j (M.Cho.mk ((M.cho ((M.ent e e_k).choices) j).move) (((M.cho ((M.ent e e_k).choices) j).games) + c.games) ((M.cho ((M.ent e e_k).choices) j).score))) j).move) ((M.cho (((M.ent e e_k).choices).set j (M.Cho.mk ((M.cho ((M.ent e e_k).choices) j).move) (((M.cho ((M.ent e e_k).choices) j).games) + c.games) ((M.cho ((M.ent e e_k).choices) j).score))) j).games) (((M.cho (((M.ent e e_k).choices).set j (M.Cho.mk ((M.cho ((M.ent e e_k).choices) j).move) (((M.cho ((M.ent e e_k).choices) j).games) + c.games) ((M.cho ((M.ent e e_k).choices) j).score))) j).score) + c.score)))) ty_2.h rfl rfl rfl rfl rfl rfl (fltV_lt (C := vcChoice) (j := 2) (fun _ => rfl) (by first | omega | (simp only [List.length_set, List.length_append, List.length_cons, List.length_nil, List.length_take, List.length_drop, List.length_replicate]; omega)) (by decide)) (fltV_cell (C := vcChoice) (j := 2) (y' := (M.Cho.mk ((M.cho (((M.ent e e_k).choices).set j (M.Cho.mk ((M.cho ((M.ent e e_k).choices) j).move) (((M.cho ((M.ent e e_k).choices) j).games) + c.games) ((M.cho ((M.ent e e_k).choices) j).score))) j).move) ((M.cho (((M.ent e e_k).choices).set j (M.Cho.mk ((M.cho ((M.ent e e_k).choices) j).move) (((M.cho ((M.ent e e_k).choices) j).games) + c.games) ((M.cho ((M.ent e e_k).choices) j).score))) j).games) (((M.cho (((M.ent e e_k).choices).set j (M.Cho.mk ((M.cho ((M.ent e e_k).choices) j).move) (((M.cho ((M.ent e e_k).choices) j).games) + c.games) ((M.cho ((M.ent e e_k).choices) j).score))) j).score) + c.score))) (fun _ => rfl) hy19 (by decide) rfl)) (.inr rfl) ?_
  rintro _ _ _ ⟨rfl, rfl⟩ _
  refine znh ?_
  refine yd ?_
  refine Js.pk (cBookEntry (M.Ent.mk ((M.ent e e_k).pits) ((((M.ent e e_k).choices).set j (M.Cho.mk ((M.cho ((M.ent e e_k).choices) j).move) (((M.cho ((M.ent e e_k).choices) j).games) + c.games) ((M.cho ((M.ent e e_k).choices) j).score))).set j (M.Cho.mk ((M.cho (((M.ent e e_k).choices).set j (M.Cho.mk ((M.cho ((M.ent e e_k).choices) j).move) (((M.cho ((M.ent e e_k).choices) j).games) + c.games) ((M.cho ((M.ent e e_k).choices) j).score))) j).move) ((M.cho (((M.ent e e_k).choices).set j (M.Cho.mk ((M.cho ((M.ent e e_k).choices) j).move) (((M.cho ((M.ent e e_k).choices) j).games) + c.games) ((M.cho ((M.ent e e_k).choices) j).score))) j).games) (((M.cho (((M.ent e e_k).choices).set j (M.Cho.mk ((M.cho ((M.ent e e_k).choices) j).move) (((M.cho ((M.ent e e_k).choices) j).games) + c.games) ((M.cho ((M.ent e e_k).choices) j).score))) j).score) + c.score))))) [.slice A1_0 (((M.ent e e_k).pits).length) c1_0, .slice (some ⟨b16, 0, none⟩) (((M.ent e e_k).choices).length) c1_1] (fun f21 G21 => ?_) (by exact (gv_agg (gvc gv_ (gvc (gv_flat lChoice (xs := ((((M.ent e e_k).choices).set j (M.Cho.mk ((M.cho ((M.ent e e_k).choices) j).move) (((M.cho ((M.ent e e_k).choices) j).games) + c.games) ((M.cho ((M.ent e e_k).choices) j).score))).set j (M.Cho.mk ((M.cho (((M.ent e e_k).choices).set j (M.Cho.mk ((M.cho ((M.ent e e_k).choices) j).move) (((M.cho ((M.ent e e_k).choices) j).games) + c.games) ((M.cho ((M.ent e e_k).choices) j).score))) j).move) ((M.cho (((M.ent e e_k).choices).set j (M.Cho.mk ((M.cho ((M.ent e e_k).choices) j).move) (((M.cho ((M.ent e e_k).choices) j).games) + c.games) ((M.cho ((M.ent e e_k).choices) j).score))) j).games) (((M.cho (((M.ent e e_k).choices).set j (M.Cho.mk ((M.cho ((M.ent e e_k).choices) j).move) (((M.cho ((M.ent e e_k).choices) j).games) + c.games) ((M.cho ((M.ent e e_k).choices) j).score))) j).score) + c.score)))) po_ (by first | rfl | (simp [fltV]; done)) (by first | with_reducible rfl | assumption | rfl)) gvn))))
  refine Js.front (i := 3) rfl ?_
  refine zn ?_
  refine Js.front (i := 1) rfl ?_
  refine zn ?_
  refine Js.front (i := 4) rfl ?_
  refine zn ?_
  refine Js.conv (fun w hw => St.closeE cBookEntry (k := e_k) (m := 2) (xs := e) (y := (M.Ent.mk ((M.ent e e_k).pits) ((((M.ent e e_k).choices).set j (M.Cho.mk ((M.cho ((M.ent e e_k).choices) j).move) (((M.cho ((M.ent e e_k).choices) j).games) + c.games) ((M.cho ((M.ent e e_k).choices) j).score))).set j (M.Cho.mk ((M.cho (((M.ent e e_k).choices).set j (M.Cho.mk ((M.cho ((M.ent e e_k).choices) j).move) (((M.cho ((M.ent e e_k).choices) j).games) + c.games) ((M.cho ((M.ent e e_k).choices) j).score))) j).move) ((M.cho (((M.ent e e_k).choices).set j (M.Cho.mk ((M.cho ((M.ent e e_k).choices) j).move) (((M.cho ((M.ent e e_k).choices) j).games) + c.games) ((M.cho ((M.ent e e_k).choices) j).score))) j).games) (((M.cho (((M.ent e e_k).choices).set j (M.Cho.mk ((M.cho ((M.ent e e_k).choices) j).move) (((M.cho ((M.ent e e_k).choices) j).games) + c.games) ((M.cho ((M.ent e e_k).choices) j).score))) j).score) + c.score))))) (vs := vse_0) (vs' := vse_0) (by omega) rfl (setL_same he1 rfl) hw) ?_
  refine zn ?_
  refine zrb0 [3, 0] hb ((x4.trans x5).trans x10) ?_
  have hE1 : e.set e_k (M.Ent.mk (M.ent e e_k).pits (M.addC (M.ent e e_k).choices c)) = e.set e_k (M.Ent.mk ((M.ent e e_k).pits) ((((M.ent e e_k).choices).set j (M.Cho.mk ((M.cho ((M.ent e e_k).choices) j).move) (((M.cho ((M.ent e e_k).choices) j).games) + c.games) ((M.cho ((M.ent e e_k).choices) j).score))).set j (M.Cho.mk ((M.cho (((M.ent e e_k).choices).set j (M.Cho.mk ((M.cho ((M.ent e e_k).choices) j).move) (((M.cho ((M.ent e e_k).choices) j).games) + c.games) ((M.cho ((M.ent e e_k).choices) j).score))) j).move) ((M.cho (((M.ent e e_k).choices).set j (M.Cho.mk ((M.cho ((M.ent e e_k).choices) j).move) (((M.cho ((M.ent e e_k).choices) j).games) + c.games) ((M.cho ((M.ent e e_k).choices) j).score))) j).games) (((M.cho (((M.ent e e_k).choices).set j (M.Cho.mk ((M.cho ((M.ent e e_k).choices) j).move) (((M.cho ((M.ent e e_k).choices) j).games) + c.games) ((M.cho ((M.ent e e_k).choices) j).score))) j).score) + c.score)))) := by first | (simp only [List.length_set]; done) | (rw [← hB9]; done) | (rw [hC]; done) | (rw [hC]; rfl)
  refine ⟨vse_0, (f2_3 ++ f21 ++ f2_2), rfl, ?_⟩
  · first | rfl | (dsimp only; rw [hE1]) | (dsimp only; simp only [hE1]) | (rw [hE1]; done) | (rw [hE1]; rfl)
 have q47 := hB47.symm.trans h14; simp only [Bool.and_eq_true, Bool.or_eq_true, decide_eq_true_eq, Bool.and_eq_false_iff, Bool.or_eq_false_iff, decide_eq_false_iff_not, Int.not_lt, Decidable.not_not] at q47
 have hC := M.addC_no (c := c) hN (fun a => q47.elim (fun q => by omega) (fun q => q a.2))
 refine Js.skip <| zS <| zbs fun b22 => ?_
 refine Qm rfl <| Qc rfl <| Qf fh rfl <| Qw (q_load1 ty_67.h rfl (fun w hw => (Mem.rowR' (i := 6) rfl he1 w hw) 1 _ rfl)) <| Qm rfl <| Qq (p_slice (lo' := 0) (hi' := j) (mx' := c1_1) el_67 rfl rfl ⟨_, rfl, by omega⟩ rfl) ?_
 refine JL.e (e_append (i := 0) (n' := (((M.ent e e_k).choices).take j).length) (vs' := fltV vcChoice (((M.ent e e_k).choices).take j)) el_67 rfl rfl rfl rfl (src_pre (i := 2) (b := j) und_67 rfl (fun w hw => (FltL.one (F := lChoice) _)) (by omega) (by omega)) (by first | omega | (simp only [List.length_append, List.length_cons, List.length_nil, List.length_take, List.length_drop]; omega)) (by first | omega | (simp only [List.length_append, List.length_cons, List.length_nil, List.length_take, List.length_drop]; omega)) (by first | omega | (simp only [List.length_append, List.length_cons, List.length_nil, List.length_take, List.length_drop] <;> omega)) (by rw [(fltV_split (F := lChoice) _ _).1]; first | rfl | exact fltV_app _ _ _ | (simp [fltV]; done))) ?_
 rintro v24 _ _ ⟨⟨g25, rfl⟩, rfl⟩ _
 refine JL.fact (row_form' (i := 0) rfl) (fun hf26 => ?_)
 obtain ⟨A26, c26, rfl, bl26, bh26⟩ := hf26
 refine znl ?_
 refine Qa rfl <| zN <| Qm rfl <| Q9 1 rfl rfl ?_
 refine zbs fun b27 => ?_
 refine JL.e (e_append (i := 1) (n' := ((((M.ent e e_k).choices).take j) ++ [c]).length) (vs' := fltV vcChoice ((((M.ent e e_k).choices).take j) ++ [c])) el_67 rfl rfl rfl rfl (src_row (i := 0) und_67 rfl rfl) (by first | omega | (simp only [List.length_append, List.length_cons, List.length_nil, List.length_take, List.length_drop]; omega)) (by first | omega | (simp only [List.length_append, List.length_cons, List.length_nil, List.length_take, List.length_drop]; omega)) (by first | omega | (simp only [List.length_append, List.length_cons, List.length_nil, List.length_take, List.length_drop] <;> omega)) (by first | rfl | exact fltV_app _ _ _ | exact fltV_snoc _ _ _ | (simp [fltV]; done))) ?_
 rintro v29 _ _ ⟨⟨g30, rfl⟩, rfl⟩ _
 refine JL.fact (row_form' (i := 1) rfl) (fun hf31 => ?_)
 obtain ⟨A31, c31, rfl, bl31, bh31⟩ := hf31
 refine znl ?_
 refine Qa rfl <| zG <| Qm rfl <| Qm rfl <| Qm rfl <| Qc rfl <| Qf fh rfl <| Qw (q_load1 ty_67.h rfl (fun w hw => (Mem.rowR' (i := 7) rfl he1 w hw) 1 _ rfl)) <| Qm rfl <| Qq (p_slice (lo' := j) (hi' := ((M.ent e e_k).choices).length) (mx' := c1_1) el_67 rfl rfl ⟨rfl, rfl⟩ ⟨_, rfl, by omega⟩) ?_
 refine JL.e (e_append (i := 1) (n' := (((((M.ent e e_k).choices).take j) ++ [c]) ++ (((M.ent e e_k).choices).drop j)).length) (vs' := fltV vcChoice (((((M.ent e e_k).choices).take j) ++ [c]) ++ (((M.ent e e_k).choices).drop j))) el_67 rfl rfl rfl rfl (src_suf (i := 3) (a := j) und_67 rfl (fun w hw => (FltL.one (F := lChoice) _)) (by omega) (by omega)) (by first | omega | (simp only [List.length_append, List.length_cons, List.length_nil, List.length_take, List.length_drop]; omega)) (by first | omega | (simp only [List.length_append, List.length_cons, List.length_nil, List.length_take, List.length_drop]; omega)) (by first | omega | (simp only [List.length_append, List.length_cons, List.length_nil, List.length_take, List.length_drop] <;> omega)) (by rw [(fltV_split (F := lChoice) _ _).2]; first | rfl | exact fltV_app _ _ _ | (simp [fltV]; done))) ?_
 rintro v32 _ _ ⟨⟨g33, rfl⟩, rfl⟩ _
 refine JL.fact (row_form' (i := 1) rfl) (fun hf34 => ?_)
 obtain ⟨A34, c34, rfl, bl34, bh34⟩ := hf34
 refine znl ?_
 refine Qc rfl <| Qf fh rfl ?_
 refine JL.s (e_storeRow (i := 7) (xs' := setL vse_0 (0 + e_k * 2) [.slice A1_0 (((M.ent e e_k).pits).length) c1_0, .slice A34 ((((((M.ent e e_k).choices).take j) ++ [c]) ++ (((M.ent e e_k).choices).drop j)).length) c34]) ty_67.h rfl rfl rfl rfl rfl rfl (by omega) (setL_at (j := 1) he1 (by decide) hl2 rfl)) ?_
 rintro _ _ _ ⟨rfl, rfl⟩ _
 refine znl ?_
 refine JL.nil ?_
 refine Js.pk (cBookEntry (M.Ent.mk ((M.ent e e_k).pits) (((((M.ent e e_k).choices).take j) ++ [c]) ++ (((M.ent e e_k).choices).drop j)))) [.slice A1_0 (((M.ent e e_k).pits).length) c1_0, .slice A34 ((((((M.ent e e_k).choices).take j) ++ [c]) ++ (((M.ent e e_k).choices).drop j)).length) c34] (fun f36 G36 => ?_) (by exact (gv_agg (gvc gv_ (gvc (gv_flat lChoice (xs := (((((M.ent e e_k).choices).take j) ++ [c]) ++ (((M.ent e e_k).choices).drop j))) po_ (by first | rfl | (simp [fltV]; done)) (by first | with_reducible rfl | assumption | rfl)) gvn))))
 refine Js.front (i := 5) rfl ?_
 refine zn ?_
 refine Js.front (i := 1) rfl ?_
 refine zn ?_
 refine Js.front (i := 6) rfl ?_
 refine zn ?_
 refine Js.conv (fun w hw => St.closeE cBookEntry (k := e_k) (m := 2) (xs := e) (y := (M.Ent.mk ((M.ent e e_k).pits) (((((M.ent e e_k).choices).take j) ++ [c]) ++ (((M.ent e e_k).choices).drop j)))) (vs := vse_0) (vs' := (setL vse_0 (0 + e_k * 2) [.slice A1_0 (((M.ent e e_k).pits).length) c1_0, .slice A34 ((((((M.ent e e_k).choices).take j) ++ [c]) ++ (((M.ent e e_k).choices).drop j)).length) c34])) (by omega) rfl rfl hw) ?_
 refine zn ?_
 refine zrbE [5, 0] hb ((x4.trans x5).trans x10) ?_
 have hE1 : e.set e_k (M.Ent.mk (M.ent e e_k).pits (M.addC (M.ent e e_k).choices c)) = e.set e_k (M.Ent.mk ((M.ent e e_k).pits) (((((M.ent e e_k).choices).take j) ++ [c]) ++ (((M.ent e e_k).choices).drop j))) := by first | (simp only [List.length_set]; done) | (rw [← hB9]; done) | (rw [hC]; done) | (rw [hC]; rfl)
 refine ⟨(setL vse_0 (0 + e_k * 2) [.slice A1_0 (((M.ent e e_k).pits).length) c1_0, .slice A34 ((((((M.ent e e_k).choices).take j) ++ [c]) ++ (((M.ent e e_k).choices).drop j)).length) c34]), (f2_3 ++ f36 ++ f2_2), rfl, ?_⟩
 · first | rfl | (dsimp only; rw [hE1]) | (dsimp only; simp only [hE1]) | (rw [hE1]; done) | (rw [hE1]; rfl)

set_option maxHeartbeats 4000000 in
theorem c_spec_l20Add (b_rules : M.Rul) (b_entries : List M.Ent) {Ab_9 : Option Addr} {cb_9 : Nat} {gb_9 : List Nat} {vsb_9 : List Value} {fb_9 : List Nat} (pits : List Int) {v_pits : Value} (c : M.Cho) {v_c : Value} {bb : Nat} {w : World} (hb : Bw w [boxO bb [.int .i64 b_rules.pits, .int .i64 b_rules.seeds, .bool b_rules.stores, .bool b_rules.skip, .bool b_rules.relay, .bool b_rules.feed, .bool b_rules.again, .int .i64 b_rules.capture, .int .i64 b_rules.slam, .slice Ab_9 b_entries.length cb_9] 37, rowO 89 2 (.slice Ab_9 b_entries.length cb_9) b_entries.length vsb_9 gb_9, ownC (lBookEntry b_entries) vsb_9 fb_9]) (h_pits : (Ty.ints 2 pits).ok (offW w (([boxO bb [.int .i64 b_rules.pits, .int .i64 b_rules.seeds, .bool b_rules.stores, .bool b_rules.skip, .bool b_rules.relay, .bool b_rules.feed, .bool b_rules.again, .int .i64 b_rules.capture, .int .i64 b_rules.slam, .slice Ab_9 b_entries.length cb_9] 37, rowO 89 2 (.slice Ab_9 b_entries.length cb_9) b_entries.length vsb_9 gb_9, ownC (lBookEntry b_entries) vsb_9 fb_9] : List Own).flatMap (·.fp))) v_pits) (h_c : (Ty.agg (cChoice c)).ok (offW w (([boxO bb [.int .i64 b_rules.pits, .int .i64 b_rules.seeds, .bool b_rules.stores, .bool b_rules.skip, .bool b_rules.relay, .bool b_rules.feed, .bool b_rules.again, .int .i64 b_rules.capture, .int .i64 b_rules.slam, .slice Ab_9 b_entries.length cb_9] 37, rowO 89 2 (.slice Ab_9 b_entries.length cb_9) b_entries.length vsb_9 gb_9, ownC (lBookEntry b_entries) vsb_9 fb_9] : List Own).flatMap (·.fp))) v_c) (bd0 : b_entries.length ≤ cb_9 := by exact om_) (bd1 : cb_9 ≤ 9223372036854775807 := by exact om_) (r0 : b_entries.length ≤ 4194303 := by exact om_) (r1 : ∀ x ∈ b_entries, x.pits.length ≤ 4194304 ∧ x.choices.length ≤ 4194304 := by exact om_) (r2 : M.EB 1000000000000000 b_entries := by exact om_) (r3 : pits.length ≤ 4194304 := by exact om_) (r4 : 0 ≤ c.games := by exact om_) (r5 : c.games ≤ 2000000 := by exact om_) (r6 : 0 ≤ c.score := by exact om_) (r7 : c.score ≤ 2000000 := by exact om_) : RetB Tryz.prog 73 [.pointer (some ⟨bb, 0, none⟩), v_pits, v_c] w [boxO bb [.int .i64 b_rules.pits, .int .i64 b_rules.seeds, .bool b_rules.stores, .bool b_rules.skip, .bool b_rules.relay, .bool b_rules.feed, .bool b_rules.again, .int .i64 b_rules.capture, .int .i64 b_rules.slam, .slice Ab_9 b_entries.length cb_9] 37, rowO 89 2 (.slice Ab_9 b_entries.length cb_9) b_entries.length vsb_9 gb_9, ownC (lBookEntry b_entries) vsb_9 fb_9] (fun v bs' => ∃ (Axb_9 : Option Addr) (cxb_9 : Nat) (gxb_9 : List Nat) (vsxb_9 : List Value) (fxb_9 : List Nat), v = .tuple #[] ∧ bs' = [boxO bb [.int .i64 b_rules.pits, .int .i64 b_rules.seeds, .bool b_rules.stores, .bool b_rules.skip, .bool b_rules.relay, .bool b_rules.feed, .bool b_rules.again, .int .i64 b_rules.capture, .int .i64 b_rules.slam, .slice Axb_9 ((M.addE b_entries pits c).length) cxb_9] 37, rowO 89 2 (.slice Axb_9 ((M.addE b_entries pits c).length) cxb_9) ((M.addE b_entries pits c).length) vsxb_9 gxb_9, ownC (lBookEntry (M.addE b_entries pits c)) vsxb_9 fxb_9] ∧ (M.addE b_entries pits c).length ≤ cxb_9 ∧ cxb_9 ≤ 9223372036854775807) := by
 have hfl := M.findE_le b_entries pits
 revert v_pits; apply opn
 intro A1 c1 h1 bl1 bh1
 have h_pits := h1
 revert v_c; apply opn
 refine enterB hb @Tryz.func73 @Tryz.ntmps73 rfl rfl ?_
 refine zent ?_
 refine Js.trashE ?_
 refine zn ?_
 refine zS <| zb rfl fun b2 => zN <| Qm rfl <| Qm rfl <| zv rfl (fun w hw => c_spec_l20Find (M.Boo.mk b_rules b_entries) pits ⟨_, _, [.int .i64 b_rules.pits, .int .i64 b_rules.seeds, .bool b_rules.stores, .bool b_rules.skip, .bool b_rules.relay, .bool b_rules.feed, .bool b_rules.again, .int .i64 b_rules.capture, .int .i64 b_rules.slam, .slice Ab_9 b_entries.length cb_9], rfl, ⟨rfl, rfl, rfl, rfl, rfl, rfl, rfl, rfl, rfl, (srow_ok lBookEntry (xs := b_entries) (hw.pr (i := 2) rfl) (hw.pr (i := 3) rfl) (lBookEntry_length _)), trivial⟩, Mem.boxR (i := 1) rfl 0 10 _ hw⟩ (ok_ hw) (r1 := r1)) <| Qm rfl <| Qx rfl rfl <| Qx rfl rfl <| Qa rfl <| Qa rfl <| zJ <| zS <| Qm rfl ?_
 refine Qt rfl <| JL.nil ?_
 refine zk [0, 5] (fun F U l os u => ∃ (ES : List M.Ent) (q : Nat) (A3_0_9 : Option Addr) (c3_0_9 : Nat) (g3_0_9 : List Nat) (vs3_0_9 : List Value) (fl3_0_9 : List Nat) (G3_4 : List Nat), l = F [(6, .int .i64 (q : Int))] ∧ os = U [nO, some (boxO bb [.int .i64 b_rules.pits, .int .i64 b_rules.seeds, .bool b_rules.stores, .bool b_rules.skip, .bool b_rules.relay, .bool b_rules.feed, .bool b_rules.again, .int .i64 b_rules.capture, .int .i64 b_rules.slam, .slice A3_0_9 ES.length c3_0_9] 37), some (rowO 89 2 (.slice A3_0_9 ES.length c3_0_9) ES.length vs3_0_9 g3_0_9), some (ownC (lBookEntry ES) vs3_0_9 fl3_0_9), some (anyO G3_4)] ∧ (ES = M.atE b_entries pits) ∧ (q < ES.length) ∧ (ES.length ≤ 4194304) ∧ (M.findE b_entries pits = q) ∧ (ES.length ≤ c3_0_9) ∧ (c3_0_9 ≤ 9223372036854775807)) ?_ ?_
 ·
  refine zi (fun h4 h4' => ?_) fun h4 h4' => ?_
  ·
   have hno : ¬ M.hasE b_entries pits = true := by simpa using h4
   have hA : b_entries.take (M.findE b_entries pits) ++ [(M.Ent.mk pits [])] ++ b_entries.drop (M.findE b_entries pits) = M.atE b_entries pits := M.atE_no rfl hno
   have hAl : (b_entries.take (M.findE b_entries pits) ++ [(M.Ent.mk pits [])] ++ b_entries.drop (M.findE b_entries pits)).length = b_entries.length + 1 := by simp; omega
   refine zS <| zbs fun b5 => ?_
   refine Qm rfl <| Qc rfl <| Qf fh rfl <| Q0 2 rfl rfl rfl <| Qm rfl <| Qq (p_slice (lo' := 0) (hi' := M.findE b_entries pits) (mx' := cb_9) el_35 rfl rfl ⟨_, rfl, by omega⟩ rfl) ?_
   refine JL.e (e_append (i := 0) (n' := (M.findE b_entries pits) - 0) (vs' := vsb_9.take ((M.findE b_entries pits) * 2)) el_35 rfl rfl rfl rfl (src_pre (i := 3) (b := M.findE b_entries pits) und_35 rfl (fun w hw => (ownOne (i := 4) rfl (OneL.flat (F := cBookEntry) (fun _ => (.consSl (.consSl .nil))) _) w hw)) (by omega) (by omega)) (by first | omega | (simp only [List.length_append, List.length_cons, List.length_nil, List.length_take, List.length_drop]; omega)) (by first | omega | (simp only [List.length_append, List.length_cons, List.length_nil, List.length_take, List.length_drop]; omega)) (by first | omega | (simp only [List.length_append, List.length_cons, List.length_nil, List.length_take, List.length_drop] <;> omega)) (rfl)) ?_
   rintro v7 _ _ ⟨⟨g8, rfl⟩, rfl⟩ _
   refine JL.fact (row_form' (i := 0) rfl) (fun hf9 => ?_)
   obtain ⟨A9, c9, rfl, bl9, bh9⟩ := hf9
   refine znl ?_
   refine Qa rfl <| zN <| Qm rfl <| Qm rfl <| zcs rfl (fun w hw => c_spec_l00Own pits (ok_ hw)) ?_
   intro A10 c10 bl10 bh10
   refine Qb ?_
   refine zbs fun b11 => ?_
   refine JL.e (e_append (i := 2) (n' := ((b_entries.take (M.findE b_entries pits)) ++ ([(M.Ent.mk pits [])])).length) (vs' := (vsb_9.take ((M.findE b_entries pits) * 2)) ++ [.slice A10 pits.length c10, .slice none 0 0]) el_35 rfl rfl rfl rfl (src_row (i := 0) und_35 rfl rfl) (by first | omega | (simp only [List.length_append, List.length_cons, List.length_nil, List.length_take, List.length_drop]; omega)) (by first | omega | (simp only [List.length_append, List.length_cons, List.length_nil, List.length_take, List.length_drop]; omega)) (by first | omega | (simp only [List.length_append, List.length_cons, List.length_nil, List.length_take, List.length_drop] <;> omega)) (rfl)) ?_
   rintro v13 _ _ ⟨⟨g14, rfl⟩, rfl⟩ _
   refine JL.fact (row_form' (i := 2) rfl) (fun hf15 => ?_)
   obtain ⟨A15, c15, rfl, bl15, bh15⟩ := hf15
   refine znl ?_
   refine Qa rfl <| zG <| Qm rfl <| Qm rfl <| Qm rfl <| Qc rfl <| Qf fh rfl <| Q0 4 rfl rfl rfl <| Qm rfl <| Qq (p_slice (lo' := M.findE b_entries pits) (hi' := b_entries.length) (mx' := cb_9) el_35 rfl rfl ⟨rfl, rfl⟩ ⟨_, rfl, by omega⟩) ?_
   refine JL.e (e_append (i := 2) (n' := (((b_entries.take (M.findE b_entries pits)) ++ ([(M.Ent.mk pits [])])) ++ (b_entries.drop (M.findE b_entries pits))).length) (vs' := ((vsb_9.take ((M.findE b_entries pits) * 2)) ++ [.slice A10 pits.length c10, .slice none 0 0]) ++ (vsb_9.drop ((M.findE b_entries pits) * 2))) el_35 rfl rfl rfl rfl (src_suf (i := 5) (a := M.findE b_entries pits) und_35 rfl (fun w hw => (ownOne (i := 6) rfl (OneL.flat (F := cBookEntry) (fun _ => (.consSl (.consSl .nil))) _) w hw)) (by omega) (by omega)) (by first | omega | (simp only [List.length_append, List.length_cons, List.length_nil, List.length_take, List.length_drop]; omega)) (by first | omega | (simp only [List.length_append, List.length_cons, List.length_nil, List.length_take, List.length_drop]; omega)) (by first | omega | (simp only [List.length_append, List.length_cons, List.length_nil, List.length_take, List.length_drop] <;> omega)) (rfl)) ?_
   rintro v16 _ _ ⟨⟨g17, rfl⟩, rfl⟩ _
   refine JL.fact (row_form' (i := 2) rfl) (fun hf18 => ?_)
   obtain ⟨A18, c18, rfl, bl18, bh18⟩ := hf18
   refine znl ?_
   refine Qc rfl <| Qf fh rfl <| zw 4 rfl rfl rfl ?_
   refine JL.nil ?_
   refine Js.pk (cBookEntry (M.Ent.mk pits [])) [.slice A10 pits.length c10, .slice none 0 0] (fun f19 G19 => ?_)
   refine zn ?_
   refine Js.insL cBookEntry (i := 7) (j := 0) (m := 2) (k := M.findE b_entries pits) (vs' := ((vsb_9.take ((M.findE b_entries pits) * 2)) ++ [.slice A10 pits.length c10, .slice none 0 0]) ++ (vsb_9.drop ((M.findE b_entries pits) * 2))) (fun _ => rfl) rfl rfl (by omega) (by first | rfl | simp) (fun f20 => ?_)
   refine zn ?_
   refine zf [4, 4, 3, 0] fun GG21 => ?_
   refine zn ?_
   exact zm ⟨(b_entries.take (M.findE b_entries pits) ++ [(M.Ent.mk pits [])] ++ b_entries.drop (M.findE b_entries pits)), (M.findE b_entries pits), _, _, _, _, _, _, rfl, rfl, by exact hA, by omega, by omega, by rfl, by first | assumption | omega | rfl | (dsimp only; omega), by first | assumption | omega | rfl | (dsimp only; omega)⟩ (Up.refl _ _)
  have hyes : M.hasE b_entries pits = true := by simpa using h4
  have hA : b_entries = M.atE b_entries pits := M.atE_yes hyes
  have hlt := M.hasE_lt hyes
  refine Js.skip ?_
  exact zm ⟨(b_entries), (M.findE b_entries pits), _, _, _, _, _, _, rfl, rfl, by exact hA, by omega, by omega, by rfl, by first | assumption | omega | rfl | (dsimp only; omega), by first | assumption | omega | rfl | (dsimp only; omega)⟩ (Up.refl _ _)
 rintro _ _ u3 ⟨ES, q, A3_0_9, c3_0_9, g3_0_9, vs3_0_9, fl3_0_9, G3_4, rfl, rfl, hA, hAk, hAl, hE, f3_4, f3_5⟩ x3
 refine zn ?_
 have hsz := (hA.symm ▸ (M.SzE.at_ (n := 4194304) r1 r3) : M.SzE 4194304 ES) _ (M.ent_mem hAk)
 have hcb := (hA.symm ▸ r2.at_ : M.EB 1000000000000000 ES) _ (M.ent_mem hAk)
 refine zdr [7] ?_
 refine JH.p 0 rfl (p_move rfl) ?_
 refine JH.p 1 rfl (p_nilCheck rfl) ?_
 refine JH.p 2 rfl (p_fieldAddr fld_37_1.h rfl) ?_
 refine JH.q 3 rfl (q_load1 ty_35.h rfl (Mem.box (i := 1) rfl rfl)) ?_
 refine JH.p 4 rfl (p_move rfl) ?_
 refine JH.fact (row_some (i := 2) rfl (by omega)) (fun hf23 => ?_)
 obtain ⟨b23, rfl⟩ := hf23
 have hy22 : ES[q]? = some (M.ent ES q) := M.ent_get (by first | omega | (simp only [List.length_set, List.length_append, List.length_cons, List.length_nil, List.length_take, List.length_drop, List.length_replicate]; omega))
 refine JH.fact (fun w hw => elemv_BookEntry (Mem.ownC (i := 3) rfl w hw) hy22) (fun hf22 => ?_)
 obtain ⟨A22_0, c22_0, A22_1, c22_1, he22, bl22_0, bh22_0, bl22_1, bh22_1⟩ := hf22
 refine JH.p 5 rfl (p_indexAddr el_35 rfl rfl (by omega) (by omega) rfl) ?_
 refine JH.q 6 rfl (L9 0 rfl rfl) ?_
 refine y1 7 ?_
 refine zhh [2, 2] ?_
 refine yBB 2 sp_ rfl rfl (fun w hb _ hw => c_spec_l20Count ES q c hb (ok_ hw) (r0 := hsz.2) (r1 := hcb)) ?_
 rintro _ _ G24 ⟨vs24_e, f24_e, rfl, rfl⟩
 refine znh ?_
 refine yd ?_
 refine zrbE [4, 0, 0] hb x3 ?_
 have hN10 : (M.addE b_entries pits c).length = ES.length := by first | (rw [← M.addE_at (c := c) hE hA]; simp; done) | exact (M.addE_at (c := c) hE hA).symm
 have hE10 : M.addE b_entries pits c = (ES.set q (M.Ent.mk (M.ent ES q).pits (M.addC (M.ent ES q).choices c))) := by first | (rw [← M.addE_at (c := c) hE hA]; simp; done) | exact (M.addE_at (c := c) hE hA).symm
 refine ⟨(some ⟨b23, 0, none⟩), c3_0_9, g3_0_9, vs24_e, f24_e, rfl, ?_, ?_, ?_⟩
 · first | rfl | (dsimp only; rw [hN10, hE10]) | (dsimp only; simp only [hN10, hE10]) | (rw [hN10, hE10]; done) | (rw [hN10, hE10]; rfl)
 all_goals (try dsimp only)
 all_goals (first | (rw [hN10, hE10]; omega) | omega | (simp only [*]; omega))

end Go.Proofs.YtcmfnlleikcpnaaGreat

namespace Go.Proofs.YtcmfnlleikcpnaaGreat
open Go.RowKit

set_option maxHeartbeats 1000000 in
theorem c_spec_l20Full (b : M.Boo) {v_b : Value} {w : World} (h_b : (Ty.agg (cBook b)).ok w v_b) (r0 : b.entries.length ≤ 4194304 := by exact om_) (r1 : ∀ x ∈ b.entries, x.pits.length ≤ 4194304 ∧ x.choices.length ≤ 4194304 := by exact om_) : RetX Tryz.prog 75 [v_b] w (fun v => v = if M.okB b = true then .tuple #[v_b, .int .i64 0] else .tuple #[.agg #[.int .i64 0, .int .i64 0, .bool false, .bool false, .bool false, .bool false, .bool false, .int .i64 0, .int .i64 0, .slice none 0 0], .int .i64 5]) := by
 revert v_b; apply opn
 intro A1 c1 h1 bl1 bh1
 refine enter @Tryz.func75 @Tryz.ntmps75 rfl rfl ?_
 refine zent ?_
 refine zS <| zb rfl fun b2 => za zeh fun b3 => Qa rfl <| zJ <| zS <| zv rfl (fun w hw => c_spec_l20Ok b (ok_ hw) (r1 := r1)) <| Qt rfl <| JL.nil ?_
 refine zi (fun h4 h4' => ?_) fun h4 h4' => ?_
 ·
  have hno : ¬ M.okB b = true := by simpa using h4
  refine zS <| Qb ?_
  refine zw 0 rfl rfl rfl ?_
  refine Qa rfl <| JL.nil ?_
  refine zX (Up.refl _ _) ?_
  show _ = _; first | rw [if_pos hok] | rw [if_neg hno]
 have hok : M.okB b = true := by simpa using h4
 refine Js.skip <| zS <| Q9 1 rfl rfl ?_
 refine zw 0 rfl rfl rfl ?_
 refine Qa rfl <| JL.nil ?_
 refine zX (Up.refl _ _) ?_
 show _ = _; first | rw [if_pos hok] | rw [if_neg hno]

end Go.Proofs.YtcmfnlleikcpnaaGreat

namespace Go.Proofs.YtcmfnlleikcpnaaGreat
open Go.RowKit

end Go.Proofs.YtcmfnlleikcpnaaGreat

namespace Go.Proofs.YtcmfnlleikcpnaaGreat
open Go.RowKit

set_option maxHeartbeats 4000000 in
theorem c_spec_AddResult (b : M.Boo) {v_b : Value} (p : M.Pos) {v_p : Value} (mv sc : Int) {w : World} (h_b : (Ty.agg (cBook b)).ok w v_b) (h_p : (Ty.agg (cPosition p)).ok w v_p) (r0 : b.entries.length + M.totE b.entries ≤ 1048576 := by exact om_) (r1 : p.pits.length ≤ 4194304 := by exact om_) (r2 : p.stores.length ≤ 4194304 := by exact om_) : Ret Tryz.prog 21 [v_b, v_p, .int .i64 mv, .int .i64 sc] w (Ty.tup [Ty.agg (cBook ((M.addRes b p mv sc).1)), Ty.int ((M.addRes b p mv sc).2)]) := by
 have sb := M.totE_small (es := b.entries) (n := 4194304) (by omega)
 revert v_b; apply opn
 intro A1 c1 h1 bl1 bh1
 revert v_p; apply opn
 intro A2 c2 h2 bl2 bh2 A3 c3 h3 bl3 bh3
 refine enter @Tryz.func21 @Tryz.ntmps21 rfl rfl ?_
 refine zent ?_
 refine zS <| zb rfl fun b4 => zb rfl fun b5 => za zeh fun b6 => Qa rfl <| zJ <| zS <| zv rfl (fun w hw => c_spec_l20Ok b (ok_ hw) (r1 := sb)) <| Qt rfl <| Qm rfl <| zg (Gd.f1 rfl rfl rfl) (fun hc => p_fieldAddr fld_37_0.h rfl) <| zgv (Gd.f1 rfl rfl rfl) (fun hc => (opds_2 (gh hc rfl) rfl)) (fun hc => (fun w hw => c_spec_l04Ok b.rules p ⟨_, _, [.int .i64 b.rules.pits, .int .i64 b.rules.seeds, .bool b.rules.stores, .bool b.rules.skip, .bool b.rules.relay, .bool b.rules.feed, .bool b.rules.again, .int .i64 b.rules.capture, .int .i64 b.rules.slam], rfl, ⟨rfl, rfl, rfl, rfl, rfl, rfl, rfl, rfl, rfl, trivial⟩, Mem.boxR (i := 2) rfl 0 9 _ hw⟩ (ok_ hw) (r0 := (by have hc9 := hc; (try simp only [Bool.not_eq_true', Bool.not_eq_false'] at hc9); omega)) (r1 := (by have hc9 := hc; (try simp only [Bool.not_eq_true', Bool.not_eq_false'] at hc9); omega)))) ?_
 refine zg (Gd.f1 rfl rfl rfl) (fun hc => p_not (gh hc rfl)) <| Qq (p_pickOr rfl rfl rfl) <| JL.nil ?_
 refine zi (fun h7 h7' => ?_) fun h7 h7' => ?_
 ·
  have hno : ¬ (M.okB b = true ∧ M.okP b.rules p = true) := by have h9 := h7; rintro ⟨a1, a2⟩; rw [a1, a2] at h9; simp at h9
  have hP := M.addRes_1 (mv := mv) (sc := sc) hno
  have hq0 : 0 = (((M.addRes b p mv sc).1).rules).pits := by first | (rw [hP]; done) | (rw [hP]; rfl)
  have hq1 : 0 = (((M.addRes b p mv sc).1).rules).seeds := by first | (rw [hP]; done) | (rw [hP]; rfl)
  have hq2 : false = (((M.addRes b p mv sc).1).rules).stores := by first | (rw [hP]; done) | (rw [hP]; rfl)
  have hq3 : false = (((M.addRes b p mv sc).1).rules).skip := by first | (rw [hP]; done) | (rw [hP]; rfl)
  have hq4 : false = (((M.addRes b p mv sc).1).rules).relay := by first | (rw [hP]; done) | (rw [hP]; rfl)
  have hq5 : false = (((M.addRes b p mv sc).1).rules).feed := by first | (rw [hP]; done) | (rw [hP]; rfl)
  have hq6 : false = (((M.addRes b p mv sc).1).rules).again := by first | (rw [hP]; done) | (rw [hP]; rfl)
  have hq7 : 0 = (((M.addRes b p mv sc).1).rules).capture := by first | (rw [hP]; done) | (rw [hP]; rfl)
  have hq8 : 0 = (((M.addRes b p mv sc).1).rules).slam := by first | (rw [hP]; done) | (rw [hP]; rfl)
  have hq9 : [] = ((M.addRes b p mv sc).1).entries := by first | (rw [hP]; done) | (rw [hP]; rfl)
  have hq10 : 1 = (M.addRes b p mv sc).2 := by first | (rw [hP]; done) | (rw [hP]; rfl)
  refine zS <| Qb ?_
  refine zw 0 rfl rfl rfl ?_
  refine Qa rfl <| JL.nil ?_
  exact zro (Up.refl _ _)
 have hok : M.okB b = true ∧ M.okP b.rules p = true := by have h9 := h7; simpa using h9
 refine Js.skip <| Js.seq <| zS <| Qm rfl <| zv rfl (fun w hw => c_spec_l00In sc 0 2) <| Qt rfl <| JL.nil ?_
 refine zi (fun h8 h8' => ?_) fun h8 h8' => ?_
 ·
  have hP := M.addRes_2 (mv := mv) hok (by simpa using h8)
  have hq0 : 0 = (((M.addRes b p mv sc).1).rules).pits := by first | (rw [hP]; done) | (rw [hP]; rfl)
  have hq1 : 0 = (((M.addRes b p mv sc).1).rules).seeds := by first | (rw [hP]; done) | (rw [hP]; rfl)
  have hq2 : false = (((M.addRes b p mv sc).1).rules).stores := by first | (rw [hP]; done) | (rw [hP]; rfl)
  have hq3 : false = (((M.addRes b p mv sc).1).rules).skip := by first | (rw [hP]; done) | (rw [hP]; rfl)
  have hq4 : false = (((M.addRes b p mv sc).1).rules).relay := by first | (rw [hP]; done) | (rw [hP]; rfl)
  have hq5 : false = (((M.addRes b p mv sc).1).rules).feed := by first | (rw [hP]; done) | (rw [hP]; rfl)
  have hq6 : false = (((M.addRes b p mv sc).1).rules).again := by first | (rw [hP]; done) | (rw [hP]; rfl)
  have hq7 : 0 = (((M.addRes b p mv sc).1).rules).capture := by first | (rw [hP]; done) | (rw [hP]; rfl)
  have hq8 : 0 = (((M.addRes b p mv sc).1).rules).slam := by first | (rw [hP]; done) | (rw [hP]; rfl)
  have hq9 : [] = ((M.addRes b p mv sc).1).entries := by first | (rw [hP]; done) | (rw [hP]; rfl)
  have hq10 : 2 = (M.addRes b p mv sc).2 := by first | (rw [hP]; done) | (rw [hP]; rfl)
  refine zS <| Qb ?_
  refine zw 0 rfl rfl rfl ?_
  refine Qa rfl <| JL.nil ?_
  exact zro (Up.refl _ _)
 have hbt : M.betw sc 0 2 = true := by simpa using h8
 have hsc : 0 ≤ sc ∧ sc ≤ 2 := by simpa [M.betw] using hbt
 refine Js.skip <| zS <| Qf fh rfl <| Q9 2 rfl rfl ?_
 refine Q9 1 rfl rfl ?_
 refine Qm rfl <| zv rfl (fun w hw => c_spec_MoveFault b.rules p mv (ok_ hw) (ok_ hw)) <| Qa rfl <| zJ <| zS <| Qm rfl <| Qd rfl rfl <| JL.nil ?_
 refine zi (fun h9 h9' => ?_) fun h9 h9' => ?_
 ·
  have hz : ¬ (M.make b.rules p mv).2 = 0 := by simpa using h9
  have hP := M.addRes_f hok hbt hz
  have hq0 : 0 = (((M.addRes b p mv sc).1).rules).pits := by first | (rw [hP]; done) | (rw [hP]; rfl)
  have hq1 : 0 = (((M.addRes b p mv sc).1).rules).seeds := by first | (rw [hP]; done) | (rw [hP]; rfl)
  have hq2 : false = (((M.addRes b p mv sc).1).rules).stores := by first | (rw [hP]; done) | (rw [hP]; rfl)
  have hq3 : false = (((M.addRes b p mv sc).1).rules).skip := by first | (rw [hP]; done) | (rw [hP]; rfl)
  have hq4 : false = (((M.addRes b p mv sc).1).rules).relay := by first | (rw [hP]; done) | (rw [hP]; rfl)
  have hq5 : false = (((M.addRes b p mv sc).1).rules).feed := by first | (rw [hP]; done) | (rw [hP]; rfl)
  have hq6 : false = (((M.addRes b p mv sc).1).rules).again := by first | (rw [hP]; done) | (rw [hP]; rfl)
  have hq7 : 0 = (((M.addRes b p mv sc).1).rules).capture := by first | (rw [hP]; done) | (rw [hP]; rfl)
  have hq8 : 0 = (((M.addRes b p mv sc).1).rules).slam := by first | (rw [hP]; done) | (rw [hP]; rfl)
  have hq9 : [] = ((M.addRes b p mv sc).1).entries := by first | (rw [hP]; done) | (rw [hP]; rfl)
  have hq10 : ((M.make b.rules p mv).2) = (M.addRes b p mv sc).2 := by first | (rw [hP]; done) | (rw [hP]; rfl)
  refine zS <| Qb ?_
  refine Qm rfl <| zw 0 rfl rfl rfl ?_
  refine Qa rfl <| JL.nil ?_
  exact zro (Up.refl _ _)
 have hz : (M.make b.rules p mv).2 = 0 := by simpa using h9
 have hv := M.viewP_16 hok.2
 have hI := M.MI_0 hok.1 r0
 have hq := hI.req (by omega)
 have hq2 := (hI.step (pits := (M.viewP b.rules p).pits) (c := ⟨mv, 1, sc⟩) (by omega) (by simp) (by simp) hsc.1 (by have := hsc.2; simp only; omega)).req (by omega)
 refine Js.skip <| zS <| zc rfl (fun w hw => c_spec_l20Copy b (ok_ hw) (r1 := sb)) ?_
 intro A11 c11 vs11 f11 bl11 bh11
 refine za zeh fun b12 => zw 0 rfl rfl rfl ?_
 refine zN <| Qf fh rfl <| zp rfl (fun w hw => c_spec_l04View b.rules p ⟨_, _, [.int .i64 b.rules.pits, .int .i64 b.rules.seeds, .bool b.rules.stores, .bool b.rules.skip, .bool b.rules.relay, .bool b.rules.feed, .bool b.rules.again, .int .i64 b.rules.capture, .int .i64 b.rules.slam], rfl, ⟨rfl, rfl, rfl, rfl, rfl, rfl, rfl, rfl, rfl, trivial⟩, Mem.boxR (i := 5) rfl 0 9 _ hw⟩ (ok_ hw) (r0 := (Or.inl hok.2))) ?_
 intro u13 x13 A14 c14 h14 bl14 bh14 A15 c15 h15 bl15 bh15
 refine Qi fh rfl rfl <| Qm rfl <| Qm rfl <| Qb ?_
 refine zB 3 sp_ rfl (fun w hb hw => c_spec_l20Add b.rules b.entries ((M.viewP b.rules p).pits) (M.Cho.mk mv 1 sc) hb (ok_ hw) (ok_ hw) (r1 := hq.2.1) (r2 := hq.2.2)) ?_
 rintro _ _ G16 ⟨A16b_9, c16b_9, g16b_9, vs16b_9, f16b_9, rfl, rfl, bl16_0, bl16_1⟩
 refine znl ?_
 refine zJ ?_
 rcases Bool.eq_false_or_eq_true (M.okB (M.Boo.mk b.rules (M.addE b.entries ((M.viewP b.rules p).pits) (M.Cho.mk mv 1 sc)))) with h17 | h17
 ·
  refine Js.region <| Q9 0 rfl rfl ?_
  refine zxc (fun v => v = .tuple #[.agg #[.int .i64 b.rules.pits, .int .i64 b.rules.seeds, .bool b.rules.stores, .bool b.rules.skip, .bool b.rules.relay, .bool b.rules.feed, .bool b.rules.again, .int .i64 b.rules.capture, .int .i64 b.rules.slam, .slice A16b_9 ((M.addE b.entries ((M.viewP b.rules p).pits) (M.Cho.mk mv 1 sc)).length) c16b_9], .int .i64 0]) rfl (fun w hw => c_spec_l20Full (M.Boo.mk b.rules (M.addE b.entries ((M.viewP b.rules p).pits) (M.Cho.mk mv 1 sc))) (by exact ⟨_, rfl, ⟨rfl, rfl, rfl, rfl, rfl, rfl, rfl, rfl, rfl, (srow_ok lBookEntry (xs := (M.addE b.entries ((M.viewP b.rules p).pits) (M.Cho.mk mv 1 sc))) (hw.pr (i := 1) rfl) (hw.pr (i := 2) rfl) (lBookEntry_length _)), trivial⟩⟩) (r1 := hq2.2.1)) (fun w9 v9 hw9 g9 => by rw [if_pos h17] at g9; exact g9) ?_
  rintro _ rfl
  have hP := M.addRes_0 hok hbt hz (by unfold M.resB; exact h17); unfold M.resB at hP
  have hq0 : b.rules.pits = (((M.addRes b p mv sc).1).rules).pits := by first | (rw [hP]; done) | (rw [hP]; rfl)
  have hq1 : b.rules.seeds = (((M.addRes b p mv sc).1).rules).seeds := by first | (rw [hP]; done) | (rw [hP]; rfl)
  have hq2 : b.rules.stores = (((M.addRes b p mv sc).1).rules).stores := by first | (rw [hP]; done) | (rw [hP]; rfl)
  have hq3 : b.rules.skip = (((M.addRes b p mv sc).1).rules).skip := by first | (rw [hP]; done) | (rw [hP]; rfl)
  have hq4 : b.rules.relay = (((M.addRes b p mv sc).1).rules).relay := by first | (rw [hP]; done) | (rw [hP]; rfl)
  have hq5 : b.rules.feed = (((M.addRes b p mv sc).1).rules).feed := by first | (rw [hP]; done) | (rw [hP]; rfl)
  have hq6 : b.rules.again = (((M.addRes b p mv sc).1).rules).again := by first | (rw [hP]; done) | (rw [hP]; rfl)
  have hq7 : b.rules.capture = (((M.addRes b p mv sc).1).rules).capture := by first | (rw [hP]; done) | (rw [hP]; rfl)
  have hq8 : b.rules.slam = (((M.addRes b p mv sc).1).rules).slam := by first | (rw [hP]; done) | (rw [hP]; rfl)
  have hq9 : (M.addE b.entries ((M.viewP b.rules p).pits) (M.Cho.mk mv 1 sc)) = ((M.addRes b p mv sc).1).entries := by first | (rw [hP]; done) | (rw [hP]; rfl)
  have hq10 : 0 = (M.addRes b p mv sc).2 := by first | (rw [hP]; done) | (rw [hP]; rfl)
  refine Qx rfl rfl <| Qx rfl rfl <| zw 4 rfl rfl rfl ?_
  refine Qa rfl <| JL.nil ?_
  exact zro x13
 refine Js.region <| Q9 0 rfl rfl ?_
 refine zxc (fun v => v = .tuple #[.agg #[.int .i64 0, .int .i64 0, .bool false, .bool false, .bool false, .bool false, .bool false, .int .i64 0, .int .i64 0, .slice none 0 0], .int .i64 5]) rfl (fun w hw => c_spec_l20Full (M.Boo.mk b.rules (M.addE b.entries ((M.viewP b.rules p).pits) (M.Cho.mk mv 1 sc))) (by exact ⟨_, rfl, ⟨rfl, rfl, rfl, rfl, rfl, rfl, rfl, rfl, rfl, (srow_ok lBookEntry (xs := (M.addE b.entries ((M.viewP b.rules p).pits) (M.Cho.mk mv 1 sc))) (hw.pr (i := 1) rfl) (hw.pr (i := 2) rfl) (lBookEntry_length _)), trivial⟩⟩) (r1 := hq2.2.1)) (fun w9 v9 hw9 g9 => by rw [if_neg (by simp [h17])] at g9; exact g9) ?_
 rintro _ rfl
 have hP := M.addRes_5 hok hbt hz (by unfold M.resB; rw [h17]; simp)
 have hq0 : 0 = (((M.addRes b p mv sc).1).rules).pits := by first | (rw [hP]; done) | (rw [hP]; rfl)
 have hq1 : 0 = (((M.addRes b p mv sc).1).rules).seeds := by first | (rw [hP]; done) | (rw [hP]; rfl)
 have hq2 : false = (((M.addRes b p mv sc).1).rules).stores := by first | (rw [hP]; done) | (rw [hP]; rfl)
 have hq3 : false = (((M.addRes b p mv sc).1).rules).skip := by first | (rw [hP]; done) | (rw [hP]; rfl)
 have hq4 : false = (((M.addRes b p mv sc).1).rules).relay := by first | (rw [hP]; done) | (rw [hP]; rfl)
 have hq5 : false = (((M.addRes b p mv sc).1).rules).feed := by first | (rw [hP]; done) | (rw [hP]; rfl)
 have hq6 : false = (((M.addRes b p mv sc).1).rules).again := by first | (rw [hP]; done) | (rw [hP]; rfl)
 have hq7 : 0 = (((M.addRes b p mv sc).1).rules).capture := by first | (rw [hP]; done) | (rw [hP]; rfl)
 have hq8 : 0 = (((M.addRes b p mv sc).1).rules).slam := by first | (rw [hP]; done) | (rw [hP]; rfl)
 have hq9 : [] = ((M.addRes b p mv sc).1).entries := by first | (rw [hP]; done) | (rw [hP]; rfl)
 have hq10 : 5 = (M.addRes b p mv sc).2 := by first | (rw [hP]; done) | (rw [hP]; rfl)
 refine Qx rfl rfl <| Qx rfl rfl <| zw 4 rfl rfl rfl ?_
 refine Qa rfl <| JL.nil ?_
 exact zro x13

end Go.Proofs.YtcmfnlleikcpnaaGreat

namespace Go.Proofs.YtcmfnlleikcpnaaGreat
open Go.RowKit

set_option maxHeartbeats 1000000 in
theorem c_laws_szInt64S (a : List Int) {v_a : Value} (left : Int) {w : World} (h_a : (Ty.ints 2 a).ok w v_a) (r0 : -1 ≤ left := by exact om_) (r1 : left ≤ 1048576 := by exact om_) : RetV Tryz.prog 53 [v_a, .int .i64 left] w (.int .i64 (M.szL a.length left)) := by
 have q1 := M.szL_cases a.length left
 revert v_a; apply opn
 intro A1 c1 h1 bl1 bh1
 have h_a := h1
 refine enter @Tryz.func53 @Tryz.ntmps53 rfl rfl ?_
 refine zent ?_
 refine zS <| Qa rfl <| zN <| Qm rfl <| Qm rfl <| Qz rfl <| Qs rfl rfl <| Qa rfl <| zJ <| zS <| Qm rfl <| Ql rfl rfl <| JL.nil ?_
 refine zi (fun h2 h2' => ?_) fun h2 h2' => ?_
 ·
  refine zS <| Qa rfl <| JL.nil ?_
  refine zR (Up.refl _ _) ?_
  refine congrArg (fun n => Ending.returned (Value.int .i64 n)) ?_; omega
 refine Js.skip <| zS <| Qm rfl <| Qa rfl <| JL.nil ?_
 refine zR (Up.refl _ _) ?_
 refine congrArg (fun n => Ending.returned (Value.int .i64 n)) ?_; omega

set_option maxHeartbeats 1000000 in
theorem c_laws_szPosition (a : M.Pos) {v_a : Value} (left : Int) {w : World} (h_a : (Ty.agg (cPosition a)).ok w v_a) (r0 : -1 ≤ left := by exact om_) (r1 : left ≤ 1048576 := by exact om_) : RetV Tryz.prog 9 [v_a, .int .i64 left] w (.int .i64 (M.szP a left)) := by
 have q1 := M.szL_cases a.pits.length left
 have q2 := M.szL_cases a.stores.length (M.szL a.pits.length left)
 have q3 := M.szL_cases (a.pits.length + a.stores.length) left
 revert v_a; apply opn
 intro A1 c1 h1 bl1 bh1 A2 c2 h2 bl2 bh2
 refine enter @Tryz.func9 @Tryz.ntmps9 rfl rfl ?_
 refine zent ?_
 refine zS <| zb rfl fun b3 => Qa rfl <| zN <| Qf fh rfl <| Q0 0 rfl rfl rfl <| Qm rfl <| zv rfl (fun w hw => c_laws_szInt64S a.pits left (ok_ hw)) <| Qa rfl <| zJ <| zS <| Qm rfl <| Ql rfl rfl <| JL.nil ?_
 refine zi (fun h4 h4' => ?_) fun h4 h4' => ?_
 ·
  refine zS <| Qa rfl <| JL.nil ?_
  refine zR (Up.refl _ _) ?_
  refine congrArg (fun n => Ending.returned (Value.int .i64 n)) ?_; unfold M.szP; omega
 refine Js.skip <| zS <| Qf fh rfl <| Q0 0 rfl rfl rfl <| Qm rfl <| zv rfl (fun w hw => c_laws_szInt64S a.stores (M.szL a.pits.length left) (ok_ hw)) <| Qa rfl <| zJ <| zS <| Qm rfl <| Ql rfl rfl <| JL.nil ?_
 refine zi (fun h5 h5' => ?_) fun h5 h5' => ?_
 ·
  refine zS <| Qa rfl <| JL.nil ?_
  refine zR (Up.refl _ _) ?_
  refine congrArg (fun n => Ending.returned (Value.int .i64 n)) ?_; unfold M.szP; omega
 refine Js.skip <| zS <| Qm rfl <| Qa rfl <| JL.nil ?_
 refine zR (Up.refl _ _) ?_
 refine congrArg (fun n => Ending.returned (Value.int .i64 n)) ?_; unfold M.szP; omega

set_option maxHeartbeats 1000000 in
theorem c_laws_toInt64S (a : List Int) {v_a : Value} {w : World} (h_a : (Ty.ints 2 a).ok w v_a) (r0 : a.length ≤ 4194304 := by exact om_) : Ret Tryz.prog 62 [v_a] w (Ty.ints 2 a) := by
 revert v_a; apply opn
 intro A1 c1 h1 bl1 bh1
 have h_a := h1
 refine enter @Tryz.func62 @Tryz.ntmps62 rfl rfl ?_
 refine zent ?_
 refine zS <| Qa rfl <| zN <| Qm rfl <| Qz rfl <| zmk (a0 := (a.length : Int)) (m := a.length) (by omega) (by omega) fun b2 => Qa rfl <| zJ <| zS <| Qa rfl <| JL.nil <| Js.block ?_
 refine zl [0, 3] (fun F U l os u m => ∃ (k : Nat) (xs : List Int), l = F [(4, .int .i64 (k : Int))] ∧ os = U [some (rowO 2 1 (.slice (some ⟨b2, 0, none⟩) a.length a.length) a.length (ints_ xs) [])] ∧ (xs = M.cp a k) ∧ (k ≤ a.length) ∧ (xs.length = a.length) ∧ m = a.length - k) ⟨0, List.replicate a.length 0, rfl, rfl, by exact M.cp_zero a, zt, by simp, rfl⟩ ?_
 rintro _ _ u3 _ ⟨k, xs, rfl, rfl, hX, hk, hl, rfl⟩ x3
 refine zn ?_
 refine Js.seq <| zS <| Qm rfl <| Qm rfl <| Qz rfl <| Ql rfl rfl <| JL.nil ?_
 refine zi (fun h4 h4' => ?_) fun h4 h4' => ?_
 ·
  obtain ⟨b5, o5, he5, hc5⟩ := ints_elem (Ty.mono _ h1 x3.vis) (i := k) (by omega)
  refine Js.skip <| Js.seq <| Js.block <| Js.region <| Qm rfl <| Qm rfl <| Qm rfl <| Qm rfl <| Qq (p_indexAddr el_27 rfl rfl (by omega) (by omega) he5) <| QC hc5 rfl <| Qq (p_indexAddr el_27 rfl rfl (by omega) (by omega) rfl) ?_
  refine JL.s (e_storeRow (i := 0) (xs' := ints_ (xs.set k (M.nth a k))) ty_2.h rfl rfl rfl rfl rfl rfl (ints_lt (i := k) (by omega)) (ints_setL (i := k) (by omega))) ?_
  rintro _ _ _ ⟨rfl, rfl⟩ _
  refine znl ?_
  refine JL.nil <| Js.blockEnd <| Js.region <| Qm rfl <| Qp rfl rfl <| Qa rfl <| JL.nil ?_
  exact zag ⟨k + 1, xs.set k (M.nth a k), rfl, rfl, by rw [hX]; exact M.cp_step (by omega), zt, by rw [List.length_set]; exact hl, rfl⟩ x3
 have hE : xs = a := by rw [hX]; exact M.cp_all a (by have := h4'; omega)
 refine zx ?_
 have hq0 : xs = a := by exact hE
 refine zS <| Qm rfl <| Qa rfl <| JL.nil ?_
 exact zro x3

set_option maxHeartbeats 1000000 in
theorem c_laws_toPosition (a : M.Pos) {v_a : Value} {w : World} (h_a : (Ty.agg (cPosition a)).ok w v_a) (r0 : a.pits.length ≤ 4194304 := by exact om_) (r1 : a.stores.length ≤ 4194304 := by exact om_) : Ret Tryz.prog 12 [v_a] w (Ty.agg (cPosition a)) := by
 revert v_a; apply opn
 intro A1 c1 h1 bl1 bh1 A2 c2 h2 bl2 bh2
 refine enter @Tryz.func12 @Tryz.ntmps12 rfl rfl ?_
 refine zent ?_
 refine zS <| zb rfl fun b3 => za zeh fun b4 => zN <| za zeh fun b5 => zN <| Qf fh rfl <| Q0 2 rfl rfl rfl <| zcs rfl (fun w hw => c_laws_toInt64S a.pits (ok_ hw)) ?_
 intro A6 c6 bl6 bh6
 refine Qf fh rfl <| zw 1 rfl rfl rfl ?_
 refine zN <| Qf fh rfl <| Q0 3 rfl rfl rfl <| zcs rfl (fun w hw => c_laws_toInt64S a.stores (ok_ hw)) ?_
 intro A7 c7 bl7 bh7
 refine Qf fh rfl <| zw 2 rfl rfl rfl ?_
 refine zN <| Qf fh rfl <| Q0 4 rfl rfl rfl <| Qf fh rfl <| zw 2 rfl rfl rfl ?_
 refine zN <| Q9 2 rfl rfl ?_
 refine zw 3 rfl rfl rfl ?_
 refine JL.nil ?_
 exact zro (Up.refl _ _)

set_option maxHeartbeats 8000000 in
theorem c_laws_toRules (a : M.Rul) {v_a : Value} {w : World} (h_a : (Ty.agg (cRules a)).ok w v_a) : Ret Tryz.prog 60 [v_a] w (Ty.agg (cRules a)) := by
 revert v_a; apply opn
 refine enter @Tryz.func60 @Tryz.ntmps60 rfl rfl ?_
 refine zent ?_
 refine zS <| zb rfl fun b1 => za zeh fun b2 => zN <| za zeh fun b3 => zN <| Qf fh rfl <| Q0 2 rfl rfl rfl <| Qf fh rfl <| zw 0 rfl rfl rfl ?_
 refine zN <| Qf fh rfl <| Q0 2 rfl rfl rfl <| Qf fh rfl <| zw 0 rfl rfl rfl ?_
 refine zN <| Qf fh rfl <| Q0 2 rfl rfl rfl <| Qf fh rfl <| zw 0 rfl rfl rfl ?_
 refine zN <| Qf fh rfl <| Q0 2 rfl rfl rfl <| Qf fh rfl <| zw 0 rfl rfl rfl ?_
 refine zN <| Qf fh rfl <| Q0 2 rfl rfl rfl <| Qf fh rfl <| zw 0 rfl rfl rfl ?_
 refine zN <| Qf fh rfl <| Q0 2 rfl rfl rfl <| Qf fh rfl <| zw 0 rfl rfl rfl ?_
 refine zN <| Qf fh rfl <| Q0 2 rfl rfl rfl <| Qf fh rfl <| zw 0 rfl rfl rfl ?_
 refine zN <| Qf fh rfl <| Q0 2 rfl rfl rfl <| Qf fh rfl <| zw 0 rfl rfl rfl ?_
 refine zN <| Qf fh rfl <| Q0 2 rfl rfl rfl <| Qf fh rfl <| zw 0 rfl rfl rfl ?_
 refine zN <| Q9 0 rfl rfl ?_
 refine zw 1 rfl rfl rfl ?_
 refine JL.nil ?_
 exact zro (Up.refl _ _)

set_option maxHeartbeats 1000000 in
theorem c_laws_eqInt64S (a : List Int) {v_a : Value} (b : List Int) {v_b : Value} {w : World} (h_a : (Ty.ints 2 a).ok w v_a) (h_b : (Ty.ints 2 b).ok w v_b) (r0 : a.length ≤ 4194304 := by exact om_) (r1 : b.length ≤ 4194304 := by exact om_) : RetV Tryz.prog 14 [v_a, v_b] w (.bool (decide (a = b))) := by
 revert v_a; apply opn
 intro A1 c1 h1 bl1 bh1
 have h_a := h1
 revert v_b; apply opn
 intro A2 c2 h2 bl2 bh2
 have h_b := h2
 refine enter @Tryz.func14 @Tryz.ntmps14 rfl rfl ?_
 refine zent ?_
 refine zS <| Qa rfl <| zJ <| zS <| Qm rfl <| Qz rfl <| Qm rfl <| Qz rfl <| Qd rfl rfl <| JL.nil ?_
 refine zi (fun h3 h3' => ?_) fun h3 h3' => ?_
 ·
  have e1 : decide (a = b) = false := by simp; rintro rfl; simp at h3
  refine zS <| Qa rfl <| JL.nil ?_
  refine zR (Up.refl _ _) ?_
  simp [outV, e1]
 have hlen : a.length = b.length := by have := h3'; omega
 refine Js.skip <| Js.seq <| zS <| Qa rfl <| JL.nil <| Js.block ?_
 refine zl [0, 1] (fun F U l os u m => ∃ (k : Nat), l = F [(5, .int .i64 (k : Int))] ∧ os = U [] ∧ (k ≤ a.length) ∧ (M.Upto a b k) ∧ m = a.length - k) ⟨0, rfl, rfl, zt, by exact M.Upto.zero _ _, rfl⟩ ?_
 rintro _ _ u4 _ ⟨k, rfl, rfl, hk, hU, rfl⟩ x4
 refine zn ?_
 refine Js.seq <| zS <| Qm rfl <| Qm rfl <| Qz rfl <| Ql rfl rfl <| JL.nil ?_
 refine zi (fun h5 h5' => ?_) fun h5 h5' => ?_
 ·
  refine Js.skip <| Js.seq <| Js.block <| Js.seq ?_
  refine zdr [] ?_
  refine JH.p 0 rfl (p_move rfl) ?_
  refine JH.p 1 rfl (p_move rfl) ?_
  obtain ⟨b6, o6, he6, hc6⟩ := ints_elem (Ty.mono _ h1 x4.vis) (i := k) (by omega)
  refine JH.p 2 rfl (p_indexAddr el_27 rfl rfl (by omega) (by omega) he6) ?_
  refine JH.w 3 rfl (fun os' u' hv => q_load1 ty_2.h rfl (Mem.pub (hc6.vis hv))) ?_
  refine JH.p 4 rfl (p_move rfl) ?_
  refine JH.p 5 rfl (p_move rfl) ?_
  obtain ⟨b7, o7, he7, hc7⟩ := ints_elem (Ty.mono _ h2 x4.vis) (i := k) (by omega)
  refine JH.p 6 rfl (p_indexAddr el_27 rfl rfl (by omega) (by omega) he7) ?_
  refine JH.w 7 rfl (fun os' u' hv => q_load1 ty_2.h rfl (Mem.pub (hc7.vis hv))) ?_
  refine JH.p 8 rfl (p_neq rfl rfl) ?_
  refine yd ?_
  refine zi (fun h8 h8' => ?_) fun h8 h8' => ?_
  ·
   have e1 : decide (a = b) = false := by simpa using M.ne_of_nth (a := a) (b := b) (k := k) (by simpa using h8)
   refine zS <| Qa rfl <| JL.nil ?_
   refine zR x4 ?_
   simp [outV, e1]
  have hab : M.nth a k = M.nth b k := by simpa using h8
  refine Js.skip <| Js.blockEnd <| Js.region <| Qm rfl <| Qp rfl rfl <| Qa rfl <| JL.nil ?_
  exact zag ⟨k + 1, rfl, rfl, zt, by exact hU.step (by omega) (by omega) hab, rfl⟩ x4
 have e1 : a = b := hU.done (by omega) (by omega)
 refine zx ?_
 refine zS <| Qa rfl <| JL.nil ?_
 refine zR x4 ?_
 simp [outV, e1]

set_option maxHeartbeats 1000000 in
theorem c_laws_eqPosition (a : M.Pos) {v_a : Value} (b : M.Pos) {v_b : Value} {w : World} (h_a : (Ty.agg (cPosition a)).ok w v_a) (h_b : (Ty.agg (cPosition b)).ok w v_b) (r0 : a.pits.length ≤ 4194304 := by exact om_) (r1 : a.stores.length ≤ 4194304 := by exact om_) (r2 : b.pits.length ≤ 4194304 := by exact om_) (r3 : b.stores.length ≤ 4194304 := by exact om_) : RetV Tryz.prog 16 [v_a, v_b] w (.bool (decide (a = b))) := by
 revert v_a; apply opn
 intro A1 c1 h1 bl1 bh1 A2 c2 h2 bl2 bh2
 revert v_b; apply opn
 intro A3 c3 h3 bl3 bh3 A4 c4 h4 bl4 bh4
 refine enter @Tryz.func16 @Tryz.ntmps16 rfl rfl ?_
 refine zent ?_
 refine zS <| zb rfl fun b5 => zb rfl fun b6 => Qa rfl <| zJ <| zS <| Qf fh rfl <| Q0 1 rfl rfl rfl <| Qf fh rfl <| Q0 0 rfl rfl rfl <| zv rfl (fun w hw => c_laws_eqInt64S a.pits b.pits (ok_ hw) (ok_ hw)) <| Qt rfl <| JL.nil ?_
 refine zi (fun h7 h7' => ?_) fun h7 h7' => ?_
 ·
  have hne : a ≠ b := by rintro rfl; simp at h7
  refine zS <| Qa rfl <| JL.nil ?_
  refine zR (Up.refl _ _) ?_
  first | (rw [decide_eq_false hne]; rfl) | (rw [decide_eq_true (M.pos_ext q0 q1 q2)]; rfl)
 have q0 : a.pits = b.pits := by simpa using h7
 refine Js.skip <| Js.seq <| zS <| Qf fh rfl <| Q0 1 rfl rfl rfl <| Qf fh rfl <| Q0 0 rfl rfl rfl <| zv rfl (fun w hw => c_laws_eqInt64S a.stores b.stores (ok_ hw) (ok_ hw)) <| Qt rfl <| JL.nil ?_
 refine zi (fun h8 h8' => ?_) fun h8 h8' => ?_
 ·
  have hne : a ≠ b := by rintro rfl; simp at h8
  refine zS <| Qa rfl <| JL.nil ?_
  refine zR (Up.refl _ _) ?_
  first | (rw [decide_eq_false hne]; rfl) | (rw [decide_eq_true (M.pos_ext q0 q1 q2)]; rfl)
 have q1 : a.stores = b.stores := by simpa using h8
 refine Js.skip <| Js.seq <| zS <| Qf fh rfl <| Q0 1 rfl rfl rfl <| Qf fh rfl <| Q0 0 rfl rfl rfl <| Qd rfl rfl <| JL.nil ?_
 refine zi (fun h9 h9' => ?_) fun h9 h9' => ?_
 ·
  have hne : a ≠ b := by rintro rfl; simp at h9
  refine zS <| Qa rfl <| JL.nil ?_
  refine zR (Up.refl _ _) ?_
  first | (rw [decide_eq_false hne]; rfl) | (rw [decide_eq_true (M.pos_ext q0 q1 q2)]; rfl)
 have q2 : a.player = b.player := by simpa using h9
 refine Js.skip <| zS <| Qa rfl <| JL.nil ?_
 refine zR (Up.refl _ _) ?_
 first | (rw [decide_eq_false hne]; rfl) | (rw [decide_eq_true (M.pos_ext q0 q1 q2)]; rfl)

set_option maxHeartbeats 1000000 in
theorem c_laws_eqRules (a : M.Rul) {v_a : Value} (b : M.Rul) {v_b : Value} {w : World} (h_a : (Ty.agg (cRules a)).ok w v_a) (h_b : (Ty.agg (cRules b)).ok w v_b) : RetV Tryz.prog 68 [v_a, v_b] w (.bool (decide (a = b))) := by
 revert v_a; apply opn
 revert v_b; apply opn
 refine enter @Tryz.func68 @Tryz.ntmps68 rfl rfl ?_
 refine zent ?_
 refine zS <| zb rfl fun b1 => zb rfl fun b2 => Qa rfl <| zJ <| zS <| Qf fh rfl <| Q0 1 rfl rfl rfl <| Qf fh rfl <| Q0 0 rfl rfl rfl <| Qd rfl rfl <| JL.nil ?_
 refine zi (fun h3 h3' => ?_) fun h3 h3' => ?_
 ·
  have hne : a ≠ b := by rintro rfl; simp at h3
  refine zS <| Qa rfl <| JL.nil ?_
  refine zR (Up.refl _ _) ?_
  first | (rw [decide_eq_false hne]; rfl) | (rw [decide_eq_true (M.rul_ext q0 q1 q2 q3 q4 q5 q6 q7 q8)]; rfl)
 have q0 : a.pits = b.pits := by simpa using h3
 refine Js.skip <| Js.seq <| zS <| Qf fh rfl <| Q0 1 rfl rfl rfl <| Qf fh rfl <| Q0 0 rfl rfl rfl <| Qd rfl rfl <| JL.nil ?_
 refine zi (fun h4 h4' => ?_) fun h4 h4' => ?_
 ·
  have hne : a ≠ b := by rintro rfl; simp at h4
  refine zS <| Qa rfl <| JL.nil ?_
  refine zR (Up.refl _ _) ?_
  first | (rw [decide_eq_false hne]; rfl) | (rw [decide_eq_true (M.rul_ext q0 q1 q2 q3 q4 q5 q6 q7 q8)]; rfl)
 have q1 : a.seeds = b.seeds := by simpa using h4
 refine Js.skip <| Js.seq <| zS <| Qf fh rfl <| Q0 1 rfl rfl rfl <| Qf fh rfl <| Q0 0 rfl rfl rfl <| Qq (p_neqB und_4 rfl rfl) <| JL.nil ?_
 refine zi (fun h5 h5' => ?_) fun h5 h5' => ?_
 ·
  have hne : a ≠ b := by rintro rfl; simp at h5
  refine zS <| Qa rfl <| JL.nil ?_
  refine zR (Up.refl _ _) ?_
  first | (rw [decide_eq_false hne]; rfl) | (rw [decide_eq_true (M.rul_ext q0 q1 q2 q3 q4 q5 q6 q7 q8)]; rfl)
 have q2 : a.stores = b.stores := by simpa using h5
 refine Js.skip <| Js.seq <| zS <| Qf fh rfl <| Q0 1 rfl rfl rfl <| Qf fh rfl <| Q0 0 rfl rfl rfl <| Qq (p_neqB und_4 rfl rfl) <| JL.nil ?_
 refine zi (fun h6 h6' => ?_) fun h6 h6' => ?_
 ·
  have hne : a ≠ b := by rintro rfl; simp at h6
  refine zS <| Qa rfl <| JL.nil ?_
  refine zR (Up.refl _ _) ?_
  first | (rw [decide_eq_false hne]; rfl) | (rw [decide_eq_true (M.rul_ext q0 q1 q2 q3 q4 q5 q6 q7 q8)]; rfl)
 have q3 : a.skip = b.skip := by simpa using h6
 refine Js.skip <| Js.seq <| zS <| Qf fh rfl <| Q0 1 rfl rfl rfl <| Qf fh rfl <| Q0 0 rfl rfl rfl <| Qq (p_neqB und_4 rfl rfl) <| JL.nil ?_
 refine zi (fun h7 h7' => ?_) fun h7 h7' => ?_
 ·
  have hne : a ≠ b := by rintro rfl; simp at h7
  refine zS <| Qa rfl <| JL.nil ?_
  refine zR (Up.refl _ _) ?_
  first | (rw [decide_eq_false hne]; rfl) | (rw [decide_eq_true (M.rul_ext q0 q1 q2 q3 q4 q5 q6 q7 q8)]; rfl)
 have q4 : a.relay = b.relay := by simpa using h7
 refine Js.skip <| Js.seq <| zS <| Qf fh rfl <| Q0 1 rfl rfl rfl <| Qf fh rfl <| Q0 0 rfl rfl rfl <| Qq (p_neqB und_4 rfl rfl) <| JL.nil ?_
 refine zi (fun h8 h8' => ?_) fun h8 h8' => ?_
 ·
  have hne : a ≠ b := by rintro rfl; simp at h8
  refine zS <| Qa rfl <| JL.nil ?_
  refine zR (Up.refl _ _) ?_
  first | (rw [decide_eq_false hne]; rfl) | (rw [decide_eq_true (M.rul_ext q0 q1 q2 q3 q4 q5 q6 q7 q8)]; rfl)
 have q5 : a.feed = b.feed := by simpa using h8
 refine Js.skip <| Js.seq <| zS <| Qf fh rfl <| Q0 1 rfl rfl rfl <| Qf fh rfl <| Q0 0 rfl rfl rfl <| Qq (p_neqB und_4 rfl rfl) <| JL.nil ?_
 refine zi (fun h9 h9' => ?_) fun h9 h9' => ?_
 ·
  have hne : a ≠ b := by rintro rfl; simp at h9
  refine zS <| Qa rfl <| JL.nil ?_
  refine zR (Up.refl _ _) ?_
  first | (rw [decide_eq_false hne]; rfl) | (rw [decide_eq_true (M.rul_ext q0 q1 q2 q3 q4 q5 q6 q7 q8)]; rfl)
 have q6 : a.again = b.again := by simpa using h9
 refine Js.skip <| Js.seq <| zS <| Qf fh rfl <| Q0 1 rfl rfl rfl <| Qf fh rfl <| Q0 0 rfl rfl rfl <| Qd rfl rfl <| JL.nil ?_
 refine zi (fun h10 h10' => ?_) fun h10 h10' => ?_
 ·
  have hne : a ≠ b := by rintro rfl; simp at h10
  refine zS <| Qa rfl <| JL.nil ?_
  refine zR (Up.refl _ _) ?_
  first | (rw [decide_eq_false hne]; rfl) | (rw [decide_eq_true (M.rul_ext q0 q1 q2 q3 q4 q5 q6 q7 q8)]; rfl)
 have q7 : a.capture = b.capture := by simpa using h10
 refine Js.skip <| Js.seq <| zS <| Qf fh rfl <| Q0 1 rfl rfl rfl <| Qf fh rfl <| Q0 0 rfl rfl rfl <| Qd rfl rfl <| JL.nil ?_
 refine zi (fun h11 h11' => ?_) fun h11 h11' => ?_
 ·
  have hne : a ≠ b := by rintro rfl; simp at h11
  refine zS <| Qa rfl <| JL.nil ?_
  refine zR (Up.refl _ _) ?_
  first | (rw [decide_eq_false hne]; rfl) | (rw [decide_eq_true (M.rul_ext q0 q1 q2 q3 q4 q5 q6 q7 q8)]; rfl)
 have q8 : a.slam = b.slam := by simpa using h11
 refine Js.skip <| zS <| Qa rfl <| JL.nil ?_
 refine zR (Up.refl _ _) ?_
 first | (rw [decide_eq_false hne]; rfl) | (rw [decide_eq_true (M.rul_ext q0 q1 q2 q3 q4 q5 q6 q7 q8)]; rfl)

end Go.Proofs.YtcmfnlleikcpnaaGreat

namespace Go.Proofs.YtcmfnlleikcpnaaGreat
open Go.RowKit

set_option maxHeartbeats 1000000 in
theorem c_laws_markInt64S (a : List Int) {Aa_0 : Option Addr} {ca_0 : Nat} {ga_0 : List Nat} (k : Int) {w : World} (hb : Bw w [rowO 2 1 (.slice Aa_0 a.length ca_0) a.length (ints_ a) ga_0]) (bd0 : a.length ≤ ca_0 := by exact om_) (bd1 : ca_0 ≤ 9223372036854775807 := by exact om_) (r0 : a.length ≤ 4194304 := by exact om_) (r1 : 0 ≤ k := by exact om_) (r2 : k ≤ 100000000 := by exact om_) : RetB Tryz.prog 19 [.slice Aa_0 a.length ca_0, .int .i64 k] w [rowO 2 1 (.slice Aa_0 a.length ca_0) a.length (ints_ a) ga_0] (fun v bs' => v = .int .i64 (k + (a.length : Int)) ∧ bs' = [rowO 2 1 (.slice Aa_0 a.length ca_0) a.length (ints_ (M.up k a.length)) ga_0]) := by
 refine enterB hb @Tryz.func19 @Tryz.ntmps19 rfl rfl ?_
 refine zent ?_
 refine Js.trashE ?_
 refine zn ?_
 refine zS <| Qa rfl <| zJ <| zS <| Qa rfl <| JL.nil <| Js.block ?_
 refine zl [0] (fun F U l os u m => ∃ (i : Nat) (kk : Int) (xs : List Int) (G1_1 : List Nat), l = F [(1, .int .i64 kk), (5, .int .i64 (i : Int))] ∧ os = U [some (rowO 2 1 (.slice Aa_0 a.length ca_0) a.length (ints_ xs) ga_0), some (anyO G1_1)] ∧ (xs = M.mkd a k i) ∧ (i ≤ a.length) ∧ (xs.length = a.length) ∧ (kk = k + (i : Int)) ∧ m = a.length - i) ⟨0, k, a, _, rfl, rfl, by exact M.mkd_zero a k, zt, by rfl, by simp, rfl⟩ ?_
 rintro _ _ u1 _ ⟨i, kk, xs, G1_1, rfl, rfl, hX, hi, hl, hkk, rfl⟩ x1
 refine zn ?_
 refine Js.seq <| zS <| Qm rfl <| Qm rfl <| Qz rfl <| Ql rfl rfl <| JL.nil ?_
 refine zi (fun h2 h2' => ?_) fun h2 h2' => ?_
 ·
  refine Js.skip <| Js.seq <| Js.block <| zS <| Qm rfl <| Qm rfl <| Qm rfl ?_
  refine JL.fact (row_some (i := 0) rfl (by omega)) (fun hf4 => ?_)
  obtain ⟨b4, rfl⟩ := hf4
  refine Qq (p_indexAddr el_27 rfl rfl (by omega) (by omega) rfl) ?_
  refine JL.s (e_storeRow (i := 0) (xs' := ints_ (xs.set i kk)) ty_2.h rfl rfl rfl rfl rfl rfl (ints_lt (i := i) (by omega)) (ints_setL (i := i) (by omega))) ?_
  rintro _ _ _ ⟨rfl, rfl⟩ _
  refine znl ?_
  refine zG <| Qm rfl <| Qp rfl rfl <| Qa rfl <| JL.nil <| Js.blockEnd <| Js.region <| Qm rfl <| Qp rfl rfl <| Qa rfl <| JL.nil ?_
  exact zag ⟨i + 1, kk + 1, xs.set i kk, _, rfl, rfl, by rw [hX, hkk]; exact M.mkd_step (by omega), zt, by rw [List.length_set]; exact hl, zt, rfl⟩ x1
 have hi2 : i = a.length := by have := h2'; omega
 have hM : M.up k a.length = xs := by rw [hX]; exact (M.mkd_end hi2).symm
 refine zx ?_
 refine zS <| Qm rfl <| Qa rfl <| JL.nil ?_
 refine zrb [0] hb x1 ?_
 have hE : (.int .i64 kk : Value) = .int .i64 (k + (a.length : Int)) := by first | exact hM | (refine congrArg (Value.int .i64) ?_; omega)
 have hE1 : M.up k a.length = xs := by first | exact hM | (refine congrArg (Value.int .i64) ?_; omega)
 refine ⟨hE, ?_⟩
 · rw [hE1]

set_option maxHeartbeats 1000000 in
theorem c_laws_heldInt64S (a : List Int) {v_a : Value} (k : Int) {w : World} (h_a : (Ty.ints 2 a).ok w v_a) (r0 : a.length ≤ 4194304 := by exact om_) (r1 : 0 ≤ k := by exact om_) (r2 : k ≤ 100000000 := by exact om_) : RetV Tryz.prog 20 [v_a, .int .i64 k] w (.int .i64 (M.held a k)) := by
 revert v_a; apply opn
 intro A1 c1 h1 bl1 bh1
 have h_a := h1
 refine enter @Tryz.func20 @Tryz.ntmps20 rfl rfl ?_
 refine zent ?_
 refine zS <| Qa rfl <| zJ <| zS <| Qa rfl <| JL.nil <| Js.block ?_
 refine zl [0] (fun F U l os u m => ∃ (i : Nat) (kk : Int), l = F [(1, .int .i64 kk), (5, .int .i64 (i : Int))] ∧ os = U [] ∧ (a.take i = M.up k i) ∧ (i ≤ a.length) ∧ (kk = k + (i : Int)) ∧ m = a.length - i) ⟨0, k, rfl, rfl, by rfl, zt, by simp, rfl⟩ ?_
 rintro _ _ u2 _ ⟨i, kk, rfl, rfl, hU, hi, hkk, rfl⟩ x2
 refine zn ?_
 refine Js.seq <| zS <| Qm rfl <| Qm rfl <| Qz rfl <| Ql rfl rfl <| JL.nil ?_
 refine zi (fun h3 h3' => ?_) fun h3 h3' => ?_
 ·
  obtain ⟨b4, o4, he4, hc4⟩ := ints_elem (Ty.mono _ h1 x2.vis) (i := i) (by omega)
  refine Js.skip <| Js.seq <| Js.block <| Js.seq <| zS <| Qm rfl <| Qm rfl <| Qq (p_indexAddr el_27 rfl rfl (by omega) (by omega) he4) <| QC hc4 rfl <| Qm rfl <| Qd rfl rfl <| JL.nil ?_
  refine zi (fun h5 h5' => ?_) fun h5 h5' => ?_
  ·
   have hE := M.held_no (a := a) (k := k) (i := i) (by omega) (by rw [← hkk]; simpa using h5)
   refine zS <| Qa rfl <| JL.nil ?_
   refine zR x2 ?_
   first | (rw [hE]; rfl) | (rw [hE, hkk]; rfl)
  have he : M.nth a i = k + (i : Int) := by rw [← hkk]; simpa using h5
  refine Js.skip <| Js.region <| Qm rfl <| Qp rfl rfl <| Qa rfl <| JL.nil <| Js.blockEnd <| Js.region <| Qm rfl <| Qp rfl rfl <| Qa rfl <| JL.nil ?_
  exact zag ⟨i + 1, kk + 1, rfl, rfl, by exact M.held_step (by omega) hU he, zt, zt, rfl⟩ x2
 have hE := M.held_yes (a := a) (k := k) (i := i) (by have := h3'; omega) hU
 refine zx ?_
 refine zS <| Qm rfl <| Qa rfl <| JL.nil ?_
 refine zR x2 ?_
 first | (rw [hE]; rfl) | (rw [hE, hkk]; rfl)

set_option maxHeartbeats 1000000 in
theorem c_laws_markPosition (a_pits a_stores : List Int) (a_player : Int) {Aa_0 : Option Addr} {ca_0 : Nat} {ga_0 : List Nat} {Aa_1 : Option Addr} {ca_1 : Nat} {ga_1 : List Nat} (k : Int) {w : World} (hb : Bw w [rowO 2 1 (.slice Aa_0 a_pits.length ca_0) a_pits.length (ints_ a_pits) ga_0, rowO 2 1 (.slice Aa_1 a_stores.length ca_1) a_stores.length (ints_ a_stores) ga_1]) (bd0 : a_pits.length ≤ ca_0 := by exact om_) (bd1 : ca_0 ≤ 9223372036854775807 := by exact om_) (bd2 : a_stores.length ≤ ca_1 := by exact om_) (bd3 : ca_1 ≤ 9223372036854775807 := by exact om_) (r0 : a_pits.length ≤ 4194304 := by exact om_) (r1 : a_stores.length ≤ 4194304 := by exact om_) (r2 : 0 ≤ k := by exact om_) (r3 : k ≤ 50000000 := by exact om_) : RetB Tryz.prog 18 [.agg #[.slice Aa_0 a_pits.length ca_0, .slice Aa_1 a_stores.length ca_1, .int .i64 a_player], .int .i64 k] w [rowO 2 1 (.slice Aa_0 a_pits.length ca_0) a_pits.length (ints_ a_pits) ga_0, rowO 2 1 (.slice Aa_1 a_stores.length ca_1) a_stores.length (ints_ a_stores) ga_1] (fun v bs' => v = .int .i64 (k + (a_pits.length : Int) + (a_stores.length : Int)) ∧ bs' = [rowO 2 1 (.slice Aa_0 a_pits.length ca_0) a_pits.length (ints_ (M.up k a_pits.length)) ga_0, rowO 2 1 (.slice Aa_1 a_stores.length ca_1) a_stores.length (ints_ (M.up (k + (a_pits.length : Int)) a_stores.length)) ga_1]) := by
 refine enterB hb @Tryz.func18 @Tryz.ntmps18 rfl rfl ?_
 refine zent ?_
 refine Js.trashE ?_
 refine zn ?_
 refine zS <| zb rfl fun b1 => Qa rfl <| zN <| Qf fh rfl <| Q0 0 rfl rfl rfl <| Qm rfl ?_
 refine zhl [1] ?_
 refine zBB 1 sp_ rfl (fun w hb _ hw => c_laws_markInt64S a_pits k hb) ?_
 rintro _ _ G2 ⟨rfl, rfl⟩
 refine znl ?_
 refine Qa rfl <| zN <| Qf fh rfl <| Q0 2 rfl rfl rfl <| Qm rfl ?_
 refine zhl [3] ?_
 refine zBB 1 sp_ rfl (fun w hb _ hw => c_laws_markInt64S a_stores (k + (a_pits.length : Int)) hb) ?_
 rintro _ _ G3 ⟨rfl, rfl⟩
 refine znl ?_
 refine Qa rfl <| zN <| Qm rfl <| Qa rfl <| JL.nil ?_
 refine zrb [2, 0] hb (Up.refl _ _) ?_
 have hE : (.int .i64 ((k + (a_pits.length : Int)) + (a_stores.length : Int)) : Value) = .int .i64 (k + (a_pits.length : Int) + (a_stores.length : Int)) := by rfl
 exact ⟨hE, rfl⟩

end Go.Proofs.YtcmfnlleikcpnaaGreat

namespace Go.Proofs.YtcmfnlleikcpnaaGreat
open Go.RowKit

set_option maxHeartbeats 1000000 in
theorem c_laws_toChoice (a : M.Cho) {v_a : Value} {w : World} (h_a : (Ty.agg (cChoice a)).ok w v_a) : Ret Tryz.prog 181 [v_a] w (Ty.agg (cChoice a)) := by
 revert v_a; apply opn
 refine enter @Tryz.func181 @Tryz.ntmps181 rfl rfl ?_
 refine zent ?_
 refine zS <| zb rfl fun b1 => za zeh fun b2 => zN <| za zeh fun b3 => zN <| Qf fh rfl <| Q0 2 rfl rfl rfl <| Qf fh rfl <| zw 0 rfl rfl rfl ?_
 refine zN <| Qf fh rfl <| Q0 2 rfl rfl rfl <| Qf fh rfl <| zw 0 rfl rfl rfl ?_
 refine zN <| Qf fh rfl <| Q0 2 rfl rfl rfl <| Qf fh rfl <| zw 0 rfl rfl rfl ?_
 refine zN <| Q9 0 rfl rfl ?_
 refine zw 1 rfl rfl rfl ?_
 refine JL.nil ?_
 exact zro (Up.refl _ _)

set_option maxHeartbeats 1000000 in
theorem c_laws_toChoiceS (a : List M.Cho) {v_a : Value} {w : World} (h_a : (Ty.sl 81 3 a.length (lChoice a)).ok w v_a) (r0 : a.length ≤ 4194304 := by exact om_) : Ret Tryz.prog 164 [v_a] w (Ty.sl 81 3 a.length (lChoice a)) := by
 revert v_a; apply opn
 intro A1 c1 h1 bl1 bh1
 have h_a := h1
 refine enter @Tryz.func164 @Tryz.ntmps164 rfl rfl ?_
 refine zent ?_
 refine zS <| Qa rfl <| zN <| Qm rfl <| Qz rfl <| zmkF vcChoice M.Cho.zero (a0 := (a.length : Int)) (m := a.length) (by omega) (by omega) fun b2 => Qa rfl <| zJ <| zS <| Qa rfl <| JL.nil <| Js.block ?_
 refine zl [0, 3] (fun F U l os u m => ∃ (i : Nat) (xs : List M.Cho), l = F [(4, .int .i64 (i : Int))] ∧ os = U [some (rowO 81 3 (.slice (some ⟨b2, 0, none⟩) a.length a.length) a.length (fltV vcChoice xs) [])] ∧ (xs = M.cpS M.Cho.zero a i) ∧ (i ≤ a.length) ∧ (xs.length = a.length) ∧ m = a.length - i) ⟨0, List.replicate a.length M.Cho.zero, rfl, rfl, by exact M.cpS_zero _ _, zt, by simp, rfl⟩ ?_
 rintro _ _ u3 _ ⟨i, xs, rfl, rfl, hX, hi, hl, rfl⟩ x3
 refine zn ?_
 refine Js.seq <| zS <| Qm rfl <| Qm rfl <| Qz rfl <| Ql rfl rfl <| JL.nil ?_
 refine zi (fun h4 h4' => ?_) fun h4 h4' => ?_
 ·
  have hgt : a[i]? = some (M.cho a i) := M.cho_get (by omega)
  have hy5 : a[i]? = some (M.cho a i) := M.cho_get (by omega)
  obtain ⟨b5, o5, he5, hr5⟩ := elem_Choice (Ty.mono _ h1 x3.vis) hy5
  refine Js.skip <| Js.seq <| Js.block <| Js.region <| Qm rfl <| Qm rfl <| Qm rfl <| Qm rfl <| Qq (p_indexAddr el_156 rfl rfl (by omega) (by omega) he5) <| QS 0 hr5 rfl ?_
  refine zp rfl (fun w hw => c_laws_toChoice (M.cho a i) (ok_ hw)) ?_
  intro u6 x6
  have hy7 : xs[i]? = some (M.cho xs i) := M.cho_get (by first | omega | (simp only [List.length_set, List.length_append, List.length_cons, List.length_nil, List.length_take, List.length_drop, List.length_replicate]; omega))
  refine Qq (p_indexAddr el_67 rfl rfl (by first | omega | (simp only [List.length_set, List.length_append, List.length_cons, List.length_nil, List.length_take, List.length_drop, List.length_replicate]; omega)) (by first | omega | (simp only [List.length_set, List.length_append, List.length_cons, List.length_nil, List.length_take, List.length_drop, List.length_replicate]; omega)) rfl) ?_
  refine JL.s (e_storeRow (i := 0) (xs' := fltV vcChoice (xs.set i (M.cho a i))) ty_81.h rfl rfl rfl rfl rfl rfl (fltV_lt (C := vcChoice) (j := 0) (fun _ => rfl) (by first | omega | (simp only [List.length_set, List.length_append, List.length_cons, List.length_nil, List.length_take, List.length_drop, List.length_replicate]; omega)) (by decide)) (fltV_set (C := vcChoice) (y := (M.cho a i)) (fun _ => rfl) (by first | omega | (simp only [List.length_set, List.length_append, List.length_cons, List.length_nil, List.length_take, List.length_drop, List.length_replicate]; omega)))) ?_
  rintro _ _ _ ⟨rfl, rfl⟩ _
  refine znl ?_
  refine JL.nil <| Js.blockEnd <| Js.region <| Qm rfl <| Qp rfl rfl <| Qa rfl <| JL.nil ?_
  exact zag ⟨i + 1, xs.set i (M.cho a i), rfl, rfl, by rw [hX]; exact M.cpS_step hgt, zt, by rw [List.length_set]; exact hl, rfl⟩ (x3.trans x6)
 have hE : xs = a := by rw [hX]; exact M.cpS_all (by have := h4'; omega)
 refine zx ?_
 have hq0 : xs = a := by exact hE
 refine zS <| Qm rfl <| Qa rfl <| JL.nil ?_
 exact zro x3 (g := by exact (gv_flat lChoice (xs := xs) po_ (by first | rfl | (simp [fltV]; done)) (by first | with_reducible rfl | assumption | rfl)))

set_option maxHeartbeats 1000000 in
theorem c_laws_toBookEntry (a : M.Ent) {v_a : Value} {w : World} (h_a : (Ty.agg (cBookEntry a)).ok w v_a) (r0 : a.pits.length ≤ 4194304 := by exact om_) (r1 : a.choices.length ≤ 4194304 := by exact om_) : Ret Tryz.prog 122 [v_a] w (Ty.agg (cBookEntry a)) := by
 revert v_a; apply opn
 intro A1 c1 h1 bl1 bh1 A2 c2 h2 bl2 bh2
 refine enter @Tryz.func122 @Tryz.ntmps122 rfl rfl ?_
 refine zent ?_
 refine zS <| zb rfl fun b3 => za zeh fun b4 => zN <| za zeh fun b5 => zN <| Qf fh rfl <| Q0 2 rfl rfl rfl <| zcs rfl (fun w hw => c_laws_toInt64S a.pits (ok_ hw)) ?_
 intro A6 c6 bl6 bh6
 refine Qf fh rfl <| zw 1 rfl rfl rfl ?_
 refine zN <| Qf fh rfl <| Q0 3 rfl rfl rfl <| zcs rfl (fun w hw => c_laws_toChoiceS a.choices (ok_ hw)) ?_
 intro A7 c7 bl7 bh7
 refine Qf fh rfl <| zw 2 rfl rfl rfl ?_
 refine zN <| Q9 2 rfl rfl ?_
 refine zw 3 rfl rfl rfl ?_
 refine JL.nil ?_
 exact zro (Up.refl _ _) (g := by exact (gv_agg (gvc gv_ (gvc (gv_flat lChoice (xs := a.choices) po_ (by first | rfl | (simp [fltV]; done)) (by first | with_reducible rfl | assumption | rfl)) gvn))))

set_option maxHeartbeats 1000000 in
theorem c_laws_toBookEntryS (a : List M.Ent) {v_a : Value} {w : World} (h_a : (Ty.sl 89 2 a.length (lBookEntry a)).ok w v_a) (r0 : a.length ≤ 4194304 := by exact om_) (r1 : ∀ x ∈ a, x.pits.length ≤ 4194304 ∧ x.choices.length ≤ 4194304 := by exact om_) : Ret Tryz.prog 61 [v_a] w (Ty.sl 89 2 a.length (lBookEntry a)) := by
 revert v_a; apply opn
 intro A1 c1 h1 bl1 bh1
 have h_a := h1
 refine enter @Tryz.func61 @Tryz.ntmps61 rfl rfl ?_
 refine zent ?_
 refine zS <| Qa rfl <| zN <| Qm rfl <| Qz rfl <| zmkN cBookEntry M.Ent.zero (a0 := (a.length : Int)) (m := a.length) (by omega) (by omega) zown_BookEntry fun b2 => Qa rfl <| zJ <| zS <| Qa rfl <| JL.nil <| Js.block ?_
 refine zl [0, 3] (fun F U l os u m => ∃ (i : Nat) (xs : List M.Ent) (vs3_0 : List Value) (fl3_0 : List Nat), l = F [(4, .int .i64 (i : Int))] ∧ os = U [some (rowO 89 2 (.slice (some ⟨b2, 0, none⟩) a.length a.length) a.length vs3_0 []), some (ownC (lBookEntry xs) vs3_0 fl3_0)] ∧ (xs = M.cpS M.Ent.zero a i) ∧ (i ≤ a.length) ∧ (xs.length = a.length) ∧ m = a.length - i) ⟨0, List.replicate a.length M.Ent.zero, _, _, rfl, rfl, by exact M.cpS_zero _ _, zt, by simp, rfl⟩ ?_
 rintro _ _ u3 _ ⟨i, xs, vs3_0, fl3_0, rfl, rfl, hX, hi, hl, rfl⟩ x3
 refine zn ?_
 refine Js.seq <| zS <| Qm rfl <| Qm rfl <| Qz rfl <| Ql rfl rfl <| JL.nil ?_
 refine zi (fun h4 h4' => ?_) fun h4 h4' => ?_
 ·
  have hgt : a[i]? = some (M.ent a i) := M.ent_get (by omega)
  obtain ⟨e1_, e2_⟩ := r1 _ (List.mem_of_getElem? hgt)
  have hy5 : a[i]? = some (M.ent a i) := M.ent_get (by omega)
  obtain ⟨b5, o5, A5_0, c5_0, A5_1, c5_1, he5, hr5, h5_0, h5_1, bl5_0, bh5_0, bl5_1, bh5_1⟩ := elem_BookEntry (Ty.mono _ h1 x3.vis) hy5
  refine Js.skip <| Js.seq <| Js.block <| Js.region <| Qm rfl <| Qm rfl <| Qm rfl <| Qm rfl <| Qq (p_indexAddr el_24 rfl rfl (by omega) (by omega) he5) <| QS 0 hr5 rfl ?_
  refine zcs rfl (fun w hw => c_laws_toBookEntry (M.ent a i) (ok_ hw)) ?_
  intro A6_0 c6_0 bl6_0 bh6_0 A6_1 c6_1 bl6_1 bh6_1 f6
  have hy7 : xs[i]? = some (M.ent xs i) := M.ent_get (by first | omega | (simp only [List.length_set, List.length_append, List.length_cons, List.length_nil, List.length_take, List.length_drop, List.length_replicate]; omega))
  refine JL.fact (fun w hw => elemv_BookEntry (Mem.ownC (i := 2) rfl w hw) hy7) (fun hf7 => ?_)
  obtain ⟨A7_0, c7_0, A7_1, c7_1, he7, bl7_0, bh7_0, bl7_1, bh7_1⟩ := hf7
  refine Qq (p_indexAddr el_35 rfl rfl (by omega) (by omega) rfl) ?_
  refine JL.fact (fun w hw => elem_in cBookEntry (m := 2) (k := i) (xs := xs) (fun _ => rfl) (Mem.ownC (i := 2) rfl w hw) (by first | omega | (simp only [List.length_set, List.length_append, List.length_cons, List.length_nil, List.length_take, List.length_drop, List.length_replicate]; omega))) (fun hl8 => ?_)
  refine JL.ex3 (fun w hw => St.elemS cBookEntry (m := 2) (i := 2) (xs := xs) (fun _ => rfl) rfl hy7 he7 hw) (fun f8_1 f8_2 f8_3 => ?_)
  refine znl ?_
  refine JL.pk (cBookEntry (M.ent a i)) [.slice A6_0 (((M.ent a i).pits).length) c6_0, .slice A6_1 (((M.ent a i).choices).length) c6_1] (fun f9 G9 => ?_)
  refine znl ?_
  refine JL.s (e_storeRow (i := 5) (xs' := setL vs3_0 (0 + i * 2) [.slice A6_0 (((M.ent a i).pits).length) c6_0, .slice A6_1 (((M.ent a i).choices).length) c6_1]) ty_89.h rfl rfl rfl rfl rfl rfl (by omega) rfl) ?_
  rintro _ _ _ ⟨rfl, rfl⟩ _
  refine zhl [4, 0, 2] ?_
  refine JL.conv (fun w hw => St.closeE cBookEntry (k := i) (m := 2) (xs := xs) (y := (M.ent a i)) (vs := vs3_0) (vs' := (setL vs3_0 (0 + i * 2) [.slice A6_0 (((M.ent a i).pits).length) c6_0, .slice A6_1 (((M.ent a i).choices).length) c6_1])) (by first | omega | (simp only [List.length_set, List.length_append, List.length_cons, List.length_nil, List.length_take, List.length_drop, List.length_replicate]; omega)) rfl rfl hw) ?_
  refine znl ?_
  refine znl ?_
  refine JL.nil <| Js.blockEnd <| Js.region <| Qm rfl <| Qp rfl rfl <| Qa rfl <| JL.nil ?_
  refine zd [3, 0] rfl fun u10 x10 => ?_
  exact zag ⟨i + 1, xs.set i (M.ent a i), _, _, rfl, rfl, by rw [hX]; exact M.cpS_step hgt, zt, by rw [List.length_set]; exact hl, rfl⟩ (x3.trans x10)
 have hE : xs = a := by rw [hX]; exact M.cpS_all (by have := h4'; omega)
 refine zx ?_
 have hq0 : xs = a := by exact hE
 refine zS <| Qm rfl <| Qa rfl <| JL.nil ?_
 exact zro x3

set_option maxHeartbeats 2000000 in
theorem c_laws_toBook (a : M.Boo) {v_a : Value} {w : World} (h_a : (Ty.agg (cBook a)).ok w v_a) (r0 : a.entries.length ≤ 4194304 := by exact om_) (r1 : ∀ x ∈ a.entries, x.pits.length ≤ 4194304 ∧ x.choices.length ≤ 4194304 := by exact om_) : Ret Tryz.prog 11 [v_a] w (Ty.agg (cBook a)) := by
 revert v_a; apply opn
 intro A1 c1 h1 bl1 bh1
 refine enter @Tryz.func11 @Tryz.ntmps11 rfl rfl ?_
 refine zent ?_
 refine zS <| zb rfl fun b2 => za zeh fun b3 => zN <| za zeh fun b4 => zN <| Qf fh rfl <| Q9 2 rfl rfl ?_
 refine zc rfl (fun w hw => c_laws_toRules a.rules (ok_ hw)) <| Qf fh rfl <| zw 0 rfl rfl rfl ?_
 refine zN <| Qf fh rfl <| Q0 2 rfl rfl rfl <| zcs rfl (fun w hw => c_laws_toBookEntryS a.entries (ok_ hw) (r1 := r1)) ?_
 intro A6 c6 vs6 f6 bl6 bh6
 refine Qf fh rfl <| zw 2 rfl rfl rfl ?_
 refine zN <| Q9 2 rfl rfl ?_
 refine zw 3 rfl rfl rfl ?_
 refine JL.nil ?_
 exact zro (Up.refl _ _)

set_option maxHeartbeats 1000000 in
theorem c_laws_szChoiceS (a : List M.Cho) {v_a : Value} (left : Int) {w : World} (h_a : (Ty.sl 81 3 a.length (lChoice a)).ok w v_a) (r0 : -1 ≤ left := by exact om_) (r1 : left ≤ 1048576 := by exact om_) : RetV Tryz.prog 157 [v_a, .int .i64 left] w (.int .i64 (M.szL a.length left)) := by
 have q1 := M.szL_cases a.length left
 revert v_a; apply opn
 intro A1 c1 h1 bl1 bh1
 have h_a := h1
 refine enter @Tryz.func157 @Tryz.ntmps157 rfl rfl ?_
 refine zent ?_
 refine zS <| Qa rfl <| zN <| Qm rfl <| Qm rfl <| Qz rfl <| Qs rfl rfl <| Qa rfl <| zJ <| zS <| Qm rfl <| Ql rfl rfl <| JL.nil ?_
 refine zi (fun h2 h2' => ?_) fun h2 h2' => ?_
 ·
  refine zS <| Qa rfl <| JL.nil ?_
  refine zR (Up.refl _ _) ?_
  refine congrArg (fun n => Ending.returned (Value.int .i64 n)) ?_; omega
 refine Js.skip <| zS <| Qm rfl <| Qa rfl <| JL.nil ?_
 refine zR (Up.refl _ _) ?_
 refine congrArg (fun n => Ending.returned (Value.int .i64 n)) ?_; omega

set_option maxHeartbeats 1000000 in
theorem c_laws_szBookEntry (a : M.Ent) {v_a : Value} (left : Int) {w : World} (h_a : (Ty.agg (cBookEntry a)).ok w v_a) (r0 : -1 ≤ left := by exact om_) (r1 : left ≤ 1048576 := by exact om_) : RetV Tryz.prog 112 [v_a, .int .i64 left] w (.int .i64 (M.szL (a.pits.length + a.choices.length) left)) := by
 have q1 := M.szL_cases a.pits.length left
 have q2 := M.szL_cases a.choices.length (M.szL a.pits.length left)
 have q3 := M.szL_cases (a.pits.length + a.choices.length) left
 revert v_a; apply opn
 intro A1 c1 h1 bl1 bh1 A2 c2 h2 bl2 bh2
 refine enter @Tryz.func112 @Tryz.ntmps112 rfl rfl ?_
 refine zent ?_
 refine zS <| zb rfl fun b3 => Qa rfl <| zN <| Qf fh rfl <| Q0 0 rfl rfl rfl <| Qm rfl <| zv rfl (fun w hw => c_laws_szInt64S a.pits left (ok_ hw)) <| Qa rfl <| zJ <| zS <| Qm rfl <| Ql rfl rfl <| JL.nil ?_
 refine zi (fun h4 h4' => ?_) fun h4 h4' => ?_
 ·
  refine zS <| Qa rfl <| JL.nil ?_
  refine zR (Up.refl _ _) ?_
  refine congrArg (fun n => Ending.returned (Value.int .i64 n)) ?_; omega
 refine Js.skip <| zS <| Qf fh rfl <| Q0 0 rfl rfl rfl <| Qm rfl <| zv rfl (fun w hw => c_laws_szChoiceS a.choices (M.szL a.pits.length left) (ok_ hw)) <| Qa rfl <| zJ <| zS <| Qm rfl <| Ql rfl rfl <| JL.nil ?_
 refine zi (fun h5 h5' => ?_) fun h5 h5' => ?_
 ·
  refine zS <| Qa rfl <| JL.nil ?_
  refine zR (Up.refl _ _) ?_
  refine congrArg (fun n => Ending.returned (Value.int .i64 n)) ?_; omega
 refine Js.skip <| zS <| Qm rfl <| Qa rfl <| JL.nil ?_
 refine zR (Up.refl _ _) ?_
 refine congrArg (fun n => Ending.returned (Value.int .i64 n)) ?_; omega

set_option maxHeartbeats 1000000 in
theorem c_laws_szBookEntryS (a : List M.Ent) {v_a : Value} (left : Int) {w : World} (h_a : (Ty.sl 89 2 a.length (lBookEntry a)).ok w v_a) (r0 : -1 ≤ left := by exact om_) (r1 : left ≤ 1048576 := by exact om_) : RetV Tryz.prog 52 [v_a, .int .i64 left] w (.int .i64 (M.szL (a.length + M.totE a) left)) := by
 have q1 := M.szL_cases (a.length + M.totE a) left
 revert v_a; apply opn
 intro A1 c1 h1 bl1 bh1
 have h_a := h1
 refine enter @Tryz.func52 @Tryz.ntmps52 rfl rfl ?_
 refine zent ?_
 refine zS <| Qa rfl <| zN <| Qm rfl <| Qm rfl <| Qz rfl <| Qs rfl rfl <| Qa rfl <| zJ <| zS <| Qm rfl <| Ql rfl rfl <| JL.nil ?_
 refine zi (fun h2 h2' => ?_) fun h2 h2' => ?_
 ·
  refine zS <| Qa rfl <| JL.nil ?_
  refine zR (Up.refl _ _) ?_
  refine congrArg (fun n => Ending.returned (Value.int .i64 n)) ?_; omega
 refine Js.skip <| Js.seq <| zS <| Qa rfl <| JL.nil <| Js.block ?_
 refine zl [0] (fun F U l os u m => ∃ (i : Nat) (ll : Int), l = F [(1, .int .i64 ll), (5, .int .i64 (i : Int))] ∧ os = U [] ∧ (ll = left - (a.length : Int) - (M.totE (a.take i) : Int)) ∧ (0 ≤ ll) ∧ (i ≤ a.length) ∧ (ll ≤ 1048576) ∧ m = a.length - i) ⟨0, left - (a.length : Int), rfl, rfl, by simp [M.totE], zt, zt, by omega, rfl⟩ ?_
 rintro _ _ u3 _ ⟨i, ll, rfl, rfl, hL, hge, hi, hle, rfl⟩ x3
 refine zn ?_
 refine Js.seq <| zS <| Qm rfl <| Qm rfl <| Qz rfl <| Ql rfl rfl <| JL.nil ?_
 refine zi (fun h4 h4' => ?_) fun h4 h4' => ?_
 ·
  have t1 := M.totE_step (es := a) (i := i) (by omega)
  have t2 := M.totE_le a (i + 1)
  have q2 := M.szL_cases ((M.ent a i).pits.length + (M.ent a i).choices.length) ll
  have hy5 : a[i]? = some (M.ent a i) := M.ent_get (by omega)
  obtain ⟨b5, o5, A5_0, c5_0, A5_1, c5_1, he5, hr5, h5_0, h5_1, bl5_0, bh5_0, bl5_1, bh5_1⟩ := elem_BookEntry (Ty.mono _ h1 x3.vis) hy5
  refine Js.skip <| Js.seq <| Js.block <| zS <| Qm rfl <| Qm rfl <| Qq (p_indexAddr el_24 rfl rfl (by omega) (by omega) he5) <| QS 0 hr5 rfl ?_
  refine Qm rfl <| zv rfl (fun w hw => c_laws_szBookEntry (M.ent a i) ll (ok_ hw)) <| Qa rfl <| zN <| Qm rfl <| Ql rfl rfl <| JL.nil ?_
  refine zi (fun h6 h6' => ?_) fun h6 h6' => ?_
  ·
   refine zS <| Qa rfl <| JL.nil ?_
   refine zR x3 ?_
   refine congrArg (fun n => Ending.returned (Value.int .i64 n)) ?_; omega
  refine Js.skip <| Js.blockEnd <| Js.region <| Qm rfl <| Qp rfl rfl <| Qa rfl <| JL.nil ?_
  exact zag ⟨i + 1, M.szL ((M.ent a i).pits.length + (M.ent a i).choices.length) ll, rfl, rfl, by omega, by omega, zt, by omega, rfl⟩ x3
 have t3 : a.take i = a := List.take_of_length_le (by have := h4'; omega)
 rw [t3] at hL
 refine zx ?_
 refine zS <| Qm rfl <| Qa rfl <| JL.nil ?_
 refine zR x3 ?_
 refine congrArg (fun n => Ending.returned (Value.int .i64 n)) ?_; omega

set_option maxHeartbeats 1000000 in
theorem c_laws_szBook (a : M.Boo) {v_a : Value} (left : Int) {w : World} (h_a : (Ty.agg (cBook a)).ok w v_a) (r0 : -1 ≤ left := by exact om_) (r1 : left ≤ 1048576 := by exact om_) : RetV Tryz.prog 8 [v_a, .int .i64 left] w (.int .i64 (M.szL (a.entries.length + M.totE a.entries) left)) := by
 have q1 := M.szL_cases (a.entries.length + M.totE a.entries) left
 revert v_a; apply opn
 intro A1 c1 h1 bl1 bh1
 refine enter @Tryz.func8 @Tryz.ntmps8 rfl rfl ?_
 refine zent ?_
 refine zS <| zb rfl fun b2 => Qa rfl <| zN <| Qf fh rfl <| Q0 0 rfl rfl rfl <| Qm rfl <| zv rfl (fun w hw => c_laws_szBookEntryS a.entries left (ok_ hw)) <| Qa rfl <| zJ <| zS <| Qm rfl <| Ql rfl rfl <| JL.nil ?_
 refine zi (fun h3 h3' => ?_) fun h3 h3' => ?_
 ·
  refine zS <| Qa rfl <| JL.nil ?_
  refine zR (Up.refl _ _) ?_
  refine congrArg (fun n => Ending.returned (Value.int .i64 n)) ?_; omega
 refine Js.skip <| zS <| Qm rfl <| Qa rfl <| JL.nil ?_
 refine zR (Up.refl _ _) ?_
 refine congrArg (fun n => Ending.returned (Value.int .i64 n)) ?_; omega

set_option maxHeartbeats 1000000 in
theorem c_laws_eqChoice (a : M.Cho) {v_a : Value} (b : M.Cho) {v_b : Value} {w : World} (h_a : (Ty.agg (cChoice a)).ok w v_a) (h_b : (Ty.agg (cChoice b)).ok w v_b) : RetV Tryz.prog 182 [v_a, v_b] w (.bool (decide (a = b))) := by
 revert v_a; apply opn
 revert v_b; apply opn
 refine enter @Tryz.func182 @Tryz.ntmps182 rfl rfl ?_
 refine zent ?_
 refine zS <| zb rfl fun b1 => zb rfl fun b2 => Qa rfl <| zJ <| zS <| Qf fh rfl <| Q0 1 rfl rfl rfl <| Qf fh rfl <| Q0 0 rfl rfl rfl <| Qd rfl rfl <| JL.nil ?_
 refine zi (fun h3 h3' => ?_) fun h3 h3' => ?_
 ·
  have hne : a ≠ b := by rintro rfl; simp at h3
  refine zS <| Qa rfl <| JL.nil ?_
  refine zR (Up.refl _ _) ?_
  first | (rw [decide_eq_false hne]; rfl) | (rw [decide_eq_true (M.cho_ext q0 q1 q2)]; rfl)
 have q0 : a.move = b.move := by simpa using h3
 refine Js.skip <| Js.seq <| zS <| Qf fh rfl <| Q0 1 rfl rfl rfl <| Qf fh rfl <| Q0 0 rfl rfl rfl <| Qd rfl rfl <| JL.nil ?_
 refine zi (fun h4 h4' => ?_) fun h4 h4' => ?_
 ·
  have hne : a ≠ b := by rintro rfl; simp at h4
  refine zS <| Qa rfl <| JL.nil ?_
  refine zR (Up.refl _ _) ?_
  first | (rw [decide_eq_false hne]; rfl) | (rw [decide_eq_true (M.cho_ext q0 q1 q2)]; rfl)
 have q1 : a.games = b.games := by simpa using h4
 refine Js.skip <| Js.seq <| zS <| Qf fh rfl <| Q0 1 rfl rfl rfl <| Qf fh rfl <| Q0 0 rfl rfl rfl <| Qd rfl rfl <| JL.nil ?_
 refine zi (fun h5 h5' => ?_) fun h5 h5' => ?_
 ·
  have hne : a ≠ b := by rintro rfl; simp at h5
  refine zS <| Qa rfl <| JL.nil ?_
  refine zR (Up.refl _ _) ?_
  first | (rw [decide_eq_false hne]; rfl) | (rw [decide_eq_true (M.cho_ext q0 q1 q2)]; rfl)
 have q2 : a.score = b.score := by simpa using h5
 refine Js.skip <| zS <| Qa rfl <| JL.nil ?_
 refine zR (Up.refl _ _) ?_
 first | (rw [decide_eq_false hne]; rfl) | (rw [decide_eq_true (M.cho_ext q0 q1 q2)]; rfl)

set_option maxHeartbeats 1000000 in
theorem c_laws_eqChoiceS (a : List M.Cho) {v_a : Value} (b : List M.Cho) {v_b : Value} {w : World} (h_a : (Ty.sl 81 3 a.length (lChoice a)).ok w v_a) (h_b : (Ty.sl 81 3 b.length (lChoice b)).ok w v_b) (r0 : a.length ≤ 4194304 := by exact om_) (r1 : b.length ≤ 4194304 := by exact om_) : RetV Tryz.prog 165 [v_a, v_b] w (.bool (decide (a = b))) := by
 revert v_a; apply opn
 intro A1 c1 h1 bl1 bh1
 have h_a := h1
 revert v_b; apply opn
 intro A2 c2 h2 bl2 bh2
 have h_b := h2
 refine enter @Tryz.func165 @Tryz.ntmps165 rfl rfl ?_
 refine zent ?_
 refine zS <| Qa rfl <| zJ <| zS <| Qm rfl <| Qz rfl <| Qm rfl <| Qz rfl <| Qd rfl rfl <| JL.nil ?_
 refine zi (fun h3 h3' => ?_) fun h3 h3' => ?_
 ·
  have e1 : decide (a = b) = false := by simp; rintro rfl; simp at h3
  refine zS <| Qa rfl <| JL.nil ?_
  refine zR (Up.refl _ _) ?_
  simp [outV, e1]
 have hlen : a.length = b.length := by have := h3'; omega
 refine Js.skip <| Js.seq <| zS <| Qa rfl <| JL.nil <| Js.block ?_
 refine zl [0, 1] (fun F U l os u m => ∃ (k : Nat), l = F [(5, .int .i64 (k : Int))] ∧ os = U [] ∧ (k ≤ a.length) ∧ (a.take k = b.take k) ∧ m = a.length - k) ⟨0, rfl, rfl, zt, by rfl, rfl⟩ ?_
 rintro _ _ u4 _ ⟨k, rfl, rfl, hk, hU, rfl⟩ x4
 refine zn ?_
 refine Js.seq <| zS <| Qm rfl <| Qm rfl <| Qz rfl <| Ql rfl rfl <| JL.nil ?_
 refine zi (fun h5 h5' => ?_) fun h5 h5' => ?_
 ·
  obtain ⟨ye6, hye6⟩ : ∃ x, a[k]? = some x := ⟨_, List.getElem?_eq_getElem (by omega)⟩
  obtain ⟨ye7, hye7⟩ : ∃ x, b[k]? = some x := ⟨_, List.getElem?_eq_getElem (by omega)⟩
  refine Js.skip <| Js.seq <| Js.block <| Js.seq ?_
  refine zdr [] ?_
  refine JH.p 0 rfl (p_move rfl) ?_
  refine JH.p 1 rfl (p_move rfl) ?_
  have hy8 := hye6
  obtain ⟨b8, o8, he8, hr8⟩ := elem_Choice (Ty.mono _ h1 x4.vis) hy8
  refine JH.p 2 rfl (p_indexAddr el_67 rfl rfl (by omega) (by omega) he8) ?_
  refine JH.w 3 rfl (fun os' u' hv => LS 0 (hr8.vis hv) rfl) ?_
  refine JH.p 4 rfl (p_move rfl) ?_
  refine JH.p 5 rfl (p_move rfl) ?_
  have hy9 := hye7
  obtain ⟨b9, o9, he9, hr9⟩ := elem_Choice (Ty.mono _ h2 x4.vis) hy9
  refine JH.p 6 rfl (p_indexAddr el_67 rfl rfl (by omega) (by omega) he9) ?_
  refine JH.w 7 rfl (fun os' u' hv => LS 0 (hr9.vis hv) rfl) ?_
  refine y1 8 ?_
  refine yv rfl rfl (fun w hw => c_laws_eqChoice ye6 ye7 (ok_ hw) (ok_ hw)) ?_
  refine JH.p 9 rfl (p_not rfl) ?_
  refine yd ?_
  refine zi (fun h10 h10' => ?_) fun h10 h10' => ?_
  ·
   have e1 : decide (a = b) = false := decide_eq_false (M.upto_ne hye6 hye7 (by simpa using h10))
   refine zS <| Qa rfl <| JL.nil ?_
   refine zR x4 ?_
   simp [outV, e1]
  have hab : ye6 = ye7 := by simpa using h10
  rw [← hab] at hye7
  have hU2 := M.upto_step hU hye6 hye7
  refine Js.skip <| Js.blockEnd <| Js.region <| Qm rfl <| Qp rfl rfl <| Qa rfl <| JL.nil ?_
  exact zag ⟨k + 1, rfl, rfl, zt, by exact hU2, rfl⟩ x4
 have e1 : a = b := M.upto_done hU (by have := h5'; omega) (by have := h5'; omega)
 refine zx ?_
 refine zS <| Qa rfl <| JL.nil ?_
 refine zR x4 ?_
 simp [outV, e1]

set_option maxHeartbeats 1000000 in
theorem c_laws_eqBookEntry (a : M.Ent) {v_a : Value} (b : M.Ent) {v_b : Value} {w : World} (h_a : (Ty.agg (cBookEntry a)).ok w v_a) (h_b : (Ty.agg (cBookEntry b)).ok w v_b) (r0 : a.pits.length ≤ 4194304 := by exact om_) (r1 : a.choices.length ≤ 4194304 := by exact om_) (r2 : b.pits.length ≤ 4194304 := by exact om_) (r3 : b.choices.length ≤ 4194304 := by exact om_) : RetV Tryz.prog 127 [v_a, v_b] w (.bool (decide (a = b))) := by
 revert v_a; apply opn
 intro A1 c1 h1 bl1 bh1 A2 c2 h2 bl2 bh2
 revert v_b; apply opn
 intro A3 c3 h3 bl3 bh3 A4 c4 h4 bl4 bh4
 refine enter @Tryz.func127 @Tryz.ntmps127 rfl rfl ?_
 refine zent ?_
 refine zS <| zb rfl fun b5 => zb rfl fun b6 => Qa rfl <| zJ <| zS <| Qf fh rfl <| Q0 1 rfl rfl rfl <| Qf fh rfl <| Q0 0 rfl rfl rfl <| zv rfl (fun w hw => c_laws_eqInt64S a.pits b.pits (ok_ hw) (ok_ hw)) <| Qt rfl <| JL.nil ?_
 refine zi (fun h7 h7' => ?_) fun h7 h7' => ?_
 ·
  have hne : a ≠ b := by rintro rfl; simp at h7
  refine zS <| Qa rfl <| JL.nil ?_
  refine zR (Up.refl _ _) ?_
  first | (rw [decide_eq_false hne]; rfl) | (rw [decide_eq_true (M.ent_ext q0 q1)]; rfl)
 have q0 : a.pits = b.pits := by simpa using h7
 refine Js.skip <| Js.seq <| zS <| Qf fh rfl <| Q0 1 rfl rfl rfl <| Qf fh rfl <| Q0 0 rfl rfl rfl <| zv rfl (fun w hw => c_laws_eqChoiceS a.choices b.choices (ok_ hw) (ok_ hw)) <| Qt rfl <| JL.nil ?_
 refine zi (fun h8 h8' => ?_) fun h8 h8' => ?_
 ·
  have hne : a ≠ b := by rintro rfl; simp at h8
  refine zS <| Qa rfl <| JL.nil ?_
  refine zR (Up.refl _ _) ?_
  first | (rw [decide_eq_false hne]; rfl) | (rw [decide_eq_true (M.ent_ext q0 q1)]; rfl)
 have q1 : a.choices = b.choices := by simpa using h8
 refine Js.skip <| zS <| Qa rfl <| JL.nil ?_
 refine zR (Up.refl _ _) ?_
 first | (rw [decide_eq_false hne]; rfl) | (rw [decide_eq_true (M.ent_ext q0 q1)]; rfl)

set_option maxHeartbeats 1000000 in
theorem c_laws_eqBookEntryS (a : List M.Ent) {v_a : Value} (b : List M.Ent) {v_b : Value} {w : World} (h_a : (Ty.sl 89 2 a.length (lBookEntry a)).ok w v_a) (h_b : (Ty.sl 89 2 b.length (lBookEntry b)).ok w v_b) (r0 : a.length ≤ 4194304 := by exact om_) (r1 : b.length ≤ 4194304 := by exact om_) (r2 : ∀ x ∈ a, x.pits.length ≤ 4194304 ∧ x.choices.length ≤ 4194304 := by exact om_) (r3 : ∀ x ∈ b, x.pits.length ≤ 4194304 ∧ x.choices.length ≤ 4194304 := by exact om_) : RetV Tryz.prog 69 [v_a, v_b] w (.bool (decide (a = b))) := by
 revert v_a; apply opn
 intro A1 c1 h1 bl1 bh1
 have h_a := h1
 revert v_b; apply opn
 intro A2 c2 h2 bl2 bh2
 have h_b := h2
 refine enter @Tryz.func69 @Tryz.ntmps69 rfl rfl ?_
 refine zent ?_
 refine zS <| Qa rfl <| zJ <| zS <| Qm rfl <| Qz rfl <| Qm rfl <| Qz rfl <| Qd rfl rfl <| JL.nil ?_
 refine zi (fun h3 h3' => ?_) fun h3 h3' => ?_
 ·
  have e1 : decide (a = b) = false := by simp; rintro rfl; simp at h3
  refine zS <| Qa rfl <| JL.nil ?_
  refine zR (Up.refl _ _) ?_
  simp [outV, e1]
 have hlen : a.length = b.length := by have := h3'; omega
 refine Js.skip <| Js.seq <| zS <| Qa rfl <| JL.nil <| Js.block ?_
 refine zl [0, 1] (fun F U l os u m => ∃ (k : Nat), l = F [(5, .int .i64 (k : Int))] ∧ os = U [] ∧ (k ≤ a.length) ∧ (a.take k = b.take k) ∧ m = a.length - k) ⟨0, rfl, rfl, zt, by rfl, rfl⟩ ?_
 rintro _ _ u4 _ ⟨k, rfl, rfl, hk, hU, rfl⟩ x4
 refine zn ?_
 refine Js.seq <| zS <| Qm rfl <| Qm rfl <| Qz rfl <| Ql rfl rfl <| JL.nil ?_
 refine zi (fun h5 h5' => ?_) fun h5 h5' => ?_
 ·
  obtain ⟨ye6, hye6⟩ : ∃ x, a[k]? = some x := ⟨_, List.getElem?_eq_getElem (by omega)⟩
  obtain ⟨ye7, hye7⟩ : ∃ x, b[k]? = some x := ⟨_, List.getElem?_eq_getElem (by omega)⟩
  refine Js.skip <| Js.seq <| Js.block <| Js.seq ?_
  refine zdr [] ?_
  refine JH.p 0 rfl (p_move rfl) ?_
  refine JH.p 1 rfl (p_move rfl) ?_
  have hy8 := hye6
  obtain ⟨b8, o8, A8_0, c8_0, A8_1, c8_1, he8, hr8, h8_0, h8_1, bl8_0, bh8_0, bl8_1, bh8_1⟩ := elem_BookEntry (Ty.mono _ h1 x4.vis) hy8
  refine JH.p 2 rfl (p_indexAddr el_35 rfl rfl (by omega) (by omega) he8) ?_
  refine JH.w 3 rfl (fun os' u' hv => LS 0 (hr8.vis hv) rfl) ?_
  refine JH.p 4 rfl (p_move rfl) ?_
  refine JH.p 5 rfl (p_move rfl) ?_
  have hy9 := hye7
  obtain ⟨b9, o9, A9_0, c9_0, A9_1, c9_1, he9, hr9, h9_0, h9_1, bl9_0, bh9_0, bl9_1, bh9_1⟩ := elem_BookEntry (Ty.mono _ h2 x4.vis) hy9
  refine JH.p 6 rfl (p_indexAddr el_35 rfl rfl (by omega) (by omega) he9) ?_
  refine JH.w 7 rfl (fun os' u' hv => LS 0 (hr9.vis hv) rfl) ?_
  refine y1 8 ?_
  refine yv rfl rfl (fun w hw => c_laws_eqBookEntry ye6 ye7 (ok_ hw) (ok_ hw) (r0 := (by have := r2 _ (List.mem_of_getElem? hye6); omega)) (r1 := (by have := r2 _ (List.mem_of_getElem? hye6); omega)) (r2 := (by have := r3 _ (List.mem_of_getElem? hye7); omega)) (r3 := (by have := r3 _ (List.mem_of_getElem? hye7); omega))) ?_
  refine JH.p 9 rfl (p_not rfl) ?_
  refine yd ?_
  refine zi (fun h10 h10' => ?_) fun h10 h10' => ?_
  ·
   have e1 : decide (a = b) = false := decide_eq_false (M.upto_ne hye6 hye7 (by simpa using h10))
   refine zS <| Qa rfl <| JL.nil ?_
   refine zR x4 ?_
   simp [outV, e1]
  have hab : ye6 = ye7 := by simpa using h10
  rw [← hab] at hye7
  have hU2 := M.upto_step hU hye6 hye7
  refine Js.skip <| Js.blockEnd <| Js.region <| Qm rfl <| Qp rfl rfl <| Qa rfl <| JL.nil ?_
  exact zag ⟨k + 1, rfl, rfl, zt, by exact hU2, rfl⟩ x4
 have e1 : a = b := M.upto_done hU (by have := h5'; omega) (by have := h5'; omega)
 refine zx ?_
 refine zS <| Qa rfl <| JL.nil ?_
 refine zR x4 ?_
 simp [outV, e1]

set_option maxHeartbeats 1000000 in
theorem c_laws_eqBook (a : M.Boo) {v_a : Value} (b : M.Boo) {v_b : Value} {w : World} (h_a : (Ty.agg (cBook a)).ok w v_a) (h_b : (Ty.agg (cBook b)).ok w v_b) (r0 : a.entries.length ≤ 4194304 := by exact om_) (r1 : ∀ x ∈ a.entries, x.pits.length ≤ 4194304 ∧ x.choices.length ≤ 4194304 := by exact om_) (r2 : b.entries.length ≤ 4194304 := by exact om_) (r3 : ∀ x ∈ b.entries, x.pits.length ≤ 4194304 ∧ x.choices.length ≤ 4194304 := by exact om_) : RetV Tryz.prog 15 [v_a, v_b] w (.bool (decide (a = b))) := by
 revert v_a; apply opn
 intro A1 c1 h1 bl1 bh1
 revert v_b; apply opn
 intro A2 c2 h2 bl2 bh2
 refine enter @Tryz.func15 @Tryz.ntmps15 rfl rfl ?_
 refine zent ?_
 refine zS <| zb rfl fun b3 => zb rfl fun b4 => Qa rfl <| zJ <| zS <| Qf fh rfl <| Q9 1 rfl rfl ?_
 refine Qf fh rfl <| Q9 0 rfl rfl ?_
 refine zv rfl (fun w hw => c_laws_eqRules a.rules b.rules (ok_ hw) (ok_ hw)) <| Qt rfl <| JL.nil ?_
 refine zi (fun h5 h5' => ?_) fun h5 h5' => ?_
 ·
  have hne : a ≠ b := by rintro rfl; simp at h5
  refine zS <| Qa rfl <| JL.nil ?_
  refine zR (Up.refl _ _) ?_
  first | (rw [decide_eq_false hne]; rfl) | (rw [decide_eq_true (M.boo_ext q0 q1)]; rfl)
 have q0 : a.rules = b.rules := by simpa using h5
 refine Js.skip <| Js.seq <| zS <| Qf fh rfl <| Q0 1 rfl rfl rfl <| Qf fh rfl <| Q0 0 rfl rfl rfl <| zv rfl (fun w hw => c_laws_eqBookEntryS a.entries b.entries (ok_ hw) (ok_ hw) (r2 := r1) (r3 := r3)) <| Qt rfl <| JL.nil ?_
 refine zi (fun h6 h6' => ?_) fun h6 h6' => ?_
 ·
  have hne : a ≠ b := by rintro rfl; simp at h6
  refine zS <| Qa rfl <| JL.nil ?_
  refine zR (Up.refl _ _) ?_
  first | (rw [decide_eq_false hne]; rfl) | (rw [decide_eq_true (M.boo_ext q0 q1)]; rfl)
 have q1 : a.entries = b.entries := by simpa using h6
 refine Js.skip <| zS <| Qa rfl <| JL.nil ?_
 refine zR (Up.refl _ _) ?_
 first | (rw [decide_eq_false hne]; rfl) | (rw [decide_eq_true (M.boo_ext q0 q1)]; rfl)

end Go.Proofs.YtcmfnlleikcpnaaGreat


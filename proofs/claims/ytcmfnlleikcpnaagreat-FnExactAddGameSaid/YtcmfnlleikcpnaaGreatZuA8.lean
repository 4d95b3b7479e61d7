/- Walks: K34. -/
import Derived.Test.YtcmfnlleikcpnaaGreatZuA3
import Derived.Test.YtcmfnlleikcpnaaGreatZuA7
import Derived.Test.YtcmfnlleikcpnaaGreatZuA4
set_option linter.unusedSimpArgs false
set_option linter.unusedVariables false
set_option maxRecDepth 100000
attribute [local irreducible] Go.Proofs.YtcmfnlleikcpnaaGreat.gv
namespace Go.Proofs.YtcmfnlleikcpnaaGreat
open Go.RowKit

set_option maxHeartbeats 1000000 in
theorem c_spec_l20Own (e : M.Ent) {v_e : Value} {w : World} (h_e : (Ty.ref (cBookEntry e)).ok w v_e) (r0 : e.pits.length ≤ 4194304 := by exact om_) (r1 : e.choices.length ≤ 4194304 := by exact om_) : Ret Tryz.prog 129 [v_e] w (Ty.agg (cBookEntry e)) := by
 revert v_e; apply opn
 intro b3 o3 A1 c1 h1 bl1 bh1 A2 c2 h2 bl2 bh2 hr3
 refine enter @Tryz.func129 @Tryz.ntmps129 rfl rfl ?_
 refine zent ?_
 refine zS <| za zeh fun b4 => zJ ?_
 refine zk [2] (fun F U l os u => ∃ (A10 : Option Addr) (c10 : Nat) (g9 : List Nat) (A5 : Option Addr) (c5 : Nat), l = F [] ∧ os = [rowO 81 3 (.slice A10 e.choices.length c10) e.choices.length (fltV vcChoice e.choices) g9, rowO 2 1 (.slice A5 e.pits.length c5) e.pits.length (ints_ e.pits) []] ++ U [some (boxO b4 [.slice A5 e.pits.length c5, .slice A10 e.choices.length c10] 89)] ∧ (e.choices.length ≤ c10) ∧ (c10 ≤ 9223372036854775807) ∧ (e.pits.length ≤ c5) ∧ (c5 ≤ 9223372036854775807)) ?_ ?_
 ·
  refine zdr [10, 12] ?_
  refine JH.p 0 rfl (p_move rfl) ?_
  refine JH.p 1 rfl (p_nilCheck rfl) ?_
  refine JH.p 2 rfl (p_fieldAddr fld_89_0.h rfl) ?_
  refine JH.w 3 rfl (fun os' u' hv => q_load1 ty_27.h rfl (Mem.pub ((hr3.vis hv) 0 _ rfl))) ?_
  refine JH.p 6 rfl (p_move rfl) ?_
  refine JH.p 7 rfl (p_nilCheck rfl) ?_
  refine JH.p 8 rfl (p_fieldAddr fld_89_1.h rfl) ?_
  refine JH.w 9 rfl (fun os' u' hv => q_load1 ty_67.h rfl (Mem.pub ((hr3.vis hv) 1 _ rfl))) ?_
  refine y2 4 5 ?_ ?_
  ·
   refine ycs rfl rfl (fun w hw => c_spec_l00Own e.pits (ok_ hw)) ?_
   intro A18 c18 bl18 bh18
   refine y1 5 ?_
   refine ybs rfl fun b19 => ?_
   refine y1 10 ?_
   refine JHo.e rfl (e_append (i := 0) (n' := e.choices.length) (vs' := fltV vcChoice e.choices) el_67 rfl rfl rfl rfl (src_flat lChoice und_67 rfl h2) (by omega) (by omega) (by first | omega | (simp only [List.length_append, List.length_cons, List.length_nil, List.length_take, List.length_drop] <;> omega)) (by first | rfl | exact fltV_app _ _ _ | exact fltV_snoc _ _ _ | (simp [fltV]; done))) (.inr rfl) ?_
   rintro v21 _ _ ⟨⟨g22, rfl⟩, rfl⟩ _
   refine JH.fact (row_form' (i := 0) rfl) (fun hf23 => ?_)
   obtain ⟨A23, c23, rfl, bl23, bh23⟩ := hf23
   refine znh ?_
   refine JH.p 11 rfl (q_bld) ?_
   refine y1 12 ?_
   refine yst rfl rfl rfl ?_
   refine yd ?_
   exact zm ⟨_, _, _, _, _, rfl, rfl, zt, zt, zt, zt⟩ (Up.refl _ _)
  refine ybs rfl fun b24 => ?_
  refine y1 4 ?_
  refine ycs rfl rfl (fun w hw => c_spec_l00Own e.pits (ok_ hw)) ?_
  intro A26 c26 bl26 bh26
  refine y1 10 ?_
  refine JHo.e rfl (e_append (i := 1) (n' := e.choices.length) (vs' := fltV vcChoice e.choices) el_67 rfl rfl rfl rfl (src_flat lChoice und_67 rfl h2) (by omega) (by omega) (by first | omega | (simp only [List.length_append, List.length_cons, List.length_nil, List.length_take, List.length_drop] <;> omega)) (by first | rfl | exact fltV_app _ _ _ | exact fltV_snoc _ _ _ | (simp [fltV]; done))) (.inr rfl) ?_
  rintro v27 _ _ ⟨⟨g28, rfl⟩, rfl⟩ _
  refine JH.fact (row_form' (i := 1) rfl) (fun hf29 => ?_)
  obtain ⟨A29, c29, rfl, bl29, bh29⟩ := hf29
  refine znh ?_
  refine JH.p 11 rfl (q_bld) ?_
  refine y1 12 ?_
  refine yst rfl rfl rfl ?_
  refine yd ?_
  refine zh [1, 0, 0] ?_
  exact zm ⟨_, _, _, _, _, rfl, rfl, zt, zt, zt, zt⟩ (Up.refl _ _)
 rintro _ _ u17 ⟨A10, c10, g9, A5, c5, rfl, rfl, f17_0, f17_1, f17_2, f17_3⟩ x17
 refine zn ?_
 exact zro x17 (g := by exact (gv_agg (gvc gv_ (gvc (gv_flat lChoice (xs := e.choices) po_ (by first | rfl | (simp [fltV]; done)) (by first | with_reducible rfl | assumption | rfl)) gvn))))

set_option maxHeartbeats 1000000 in
theorem c_spec_l20Copy (b : M.Boo) {v_b : Value} {w : World} (h_b : (Ty.ref (cBook b)).ok w v_b) (r0 : b.entries.length ≤ 4194304 := by exact om_) (r1 : ∀ x ∈ b.entries, x.pits.length ≤ 4194304 ∧ x.choices.length ≤ 4194304 := by exact om_) : Ret Tryz.prog 72 [v_b] w (Ty.agg (cBook b)) := by
 revert v_b; apply opn
 intro b2 o2 A1 c1 h1 bl1 bh1 hr2
 refine enter @Tryz.func72 @Tryz.ntmps72 rfl rfl ?_
 refine zent ?_
 refine zS <| za zeh fun b3 => zN <| Qm rfl <| Qc rfl <| Qf fh rfl <| QS 0 hr2 rfl ?_
 refine Qb ?_
 refine za zeh fun b4 => zw 0 rfl rfl rfl ?_
 refine zJ <| zS <| Qa rfl <| JL.nil <| Js.block ?_
 refine Js.conv (fun w hw => St.nilRowS 89 2 hw) ?_
 refine Js.vals (Ts := lBookEntry []) (vs := []) (fun w => rfl) ?_
 refine zl [0, 2, 3] (fun F U l os u m => ∃ (k : Nat) (acc : List M.Ent) (A5_3_9 : Option Addr) (c5_3_9 : Nat) (g5_3_9 : List Nat) (vs5_3_9 : List Value) (fl5_3_9 : List Nat), l = F [(4, .int .i64 (k : Int))] ∧ os = U [some (ownC (lBookEntry acc) vs5_3_9 fl5_3_9), some (rowO 89 2 (.slice A5_3_9 acc.length c5_3_9) acc.length vs5_3_9 g5_3_9), some (boxO b4 [.int .i64 b.rules.pits, .int .i64 b.rules.seeds, .bool b.rules.stores, .bool b.rules.skip, .bool b.rules.relay, .bool b.rules.feed, .bool b.rules.again, .int .i64 b.rules.capture, .int .i64 b.rules.slam, .slice A5_3_9 acc.length c5_3_9] 37)] ∧ (acc = b.entries.take k) ∧ (k ≤ b.entries.length) ∧ (acc.length ≤ c5_3_9) ∧ (c5_3_9 ≤ 9223372036854775807) ∧ m = b.entries.length - k) ⟨0, [], _, _, _, _, _, rfl, rfl, by rfl, zt, zu, zu, rfl⟩ ?_
 rintro _ _ u5 _ ⟨k, acc, A5_3_9, c5_3_9, g5_3_9, vs5_3_9, fl5_3_9, rfl, rfl, hA, hk, f5_2, f5_3, rfl⟩ x5
 refine zn ?_
 have hla : acc.length = k := by rw [hA, List.length_take]; omega
 refine Js.seq <| zS <| Qm rfl <| Qm rfl <| Qc rfl <| Qf fh rfl <| QC ((hr2.vis x5.vis) 9 _ rfl) rfl <| Qz rfl <| Ql rfl rfl <| JL.nil ?_
 refine zi (fun h6 h6' => ?_) fun h6 h6' => ?_
 ·
  have hkk : k < b.entries.length := by have := h6'; omega
  obtain ⟨e1_, e2_⟩ := r1 _ (M.ent_mem (es := b.entries) (k := k) hkk)
  have hA2 := M.takeE hkk
  rw [← hA] at hA2
  have hA2 := hA2.symm
  refine Js.skip <| Js.seq <| Js.block ?_
  refine zdr [10, 12] ?_
  refine JH.p 0 rfl (p_fieldAddr fld_37_1.h rfl) ?_
  refine JH.q 1 rfl (q_load1 ty_35.h rfl (Mem.box (i := 2) rfl rfl)) ?_
  refine JH.p 2 rfl (p_move rfl) ?_
  refine JH.p 3 rfl (p_nilCheck rfl) ?_
  refine JH.p 4 rfl (p_fieldAddr fld_37_1.h rfl) ?_
  refine JH.w 5 rfl (fun os' u' hv => q_load1 ty_35.h rfl (Mem.pub ((hr2.vis (x5.vis.trans hv)) 9 _ rfl))) ?_
  refine JH.p 6 rfl (p_move rfl) ?_
  have hy7 : b.entries[k]? = some (M.ent b.entries k) := M.ent_get (by omega)
  obtain ⟨b7, o7, A7_0, c7_0, A7_1, c7_1, he7, hr7, h7_0, h7_1, bl7_0, bh7_0, bl7_1, bh7_1⟩ := elem_BookEntry (Ty.mono _ h1 x5.vis) hy7
  refine JH.p 7 rfl (p_indexAddr el_35 rfl rfl (by omega) (by omega) he7) ?_
  refine y1 8 ?_
  refine yc rfl rfl (fun w hw => c_spec_l20Own (M.ent b.entries k) (ok_ hw)) ?_
  intro A9 c9 bl9 bh9 A10 c10 bl10 bh10
  refine y1 9 ?_
  refine ybs rfl fun b11 => ?_
  refine y1 10 ?_
  refine JHo.e rfl (e_append (i := 4) (n' := (acc ++ [(M.ent b.entries k)]).length) (vs' := vs5_3_9 ++ [.slice A9 (((M.ent b.entries k).pits).length) c9, .slice A10 (((M.ent b.entries k).choices).length) c10]) el_35 rfl rfl rfl rfl (src_row (i := 0) und_35 rfl rfl) (by omega) (by omega) (by first | omega | (simp only [List.length_append, List.length_cons, List.length_nil, List.length_take, List.length_drop] <;> omega)) (rfl)) (.inr rfl) ?_
  rintro v13 _ _ ⟨⟨g14, rfl⟩, rfl⟩ _
  refine JH.fact (row_form' (i := 4) rfl) (fun hf15 => ?_)
  obtain ⟨A15, c15, rfl, bl15, bh15⟩ := hf15
  refine znh ?_
  refine JH.p 11 rfl (p_fieldAddr fld_37_1.h rfl) ?_
  refine y1 12 ?_
  refine yst rfl rfl rfl ?_
  refine yd ?_
  refine Js.pk (cBookEntry (M.ent b.entries k)) [.slice A9 (((M.ent b.entries k).pits).length) c9, .slice A10 (((M.ent b.entries k).choices).length) c10] (fun f17 G17 => ?_) (by exact (gv_agg (gvc gv_ (gvc (gv_flat lChoice (xs := ((M.ent b.entries k).choices)) po_ (by first | rfl | (simp [fltV]; done)) (by first | with_reducible rfl | assumption | rfl)) gvn))))
  refine zn ?_
  refine Js.joinL (i := 3) (j := 0) (Vs := lBookEntry (acc ++ [(M.ent b.entries k)])) rfl rfl (lBookEntry_snoc _ _) (fun f18 => ?_)
  refine zn ?_
  refine Js.blockEnd <| Js.region <| Qm rfl <| Qp rfl rfl <| Qa rfl <| JL.nil ?_
  refine zd [0, 2, 2, 2] rfl fun u19 x19 => ?_
  exact zag ⟨k + 1, acc ++ [(M.ent b.entries k)], _, _, _, _, _, rfl, rfl, by exact hA2, zt, zu, zu, rfl⟩ (x5.trans x19)
 have hE : acc = b.entries := by rw [hA, List.take_of_length_le (by have := h6'; omega)]
 refine zx ?_
 have hq0 : acc = b.entries := by first | rfl | (rw [hE]; done) | (rw [hE]; rfl)
 refine zS <| Q9 2 rfl rfl ?_
 refine zw 3 rfl rfl rfl ?_
 refine JL.nil ?_
 exact zro x5

set_option maxHeartbeats 4000000 in
theorem c_spec_l20Count (e : List M.Ent) (e_k : Nat) {be_0 ce_0 : Nat} {ge_0 : List Nat} {vse_0 : List Value} {fe_0 : List Nat} (c : M.Cho) {v_c : Value} {w : World} (hb : Bw w [rowO 89 2 (.slice (some ⟨be_0, 0, none⟩) e.length ce_0) e.length vse_0 ge_0, ownC (lBookEntry e) vse_0 fe_0]) (h_c : (Ty.agg (cChoice c)).ok (offW w (([rowO 89 2 (.slice (some ⟨be_0, 0, none⟩) e.length ce_0) e.length vse_0 ge_0, ownC (lBookEntry e) vse_0 fe_0] : List Own).flatMap (·.fp))) v_c) (bd0 : e.length ≤ ce_0 := by exact om_) (bd1 : ce_0 ≤ 9223372036854775807 := by exact om_) (bd2 : e_k < e.length := by exact om_) (r0 : (M.ent e e_k).choices.length ≤ 4194304 := by exact om_) (r1 : ∀ y ∈ (M.ent e e_k).choices, 0 ≤ y.games ∧ y.games ≤ 1000000000000000 ∧ 0 ≤ y.score ∧ y.score ≤ 1000000000000000 := by exact om_) (r2 : 0 ≤ c.games := by exact om_) (r3 : c.games ≤ 2000000 := by exact om_) (r4 : 0 ≤ c.score := by exact om_) (r5 : c.score ≤ 2000000 := by exact om_) : RetB Tryz.prog 131 [.pointer (some ⟨be_0, 0 + e_k * 2, none⟩), v_c] w [rowO 89 2 (.slice (some ⟨be_0, 0, none⟩) e.length ce_0) e.length vse_0 ge_0, ownC (lBookEntry e) vse_0 fe_0] (fun v bs' => ∃ (vsxe : List Value) (fxe : List Nat), v = .tuple #[] ∧ bs' = [rowO 89 2 (.slice (some ⟨be_0, 0, none⟩) e.length ce_0) e.length vsxe ge_0, ownC (lBookEntry (e.set e_k (M.Ent.mk (M.ent e e_k).pits (M.addC (M.ent e e_k).choices c)))) vsxe fxe]) := by
 revert v_c; apply opn
 refine enterB hb @Tryz.func131 @Tryz.ntmps131 rfl rfl ?_
 refine zent ?_
 refine Js.trashE ?_
 refine zn ?_
 have hy1 : e[e_k]? = some (M.ent e e_k) := M.ent_get (by first | omega | (simp only [List.length_set, List.length_append, List.length_cons, List.length_nil, List.length_take, List.length_drop, List.length_replicate]; omega))
 refine Js.fact (fun w hw => elemv_BookEntry (Mem.ownC (i := 1) rfl w hw) hy1) (fun hf1 => ?_)
 obtain ⟨A1_0, c1_0, A1_1, c1_1, he1, bl1_0, bh1_0, bl1_1, bh1_1⟩ := hf1
 refine Js.fact (fun w hw => elem_in cBookEntry (m := 2) (k := e_k) (xs := e) (fun _ => rfl) (Mem.ownC (i := 1) rfl w hw) (by omega)) (fun hl2 => ?_)
 refine Js.ex3 (fun w hw => St.elemS cBookEntry (m := 2) (i := 1) (xs := e) (fun _ => rfl) rfl hy1 he1 hw) (fun f2_1 f2_2 f2_3 => ?_)
 refine Js.unp 0 ?_
 refine zn ?_
 refine zS <| zb rfl fun b3 => zN <| Qa rfl <| zJ <| Js.block ?_
 refine zl [0, 3] (fun F U l os u m => ∃ (j : Nat) (G4_6 : List Nat), l = F [(4, .int .i64 (j : Int))] ∧ os = U [nO, nO, nO, nO, nO, nO, some (anyO G4_6)] ∧ (j + M.findC ((M.ent e e_k).choices.drop j) c.move = M.findC (M.ent e e_k).choices c.move) ∧ (j ≤ (M.ent e e_k).choices.length) ∧ m = (M.ent e e_k).choices.length - j) ⟨0, _, rfl, rfl, by simp, zt, rfl⟩ ?_
 rintro _ _ u4 _ ⟨j, G4_6, rfl, rfl, hM, hj, rfl⟩ x4
 refine zn ?_
 refine Js.seq <| Js.seq ?_
 refine zk [0, 3, 4] (fun F U l os u => ∃ (e25_ : Bool) (G5_6 : List Nat), l = F [(25, .bool e25_)] ∧ os = U [nO, nO, nO, nO, nO, nO, some (anyO G5_6)] ∧ (e25_ = (decide ((j : Int) < ((M.ent e e_k).choices.length : Int)) && decide ((M.cho (M.ent e e_k).choices j).move < c.move)))) ?_ ?_
 ·
  rcases Bool.eq_false_or_eq_true (decide ((j : Int) < ((((M.ent e e_k).choices).length) : Int))) with h6 | h6
  ·
   have h6' := h6; simp only [decide_eq_true_eq, Int.not_lt, Int.not_le] at h6'
   refine zdr [] ?_
   refine JH.p 0 rfl (p_move rfl) ?_
   refine JH.p 1 rfl (p_move rfl) ?_
   refine JH.p 2 rfl (p_nilCheck rfl) ?_
   refine JH.p 3 rfl (p_fieldAddr fld_89_1.h rfl) ?_
   refine JH.q 4 rfl (q_load1 ty_67.h rfl (fun w hw => (Mem.rowR' (i := 5) rfl he1 w hw) 1 _ rfl)) ?_
   refine JH.p 5 rfl (p_len el_67 rfl) ?_
   refine JH.p 6 rfl (p_lss rfl rfl) ?_
   refine JH.p 7 rfl (p_move rfl) ?_
   refine JH.pgT 8 rfl (Gd.t1 rfl rfl rfl) (show (decide ((j : Int) < ((((M.ent e e_k).choices).length) : Int))) = true by first | exact h6 | (rw [h6]; rfl) | simp [h6]) (p_move rfl) ?_
   refine JH.pgT 9 rfl (Gd.t1 rfl rfl rfl) (show (decide ((j : Int) < ((((M.ent e e_k).choices).length) : Int))) = true by first | exact h6 | (rw [h6]; rfl) | simp [h6]) (p_nilCheck rfl) ?_
   refine JH.pgT 10 rfl (Gd.t1 rfl rfl rfl) (show (decide ((j : Int) < ((((M.ent e e_k).choices).length) : Int))) = true by first | exact h6 | (rw [h6]; rfl) | simp [h6]) (p_fieldAddr fld_89_1.h rfl) ?_
   refine JH.qgT 11 rfl (Gd.t1 rfl rfl rfl) (show (decide ((j : Int) < ((((M.ent e e_k).choices).length) : Int))) = true by first | exact h6 | (rw [h6]; rfl) | simp [h6]) (q_load1 ty_67.h rfl (fun w hw => (Mem.rowR' (i := 5) rfl he1 w hw) 1 _ rfl)) ?_
   refine JH.pgT 12 rfl (Gd.t1 rfl rfl rfl) (show (decide ((j : Int) < ((((M.ent e e_k).choices).length) : Int))) = true by first | exact h6 | (rw [h6]; rfl) | simp [h6]) (p_move rfl) ?_
   refine JH.fact (row_some (i := 1) rfl (by first | omega | (simp only [List.length_set, List.length_append, List.length_cons, List.length_nil, List.length_take, List.length_drop, List.length_replicate]; omega))) (fun hf8 => ?_)
   obtain ⟨b8, rfl⟩ := hf8
   have hy7 : ((M.ent e e_k).choices)[j]? = some (M.cho ((M.ent e e_k).choices) j) := M.cho_get (by first | omega | (simp only [List.length_set, List.length_append, List.length_cons, List.length_nil, List.length_take, List.length_drop, List.length_replicate]; omega))
   refine JH.pgT 13 rfl (Gd.t1 rfl rfl rfl) (show (decide ((j : Int) < ((((M.ent e e_k).choices).length) : Int))) = true by first | exact h6 | (rw [h6]; rfl) | simp [h6]) (p_indexAddr el_67 rfl rfl (by first | omega | (simp only [List.length_set, List.length_append, List.length_cons, List.length_nil, List.length_take, List.length_drop, List.length_replicate]; omega)) (by first | omega | (simp only [List.length_set, List.length_append, List.length_cons, List.length_nil, List.length_take, List.length_drop, List.length_replicate]; omega)) rfl) ?_
   refine JH.pgT 14 rfl (Gd.t1 rfl rfl rfl) (show (decide ((j : Int) < ((((M.ent e e_k).choices).length) : Int))) = true by first | exact h6 | (rw [h6]; rfl) | simp [h6]) (p_fieldAddr fld_81_0.h rfl) ?_
   refine JH.qgT 15 rfl (Gd.t1 rfl rfl rfl) (show (decide ((j : Int) < ((((M.ent e e_k).choices).length) : Int))) = true by first | exact h6 | (rw [h6]; rfl) | simp [h6]) (q_load1 ty_2.h rfl (fun w hw => (Mem.rowR' (i := 1) rfl (fltV_at (C := vcChoice) (fun _ => rfl) hy7) w hw) 0 _ rfl)) ?_
   refine JH.pgT 16 rfl (Gd.t1 rfl rfl rfl) (show (decide ((j : Int) < ((((M.ent e e_k).choices).length) : Int))) = true by first | exact h6 | (rw [h6]; rfl) | simp [h6]) (p_fieldAddr fld_81_0.h rfl) ?_
   refine JH.qgT 17 rfl (Gd.t1 rfl rfl rfl) (show (decide ((j : Int) < ((((M.ent e e_k).choices).length) : Int))) = true by first | exact h6 | (rw [h6]; rfl) | simp [h6]) (q_load1 ty_2.h rfl (Mem.box (i := 0) rfl rfl)) ?_
   refine JH.pgT 18 rfl (Gd.t1 rfl rfl rfl) (show (decide ((j : Int) < ((((M.ent e e_k).choices).length) : Int))) = true by first | exact h6 | (rw [h6]; rfl) | simp [h6]) (p_lss rfl rfl) ?_
   refine JH.p 19 rfl (p_pickAnd2 rfl rfl rfl) ?_
   refine yd ?_
   exact zm ⟨((decide ((j : Int) < ((((M.ent e e_k).choices).length) : Int))) && (decide ((M.cho ((M.ent e e_k).choices) j).move < c.move))), _, rfl, rfl, by first | rfl | (rw [‹decide ((j : Int) < ((M.ent e e_k).choices.length : Int)) = false›]; rfl) | (rw [‹decide ((j : Int) < ((M.ent e e_k).choices.length : Int)) = true›]; simp)⟩ (Up.refl _ _)
  have h6' := h6; simp only [decide_eq_false_iff_not, Int.not_lt, Int.not_le] at h6'
  refine zdr [] ?_
  refine JH.p 0 rfl (p_move rfl) ?_
  refine JH.p 1 rfl (p_move rfl) ?_
  refine JH.p 2 rfl (p_nilCheck rfl) ?_
  refine JH.p 3 rfl (p_fieldAddr fld_89_1.h rfl) ?_
  refine JH.q 4 rfl (q_load1 ty_67.h rfl (fun w hw => (Mem.rowR' (i := 5) rfl he1 w hw) 1 _ rfl)) ?_
  refine JH.p 5 rfl (p_len el_67 rfl) ?_
  refine JH.p 6 rfl (p_lss rfl rfl) ?_
  refine JH.p 7 rfl (p_move rfl) ?_
  refine JH.pg (v := undef) 8 rfl (Gd.t1 rfl rfl rfl) (fun hc => absurd hc (by first | (rw [h6]; simp; done) | simp [h6])) ?_
  refine JH.pg (v := undef) 9 rfl (Gd.t1 rfl rfl rfl) (fun hc => absurd hc (by first | (rw [h6]; simp; done) | simp [h6])) ?_
  refine JH.pg (v := undef) 10 rfl (Gd.t1 rfl rfl rfl) (fun hc => absurd hc (by first | (rw [h6]; simp; done) | simp [h6])) ?_
  refine JH.pg (v := undef) 11 rfl (Gd.t1 rfl rfl rfl) (fun hc => absurd hc (by first | (rw [h6]; simp; done) | simp [h6])) ?_
  refine JH.pg (v := undef) 12 rfl (Gd.t1 rfl rfl rfl) (fun hc => absurd hc (by first | (rw [h6]; simp; done) | simp [h6])) ?_
  refine JH.pg (v := undef) 13 rfl (Gd.t1 rfl rfl rfl) (fun hc => absurd hc (by first | (rw [h6]; simp; done) | simp [h6])) ?_
  refine JH.pg (v := undef) 14 rfl (Gd.t1 rfl rfl rfl) (fun hc => absurd hc (by first | (rw [h6]; simp; done) | simp [h6])) ?_
  refine JH.pg (v := undef) 15 rfl (Gd.t1 rfl rfl rfl) (fun hc => absurd hc (by first | (rw [h6]; simp; done) | simp [h6])) ?_
  refine JH.pg (v := undef) 16 rfl (Gd.t1 rfl rfl rfl) (fun hc => absurd hc (by first | (rw [h6]; simp; done) | simp [h6])) ?_
  refine JH.pg (v := undef) 17 rfl (Gd.t1 rfl rfl rfl) (fun hc => absurd hc (by first | (rw [h6]; simp; done) | simp [h6])) ?_
  refine JH.pg (v := .bool false) 18 rfl (Gd.t1 rfl rfl rfl) (fun hc => absurd hc (by first | (rw [h6]; simp; done) | simp [h6])) ?_
  refine JH.p 19 rfl (p_pickAnd rfl rfl rfl) ?_
  refine yd ?_
  exact zm ⟨((decide ((j : Int) < ((((M.ent e e_k).choices).length) : Int))) && false), _, rfl, rfl, by first | rfl | (rw [‹decide ((j : Int) < ((M.ent e e_k).choices.length : Int)) = false›]; rfl) | (rw [‹decide ((j : Int) < ((M.ent e e_k).choices.length : Int)) = true›]; simp)⟩ (Up.refl _ _)
 rintro _ _ u5 ⟨e25_, G5_6, rfl, rfl, hB25⟩ x5
 refine zn ?_
 refine zi (fun h9 h9' => ?_) fun h9 h9' => ?_
 ·
  have q25 := hB25.symm.trans h9; simp only [Bool.and_eq_true, Bool.or_eq_true, decide_eq_true_eq, Bool.and_eq_false_iff, Bool.or_eq_false_iff, decide_eq_false_iff_not, Int.not_lt, Decidable.not_not] at q25
  have hM2 := M.findC_step hM (by omega) (by omega)
  refine Js.skip <| Js.block <| Js.region <| Qm rfl <| Qp rfl rfl <| Qa rfl <| JL.nil <| Js.blockEnd ?_
  exact zag ⟨j + 1, _, rfl, rfl, by exact hM2, zt, rfl⟩ (x4.trans x5)
 have q25 := hB25.symm.trans h9; simp only [Bool.and_eq_true, Bool.or_eq_true, decide_eq_true_eq, Bool.and_eq_false_iff, Bool.or_eq_false_iff, decide_eq_false_iff_not, Int.not_lt, Decidable.not_not] at q25
 have hN : M.findC (M.ent e e_k).choices c.move = j := q25.elim (fun q => M.findC_end hM (by omega)) (fun q => if q8 : j < (M.ent e e_k).choices.length then M.findC_hit hM q8 (by omega) else M.findC_end hM (by omega))
 refine zx ?_
 refine Js.seq <| Js.seq ?_
 refine zk [0, 3, 4] (fun F U l os u => ∃ (e47_ : Bool) (G10_6 : List Nat), l = F [(47, .bool e47_)] ∧ os = U [nO, nO, nO, nO, nO, nO, some (anyO G10_6)] ∧ (e47_ = (decide ((j : Int) < ((M.ent e e_k).choices.length : Int)) && decide ((M.cho (M.ent e e_k).choices j).move = c.move)))) ?_ ?_
 ·
  rcases Bool.eq_false_or_eq_true (decide ((j : Int) < ((((M.ent e e_k).choices).length) : Int))) with h11 | h11
  ·
   have h11' := h11; simp only [decide_eq_true_eq, Int.not_lt, Int.not_le] at h11'
   refine zdr [] ?_
   refine JH.p 0 rfl (p_move rfl) ?_
   refine JH.p 1 rfl (p_move rfl) ?_
   refine JH.p 2 rfl (p_nilCheck rfl) ?_
   refine JH.p 3 rfl (p_fieldAddr fld_89_1.h rfl) ?_
   refine JH.q 4 rfl (q_load1 ty_67.h rfl (fun w hw => (Mem.rowR' (i := 5) rfl he1 w hw) 1 _ rfl)) ?_
   refine JH.p 5 rfl (p_len el_67 rfl) ?_
   refine JH.p 6 rfl (p_lss rfl rfl) ?_
   refine JH.p 7 rfl (p_move rfl) ?_
   refine JH.pgT 8 rfl (Gd.t1 rfl rfl rfl) (show (decide ((j : Int) < ((((M.ent e e_k).choices).length) : Int))) = true by first | exact h11 | (rw [h11]; rfl) | simp [h11]) (p_move rfl) ?_
   refine JH.pgT 9 rfl (Gd.t1 rfl rfl rfl) (show (decide ((j : Int) < ((((M.ent e e_k).choices).length) : Int))) = true by first | exact h11 | (rw [h11]; rfl) | simp [h11]) (p_nilCheck rfl) ?_
   refine JH.pgT 10 rfl (Gd.t1 rfl rfl rfl) (show (decide ((j : Int) < ((((M.ent e e_k).choices).length) : Int))) = true by first | exact h11 | (rw [h11]; rfl) | simp [h11]) (p_fieldAddr fld_89_1.h rfl) ?_
   refine JH.qgT 11 rfl (Gd.t1 rfl rfl rfl) (show (decide ((j : Int) < ((((M.ent e e_k).choices).length) : Int))) = true by first | exact h11 | (rw [h11]; rfl) | simp [h11]) (q_load1 ty_67.h rfl (fun w hw => (Mem.rowR' (i := 5) rfl he1 w hw) 1 _ rfl)) ?_
   refine JH.pgT 12 rfl (Gd.t1 rfl rfl rfl) (show (decide ((j : Int) < ((((M.ent e e_k).choices).length) : Int))) = true by first | exact h11 | (rw [h11]; rfl) | simp [h11]) (p_move rfl) ?_
   refine JH.fact (row_some (i := 1) rfl (by first | omega | (simp only [List.length_set, List.length_append, List.length_cons, List.length_nil, List.length_take, List.length_drop, List.length_replicate]; omega))) (fun hf13 => ?_)
   obtain ⟨b13, rfl⟩ := hf13
   have hy12 : ((M.ent e e_k).choices)[j]? = some (M.cho ((M.ent e e_k).choices) j) := M.cho_get (by first | omega | (simp only [List.length_set, List.length_append, List.length_cons, List.length_nil, List.length_take, List.length_drop, List.length_replicate]; omega))
   refine JH.pgT 13 rfl (Gd.t1 rfl rfl rfl) (show (decide ((j : Int) < ((((M.ent e e_k).choices).length) : Int))) = true by first | exact h11 | (rw [h11]; rfl) | simp [h11]) (p_indexAddr el_67 rfl rfl (by first | omega | (simp only [List.length_set, List.length_append, List.length_cons, List.length_nil, List.length_take, List.length_drop, List.length_replicate]; omega)) (by first | omega | (simp only [List.length_set, List.length_append, List.length_cons, List.length_nil, List.length_take, List.length_drop, List.length_replicate]; omega)) rfl) ?_
   refine JH.pgT 14 rfl (Gd.t1 rfl rfl rfl) (show (decide ((j : Int) < ((((M.ent e e_k).choices).length) : Int))) = true by first | exact h11 | (rw [h11]; rfl) | simp [h11]) (p_fieldAddr fld_81_0.h rfl) ?_
   refine JH.qgT 15 rfl (Gd.t1 rfl rfl rfl) (show (decide ((j : Int) < ((((M.ent e e_k).choices).length) : Int))) = true by first | exact h11 | (rw [h11]; rfl) | simp [h11]) (q_load1 ty_2.h rfl (fun w hw => (Mem.rowR' (i := 1) rfl (fltV_at (C := vcChoice) (fun _ => rfl) hy12) w hw) 0 _ rfl)) ?_
   refine JH.pgT 16 rfl (Gd.t1 rfl rfl rfl) (show (decide ((j : Int) < ((((M.ent e e_k).choices).length) : Int))) = true by first | exact h11 | (rw [h11]; rfl) | simp [h11]) (p_fieldAddr fld_81_0.h rfl) ?_
   refine JH.qgT 17 rfl (Gd.t1 rfl rfl rfl) (show (decide ((j : Int) < ((((M.ent e e_k).choices).length) : Int))) = true by first | exact h11 | (rw [h11]; rfl) | simp [h11]) (q_load1 ty_2.h rfl (Mem.box (i := 0) rfl rfl)) ?_
   refine JH.pgT 18 rfl (Gd.t1 rfl rfl rfl) (show (decide ((j : Int) < ((((M.ent e e_k).choices).length) : Int))) = true by first | exact h11 | (rw [h11]; rfl) | simp [h11]) (p_eql rfl rfl) ?_
   refine JH.p 19 rfl (p_pickAnd2 rfl rfl rfl) ?_
   refine yd ?_
   exact zm ⟨((decide ((j : Int) < ((((M.ent e e_k).choices).length) : Int))) && (decide ((M.cho ((M.ent e e_k).choices) j).move = c.move))), _, rfl, rfl, by first | rfl | (rw [‹decide ((j : Int) < ((M.ent e e_k).choices.length : Int)) = false›]; rfl) | (rw [‹decide ((j : Int) < ((M.ent e e_k).choices.length : Int)) = true›]; simp)⟩ (Up.refl _ _)
  have h11' := h11; simp only [decide_eq_false_iff_not, Int.not_lt, Int.not_le] at h11'
  refine zdr [] ?_
  refine JH.p 0 rfl (p_move rfl) ?_
  refine JH.p 1 rfl (p_move rfl) ?_
  refine JH.p 2 rfl (p_nilCheck rfl) ?_
  refine JH.p 3 rfl (p_fieldAddr fld_89_1.h rfl) ?_
  refine JH.q 4 rfl (q_load1 ty_67.h rfl (fun w hw => (Mem.rowR' (i := 5) rfl he1 w hw) 1 _ rfl)) ?_
  refine JH.p 5 rfl (p_len el_67 rfl) ?_
  refine JH.p 6 rfl (p_lss rfl rfl) ?_
  refine JH.p 7 rfl (p_move rfl) ?_
  refine JH.pg (v := undef) 8 rfl (Gd.t1 rfl rfl rfl) (fun hc => absurd hc (by first | (rw [h11]; simp; done) | simp [h11])) ?_
  refine JH.pg (v := undef) 9 rfl (Gd.t1 rfl rfl rfl) (fun hc => absurd hc (by first | (rw [h11]; simp; done) | simp [h11])) ?_
  refine JH.pg (v := undef) 10 rfl (Gd.t1 rfl rfl rfl) (fun hc => absurd hc (by first | (rw [h11]; simp; done) | simp [h11])) ?_
  refine JH.pg (v := undef) 11 rfl (Gd.t1 rfl rfl rfl) (fun hc => absurd hc (by first | (rw [h11]; simp; done) | simp [h11])) ?_
  refine JH.pg (v := undef) 12 rfl (Gd.t1 rfl rfl rfl) (fun hc => absurd hc (by first | (rw [h11]; simp; done) | simp [h11])) ?_
  refine JH.pg (v := undef) 13 rfl (Gd.t1 rfl rfl rfl) (fun hc => absurd hc (by first | (rw [h11]; simp; done) | simp [h11])) ?_
  refine JH.pg (v := undef) 14 rfl (Gd.t1 rfl rfl rfl) (fun hc => absurd hc (by first | (rw [h11]; simp; done) | simp [h11])) ?_
  refine JH.pg (v := undef) 15 rfl (Gd.t1 rfl rfl rfl) (fun hc => absurd hc (by first | (rw [h11]; simp; done) | simp [h11])) ?_
  refine JH.pg (v := undef) 16 rfl (Gd.t1 rfl rfl rfl) (fun hc => absurd hc (by first | (rw [h11]; simp; done) | simp [h11])) ?_
  refine JH.pg (v := undef) 17 rfl (Gd.t1 rfl rfl rfl) (fun hc => absurd hc (by first | (rw [h11]; simp; done) | simp [h11])) ?_
  refine JH.pg (v := .bool false) 18 rfl (Gd.t1 rfl rfl rfl) (fun hc => absurd hc (by first | (rw [h11]; simp; done) | simp [h11])) ?_
  refine JH.p 19 rfl (p_pickAnd rfl rfl rfl) ?_
  refine yd ?_
  exact zm ⟨((decide ((j : Int) < ((((M.ent e e_k).choices).length) : Int))) && false), _, rfl, rfl, by first | rfl | (rw [‹decide ((j : Int) < ((M.ent e e_k).choices.length : Int)) = false›]; rfl) | (rw [‹decide ((j : Int) < ((M.ent e e_k).choices.length : Int)) = true›]; simp)⟩ (Up.refl _ _)
 rintro _ _ u10 ⟨e47_, G10_6, rfl, rfl, hB47⟩ x10
 refine zn ?_
 refine zi (fun h14 h14' => ?_) fun h14 h14' => ?_
 ·
  have q47 := hB47.symm.trans h14; simp only [Bool.and_eq_true, Bool.or_eq_true, decide_eq_true_eq, Bool.and_eq_false_iff, Bool.or_eq_false_iff, decide_eq_false_iff_not, Int.not_lt, Decidable.not_not] at q47
  have hC := M.addC_yes (c := c) hN (by omega) q47.2
  have hB9 := M.bump_yes (show j < (M.ent e e_k).choices.length by omega) hC
  have hx14 := r1 _ (M.cho_mem (show j < (M.ent e e_k).choices.length by omega))
  refine Js.seq ?_
  refine zdr [13] ?_
  refine JH.p 0 rfl (p_move rfl) ?_
  refine JH.p 1 rfl (p_nilCheck rfl) ?_
  refine JH.p 2 rfl (p_fieldAddr fld_89_1.h rfl) ?_
  refine JH.q 3 rfl (q_load1 ty_67.h rfl (fun w hw => (Mem.rowR' (i := 5) rfl he1 w hw) 1 _ rfl)) ?_
  refine JH.p 4 rfl (p_move rfl) ?_
  refine JH.fact (row_some (i := 1) rfl (by first | omega | (simp only [List.length_set, List.length_append, List.length_cons, List.length_nil, List.length_take, List.length_drop, List.length_replicate]; omega))) (fun hf16 => ?_)
  obtain ⟨b16, rfl⟩ := hf16
  have hy15 : ((M.ent e e_k).choices)[j]? = some (M.cho ((M.ent e e_k).choices) j) := M.cho_get (by first | omega | (simp only [List.length_set, List.length_append, List.length_cons, List.length_nil, List.length_take, List.length_drop, List.length_replicate]; omega))
  refine JH.p 5 rfl (p_indexAddr el_67 rfl rfl (by first | omega | (simp only [List.length_set, List.length_append, List.length_cons, List.length_nil, List.length_take, List.length_drop, List.length_replicate]; omega)) (by first | omega | (simp only [List.length_set, List.length_append, List.length_cons, List.length_nil, List.length_take, List.length_drop, List.length_replicate]; omega)) rfl) ?_
  refine JH.p 6 rfl (p_fieldAddr fld_81_1.h rfl) ?_
  refine JH.q 7 rfl (q_load1 ty_2.h rfl (fun w hw => (Mem.rowR' (i := 1) rfl (fltV_at (C := vcChoice) (fun _ => rfl) hy15) w hw) 1 _ rfl)) ?_
  refine JH.p 8 rfl (p_fieldAddr fld_81_1.h rfl) ?_
  refine JH.q 9 rfl (q_load1 ty_2.h rfl (Mem.box (i := 0) rfl rfl)) ?_
  refine JH.p 10 rfl (p_add rfl rfl (IntWalk.i64_in _ (by omega))) ?_
  have hy17 : ((M.ent e e_k).choices)[j]? = some (M.cho ((M.ent e e_k).choices) j) := M.cho_get (by first | omega | (simp only [List.length_set, List.length_append, List.length_cons, List.length_nil, List.length_take, List.length_drop, List.length_replicate]; omega))
  refine JH.p 11 rfl (p_indexAddr el_67 rfl rfl (by first | omega | (simp only [List.length_set, List.length_append, List.length_cons, List.length_nil, List.length_take, List.length_drop, List.length_replicate]; omega)) (by first | omega | (simp only [List.length_set, List.length_append, List.length_cons, List.length_nil, List.length_take, List.length_drop, List.length_replicate]; omega)) rfl) ?_
  refine JH.p 12 rfl (p_fieldAddr fld_81_1.h rfl) ?_
  refine y1 13 ?_
  refine JHo.s rfl (e_storeRow (i := 1) (xs' := fltV vcChoice (((M.ent e e_k).choices).set j (M.Cho.mk ((M.cho ((M.ent e e_k).choices) j).move) (((M.cho ((M.ent e e_k).choices) j).games) + c.games) ((M.cho ((M.ent e e_k).choices) j).score)))) ty_2.h rfl rfl rfl rfl rfl rfl (fltV_lt (C := vcChoice) (j := 1) (fun _ => rfl) (by first | omega | (simp only [List.length_set, List.length_append, List.length_cons, List.length_nil, List.length_take, List.length_drop, List.length_replicate]; omega)) (by decide)) (fltV_cell (C := vcChoice) (j := 1) (y' := (M.Cho.mk ((M.cho ((M.ent e e_k).choices) j).move) (((M.cho ((M.ent e e_k).choices) j).games) + c.games) ((M.cho ((M.ent e e_k).choices) j).score))) (fun _ => rfl) hy17 (by decide) rfl)) (.inr rfl) ?_
  rintro _ _ _ ⟨rfl, rfl⟩ _
  refine znh ?_
  refine yd ?_
  have hx15 : (M.cho (((M.ent e e_k).choices).set j (M.Cho.mk ((M.cho ((M.ent e e_k).choices) j).move) (((M.cho ((M.ent e e_k).choices) j).games) + c.games) ((M.cho ((M.ent e e_k).choices) j).score))) j).score = (M.cho (M.ent e e_k).choices j).score := by rw [M.cho_set (by first | omega | (simp only [List.length_append, List.length_cons, List.length_nil, List.length_take, List.length_drop]; omega))]
  refine Js.seq ?_
  refine zdr [13] ?_
  refine JH.p 0 rfl (p_move rfl) ?_
  refine JH.p 1 rfl (p_nilCheck rfl) ?_
  refine JH.p 2 rfl (p_fieldAddr fld_89_1.h rfl) ?_
  refine JH.q 3 rfl (q_load1 ty_67.h rfl (fun w hw => (Mem.rowR' (i := 5) rfl he1 w hw) 1 _ rfl)) ?_
  refine JH.p 4 rfl (p_move rfl) ?_
  have hy18 : (((M.ent e e_k).choices).set j (M.Cho.mk ((M.cho ((M.ent e e_k).choices) j).move) (((M.cho ((M.ent e e_k).choices) j).games) + c.games) ((M.cho ((M.ent e e_k).choices) j).score)))[j]? = some (M.cho (((M.ent e e_k).choices).set j (M.Cho.mk ((M.cho ((M.ent e e_k).choices) j).move) (((M.cho ((M.ent e e_k).choices) j).games) + c.games) ((M.cho ((M.ent e e_k).choices) j).score))) j) := M.cho_get (by first | omega | (simp only [List.length_set, List.length_append, List.length_cons, List.length_nil, List.length_take, List.length_drop, List.length_replicate]; omega))
  refine JH.p 5 rfl (p_indexAddr el_67 rfl rfl (by first | omega | (simp only [List.length_set, List.length_append, List.length_cons, List.length_nil, List.length_take, List.length_drop, List.length_replicate]; omega)) (by first | omega | (simp only [List.length_set, List.length_append, List.length_cons, List.length_nil, List.length_take, List.length_drop, List.length_replicate]; omega)) rfl) ?_
  refine JH.p 6 rfl (p_fieldAddr fld_81_2.h rfl) ?_
  refine JH.q 7 rfl (q_load1 ty_2.h rfl (fun w hw => (Mem.rowR' (i := 1) rfl (fltV_at (C := vcChoice) (fun _ => rfl) hy18) w hw) 2 _ rfl)) ?_
  refine JH.p 8 rfl (p_fieldAddr fld_81_2.h rfl) ?_
  refine JH.q 9 rfl (q_load1 ty_2.h rfl (Mem.box (i := 0) rfl rfl)) ?_
  refine JH.p 10 rfl (p_add rfl rfl (IntWalk.i64_in _ (by omega))) ?_
  have hy19 : (((M.ent e e_k).choices).set j (M.Cho.mk ((M.cho ((M.ent e e_k).choices) j).move) (((M.cho ((M.ent e e_k).choices) j).games) + c.games) ((M.cho ((M.ent e e_k).choices) j).score)))[j]? = some (M.cho (((M.ent e e_k).choices).set j (M.Cho.mk ((M.cho ((M.ent e e_k).choices) j).move) (((M.cho ((M.ent e e_k).choices) j).games) + c.games) ((M.cho ((M.ent e e_k).choices) j).score))) j) := M.cho_get (by first | omega | (simp only [List.length_set, List.length_append, List.length_cons, List.length_nil, List.length_take, List.length_drop, List.length_replicate]; omega))
  refine JH.p 11 rfl (p_indexAddr el_67 rfl rfl (by first | omega | (simp only [List.length_set, List.length_append, List.length_cons, List.length_nil, List.length_take, List.length_drop, List.length_replicate]; omega)) (by first | omega | (simp only [List.length_set, List.length_append, List.length_cons, List.length_nil, List.length_take, List.length_drop, List.length_replicate]; omega)) rfl) ?_
  refine JH.p 12 rfl (p_fieldAddr fld_81_2.h rfl) ?_
  refine y1 13 ?_
  refine JHo.s rfl (e_storeRow (i := 1) (xs' := fltV vcChoice ((((M.ent e e_k).choices).set j (M.Cho.mk ((M.cho ((M.ent e e_k).choices) j).move) (((M.cho ((M.ent e e_k).choices) j).games) + c.games) ((M.cho ((M.ent e e_k).choices) j).score))).set j (M.Cho.mk ((M.cho (((M.ent e e_k).choices).set j (M.Cho.mk ((M.cho ((M.ent e e_k).choices) j).move) (((M.cho ((M.ent e e_k).choices) j).games) + c.games) ((M.cho ((M.ent e e_k).choices) j).score))) j).move) ((M.cho (((M.ent e e_k).choices).set j (M.Cho.mk ((M.cho ((M.ent e e_k).choices) j).move) (((M.cho ((M.ent e e_k).choices) j).games) + c.games) ((M.cho ((M.ent e e_k).choices) j).score))) j).games) (((M.cho (((M.ent e e_k).choices).set j (M.Cho.mk ((M.cho ((M.ent e e_k).choices) j).move) (((M.cho ((M.ent e e_k).choices) j).games) + c.games) ((M.cho ((M.ent e e_k).choices) j).score))) j).score) + c.score)))) ty_2.h rfl rfl rfl rfl rfl rfl (fltV_lt (C := vcChoice) (j := 2) (fun _ => rfl) (by first | omega | (simp only [List.length_set, List.length_append, List.length_cons, List.length_nil, List.length_take, List.length_drop, List.length_replicate]; omega)) (by decide)) (fltV_cell (C := vcChoice) (j := 2) (y' := (M.Cho.mk ((M.cho (((M.ent e e_k).choices).set j (M.Cho.mk ((M.cho ((M.ent e e_k).choices) j).move) (((M.cho ((M.ent e e_k).choices) j).games) + c.games) ((M.cho ((M.ent e e_k).choices) j).score))) j).move) ((M.cho (((M.ent e e_k).choices).set j (M.Cho.mk ((M.cho ((M.ent e e_k).choices) j).move) (((M.cho ((M.ent e e_k).choices) j).games) + c.games) ((M.cho ((M.ent e e_k).choices) j).score))) j).games) (((M.cho (((M.ent e e_k).choices).set j (M.Cho.mk ((M.cho ((M.ent e e_k).choices) j).move) (((M.cho ((M.ent e e_k).choices) j).games) + c.games) ((M.cho ((M.ent e e_k).choices) j).score))) j).score) + c.score))) (fun _ => rfl) hy19 (by decide) rfl)) (.inr rfl) ?_
  rintro _ _ _ ⟨rfl, rfl⟩ _
  refine znh ?_
  refine yd ?_
  refine Js.pk (cBookEntry (M.Ent.mk ((M.ent e e_k).pits) ((((M.ent e e_k).choices).set j (M.Cho.mk ((M.cho ((M.ent e e_k).choices) j).move) (((M.cho ((M.ent e e_k).choices) j).games) + c.games) ((M.cho ((M.ent e e_k).choices) j).score))).set j (M.Cho.mk ((M.cho (((M.ent e e_k).choices).set j (M.Cho.mk ((M.cho ((M.ent e e_k).choices) j).move) (((M.cho ((M.ent e e_k).choices) j).games) + c.games) ((M.cho ((M.ent e e_k).choices) j).score))) j).move) ((M.cho (((M.ent e e_k).choices).set j (M.Cho.mk ((M.cho ((M.ent e e_k).choices) j).move) (((M.cho ((M.ent e e_k).choices) j).games) + c.games) ((M.cho ((M.ent e e_k).choices) j).score))) j).games) (((M.cho (((M.ent e e_k).choices).set j (M.Cho.mk ((M.cho ((M.ent e e_k).choices) j).move) (((M.cho ((M.ent e e_k).choices) j).games) + c.games) ((M.cho ((M.ent e e_k).choices) j).score))) j).score) + c.score))))) [.slice A1_0 (((M.ent e e_k).pits).length) c1_0, .slice (some ⟨b16, 0, none⟩) (((M.ent e e_k).choices).length) c1_1] (fun f21 G21 => ?_) (by exact (gv_agg (gvc gv_ (gvc (gv_flat lChoice (xs := ((((M.ent e e_k).choices).set j (M.Cho.mk ((M.cho ((M.ent e e_k).choices) j).move) (((M.cho ((M.ent e e_k).choices) j).games) + c.games) ((M.cho ((M.ent e e_k).choices) j).score))).set j (M.Cho.mk ((M.cho (((M.ent e e_k).choices).set j (M.Cho.mk ((M.cho ((M.ent e e_k).choices) j).move) (((M.cho ((M.ent e e_k).choices) j).games) + c.games) ((M.cho ((M.ent e e_k).choices) j).score))) j).move) ((M.cho (((M.ent e e_k).choices).set j (M.Cho.mk ((M.cho ((M.ent e e_k).choices) j).move) (((M.cho ((M.ent e e_k).choices) j).games) + c.games) ((M.cho ((M.ent e e_k).choices) j).score))) j).games) (((M.cho (((M.ent e e_k).choices).set j (M.Cho.mk ((M.cho ((M.ent e e_k).choices) j).move) (((M.cho ((M.ent e e_k).choices) j).games) + c.games) ((M.cho ((M.ent e e_k).choices) j).score))) j).score) + c.score)))) po_ (by first | rfl | (simp [fltV]; done)) (by first | with_reducible rfl | assumption | rfl)) gvn))))
  refine Js.front (i := 3) rfl ?_
  refine zn ?_
  refine Js.front (i := 1) rfl ?_
  refine zn ?_
  refine Js.front (i := 4) rfl ?_
  refine zn ?_
  refine Js.conv (fun w hw => St.closeE cBookEntry (k := e_k) (m := 2) (xs := e) (y := (M.Ent.mk ((M.ent e e_k).pits) ((((M.ent e e_k).choices).set j (M.Cho.mk ((M.cho ((M.ent e e_k).choices) j).move) (((M.cho ((M.ent e e_k).choices) j).games) + c.games) ((M.cho ((M.ent e e_k).choices) j).score))).set j (M.Cho.mk ((M.cho (((M.ent e e_k).choices).set j (M.Cho.mk ((M.cho ((M.ent e e_k).choices) j).move) (((M.cho ((M.ent e e_k).choices) j).games) + c.games) ((M.cho ((M.ent e e_k).choices) j).score))) j).move) ((M.cho (((M.ent e e_k).choices).set j (M.Cho.mk ((M.cho ((M.ent e e_k).choices) j).move) (((M.cho ((M.ent e e_k).choices) j).games) + c.games) ((M.cho ((M.ent e e_k).choices) j).score))) j).games) (((M.cho (((M.ent e e_k).choices).set j (M.Cho.mk ((M.cho ((M.ent e e_k).choices) j).move) (((M.cho ((M.ent e e_k).choices) j).games) + c.games) ((M.cho ((M.ent e e_k).choices) j).score))) j).score) + c.score))))) (vs := vse_0) (vs' := vse_0) (by omega) rfl (setL_same he1 rfl) hw) ?_
  refine zn ?_
  refine zrb0 [3, 0] hb ((x4.trans x5).trans x10) ?_
  have hE1 : e.set e_k (M.Ent.mk (M.ent e e_k).pits (M.addC (M.ent e e_k).choices c)) = e.set e_k (M.Ent.mk ((M.ent e e_k).pits) ((((M.ent e e_k).choices).set j (M.Cho.mk ((M.cho ((M.ent e e_k).choices) j).move) (((M.cho ((M.ent e e_k).choices) j).games) + c.games) ((M.cho ((M.ent e e_k).choices) j).score))).set j (M.Cho.mk ((M.cho (((M.ent e e_k).choices).set j (M.Cho.mk ((M.cho ((M.ent e e_k).choices) j).move) (((M.cho ((M.ent e e_k).choices) j).games) + c.games) ((M.cho ((M.ent e e_k).choices) j).score))) j).move) ((M.cho (((M.ent e e_k).choices).set j (M.Cho.mk ((M.cho ((M.ent e e_k).choices) j).move) (((M.cho ((M.ent e e_k).choices) j).games) + c.games) ((M.cho ((M.ent e e_k).choices) j).score))) j).games) (((M.cho (((M.ent e e_k).choices).set j (M.Cho.mk ((M.cho ((M.ent e e_k).choices) j).move) (((M.cho ((M.ent e e_k).choices) j).games) + c.games) ((M.cho ((M.ent e e_k).choices) j).score))) j).score) + c.score)))) := by first | (simp only [List.length_set]; done) | (rw [← hB9]; done) | (rw [hC]; done) | (rw [hC]; rfl)
  refine ⟨vse_0, (f2_3 ++ f21 ++ f2_2), rfl, ?_⟩
  · first | rfl | (dsimp only; rw [hE1]) | (dsimp only; simp only [hE1]) | (rw [hE1]; done) | (rw [hE1]; rfl)
 have q47 := hB47.symm.trans h14; simp only [Bool.and_eq_true, Bool.or_eq_true, decide_eq_true_eq, Bool.and_eq_false_iff, Bool.or_eq_false_iff, decide_eq_false_iff_not, Int.not_lt, Decidable.not_not] at q47
 have hC := M.addC_no (c := c) hN (fun a => q47.elim (fun q => by omega) (fun q => q a.2))
 refine Js.skip <| zS <| zbs fun b22 => ?_
 refine Qm rfl <| Qc rfl <| Qf fh rfl <| Qw (q_load1 ty_67.h rfl (fun w hw => (Mem.rowR' (i := 6) rfl he1 w hw) 1 _ rfl)) <| Qm rfl <| Qq (p_slice (lo' := 0) (hi' := j) (mx' := c1_1) el_67 rfl rfl ⟨_, rfl, by omega⟩ rfl) ?_
 refine JL.e (e_append (i := 0) (n' := (((M.ent e e_k).choices).take j).length) (vs' := fltV vcChoice (((M.ent e e_k).choices).take j)) el_67 rfl rfl rfl rfl (src_pre (i := 2) (b := j) und_67 rfl (fun w hw => (FltL.one (F := lChoice) _)) (by omega) (by omega)) (by first | omega | (simp only [List.length_append, List.length_cons, List.length_nil, List.length_take, List.length_drop]; omega)) (by first | omega | (simp only [List.length_append, List.length_cons, List.length_nil, List.length_take, List.length_drop]; omega)) (by first | omega | (simp only [List.length_append, List.length_cons, List.length_nil, List.length_take, List.length_drop] <;> omega)) (by rw [(fltV_split (F := lChoice) _ _).1]; first | rfl | exact fltV_app _ _ _ | (simp [fltV]; done))) ?_
 rintro v24 _ _ ⟨⟨g25, rfl⟩, rfl⟩ _
 refine JL.fact (row_form' (i := 0) rfl) (fun hf26 => ?_)
 obtain ⟨A26, c26, rfl, bl26, bh26⟩ := hf26
 refine znl ?_
 refine Qa rfl <| zN <| Qm rfl <| Q9 1 rfl rfl ?_
 refine zbs fun b27 => ?_
 refine JL.e (e_append (i := 1) (n' := ((((M.ent e e_k).choices).take j) ++ [c]).length) (vs' := fltV vcChoice ((((M.ent e e_k).choices).take j) ++ [c])) el_67 rfl rfl rfl rfl (src_row (i := 0) und_67 rfl rfl) (by first | omega | (simp only [List.length_append, List.length_cons, List.length_nil, List.length_take, List.length_drop]; omega)) (by first | omega | (simp only [List.length_append, List.length_cons, List.length_nil, List.length_take, List.length_drop]; omega)) (by first | omega | (simp only [List.length_append, List.length_cons, List.length_nil, List.length_take, List.length_drop] <;> omega)) (by first | rfl | exact fltV_app _ _ _ | exact fltV_snoc _ _ _ | (simp [fltV]; done))) ?_
 rintro v29 _ _ ⟨⟨g30, rfl⟩, rfl⟩ _
 refine JL.fact (row_form' (i := 1) rfl) (fun hf31 => ?_)
 obtain ⟨A31, c31, rfl, bl31, bh31⟩ := hf31
 refine znl ?_
 refine Qa rfl <| zG <| Qm rfl <| Qm rfl <| Qm rfl <| Qc rfl <| Qf fh rfl <| Qw (q_load1 ty_67.h rfl (fun w hw => (Mem.rowR' (i := 7) rfl he1 w hw) 1 _ rfl)) <| Qm rfl <| Qq (p_slice (lo' := j) (hi' := ((M.ent e e_k).choices).length) (mx' := c1_1) el_67 rfl rfl ⟨rfl, rfl⟩ ⟨_, rfl, by omega⟩) ?_
 refine JL.e (e_append (i := 1) (n' := (((((M.ent e e_k).choices).take j) ++ [c]) ++ (((M.ent e e_k).choices).drop j)).length) (vs' := fltV vcChoice (((((M.ent e e_k).choices).take j) ++ [c]) ++ (((M.ent e e_k).choices).drop j))) el_67 rfl rfl rfl rfl (src_suf (i := 3) (a := j) und_67 rfl (fun w hw => (FltL.one (F := lChoice) _)) (by omega) (by omega)) (by first | omega | (simp only [List.length_append, List.length_cons, List.length_nil, List.length_take, List.length_drop]; omega)) (by first | omega | (simp only [List.length_append, List.length_cons, List.length_nil, List.length_take, List.length_drop]; omega)) (by first | omega | (simp only [List.length_append, List.length_cons, List.length_nil, List.length_take, List.length_drop] <;> omega)) (by rw [(fltV_split (F := lChoice) _ _).2]; first | rfl | exact fltV_app _ _ _ | (simp [fltV]; done))) ?_
 rintro v32 _ _ ⟨⟨g33, rfl⟩, rfl⟩ _
 refine JL.fact (row_form' (i := 1) rfl) (fun hf34 => ?_)
 obtain ⟨A34, c34, rfl, bl34, bh34⟩ := hf34
 refine znl ?_
 refine Qc rfl <| Qf fh rfl ?_
 refine JL.s (e_storeRow (i := 7) (xs' := setL vse_0 (0 + e_k * 2) [.slice A1_0 (((M.ent e e_k).pits).length) c1_0, .slice A34 ((((((M.ent e e_k).choices).take j) ++ [c]) ++ (((M.ent e e_k).choices).drop j)).length) c34]) ty_67.h rfl rfl rfl rfl rfl rfl (by omega) (setL_at (j := 1) he1 (by decide) hl2 rfl)) ?_
 rintro _ _ _ ⟨rfl, rfl⟩ _
 refine znl ?_
 refine JL.nil ?_
 refine Js.pk (cBookEntry (M.Ent.mk ((M.ent e e_k).pits) (((((M.ent e e_k).choices).take j) ++ [c]) ++ (((M.ent e e_k).choices).drop j)))) [.slice A1_0 (((M.ent e e_k).pits).length) c1_0, .slice A34 ((((((M.ent e e_k).choices).take j) ++ [c]) ++ (((M.ent e e_k).choices).drop j)).length) c34] (fun f36 G36 => ?_) (by exact (gv_agg (gvc gv_ (gvc (gv_flat lChoice (xs := (((((M.ent e e_k).choices).take j) ++ [c]) ++ (((M.ent e e_k).choices).drop j))) po_ (by first | rfl | (simp [fltV]; done)) (by first | with_reducible rfl | assumption | rfl)) gvn))))
 refine Js.front (i := 5) rfl ?_
 refine zn ?_
 refine Js.front (i := 1) rfl ?_
 refine zn ?_
 refine Js.front (i := 6) rfl ?_
 refine zn ?_
 refine Js.conv (fun w hw => St.closeE cBookEntry (k := e_k) (m := 2) (xs := e) (y := (M.Ent.mk ((M.ent e e_k).pits) (((((M.ent e e_k).choices).take j) ++ [c]) ++ (((M.ent e e_k).choices).drop j)))) (vs := vse_0) (vs' := (setL vse_0 (0 + e_k * 2) [.slice A1_0 (((M.ent e e_k).pits).length) c1_0, .slice A34 ((((((M.ent e e_k).choices).take j) ++ [c]) ++ (((M.ent e e_k).choices).drop j)).length) c34])) (by omega) rfl rfl hw) ?_
 refine zn ?_
 refine zrbE [5, 0] hb ((x4.trans x5).trans x10) ?_
 have hE1 : e.set e_k (M.Ent.mk (M.ent e e_k).pits (M.addC (M.ent e e_k).choices c)) = e.set e_k (M.Ent.mk ((M.ent e e_k).pits) (((((M.ent e e_k).choices).take j) ++ [c]) ++ (((M.ent e e_k).choices).drop j))) := by first | (simp only [List.length_set]; done) | (rw [← hB9]; done) | (rw [hC]; done) | (rw [hC]; rfl)
 refine ⟨(setL vse_0 (0 + e_k * 2) [.slice A1_0 (((M.ent e e_k).pits).length) c1_0, .slice A34 ((((((M.ent e e_k).choices).take j) ++ [c]) ++ (((M.ent e e_k).choices).drop j)).length) c34]), (f2_3 ++ f36 ++ f2_2), rfl, ?_⟩
 · first | rfl | (dsimp only; rw [hE1]) | (dsimp only; simp only [hE1]) | (rw [hE1]; done) | (rw [hE1]; rfl)

set_option maxHeartbeats 4000000 in
theorem c_spec_l20Add (b_rules : M.Rul) (b_entries : List M.Ent) {Ab_9 : Option Addr} {cb_9 : Nat} {gb_9 : List Nat} {vsb_9 : List Value} {fb_9 : List Nat} (pits : List Int) {v_pits : Value} (c : M.Cho) {v_c : Value} {bb : Nat} {w : World} (hb : Bw w [boxO bb [.int .i64 b_rules.pits, .int .i64 b_rules.seeds, .bool b_rules.stores, .bool b_rules.skip, .bool b_rules.relay, .bool b_rules.feed, .bool b_rules.again, .int .i64 b_rules.capture, .int .i64 b_rules.slam, .slice Ab_9 b_entries.length cb_9] 37, rowO 89 2 (.slice Ab_9 b_entries.length cb_9) b_entries.length vsb_9 gb_9, ownC (lBookEntry b_entries) vsb_9 fb_9]) (h_pits : (Ty.ints 2 pits).ok (offW w (([boxO bb [.int .i64 b_rules.pits, .int .i64 b_rules.seeds, .bool b_rules.stores, .bool b_rules.skip, .bool b_rules.relay, .bool b_rules.feed, .bool b_rules.again, .int .i64 b_rules.capture, .int .i64 b_rules.slam, .slice Ab_9 b_entries.length cb_9] 37, rowO 89 2 (.slice Ab_9 b_entries.length cb_9) b_entries.length vsb_9 gb_9, ownC (lBookEntry b_entries) vsb_9 fb_9] : List Own).flatMap (·.fp))) v_pits) (h_c : (Ty.agg (cChoice c)).ok (offW w (([boxO bb [.int .i64 b_rules.pits, .int .i64 b_rules.seeds, .bool b_rules.stores, .bool b_rules.skip, .bool b_rules.relay, .bool b_rules.feed, .bool b_rules.again, .int .i64 b_rules.capture, .int .i64 b_rules.slam, .slice Ab_9 b_entries.length cb_9] 37, rowO 89 2 (.slice Ab_9 b_entries.length cb_9) b_entries.length vsb_9 gb_9, ownC (lBookEntry b_entries) vsb_9 fb_9] : List Own).flatMap (·.fp))) v_c) (bd0 : b_entries.length ≤ cb_9 := by exact om_) (bd1 : cb_9 ≤ 9223372036854775807 := by exact om_) (r0 : b_entries.length ≤ 4194303 := by exact om_) (r1 : ∀ x ∈ b_entries, x.pits.length ≤ 4194304 ∧ x.choices.length ≤ 4194304 := by exact om_) (r2 : M.EB 1000000000000000 b_entries := by exact om_) (r3 : pits.length ≤ 4194304 := by exact om_) (r4 : 0 ≤ c.games := by exact om_) (r5 : c.games ≤ 2000000 := by exact om_) (r6 : 0 ≤ c.score := by exact om_) (r7 : c.score ≤ 2000000 := by exact om_) : RetB Tryz.prog 73 [.pointer (some ⟨bb, 0, none⟩), v_pits, v_c] w [boxO bb [.int .i64 b_rules.pits, .int .i64 b_rules.seeds, .bool b_rules.stores, .bool b_rules.skip, .bool b_rules.relay, .bool b_rules.feed, .bool b_rules.again, .int .i64 b_rules.capture, .int .i64 b_rules.slam, .slice Ab_9 b_entries.length cb_9] 37, rowO 89 2 (.slice Ab_9 b_entries.length cb_9) b_entries.length vsb_9 gb_9, ownC (lBookEntry b_entries) vsb_9 fb_9] (fun v bs' => ∃ (Axb_9 : Option Addr) (cxb_9 : Nat) (gxb_9 : List Nat) (vsxb_9 : List Value) (fxb_9 : List Nat), v = .tuple #[] ∧ bs' = [boxO bb [.int .i64 b_rules.pits, .int .i64 b_rules.seeds, .bool b_rules.stores, .bool b_rules.skip, .bool b_rules.relay, .bool b_rules.feed, .bool b_rules.again, .int .i64 b_rules.capture, .int .i64 b_rules.slam, .slice Axb_9 ((M.addE b_entries pits c).length) cxb_9] 37, rowO 89 2 (.slice Axb_9 ((M.addE b_entries pits c).length) cxb_9) ((M.addE b_entries pits c).length) vsxb_9 gxb_9, ownC (lBookEntry (M.addE b_entries pits c)) vsxb_9 fxb_9] ∧ (M.addE b_entries pits c).length ≤ cxb_9 ∧ cxb_9 ≤ 9223372036854775807) := by
 have hfl := M.findE_le b_entries pits
 revert v_pits; apply opn
 intro A1 c1 h1 bl1 bh1
 have h_pits := h1
 revert v_c; apply opn
 refine enterB hb @Tryz.func73 @Tryz.ntmps73 rfl rfl ?_
 refine zent ?_
 refine Js.trashE ?_
 refine zn ?_
 refine zS <| zb rfl fun b2 => zN <| Qm rfl <| Qm rfl <| zv rfl (fun w hw => c_spec_l20Find (M.Boo.mk b_rules b_entries) pits ⟨_, _, [.int .i64 b_rules.pits, .int .i64 b_rules.seeds, .bool b_rules.stores, .bool b_rules.skip, .bool b_rules.relay, .bool b_rules.feed, .bool b_rules.again, .int .i64 b_rules.capture, .int .i64 b_rules.slam, .slice Ab_9 b_entries.length cb_9], rfl, ⟨rfl, rfl, rfl, rfl, rfl, rfl, rfl, rfl, rfl, (srow_ok lBookEntry (xs := b_entries) (hw.pr (i := 2) rfl) (hw.pr (i := 3) rfl) (lBookEntry_length _)), trivial⟩, Mem.boxR (i := 1) rfl 0 10 _ hw⟩ (ok_ hw) (r1 := r1)) <| Qm rfl <| Qx rfl rfl <| Qx rfl rfl <| Qa rfl <| Qa rfl <| zJ <| zS <| Qm rfl ?_
 refine Qt rfl <| JL.nil ?_
 refine zk [0, 5] (fun F U l os u => ∃ (ES : List M.Ent) (q : Nat) (A3_0_9 : Option Addr) (c3_0_9 : Nat) (g3_0_9 : List Nat) (vs3_0_9 : List Value) (fl3_0_9 : List Nat) (G3_4 : List Nat), l = F [(6, .int .i64 (q : Int))] ∧ os = U [nO, some (boxO bb [.int .i64 b_rules.pits, .int .i64 b_rules.seeds, .bool b_rules.stores, .bool b_rules.skip, .bool b_rules.relay, .bool b_rules.feed, .bool b_rules.again, .int .i64 b_rules.capture, .int .i64 b_rules.slam, .slice A3_0_9 ES.length c3_0_9] 37), some (rowO 89 2 (.slice A3_0_9 ES.length c3_0_9) ES.length vs3_0_9 g3_0_9), some (ownC (lBookEntry ES) vs3_0_9 fl3_0_9), some (anyO G3_4)] ∧ (ES = M.atE b_entries pits) ∧ (q < ES.length) ∧ (ES.length ≤ 4194304) ∧ (M.findE b_entries pits = q) ∧ (ES.length ≤ c3_0_9) ∧ (c3_0_9 ≤ 9223372036854775807)) ?_ ?_
 ·
  refine zi (fun h4 h4' => ?_) fun h4 h4' => ?_
  ·
   have hno : ¬ M.hasE b_entries pits = true := by simpa using h4
   have hA : b_entries.take (M.findE b_entries pits) ++ [(M.Ent.mk pits [])] ++ b_entries.drop (M.findE b_entries pits) = M.atE b_entries pits := M.atE_no rfl hno
   have hAl : (b_entries.take (M.findE b_entries pits) ++ [(M.Ent.mk pits [])] ++ b_entries.drop (M.findE b_entries pits)).length = b_entries.length + 1 := by simp; omega
   refine zS <| zbs fun b5 => ?_
   refine Qm rfl <| Qc rfl <| Qf fh rfl <| Q0 2 rfl rfl rfl <| Qm rfl <| Qq (p_slice (lo' := 0) (hi' := M.findE b_entries pits) (mx' := cb_9) el_35 rfl rfl ⟨_, rfl, by omega⟩ rfl) ?_
   refine JL.e (e_append (i := 0) (n' := (M.findE b_entries pits) - 0) (vs' := vsb_9.take ((M.findE b_entries pits) * 2)) el_35 rfl rfl rfl rfl (src_pre (i := 3) (b := M.findE b_entries pits) und_35 rfl (fun w hw => (ownOne (i := 4) rfl (OneL.flat (F := cBookEntry) (fun _ => (.consSl (.consSl .nil))) _) w hw)) (by omega) (by omega)) (by first | omega | (simp only [List.length_append, List.length_cons, List.length_nil, List.length_take, List.length_drop]; omega)) (by first | omega | (simp only [List.length_append, List.length_cons, List.length_nil, List.length_take, List.length_drop]; omega)) (by first | omega | (simp only [List.length_append, List.length_cons, List.length_nil, List.length_take, List.length_drop] <;> omega)) (rfl)) ?_
   rintro v7 _ _ ⟨⟨g8, rfl⟩, rfl⟩ _
   refine JL.fact (row_form' (i := 0) rfl) (fun hf9 => ?_)
   obtain ⟨A9, c9, rfl, bl9, bh9⟩ := hf9
   refine znl ?_
   refine Qa rfl <| zN <| Qm rfl <| Qm rfl <| zcs rfl (fun w hw => c_spec_l00Own pits (ok_ hw)) ?_
   intro A10 c10 bl10 bh10
   refine Qb ?_
   refine zbs fun b11 => ?_
   refine JL.e (e_append (i := 2) (n' := ((b_entries.take (M.findE b_entries pits)) ++ ([(M.Ent.mk pits [])])).length) (vs' := (vsb_9.take ((M.findE b_entries pits) * 2)) ++ [.slice A10 pits.length c10, .slice none 0 0]) el_35 rfl rfl rfl rfl (src_row (i := 0) und_35 rfl rfl) (by first | omega | (simp only [List.length_append, List.length_cons, List.length_nil, List.length_take, List.length_drop]; omega)) (by first | omega | (simp only [List.length_append, List.length_cons, List.length_nil, List.length_take, List.length_drop]; omega)) (by first | omega | (simp only [List.length_append, List.length_cons, List.length_nil, List.length_take, List.length_drop] <;> omega)) (rfl)) ?_
   rintro v13 _ _ ⟨⟨g14, rfl⟩, rfl⟩ _
   refine JL.fact (row_form' (i := 2) rfl) (fun hf15 => ?_)
   obtain ⟨A15, c15, rfl, bl15, bh15⟩ := hf15
   refine znl ?_
   refine Qa rfl <| zG <| Qm rfl <| Qm rfl <| Qm rfl <| Qc rfl <| Qf fh rfl <| Q0 4 rfl rfl rfl <| Qm rfl <| Qq (p_slice (lo' := M.findE b_entries pits) (hi' := b_entries.length) (mx' := cb_9) el_35 rfl rfl ⟨rfl, rfl⟩ ⟨_, rfl, by omega⟩) ?_
   refine JL.e (e_append (i := 2) (n' := (((b_entries.take (M.findE b_entries pits)) ++ ([(M.Ent.mk pits [])])) ++ (b_entries.drop (M.findE b_entries pits))).length) (vs' := ((vsb_9.take ((M.findE b_entries pits) * 2)) ++ [.slice A10 pits.length c10, .slice none 0 0]) ++ (vsb_9.drop ((M.findE b_entries pits) * 2))) el_35 rfl rfl rfl rfl (src_suf (i := 5) (a := M.findE b_entries pits) und_35 rfl (fun w hw => (ownOne (i := 6) rfl (OneL.flat (F := cBookEntry) (fun _ => (.consSl (.consSl .nil))) _) w hw)) (by omega) (by omega)) (by first | omega | (simp only [List.length_append, List.length_cons, List.length_nil, List.length_take, List.length_drop]; omega)) (by first | omega | (simp only [List.length_append, List.length_cons, List.length_nil, List.length_take, List.length_drop]; omega)) (by first | omega | (simp only [List.length_append, List.length_cons, List.length_nil, List.length_take, List.length_drop] <;> omega)) (rfl)) ?_
   rintro v16 _ _ ⟨⟨g17, rfl⟩, rfl⟩ _
   refine JL.fact (row_form' (i := 2) rfl) (fun hf18 => ?_)
   obtain ⟨A18, c18, rfl, bl18, bh18⟩ := hf18
   refine znl ?_
   refine Qc rfl <| Qf fh rfl <| zw 4 rfl rfl rfl ?_
   refine JL.nil ?_
   refine Js.pk (cBookEntry (M.Ent.mk pits [])) [.slice A10 pits.length c10, .slice none 0 0] (fun f19 G19 => ?_)
   refine zn ?_
   refine Js.insL cBookEntry (i := 7) (j := 0) (m := 2) (k := M.findE b_entries pits) (vs' := ((vsb_9.take ((M.findE b_entries pits) * 2)) ++ [.slice A10 pits.length c10, .slice none 0 0]) ++ (vsb_9.drop ((M.findE b_entries pits) * 2))) (fun _ => rfl) rfl rfl (by omega) (by first | rfl | simp) (fun f20 => ?_)
   refine zn ?_
   refine zf [4, 4, 3, 0] fun GG21 => ?_
   refine zn ?_
   exact zm ⟨(b_entries.take (M.findE b_entries pits) ++ [(M.Ent.mk pits [])] ++ b_entries.drop (M.findE b_entries pits)), (M.findE b_entries pits), _, _, _, _, _, _, rfl, rfl, by exact hA, by omega, by omega, by rfl, by first | assumption | omega | rfl | (dsimp only; omega), by first | assumption | omega | rfl | (dsimp only; omega)⟩ (Up.refl _ _)
  have hyes : M.hasE b_entries pits = true := by simpa using h4
  have hA : b_entries = M.atE b_entries pits := M.atE_yes hyes
  have hlt := M.hasE_lt hyes
  refine Js.skip ?_
  exact zm ⟨(b_entries), (M.findE b_entries pits), _, _, _, _, _, _, rfl, rfl, by exact hA, by omega, by omega, by rfl, by first | assumption | omega | rfl | (dsimp only; omega), by first | assumption | omega | rfl | (dsimp only; omega)⟩ (Up.refl _ _)
 rintro _ _ u3 ⟨ES, q, A3_0_9, c3_0_9, g3_0_9, vs3_0_9, fl3_0_9, G3_4, rfl, rfl, hA, hAk, hAl, hE, f3_4, f3_5⟩ x3
 refine zn ?_
 have hsz := (hA.symm ▸ (M.SzE.at_ (n := 4194304) r1 r3) : M.SzE 4194304 ES) _ (M.ent_mem hAk)
 have hcb := (hA.symm ▸ r2.at_ : M.EB 1000000000000000 ES) _ (M.ent_mem hAk)
 refine zdr [7] ?_
 refine JH.p 0 rfl (p_move rfl) ?_
 refine JH.p 1 rfl (p_nilCheck rfl) ?_
 refine JH.p 2 rfl (p_fieldAddr fld_37_1.h rfl) ?_
 refine JH.q 3 rfl (q_load1 ty_35.h rfl (Mem.box (i := 1) rfl rfl)) ?_
 refine JH.p 4 rfl (p_move rfl) ?_
 refine JH.fact (row_some (i := 2) rfl (by omega)) (fun hf23 => ?_)
 obtain ⟨b23, rfl⟩ := hf23
 have hy22 : ES[q]? = some (M.ent ES q) := M.ent_get (by first | omega | (simp only [List.length_set, List.length_append, List.length_cons, List.length_nil, List.length_take, List.length_drop, List.length_replicate]; omega))
 refine JH.fact (fun w hw => elemv_BookEntry (Mem.ownC (i := 3) rfl w hw) hy22) (fun hf22 => ?_)
 obtain ⟨A22_0, c22_0, A22_1, c22_1, he22, bl22_0, bh22_0, bl22_1, bh22_1⟩ := hf22
 refine JH.p 5 rfl (p_indexAddr el_35 rfl rfl (by omega) (by omega) rfl) ?_
 refine JH.q 6 rfl (L9 0 rfl rfl) ?_
 refine y1 7 ?_
 refine zhh [2, 2] ?_
 refine yBB 2 sp_ rfl rfl (fun w hb _ hw => c_spec_l20Count ES q c hb (ok_ hw) (r0 := hsz.2) (r1 := hcb)) ?_
 rintro _ _ G24 ⟨vs24_e, f24_e, rfl, rfl⟩
 refine znh ?_
 refine yd ?_
 refine zrbE [4, 0, 0] hb x3 ?_
 have hN10 : (M.addE b_entries pits c).length = ES.length := by first | (rw [← M.addE_at (c := c) hE hA]; simp; done) | exact (M.addE_at (c := c) hE hA).symm
 have hE10 : M.addE b_entries pits c = (ES.set q (M.Ent.mk (M.ent ES q).pits (M.addC (M.ent ES q).choices c))) := by first | (rw [← M.addE_at (c := c) hE hA]; simp; done) | exact (M.addE_at (c := c) hE hA).symm
 refine ⟨(some ⟨b23, 0, none⟩), c3_0_9, g3_0_9, vs24_e, f24_e, rfl, ?_, ?_, ?_⟩
 · first | rfl | (dsimp only; rw [hN10, hE10]) | (dsimp only; simp only [hN10, hE10]) | (rw [hN10, hE10]; done) | (rw [hN10, hE10]; rfl)
 all_goals (try dsimp only)
 all_goals (first | (rw [hN10, hE10]; omega) | omega | (simp only [*]; omega))

end Go.Proofs.YtcmfnlleikcpnaaGreat

namespace Go.Proofs.YtcmfnlleikcpnaaGreat
open Go.RowKit

set_option maxHeartbeats 1000000 in
theorem c_spec_l20Full (b : M.Boo) {v_b : Value} {w : World} (h_b : (Ty.agg (cBook b)).ok w v_b) (r0 : b.entries.length ≤ 4194304 := by exact om_) (r1 : ∀ x ∈ b.entries, x.pits.length ≤ 4194304 ∧ x.choices.length ≤ 4194304 := by exact om_) : RetX Tryz.prog 75 [v_b] w (fun v => v = if M.okB b = true then .tuple #[v_b, .int .i64 0] else .tuple #[.agg #[.int .i64 0, .int .i64 0, .bool false, .bool false, .bool false, .bool false, .bool false, .int .i64 0, .int .i64 0, .slice none 0 0], .int .i64 5]) := by
 revert v_b; apply opn
 intro A1 c1 h1 bl1 bh1
 refine enter @Tryz.func75 @Tryz.ntmps75 rfl rfl ?_
 refine zent ?_
 refine zS <| zb rfl fun b2 => za zeh fun b3 => Qa rfl <| zJ <| zS <| zv rfl (fun w hw => c_spec_l20Ok b (ok_ hw) (r1 := r1)) <| Qt rfl <| JL.nil ?_
 refine zi (fun h4 h4' => ?_) fun h4 h4' => ?_
 ·
  have hno : ¬ M.okB b = true := by simpa using h4
  refine zS <| Qb ?_
  refine zw 0 rfl rfl rfl ?_
  refine Qa rfl <| JL.nil ?_
  refine zX (Up.refl _ _) ?_
  show _ = _; first | rw [if_pos hok] | rw [if_neg hno]
 have hok : M.okB b = true := by simpa using h4
 refine Js.skip <| zS <| Q9 1 rfl rfl ?_
 refine zw 0 rfl rfl rfl ?_
 refine Qa rfl <| JL.nil ?_
 refine zX (Up.refl _ _) ?_
 show _ = _; first | rw [if_pos hok] | rw [if_neg hno]

end Go.Proofs.YtcmfnlleikcpnaaGreat

namespace Go.Proofs.YtcmfnlleikcpnaaGreat
open Go.RowKit

end Go.Proofs.YtcmfnlleikcpnaaGreat

namespace Go.Proofs.YtcmfnlleikcpnaaGreat
open Go.RowKit

end Go.Proofs.YtcmfnlleikcpnaaGreat

namespace Go.Proofs.YtcmfnlleikcpnaaGreat
open Go.RowKit

set_option maxHeartbeats 1000000 in
theorem c_spec_l07All (r : M.Rul) {v_r : Value} (p : M.Pos) {v_p : Value} {w : World} (h_r : (Ty.ref (cRules r)).ok w v_r) (h_p : (Ty.ref (cPosition p)).ok w v_p) (r0 : M.okP r p = true := by exact om_) : Ret Tryz.prog 178 [v_r, v_p] w (Ty.sl 101 6 (M.results r p).length (lResult (M.results r p))) := by
 obtain ⟨g1, g2, g3, g4, g5, g6, g7⟩ := M.okP_bd r0
 revert v_r; apply opn
 intro b1 o1 hr1
 revert v_p; apply opn
 intro b4 o4 A2 c2 h2 bl2 bh2 A3 c3 h3 bl3 bh3 hr4
 refine enter @Tryz.func178 @Tryz.ntmps178 rfl rfl ?_
 refine zent ?_
 refine zS <| Qa rfl <| zN <| zbs fun b5 => ?_
 refine Qa rfl <| zJ <| zS <| Qa rfl <| JL.nil <| Js.block ?_
 refine Js.vals (Ts := lResult []) (vs := []) (fun w => rfl) ?_
 refine zl [0, 1] (fun F U l os u m => ∃ (k : Nat) (acc : List M.Res) (A7_5 : Option Addr) (c7_5 : Nat) (g7_5 : List Nat) (vs7_5 : List Value) (fl7_5 : List Nat), l = F [(5, .slice A7_5 acc.length c7_5), (6, .int .i64 (k : Int))] ∧ os = U [some (ownC (lResult acc) vs7_5 fl7_5), some (rowO 101 6 (.slice A7_5 acc.length c7_5) acc.length vs7_5 g7_5)] ∧ (acc = M.resultsTo r p k) ∧ (k ≤ r.pits) ∧ (acc.length ≤ c7_5) ∧ (c7_5 ≤ 9223372036854775807) ∧ m = (r.pits - k).toNat) ⟨0, [], _, _, _, _, _, rfl, rfl, by rfl, zt, zu, zu, rfl⟩ ?_
 rintro _ _ u7 _ ⟨k, acc, A7_5, c7_5, g7_5, vs7_5, fl7_5, rfl, rfl, hacc, hk, f7_2, f7_3, rfl⟩ x7
 refine zn ?_
 have hlen := M.resultsTo_len (r := r) (p := p) k
 have hlacc : acc.length ≤ k := by rw [hacc]; exact hlen
 refine Js.seq <| zS <| Qm rfl <| Qm rfl <| Qc rfl <| Qf fh rfl <| QC ((hr1.vis x7.vis) 0 _ rfl) rfl <| Ql rfl rfl <| JL.nil ?_
 refine zi (fun h8 h8' => ?_) fun h8 h8' => ?_
 ·
  refine Js.skip <| Js.seq <| Js.block <| zS <| Qm rfl <| Qm rfl <| Qm rfl <| zc rfl (fun w hw => c_spec_l07Make r p (k : Int) (ok_ hw) (ok_ hw)) ?_
  intro A11 c11 bl11 bh11 A12 c12 bl12 bh12
  refine Qm rfl <| Qx rfl rfl <| Qx rfl rfl <| za zeh fun b13 => zw 0 rfl rfl rfl ?_
  refine Qa rfl <| zN <| Qm rfl <| Qe rfl rfl <| JL.nil ?_
  refine zi (fun h14 h14' => ?_) fun h14 h14' => ?_
  ·
   have hacc2 := (M.resultsTo_yes2 (r := r) (p := p) (k := k) (by simpa using h14)).symm
   refine Js.region <| Qm rfl <| Q9 0 rfl rfl ?_
   refine zbs fun b15 => ?_
   refine JL.e (e_append (i := 5) (n' := (acc ++ [((M.make r p (k : Int)).1)]).length) (vs' := vs7_5 ++ [.int .i64 (((M.make r p (k : Int)).1).move), .int .i64 (((M.make r p (k : Int)).1).gain), .bool (((M.make r p (k : Int)).1).again), .slice A11 (((((M.make r p (k : Int)).1).next).pits).length) c11, .slice A12 (((((M.make r p (k : Int)).1).next).stores).length) c12, .int .i64 ((((M.make r p (k : Int)).1).next).player)]) el_131 rfl rfl rfl rfl (src_row (i := 0) und_131 rfl rfl) (by omega) (by omega) (by first | omega | (simp only [List.length_append, List.length_cons, List.length_nil, List.length_take, List.length_drop] <;> omega)) (rfl)) ?_
   rintro v17 _ _ ⟨⟨g18, rfl⟩, rfl⟩ _
   refine JL.fact (row_form' (i := 5) rfl) (fun hf19 => ?_)
   obtain ⟨A19, c19, rfl, bl19, bh19⟩ := hf19
   refine znl ?_
   refine Qa rfl <| JL.nil ?_
   refine Js.pack2 (i := 3) (j := 2) (cResult ((M.make r p (k : Int)).1)) [.int .i64 (((M.make r p (k : Int)).1).move), .int .i64 (((M.make r p (k : Int)).1).gain), .bool (((M.make r p (k : Int)).1).again), .slice A11 (((((M.make r p (k : Int)).1).next).pits).length) c11, .slice A12 (((((M.make r p (k : Int)).1).next).stores).length) c12, .int .i64 ((((M.make r p (k : Int)).1).next).player)] rfl rfl (fun w h1 h2 => pack_Result (ints_row h1 rfl) (ints_row h2 rfl)) (fun f20 => ?_)
   refine Js.joinL (i := 3) (j := 0) (Vs := lResult (acc ++ [((M.make r p (k : Int)).1)])) rfl rfl (lResult_snoc _ _) (fun f21 => ?_)
   refine zn ?_
   refine Js.blockEnd <| Js.region <| Qm rfl <| Qp rfl rfl <| Qa rfl <| JL.nil ?_
   refine zd [0, 2] rfl fun u22 x22 => ?_
   exact zag ⟨k + 1, acc ++ [((M.make r p (k : Int)).1)], _, _, _, _, _, rfl, rfl, by rw [hacc]; exact hacc2, zt, zu, zu, rfl⟩ (x7.trans x22)
  have hacc2 := (M.resultsTo_no2 (r := r) (p := p) (k := k) (by simpa using h14)).symm
  refine Js.skip <| Js.blockEnd <| Js.region <| Qm rfl <| Qp rfl rfl <| Qa rfl <| JL.nil ?_
  refine zd [3, 3] rfl fun u23 x23 => ?_
  exact zag ⟨k + 1, acc, _, _, _, _, _, rfl, rfl, by rw [hacc]; exact hacc2, zt, zu, zu, rfl⟩ (x7.trans x23)
 have hR : acc = M.results r p := by rw [hacc]; unfold M.results; rw [show k = r.pits.toNat by have := h8'; omega]
 refine zx ?_
 have hq0 : acc = M.results r p := by exact hR
 refine zS <| Qm rfl <| Qa rfl <| JL.nil ?_
 exact zro x7

set_option maxHeartbeats 1000000 in
theorem c_spec_CanMove (r : M.Rul) {v_r : Value} (p : M.Pos) {v_p : Value} {w : World} (h_r : (Ty.agg (cRules r)).ok w v_r) (h_p : (Ty.agg (cPosition p)).ok w v_p) (r0 : p.pits.length ≤ 4194304 := by exact om_) (r1 : p.stores.length ≤ 4194304 := by exact om_) (r2 : M.okP r p = true := by exact om_) : RetV Tryz.prog 191 [v_r, v_p] w (.bool (M.okP r p && decide (0 < (M.results r p).length))) := by
 revert v_r; apply opn
 revert v_p; apply opn
 intro A1 c1 h1 bl1 bh1 A2 c2 h2 bl2 bh2
 refine enter @Tryz.func191 @Tryz.ntmps191 rfl rfl ?_
 refine zent ?_
 refine zS <| zb rfl fun b3 => zb rfl fun b4 => Qa rfl <| zN <| zv rfl (fun w hw => c_spec_l04Ok r p (ok_ hw) (ok_ hw)) <| Qm rfl <| zT (Gd.t1 rfl rfl rfl) (show (M.okP r p) = true by first | exact r2 | (rw [r2]; rfl) | simp [r2]) <| zp rfl (fun w hw => c_spec_l07All r p (ok_ hw) (ok_ hw) (r0 := r2)) ?_
 intro u5 x5 A6 c6 h6 bl6 bh6
 refine zT (Gd.t1 rfl rfl rfl) (show (M.okP r p) = true by first | exact r2 | (rw [r2]; rfl) | simp [r2]) <| Qz rfl <| zT (Gd.t1 rfl rfl rfl) (show (M.okP r p) = true by first | exact r2 | (rw [r2]; rfl) | simp [r2]) <| Qg rfl rfl <| Qq (p_pickAnd2 rfl rfl rfl) <| Qa rfl <| JL.nil ?_
 refine zR x5 ?_
 simp [outV]

set_option maxHeartbeats 1000000 in
theorem c_spec_l09All (p : M.Pos) {v_p : Value} {w : World} (h_p : (Ty.ref (cPosition p)).ok w v_p) (r0 : p.pits.length ≤ 4194304 := by exact om_) (r1 : p.stores.length ≤ 4194304 := by exact om_) (r2 : M.sum4 p.pits = M.isum p.pits := by exact om_) (r3 : M.sum4 p.stores = M.isum p.stores := by exact om_) : RetV Tryz.prog 199 [v_p] w (.int .i64 (M.all p)) := by
 have b1 := M.sum4_bd p.pits
 have b2 := M.sum4_bd p.stores
 revert v_p; apply opn
 intro b3 o3 A1 c1 h1 bl1 bh1 A2 c2 h2 bl2 bh2 hr3
 refine enter @Tryz.func199 @Tryz.ntmps199 rfl rfl ?_
 refine zent ?_
 refine zS <| Qa rfl <| zJ ?_
 refine zdr [] ?_
 refine JH.p 0 rfl (p_move rfl) ?_
 refine JH.p 1 rfl (p_nilCheck rfl) ?_
 refine JH.p 2 rfl (p_fieldAddr fld_39_0.h rfl) ?_
 refine JH.w 3 rfl (fun os' u' hv => q_load1 ty_27.h rfl (Mem.pub ((hr3.vis hv) 0 _ rfl))) ?_
 refine JH.p 5 rfl (p_move rfl) ?_
 refine JH.p 6 rfl (p_nilCheck rfl) ?_
 refine JH.p 7 rfl (p_fieldAddr fld_39_1.h rfl) ?_
 refine JH.w 8 rfl (fun os' u' hv => q_load1 ty_27.h rfl (Mem.pub ((hr3.vis hv) 1 _ rfl))) ?_
 refine y1 4 ?_
 refine yv rfl rfl (fun w hw => c_spec_l04Sum p.pits (ok_ hw)) ?_
 refine y1 9 ?_
 refine yv rfl rfl (fun w hw => c_spec_l04Sum p.stores (ok_ hw)) ?_
 refine JH.p 10 rfl (p_add rfl rfl (IntWalk.i64_in _ (by omega))) ?_
 refine JH.p 11 rfl (p_assign rfl) ?_
 refine yd ?_
 refine zR (Up.refl _ _) ?_
 rw [r2, r3]; rfl

set_option maxHeartbeats 1000000 in
theorem c_spec_l09Majority (p : M.Pos) {v_p : Value} {w : World} (h_p : (Ty.ref (cPosition p)).ok w v_p) (r0 : p.pits.length ≤ 4194304 := by exact om_) (r1 : p.stores.length = 2 := by exact om_) (r2 : M.sum4 p.pits = M.isum p.pits := by exact om_) (r3 : M.sum4 p.stores = M.isum p.stores := by exact om_) (r4 : ∀ k : Int, 0 ≤ M.getI p.stores k ∧ M.getI p.stores k ≤ 96 := by exact om_) : RetV Tryz.prog 190 [v_p] w (.int .i64 (M.majority p)) := by
 revert v_p; apply opn
 intro b3 o3 A1 c1 h1 bl1 bh1 A2 c2 h2 bl2 bh2 hr3
 refine enter @Tryz.func190 @Tryz.ntmps190 rfl rfl ?_
 refine zent ?_
 refine zS <| Qa rfl <| zJ <| zS <| Qa rfl <| JL.nil <| Js.block ?_
 refine zl [0] (fun F U l os u m => ∃ (k : Nat), l = F [(3, .int .i64 (k : Int))] ∧ os = U [] ∧ (k ≤ 2) ∧ (M.noMaj p (k : Int)) ∧ m = 2 - k) ⟨0, rfl, rfl, zt, by exact M.noMaj_zero p, rfl⟩ ?_
 rintro _ _ u4 _ ⟨k, rfl, rfl, hk, hN, rfl⟩ x4
 refine zn ?_
 have hv := r4 (k : Int)
 rw [M.nth_getI] at hv
 refine Js.seq <| zS <| Qm rfl <| Ql rfl rfl <| JL.nil ?_
 refine zi (fun h5 h5' => ?_) fun h5 h5' => ?_
 ·
  refine Js.skip <| Js.seq <| Js.block <| Js.seq ?_
  refine zdr [] ?_
  refine JH.p 0 rfl (p_move rfl) ?_
  refine JH.p 1 rfl (p_nilCheck rfl) ?_
  refine JH.p 2 rfl (p_fieldAddr fld_39_1.h rfl) ?_
  refine JH.w 3 rfl (fun os' u' hv => q_load1 ty_27.h rfl (Mem.pub ((hr3.vis (x4.vis.trans hv)) 1 _ rfl))) ?_
  refine JH.p 4 rfl (p_move rfl) ?_
  obtain ⟨b6, o6, he6, hc6⟩ := ints_elem (Ty.mono _ h2 x4.vis) (i := k) (by omega)
  refine JH.p 5 rfl (p_indexAddr el_27 rfl rfl (by omega) (by omega) he6) ?_
  refine JH.w 6 rfl (fun os' u' hv => q_load1 ty_2.h rfl (Mem.pub (hc6.vis hv))) ?_
  refine JH.p 7 rfl (p_mul rfl rfl (IntWalk.i64_in _ (by omega))) ?_
  refine JH.p 8 rfl (p_move rfl) ?_
  refine y1 9 ?_
  refine yv rfl rfl (fun w hw => c_spec_l09All p (ok_ hw) (r2 := r2) (r3 := r3)) ?_
  refine JH.p 10 rfl (p_gtr rfl rfl) ?_
  refine yd ?_
  refine zi (fun h7 h7' => ?_) fun h7 h7' => ?_
  ·
   have hj : M.all p < 2 * M.getI p.stores (k : Int) := by rw [M.nth_getI]; simpa using h7
   have hE := M.majority_at hN (by omega) (by omega) hj
   refine zS <| Qm rfl <| Qa rfl <| JL.nil ?_
   refine zR x4 ?_
   rw [hE]; rfl
  have hj : ¬ M.all p < 2 * M.getI p.stores (k : Int) := by rw [M.nth_getI]; simpa using h7
  refine Js.skip <| Js.blockEnd <| Js.region <| Qm rfl <| Qp rfl rfl <| Qa rfl <| JL.nil ?_
  exact zag ⟨k + 1, rfl, rfl, zt, by exact M.noMaj_step hN hj, rfl⟩ x4
 have hE := M.majority_no hN (by have := h5'; omega)
 refine zx ?_
 refine zS <| Qa rfl <| JL.nil ?_
 refine zR x4 ?_
 rw [hE]; rfl

set_option maxHeartbeats 1000000 in
theorem c_spec_l09Settle (r : M.Rul) {v_r : Value} (p : M.Pos) {v_p : Value} {w : World} (h_r : (Ty.ref (cRules r)).ok w v_r) (h_p : (Ty.ref (cPosition p)).ok w v_p) (r0 : M.okP r p = true := by exact om_) : Ret Tryz.prog 173 [v_r, v_p] w (Ty.agg (cPosition (M.settle r p))) := by
 obtain ⟨g1, g2, g3, g4, g5, g6, g7⟩ := M.okP_bd r0
 revert v_r; apply opn
 intro b1 o1 hr1
 revert v_p; apply opn
 intro b4 o4 A2 c2 h2 bl2 bh2 A3 c3 h3 bl3 bh3 hr4
 refine enter @Tryz.func173 @Tryz.ntmps173 rfl rfl ?_
 refine zent ?_
 refine zS <| za zeh fun b5 => zJ ?_
 refine zk [0, 1, 4] (fun F U l os u => ∃ (b8 b6 : Nat) (A7 : Option Addr) (c7 : Nat), l = F [(5, .pointer (some ⟨b8, 0, none⟩))] ∧ os = [boxO b8 [.slice (some ⟨b6, 0, none⟩) p.pits.length p.pits.length, .slice A7 p.stores.length c7, .int .i64 p.player] 39, rowO 2 1 (.slice A7 p.stores.length c7) p.stores.length (ints_ p.stores) [], rowO 2 1 (.slice (some ⟨b6, 0, none⟩) p.pits.length p.pits.length) p.pits.length (ints_ (List.replicate p.pits.length 0)) []] ++ U [] ∧ (p.stores.length ≤ c7) ∧ (c7 ≤ 9223372036854775807)) ?_ ?_
 ·
  refine zdr [17] ?_
  refine JH.p 0 rfl (p_move rfl) ?_
  refine JH.p 1 rfl (p_nilCheck rfl) ?_
  refine JH.p 2 rfl (p_fieldAddr fld_39_0.h rfl) ?_
  refine JH.w 3 rfl (fun os' u' hv => q_load1 ty_27.h rfl (Mem.pub ((hr4.vis hv) 0 _ rfl))) ?_
  refine JH.p 4 rfl (p_len el_27 rfl) ?_
  refine JH.p 6 rfl (p_move rfl) ?_
  refine JH.p 7 rfl (p_nilCheck rfl) ?_
  refine JH.p 8 rfl (p_fieldAddr fld_39_1.h rfl) ?_
  refine JH.w 9 rfl (fun os' u' hv => q_load1 ty_27.h rfl (Mem.pub ((hr4.vis hv) 1 _ rfl))) ?_
  refine JH.p 11 rfl (p_move rfl) ?_
  refine JH.p 12 rfl (p_nilCheck rfl) ?_
  refine JH.p 13 rfl (p_fieldAddr fld_39_2.h rfl) ?_
  refine JH.w 14 rfl (fun os' u' hv => q_load1 ty_2.h rfl (Mem.pub ((hr4.vis hv) 2 _ rfl))) ?_
  refine y3 5 10 16 ?_ ?_ ?_
  ·
   refine JHo.e rfl (e_makeI (m := p.pits.length) el_27 rfl rfl rfl (by omega) (by omega)) (.inl rfl) ?_
   rintro _ _ _ ⟨b22, rfl, rfl, rfl⟩ _
   refine znh ?_
   refine y2 10 16 ?_ ?_
   ·
    refine ycs rfl rfl (fun w hw => c_spec_l00Own p.stores (ok_ hw)) ?_
    intro A23 c23 bl23 bh23
    refine JH.p 15 rfl (q_bld) ?_
    refine y1 16 ?_
    refine ya rfl fun b24 => ?_
    refine y1 17 ?_
    refine yst rfl rfl rfl ?_
    refine yd ?_
    exact zm ⟨_, _, _, _, rfl, rfl, zt, zt⟩ (Up.refl _ _)
   refine ya rfl fun b25 => ?_
   refine y1 10 ?_
   refine ycs rfl rfl (fun w hw => c_spec_l00Own p.stores (ok_ hw)) ?_
   intro A26 c26 bl26 bh26
   refine JH.p 15 rfl (q_bld) ?_
   refine y1 17 ?_
   refine yst rfl rfl rfl ?_
   refine yd ?_
   refine zh [1, 0, 0, 0] ?_
   exact zm ⟨_, _, _, _, rfl, rfl, zt, zt⟩ (Up.refl _ _)
  ·
   refine ycs rfl rfl (fun w hw => c_spec_l00Own p.stores (ok_ hw)) ?_
   intro A27 c27 bl27 bh27
   refine y2 5 16 ?_ ?_
   ·
    refine JHo.e rfl (e_makeI (m := p.pits.length) el_27 rfl rfl rfl (by omega) (by omega)) (.inl rfl) ?_
    rintro _ _ _ ⟨b28, rfl, rfl, rfl⟩ _
    refine znh ?_
    refine JH.p 15 rfl (q_bld) ?_
    refine y1 16 ?_
    refine ya rfl fun b29 => ?_
    refine y1 17 ?_
    refine yst rfl rfl rfl ?_
    refine yd ?_
    refine zh [0, 1, 0, 0] ?_
    exact zm ⟨_, _, _, _, rfl, rfl, zt, zt⟩ (Up.refl _ _)
   refine ya rfl fun b30 => ?_
   refine y1 5 ?_
   refine JHo.e rfl (e_makeI (m := p.pits.length) el_27 rfl rfl rfl (by omega) (by omega)) (.inl rfl) ?_
   rintro _ _ _ ⟨b31, rfl, rfl, rfl⟩ _
   refine znh ?_
   refine JH.p 15 rfl (q_bld) ?_
   refine y1 17 ?_
   refine yst rfl rfl rfl ?_
   refine yd ?_
   refine zh [1, 1, 0, 0] ?_
   exact zm ⟨_, _, _, _, rfl, rfl, zt, zt⟩ (Up.refl _ _)
  refine ya rfl fun b32 => ?_
  refine y2 5 10 ?_ ?_
  ·
   refine JHo.e rfl (e_makeI (m := p.pits.length) el_27 rfl rfl rfl (by omega) (by omega)) (.inl rfl) ?_
   rintro _ _ _ ⟨b33, rfl, rfl, rfl⟩ _
   refine znh ?_
   refine y1 10 ?_
   refine ycs rfl rfl (fun w hw => c_spec_l00Own p.stores (ok_ hw)) ?_
   intro A34 c34 bl34 bh34
   refine JH.p 15 rfl (q_bld) ?_
   refine y1 17 ?_
   refine yst rfl rfl rfl ?_
   refine yd ?_
   refine zh [2, 0, 0, 0] ?_
   exact zm ⟨_, _, _, _, rfl, rfl, zt, zt⟩ (Up.refl _ _)
  refine ycs rfl rfl (fun w hw => c_spec_l00Own p.stores (ok_ hw)) ?_
  intro A35 c35 bl35 bh35
  refine y1 5 ?_
  refine JHo.e rfl (e_makeI (m := p.pits.length) el_27 rfl rfl rfl (by omega) (by omega)) (.inl rfl) ?_
  rintro _ _ _ ⟨b36, rfl, rfl, rfl⟩ _
  refine znh ?_
  refine JH.p 15 rfl (q_bld) ?_
  refine y1 17 ?_
  refine yst rfl rfl rfl ?_
  refine yd ?_
  refine zh [2, 1, 0, 0] ?_
  exact zm ⟨_, _, _, _, rfl, rfl, zt, zt⟩ (Up.refl _ _)
 rintro _ _ u21 ⟨b8, b6, A7, c7, rfl, rfl, f21_0, f21_1⟩ x21
 refine zn ?_
 refine Js.seq <| zS <| Qa rfl <| JL.nil <| Js.block ?_
 refine zl [0, 1, 4, 5] (fun F U l os u m => ∃ (k : Nat) (ss : List Int), l = F [(6, .int .i64 (k : Int))] ∧ os = U [nO, some (rowO 2 1 (.slice A7 p.stores.length c7) p.stores.length (ints_ ss) [])] ∧ (ss = M.setT r p k) ∧ (k ≤ 2) ∧ (ss.length = p.stores.length) ∧ m = 2 - k) ⟨0, p.stores, rfl, rfl, by rfl, zt, by rfl, rfl⟩ ?_
 rintro _ _ u37 _ ⟨k, ss, rfl, rfl, hX, hk, hl, rfl⟩ x37
 refine zn ?_
 have hv := M.setT_bd r0 k (k : Int)
 rw [← hX, M.nth_getI] at hv
 have hw9 := M.side_bd g5 g2 (k : Int)
 refine Js.seq <| zS <| Qm rfl <| Ql rfl rfl <| JL.nil ?_
 refine zi (fun h38 h38' => ?_) fun h38 h38' => ?_
 ·
  refine Js.skip <| Js.seq <| Js.block ?_
  refine zdr [14] ?_
  refine JH.p 0 rfl (p_fieldAddr fld_39_1.h rfl) ?_
  refine JH.q 1 rfl (q_load1 ty_27.h rfl (Mem.box (i := 0) rfl rfl)) ?_
  refine JH.p 2 rfl (p_move rfl) ?_
  refine JH.fact (row_some (i := 1) rfl (by omega)) (fun hf40 => ?_)
  obtain ⟨b40, rfl⟩ := hf40
  refine JH.p 3 rfl (p_indexAddr el_27 rfl rfl (by omega) (by omega) rfl) ?_
  refine JH.q 4 rfl (q_load1 ty_2.h rfl (Mem.row (i := 1) rfl (ints_get (i := k) (by omega)))) ?_
  refine JH.p 5 rfl (p_move rfl) ?_
  refine JH.p 6 rfl (p_move rfl) ?_
  refine JH.p 7 rfl (p_nilCheck rfl) ?_
  refine JH.p 8 rfl (p_fieldAddr fld_39_0.h rfl) ?_
  refine JH.w 9 rfl (fun os' u' hv => q_load1 ty_27.h rfl (Mem.pub ((hr4.vis ((x21.vis.trans x37.vis).trans hv)) 0 _ rfl))) ?_
  refine JH.p 10 rfl (p_move rfl) ?_
  refine y1 11 ?_
  refine yv rfl rfl (fun w hw => c_spec_l04Side r p.pits (k : Int) (ok_ hw) (ok_ hw) (r4 := g5)) ?_
  refine JH.p 12 rfl (p_add rfl rfl (IntWalk.i64_in _ (by omega))) ?_
  refine JH.p 13 rfl (p_indexAddr el_27 rfl rfl (by omega) (by omega) rfl) ?_
  refine y1 14 ?_
  refine JHo.s rfl (e_storeRow (i := 1) (xs' := ints_ (ss.set k ((M.nth ss k) + (M.side r p.pits (k : Int))))) ty_2.h rfl rfl rfl rfl rfl rfl (ints_lt (i := k) (by omega)) (ints_setL (i := k) (by omega))) (.inr rfl) ?_
  rintro _ _ _ ⟨rfl, rfl⟩ _
  refine znh ?_
  refine yd ?_
  refine Js.blockEnd <| Js.region <| Qm rfl <| Qp rfl rfl <| Qa rfl <| JL.nil ?_
  exact zag ⟨k + 1, ss.set k ((M.nth ss k) + (M.side r p.pits (k : Int))), rfl, rfl, by rw [hX]; simp [M.setT, M.setI, M.getI], zt, by rw [List.length_set]; exact hl, rfl⟩ x37
 have hE : ss = (M.settle r p).stores := by rw [hX, show k = 2 by have := h38'; omega]; rfl
 refine zx ?_
 have hq0 : (List.replicate p.pits.length 0) = (M.settle r p).pits := by first | exact hE | rfl
 have hq1 : ss = (M.settle r p).stores := by first | exact hE | rfl
 have hq2 : p.player = (M.settle r p).player := by first | exact hE | rfl
 refine zS <| Q9 0 rfl rfl ?_
 refine zw 3 rfl rfl rfl ?_
 refine JL.nil ?_
 exact zro (x21.trans x37)

set_option maxHeartbeats 1000000 in
theorem c_spec_l09Give (p : M.Pos) {v_p : Value} (player : Int) {w : World} (h_p : (Ty.ref (cPosition p)).ok w v_p) (r0 : p.pits.length ≤ 4194304 := by exact om_) (r1 : p.stores.length = 2 := by exact om_) (r2 : player = 0 ∨ player = 1 := by exact om_) (r3 : M.sum4 p.pits = M.isum p.pits := by exact om_) (r4 : M.allOk p.stores = true := by exact om_) : Ret Tryz.prog 172 [v_p, .int .i64 player] w (Ty.agg (cPosition (M.give p player))) := by
 have b1 := M.sum4_bd p.pits
 have hv2 := M.allOk_getI r4 player
 revert v_p; apply opn
 intro b3 o3 A1 c1 h1 bl1 bh1 A2 c2 h2 bl2 bh2 hr3
 refine enter @Tryz.func172 @Tryz.ntmps172 rfl rfl ?_
 refine zent ?_
 refine zS <| za zeh fun b4 => zJ ?_
 refine zk [0, 1, 4] (fun F U l os u => ∃ (b7 b5 : Nat) (A6 : Option Addr) (c6 : Nat), l = F [(5, .pointer (some ⟨b7, 0, none⟩))] ∧ os = [boxO b7 [.slice (some ⟨b5, 0, none⟩) p.pits.length p.pits.length, .slice A6 p.stores.length c6, .int .i64 p.player] 39, rowO 2 1 (.slice A6 p.stores.length c6) p.stores.length (ints_ p.stores) [], rowO 2 1 (.slice (some ⟨b5, 0, none⟩) p.pits.length p.pits.length) p.pits.length (ints_ (List.replicate p.pits.length 0)) []] ++ U [] ∧ (p.stores.length ≤ c6) ∧ (c6 ≤ 9223372036854775807)) ?_ ?_
 ·
  refine zdr [17] ?_
  refine JH.p 0 rfl (p_move rfl) ?_
  refine JH.p 1 rfl (p_nilCheck rfl) ?_
  refine JH.p 2 rfl (p_fieldAddr fld_39_0.h rfl) ?_
  refine JH.w 3 rfl (fun os' u' hv => q_load1 ty_27.h rfl (Mem.pub ((hr3.vis hv) 0 _ rfl))) ?_
  refine JH.p 4 rfl (p_len el_27 rfl) ?_
  refine JH.p 6 rfl (p_move rfl) ?_
  refine JH.p 7 rfl (p_nilCheck rfl) ?_
  refine JH.p 8 rfl (p_fieldAddr fld_39_1.h rfl) ?_
  refine JH.w 9 rfl (fun os' u' hv => q_load1 ty_27.h rfl (Mem.pub ((hr3.vis hv) 1 _ rfl))) ?_
  refine JH.p 11 rfl (p_move rfl) ?_
  refine JH.p 12 rfl (p_nilCheck rfl) ?_
  refine JH.p 13 rfl (p_fieldAddr fld_39_2.h rfl) ?_
  refine JH.w 14 rfl (fun os' u' hv => q_load1 ty_2.h rfl (Mem.pub ((hr3.vis hv) 2 _ rfl))) ?_
  refine y3 5 10 16 ?_ ?_ ?_
  ·
   refine JHo.e rfl (e_makeI (m := p.pits.length) el_27 rfl rfl rfl (by omega) (by omega)) (.inl rfl) ?_
   rintro _ _ _ ⟨b21, rfl, rfl, rfl⟩ _
   refine znh ?_
   refine y2 10 16 ?_ ?_
   ·
    refine ycs rfl rfl (fun w hw => c_spec_l00Own p.stores (ok_ hw)) ?_
    intro A22 c22 bl22 bh22
    refine JH.p 15 rfl (q_bld) ?_
    refine y1 16 ?_
    refine ya rfl fun b23 => ?_
    refine y1 17 ?_
    refine yst rfl rfl rfl ?_
    refine yd ?_
    exact zm ⟨_, _, _, _, rfl, rfl, zt, zt⟩ (Up.refl _ _)
   refine ya rfl fun b24 => ?_
   refine y1 10 ?_
   refine ycs rfl rfl (fun w hw => c_spec_l00Own p.stores (ok_ hw)) ?_
   intro A25 c25 bl25 bh25
   refine JH.p 15 rfl (q_bld) ?_
   refine y1 17 ?_
   refine yst rfl rfl rfl ?_
   refine yd ?_
   refine zh [1, 0, 0, 0] ?_
   exact zm ⟨_, _, _, _, rfl, rfl, zt, zt⟩ (Up.refl _ _)
  ·
   refine ycs rfl rfl (fun w hw => c_spec_l00Own p.stores (ok_ hw)) ?_
   intro A26 c26 bl26 bh26
   refine y2 5 16 ?_ ?_
   ·
    refine JHo.e rfl (e_makeI (m := p.pits.length) el_27 rfl rfl rfl (by omega) (by omega)) (.inl rfl) ?_
    rintro _ _ _ ⟨b27, rfl, rfl, rfl⟩ _
    refine znh ?_
    refine JH.p 15 rfl (q_bld) ?_
    refine y1 16 ?_
    refine ya rfl fun b28 => ?_
    refine y1 17 ?_
    refine yst rfl rfl rfl ?_
    refine yd ?_
    refine zh [0, 1, 0, 0] ?_
    exact zm ⟨_, _, _, _, rfl, rfl, zt, zt⟩ (Up.refl _ _)
   refine ya rfl fun b29 => ?_
   refine y1 5 ?_
   refine JHo.e rfl (e_makeI (m := p.pits.length) el_27 rfl rfl rfl (by omega) (by omega)) (.inl rfl) ?_
   rintro _ _ _ ⟨b30, rfl, rfl, rfl⟩ _
   refine znh ?_
   refine JH.p 15 rfl (q_bld) ?_
   refine y1 17 ?_
   refine yst rfl rfl rfl ?_
   refine yd ?_
   refine zh [1, 1, 0, 0] ?_
   exact zm ⟨_, _, _, _, rfl, rfl, zt, zt⟩ (Up.refl _ _)
  refine ya rfl fun b31 => ?_
  refine y2 5 10 ?_ ?_
  ·
   refine JHo.e rfl (e_makeI (m := p.pits.length) el_27 rfl rfl rfl (by omega) (by omega)) (.inl rfl) ?_
   rintro _ _ _ ⟨b32, rfl, rfl, rfl⟩ _
   refine znh ?_
   refine y1 10 ?_
   refine ycs rfl rfl (fun w hw => c_spec_l00Own p.stores (ok_ hw)) ?_
   intro A33 c33 bl33 bh33
   refine JH.p 15 rfl (q_bld) ?_
   refine y1 17 ?_
   refine yst rfl rfl rfl ?_
   refine yd ?_
   refine zh [2, 0, 0, 0] ?_
   exact zm ⟨_, _, _, _, rfl, rfl, zt, zt⟩ (Up.refl _ _)
  refine ycs rfl rfl (fun w hw => c_spec_l00Own p.stores (ok_ hw)) ?_
  intro A34 c34 bl34 bh34
  refine y1 5 ?_
  refine JHo.e rfl (e_makeI (m := p.pits.length) el_27 rfl rfl rfl (by omega) (by omega)) (.inl rfl) ?_
  rintro _ _ _ ⟨b35, rfl, rfl, rfl⟩ _
  refine znh ?_
  refine JH.p 15 rfl (q_bld) ?_
  refine y1 17 ?_
  refine yst rfl rfl rfl ?_
  refine yd ?_
  refine zh [2, 1, 0, 0] ?_
  exact zm ⟨_, _, _, _, rfl, rfl, zt, zt⟩ (Up.refl _ _)
 rintro _ _ u20 ⟨b7, b5, A6, c6, rfl, rfl, f20_0, f20_1⟩ x20
 refine zn ?_
 refine Js.seq ?_
 refine zdr [12] ?_
 refine JH.p 0 rfl (p_fieldAddr fld_39_1.h rfl) ?_
 refine JH.q 1 rfl (q_load1 ty_27.h rfl (Mem.box (i := 0) rfl rfl)) ?_
 refine JH.p 2 rfl (p_move rfl) ?_
 refine JH.fact (row_some (i := 1) rfl (by omega)) (fun hf37 => ?_)
 obtain ⟨b37, rfl⟩ := hf37
 refine JH.p 3 rfl (p_indexAddr el_27 rfl rfl (by omega) (by omega) rfl) ?_
 refine JH.q 4 rfl (q_load1 ty_2.h rfl (Mem.row (i := 1) rfl (ints_getI (i := player) (by omega)))) ?_
 refine JH.p 5 rfl (p_move rfl) ?_
 refine JH.p 6 rfl (p_nilCheck rfl) ?_
 refine JH.p 7 rfl (p_fieldAddr fld_39_0.h rfl) ?_
 refine JH.w 8 rfl (fun os' u' hv => q_load1 ty_27.h rfl (Mem.pub ((hr3.vis (x20.vis.trans hv)) 0 _ rfl))) ?_
 refine y1 9 ?_
 refine yv rfl rfl (fun w hw => c_spec_l04Sum p.pits (ok_ hw)) ?_
 refine JH.p 10 rfl (p_add rfl rfl (IntWalk.i64_in _ (by omega))) ?_
 refine JH.p 11 rfl (p_indexAddr el_27 rfl rfl (by omega) (by omega) rfl) ?_
 refine y1 12 ?_
 refine JHo.s rfl (e_storeRow (i := 1) (xs' := ints_ (M.setI p.stores player ((M.getI p.stores player) + (M.sum4 p.pits)))) ty_2.h rfl rfl rfl rfl rfl rfl (ints_lt (i := player.toNat) (by omega)) (ints_setL (i := player.toNat) (by omega))) (.inr rfl) ?_
 rintro _ _ _ ⟨rfl, rfl⟩ _
 refine znh ?_
 refine yd ?_
 have hq0 : (List.replicate p.pits.length 0) = (M.give p player).pits := by first | rfl | (rw [r3]; rfl)
 have hq1 : (M.setI p.stores player ((M.getI p.stores player) + (M.sum4 p.pits))) = (M.give p player).stores := by first | rfl | (rw [r3]; rfl)
 have hq2 : p.player = (M.give p player).player := by first | rfl | (rw [r3]; rfl)
 refine zS <| Q9 0 rfl rfl ?_
 refine zw 3 rfl rfl rfl ?_
 refine JL.nil ?_
 exact zro x20

set_option maxHeartbeats 1000000 in
theorem c_spec_l09End (g : M.Gam) {v_g : Value} {w : World} (h_g : (Ty.ref (cGame g)).ok w v_g) (r0 : g.start.pits.length ≤ 4194304 := by exact om_) (r1 : g.start.stores.length ≤ 4194304 := by exact om_) (r2 : g.moves.length ≤ 4194304 := by exact om_) (r3 : g.now.pits.length ≤ 4194304 := by exact om_) (r4 : g.now.stores.length ≤ 4194304 := by exact om_) (r5 : M.okG g = true := by exact om_) : RetV Tryz.prog 171 [v_g] w (.int .i64 (M.endOf g)) := by
 have hok := r5
 obtain ⟨k1, k2, k3, k4, k5, k6, k7, k8, k9⟩ := M.okG_parts hok
 have hnow := M.okG_now hok
 have k10 := M.okP_len hnow
 have k11 := M.okP_len k1
 (have k12 : (M.playedP g).length = g.moves.length + 1 := by rw [k6, M.hist_length, k8])
 have k13 : (M.playedR g).length = g.moves.length := by rw [k7, k8]
 have hC := M.okC_yes hok
 obtain ⟨g1, g2, g3, g4, g5, g6, g7⟩ := M.okP_bd hnow
 obtain ⟨s1, s2⟩ := M.sum4_V hnow
 revert v_g; apply opn
 intro b6 o6 A1 c1 h1 bl1 bh1 A2 c2 h2 bl2 bh2 A3 c3 h3 bl3 bh3 A4 c4 h4 bl4 bh4 A5 c5 h5 bl5 bh5 hr6
 refine enter @Tryz.func171 @Tryz.ntmps171 rfl rfl ?_
 refine zent ?_
 refine zS <| Qa rfl <| zJ <| Js.block <| zS <| Qm rfl <| Qc rfl <| Qf fh rfl <| QC (hr6 16 _ rfl) rfl <| Qh rfl rfl <| Qa rfl <| JL.nil ?_
 refine zi (fun h7 h7' => ?_) fun h7 h7' => ?_
 ·
  have hE := M.endOf_1 (g := g) (by simpa using h7)
  refine zS <| Qa rfl <| JL.nil ?_
  refine zR (Up.refl _ _) ?_
  rw [hE]; rfl
 have q1 : ¬ 0 ≤ g.resigned := by simpa using h7
 refine zS <| Qm rfl <| Qc rfl <| Qf fh rfl <| zv rfl (fun w hw => c_spec_l09Majority g.now (ok_ hw) (r2 := s1) (r3 := s2) (r4 := (fun k => M.allOk_getI g6 k))) <| Qh rfl rfl <| Qa rfl <| JL.nil ?_
 refine zi (fun h8 h8' => ?_) fun h8 h8' => ?_
 ·
  have hE := M.endOf_2 q1 (by simpa using h8)
  refine zS <| Qa rfl <| JL.nil ?_
  refine zR (Up.refl _ _) ?_
  rw [hE]; rfl
 have q2 : ¬ 0 ≤ M.majority g.now := by simpa using h8
 refine Js.seq ?_
 refine zdr [] ?_
 refine JH.p 0 rfl (p_move rfl) ?_
 refine JH.p 1 rfl (p_nilCheck rfl) ?_
 refine JH.p 2 rfl (p_fieldAddr fld_56_0.h rfl) ?_
 refine JH.w 3 rfl (fun os' u' hv => LS 0 (hr6.vis hv) rfl) ?_
 refine JH.p 4 rfl (p_move rfl) ?_
 refine JH.p 5 rfl (p_nilCheck rfl) ?_
 refine JH.p 6 rfl (p_fieldAddr fld_56_3.h rfl) ?_
 refine JH.w 7 rfl (fun os' u' hv => LS 13 (hr6.vis hv) rfl) ?_
 refine y1 8 ?_
 refine yv rfl rfl (fun w hw => c_spec_CanMove g.rules g.now (ok_ hw) (ok_ hw) (r2 := hnow)) ?_
 refine JH.p 9 rfl (p_not rfl) ?_
 refine JH.p 10 rfl (p_assign rfl) ?_
 refine yd ?_
 refine zi (fun h9 h9' => ?_) fun h9 h9' => ?_
 ·
  have hE := M.endOf_3 q1 q2 (by have h9 := h9; simp only [hnow, Bool.true_and, Bool.not_eq_true', decide_eq_false_iff_not] at h9; omega)
  refine zS <| Qa rfl <| JL.nil ?_
  refine zR (Up.refl _ _) ?_
  rw [hE]; rfl
 have q3 : (M.results g.rules g.now).length ≠ 0 := by have h9 := h9; simp only [hnow, Bool.true_and, Bool.not_eq_false', decide_eq_true_eq] at h9; omega
 refine zS <| Qm rfl <| zv rfl (fun w hw => c_spec_l08Repeats g (ok_ hw) (r5 := hok)) <| Qh rfl rfl <| Qa rfl <| JL.nil ?_
 refine zi (fun h10 h10' => ?_) fun h10 h10' => ?_
 ·
  have hE := M.endOf_4 q1 q2 q3 (by rw [k6]; simpa using h10)
  refine zS <| Qa rfl <| JL.nil ?_
  refine zR (Up.refl _ _) ?_
  rw [hE]; rfl
 have q4 : ¬ 3 ≤ M.count g.now (M.playedP g) := by rw [k6]; simpa using h10
 refine zS <| Qm rfl <| Qc rfl <| Qf fh rfl <| QC (hr6 12 _ rfl) rfl <| Qz rfl <| Qh rfl rfl <| Qa rfl <| JL.nil ?_
 refine zi (fun h11 h11' => ?_) fun h11 h11' => ?_
 ·
  have hE := M.endOf_5 q1 q2 q3 q4 (by have := h11'; omega)
  refine zS <| Qa rfl <| JL.nil ?_
  refine zR (Up.refl _ _) ?_
  rw [hE]; rfl
 have hE := M.endOf_0 q1 q2 q3 q4 (by have := h11'; omega)
 refine Js.skip <| Js.blockEnd <| zS <| Qa rfl <| JL.nil ?_
 refine zR (Up.refl _ _) ?_
 rw [hE]; rfl

set_option maxHeartbeats 1000000 in
theorem c_spec_l09Final (g : M.Gam) {v_g : Value} {w : World} (h_g : (Ty.ref (cGame g)).ok w v_g) (r0 : M.okP g.rules g.now = true := by exact om_) (r1 : -1 ≤ g.resigned := by exact om_) (r2 : g.resigned ≤ 1 := by exact om_) : Ret Tryz.prog 139 [v_g] w (Ty.agg (cPosition (M.final g))) := by
 obtain ⟨g1, g2, g3, g4, g5, g6, g7⟩ := M.okP_bd r0
 obtain ⟨s1, s2⟩ := M.sum4_V r0
 revert v_g; apply opn
 intro b6 o6 A1 c1 h1 bl1 bh1 A2 c2 h2 bl2 bh2 A3 c3 h3 bl3 bh3 A4 c4 h4 bl4 bh4 A5 c5 h5 bl5 bh5 hr6
 refine enter @Tryz.func139 @Tryz.ntmps139 rfl rfl ?_
 refine zent ?_
 refine zS <| za zeh fun b7 => zJ <| zS <| Qm rfl <| Qc rfl <| Qf fh rfl <| QC (hr6 16 _ rfl) rfl <| Qh rfl rfl <| JL.nil ?_
 refine zi (fun h8 h8' => ?_) fun h8 h8' => ?_
 ·
  have hF := M.final_yes (g := g) (by simpa using h8)
  refine Js.seq ?_
  refine zdr [9] ?_
  refine JH.p 0 rfl (p_move rfl) ?_
  refine JH.p 1 rfl (p_nilCheck rfl) ?_
  refine JH.p 2 rfl (p_fieldAddr fld_56_3.h rfl) ?_
  refine JH.p 3 rfl (p_move rfl) ?_
  refine JH.p 4 rfl (p_nilCheck rfl) ?_
  refine JH.p 5 rfl (p_fieldAddr fld_56_4.h rfl) ?_
  refine JH.w 6 rfl (fun os' u' hv => q_load1 ty_2.h rfl (Mem.pub ((hr6.vis hv) 16 _ rfl))) ?_
  refine JH.p 7 rfl (p_sub rfl rfl (IntWalk.i64_in _ (by omega))) ?_
  refine y1 8 ?_
  refine ycs rfl rfl (fun w hw => c_spec_l09Give g.now (1 - g.resigned) (ok_ hw) (r3 := s1) (r4 := g6)) ?_
  intro A9_0 c9_0 bl9_0 bh9_0 A9_1 c9_1 bl9_1 bh9_1 f9
  refine y1 9 ?_
  refine yst rfl rfl rfl ?_
  refine yd ?_
  have hq0 : (M.give g.now (1 - g.resigned)) = M.final g := by rw [hF]
  exact zro (Up.refl _ _)
 have hF := M.final_no (g := g) (by simpa using h8)
 refine Js.skip <| Js.seq ?_
 refine zdr [7] ?_
 refine JH.p 0 rfl (p_move rfl) ?_
 refine JH.p 1 rfl (p_nilCheck rfl) ?_
 refine JH.p 2 rfl (p_fieldAddr fld_56_0.h rfl) ?_
 refine JH.p 3 rfl (p_move rfl) ?_
 refine JH.p 4 rfl (p_nilCheck rfl) ?_
 refine JH.p 5 rfl (p_fieldAddr fld_56_3.h rfl) ?_
 refine y1 6 ?_
 refine ycs rfl rfl (fun w hw => c_spec_l09Settle g.rules g.now (ok_ hw) (ok_ hw) (r0 := r0)) ?_
 intro A10_0 c10_0 bl10_0 bh10_0 A10_1 c10_1 bl10_1 bh10_1 f10
 refine y1 7 ?_
 refine yst rfl rfl rfl ?_
 refine yd ?_
 have hq0 : (M.settle g.rules g.now) = M.final g := by rw [hF]
 exact zro (Up.refl _ _)

set_option maxHeartbeats 1000000 in
theorem c_spec_l09Code (g : M.Gam) {v_g : Value} {w : World} (h_g : (Ty.ref (cGame g)).ok w v_g) (r0 : g.start.pits.length ≤ 4194304 := by exact om_) (r1 : g.start.stores.length ≤ 4194304 := by exact om_) (r2 : g.moves.length ≤ 4194304 := by exact om_) (r3 : g.now.pits.length ≤ 4194304 := by exact om_) (r4 : g.now.stores.length ≤ 4194304 := by exact om_) : RetV Tryz.prog 138 [v_g] w (.int .i64 (M.endC g)) := by
 revert v_g; apply opn
 intro b6 o6 A1 c1 h1 bl1 bh1 A2 c2 h2 bl2 bh2 A3 c3 h3 bl3 bh3 A4 c4 h4 bl4 bh4 A5 c5 h5 bl5 bh5 hr6
 refine enter @Tryz.func138 @Tryz.ntmps138 rfl rfl ?_
 refine zent ?_
 refine zS <| Qa rfl <| zJ <| zS <| Qm rfl <| zv rfl (fun w hw => c_spec_l08Ok g (ok_ hw)) <| Qt rfl <| JL.nil ?_
 refine zi (fun h7 h7' => ?_) fun h7 h7' => ?_
 ·
  have hno : M.okG g = false := by simpa using h7
  have hC := M.okC_no hno
  have hE := M.endC_no hno
  refine zS <| Qa rfl <| JL.nil ?_
  refine zR (Up.refl _ _) ?_
  rw [hE]; rfl
 have hok : M.okG g = true := by simpa using h7
 obtain ⟨k1, k2, k3, k4, k5, k6, k7, k8, k9⟩ := M.okG_parts hok
 have hnow := M.okG_now hok
 have k10 := M.okP_len hnow
 have k11 := M.okP_len k1
 (have k12 : (M.playedP g).length = g.moves.length + 1 := by rw [k6, M.hist_length, k8])
 have k13 : (M.playedR g).length = g.moves.length := by rw [k7, k8]
 have hC := M.okC_yes hok
 obtain ⟨g1, g2, g3, g4, g5, g6, g7⟩ := M.okP_bd hnow
 refine Js.skip <| Js.seq <| zS <| Qm rfl <| zv rfl (fun w hw => c_spec_l09End g (ok_ hw) (r5 := hok)) <| Qe rfl rfl <| JL.nil ?_
 refine zi (fun h8 h8' => ?_) fun h8 h8' => ?_
 ·
  have hE := M.endC_6 hok (by simpa using h8)
  refine zS <| Qa rfl <| JL.nil ?_
  refine zR (Up.refl _ _) ?_
  rw [hE]; rfl
 have hE := M.endC_0 hok (by simpa using h8)
 refine Js.skip <| zS <| Qa rfl <| JL.nil ?_
 refine zR (Up.refl _ _) ?_
 rw [hE]; rfl

set_option maxHeartbeats 1000000 in
theorem c_spec_WinnerOf (g : M.Gam) {v_g : Value} {w : World} (h_g : (Ty.agg (cGame g)).ok w v_g) (r0 : g.start.pits.length ≤ 4194304 := by exact om_) (r1 : g.start.stores.length ≤ 4194304 := by exact om_) (r2 : g.moves.length ≤ 4194304 := by exact om_) (r3 : g.now.pits.length ≤ 4194304 := by exact om_) (r4 : g.now.stores.length ≤ 4194304 := by exact om_) : RetV Tryz.prog 83 [v_g] w (.tuple #[.int .i64 (M.winner g), .int .i64 (M.endC g)]) := by
 revert v_g; apply opn
 intro A1 c1 h1 bl1 bh1 A2 c2 h2 bl2 bh2 A3 c3 h3 bl3 bh3 A4 c4 h4 bl4 bh4 A5 c5 h5 bl5 bh5
 refine enter @Tryz.func83 @Tryz.ntmps83 rfl rfl ?_
 refine zent ?_
 refine zS <| zb rfl fun b6 => Qa rfl <| Qa rfl <| zN <| zv rfl (fun w hw => c_spec_l09Code g (ok_ hw)) <| Qa rfl <| zJ <| zS <| Qm rfl <| Qd rfl rfl <| JL.nil ?_
 refine zi (fun h7 h7' => ?_) fun h7 h7' => ?_
 ·
  have hz : M.endC g ≠ 0 := by simpa using h7
  have hE := M.winner_no hz
  refine zS <| Qm rfl <| Qa rfl <| Qa rfl <| JL.nil ?_
  refine zR (Up.refl _ _) ?_
  first | (rw [hE2, hz]; rfl) | (rw [hE]; rfl)
 have hz : M.endC g = 0 := by simpa using h7
 have hok := M.endC_ok hz
 obtain ⟨k1, k2, k3, k4, k5, k6, k7, k8, k9⟩ := M.okG_parts hok
 have hnow := M.okG_now hok
 have k10 := M.okP_len hnow
 have k11 := M.okP_len k1
 (have k12 : (M.playedP g).length = g.moves.length + 1 := by rw [k6, M.hist_length, k8])
 have k13 : (M.playedR g).length = g.moves.length := by rw [k7, k8]
 have hC := M.okC_yes hok
 obtain ⟨g1, g2, g3, g4, g5, g6, g7⟩ := M.okP_bd hnow
 have hE := trivial
 have hfs := M.final_stores g
 refine Js.skip <| Js.seq <| zS <| Qf fh rfl <| Q0 0 rfl rfl rfl <| Qh rfl rfl <| JL.nil ?_
 refine zi (fun h8 h8' => ?_) fun h8 h8' => ?_
 ·
  have hE2 := M.winner_r hz (by simpa using h8)
  refine zS <| Qf fh rfl <| Q0 0 rfl rfl rfl <| Qs rfl rfl <| Qa rfl <| Qa rfl <| JL.nil ?_
  refine zR (Up.refl _ _) ?_
  first | (rw [hE2, hz]; rfl) | (rw [hE]; rfl)
 have q1 : ¬ 0 ≤ g.resigned := by simpa using h8
 refine Js.skip <| zS <| zp rfl (fun w hw => c_spec_l09Final g (ok_ hw) (r0 := hnow)) ?_
 intro u9 x9 A10 c10 h10 bl10 bh10 A11 c11 h11 bl11 bh11
 refine za zeh fun b12 => zw 0 rfl rfl rfl ?_
 refine zJ <| Js.block <| Js.seq ?_
 refine zdr [] ?_
 refine JH.p 0 rfl (p_fieldAddr fld_39_1.h rfl) ?_
 refine JH.q 1 rfl (q_load1 ty_27.h rfl (Mem.box (i := 0) rfl rfl)) ?_
 obtain ⟨b13, o13, he13, hc13⟩ := ints_elem h11 (i := 0) (by omega)
 refine JH.p 2 rfl (p_indexAddr el_27 rfl rfl (by omega) (by omega) he13) ?_
 refine JH.w 3 rfl (fun os' u' hv => q_load1 ty_2.h rfl (Mem.pub (hc13.vis hv))) ?_
 refine JH.p 4 rfl (p_fieldAddr fld_39_1.h rfl) ?_
 refine JH.q 5 rfl (q_load1 ty_27.h rfl (Mem.box (i := 0) rfl rfl)) ?_
 obtain ⟨b14, o14, he14, hc14⟩ := ints_elem h11 (i := 1) (by omega)
 refine JH.p 6 rfl (p_indexAddr el_27 rfl rfl (by omega) (by omega) he14) ?_
 refine JH.w 7 rfl (fun os' u' hv => q_load1 ty_2.h rfl (Mem.pub (hc14.vis hv))) ?_
 refine JH.p 8 rfl (p_gtr rfl rfl) ?_
 refine JH.p 9 rfl (p_assign rfl) ?_
 refine yd ?_
 refine zi (fun h15 h15' => ?_) fun h15 h15' => ?_
 ·
  have hE2 := M.winner_0 hz q1 (by simpa using h15)
  refine zS <| Qa rfl <| Qa rfl <| JL.nil ?_
  refine zR x9 ?_
  first | (rw [hE2, hz]; rfl) | (rw [hE]; rfl)
 have q2 : ¬ M.nth (M.final g).stores 1 < M.nth (M.final g).stores 0 := by simpa using h15
 refine Js.seq ?_
 refine zdr [] ?_
 refine JH.p 0 rfl (p_fieldAddr fld_39_1.h rfl) ?_
 refine JH.q 1 rfl (q_load1 ty_27.h rfl (Mem.box (i := 0) rfl rfl)) ?_
 obtain ⟨b16, o16, he16, hc16⟩ := ints_elem h11 (i := 0) (by omega)
 refine JH.p 2 rfl (p_indexAddr el_27 rfl rfl (by omega) (by omega) he16) ?_
 refine JH.w 3 rfl (fun os' u' hv => q_load1 ty_2.h rfl (Mem.pub (hc16.vis hv))) ?_
 refine JH.p 4 rfl (p_fieldAddr fld_39_1.h rfl) ?_
 refine JH.q 5 rfl (q_load1 ty_27.h rfl (Mem.box (i := 0) rfl rfl)) ?_
 obtain ⟨b17, o17, he17, hc17⟩ := ints_elem h11 (i := 1) (by omega)
 refine JH.p 6 rfl (p_indexAddr el_27 rfl rfl (by omega) (by omega) he17) ?_
 refine JH.w 7 rfl (fun os' u' hv => q_load1 ty_2.h rfl (Mem.pub (hc17.vis hv))) ?_
 refine JH.p 8 rfl (p_lss rfl rfl) ?_
 refine JH.p 9 rfl (p_assign rfl) ?_
 refine yd ?_
 refine zi (fun h18 h18' => ?_) fun h18 h18' => ?_
 ·
  have hE2 := M.winner_1 hz q1 q2 (by simpa using h18)
  refine zS <| Qa rfl <| Qa rfl <| JL.nil ?_
  refine zR x9 ?_
  first | (rw [hE2, hz]; rfl) | (rw [hE]; rfl)
 have hE2 := M.winner_n hz q1 q2 (by simpa using h18)
 refine Js.skip <| Js.blockEnd <| zS <| Qa rfl <| Qa rfl <| JL.nil ?_
 refine zR x9 ?_
 first | (rw [hE2, hz]; rfl) | (rw [hE]; rfl)

end Go.Proofs.YtcmfnlleikcpnaaGreat

namespace Go.Proofs.YtcmfnlleikcpnaaGreat
open Go.RowKit

set_option maxHeartbeats 1000000 in
theorem c_spec_l20Score (p wn : Int) {w : World}  : RetV Tryz.prog 85 [.int .i64 p, .int .i64 wn] w (.int .i64 (M.scS p wn)) := by
 refine enter @Tryz.func85 @Tryz.ntmps85 rfl rfl ?_
 refine zent ?_
 refine zS <| Qa rfl <| zJ <| zS <| Qm rfl <| JL.nil <| Js.block <| zS <| Qe rfl rfl <| Qa rfl <| JL.nil ?_
 refine zi (fun h1 h1' => ?_) fun h1 h1' => ?_
 ·
  refine zS <| Qa rfl <| JL.nil ?_
  refine zR (Up.refl _ _) ?_
  simp_all [M.scS, outV]
 refine zS <| Qm rfl <| Qe rfl rfl <| Qa rfl <| JL.nil ?_
 refine zi (fun h2 h2' => ?_) fun h2 h2' => ?_
 ·
  refine zS <| Qa rfl <| JL.nil ?_
  refine zR (Up.refl _ _) ?_
  simp_all [M.scS, outV]
 refine Js.skip <| Js.blockEnd <| zS <| Qa rfl <| JL.nil ?_
 refine zR (Up.refl _ _) ?_
 simp_all [M.scS, outV]

set_option maxHeartbeats 4000000 in
theorem c_spec_AddGame (b : M.Boo) {v_b : Value} (g : M.Gam) {v_g : Value} {w : World} (h_b : (Ty.agg (cBook b)).ok w v_b) (h_g : (Ty.agg (cGame g)).ok w v_g) (r0 : b.entries.length + M.totE b.entries ≤ 1048576 := by exact om_) (r1 : g.start.pits.length ≤ 4194304 := by exact om_) (r2 : g.start.stores.length ≤ 4194304 := by exact om_) (r3 : g.moves.length ≤ 4194304 := by exact om_) (r4 : g.now.pits.length ≤ 4194304 := by exact om_) (r5 : g.now.stores.length ≤ 4194304 := by exact om_) : Ret Tryz.prog 25 [v_b, v_g] w (Ty.tup [Ty.agg (cBook ((M.addGame b g).1)), Ty.int ((M.addGame b g).2)]) := by
 have sb := M.totE_small (es := b.entries) (n := 4194304) (by omega)
 revert v_b; apply opn
 intro A1 c1 h1 bl1 bh1
 revert v_g; apply opn
 intro A2 c2 h2 bl2 bh2 A3 c3 h3 bl3 bh3 A4 c4 h4 bl4 bh4 A5 c5 h5 bl5 bh5 A6 c6 h6 bl6 bh6
 refine enter @Tryz.func25 @Tryz.ntmps25 rfl rfl ?_
 refine zent ?_
 refine zS <| zb rfl fun b7 => zb rfl fun b8 => za zeh fun b9 => Qa rfl <| zJ <| zS <| zv rfl (fun w hw => c_spec_l20Ok b (ok_ hw) (r1 := sb)) <| Qt rfl <| Qm rfl <| zgv (Gd.f1 rfl rfl rfl) (fun hc => rfl) (fun hc => (fun w hw => c_spec_l08Ok g (ok_ hw) (r0 := (by have hc9 := hc; (try simp only [Bool.not_eq_true', Bool.not_eq_false'] at hc9); omega)) (r1 := (by have hc9 := hc; (try simp only [Bool.not_eq_true', Bool.not_eq_false'] at hc9); omega)) (r2 := (by have hc9 := hc; (try simp only [Bool.not_eq_true', Bool.not_eq_false'] at hc9); omega)) (r3 := (by have hc9 := hc; (try simp only [Bool.not_eq_true', Bool.not_eq_false'] at hc9); omega)) (r4 := (by have hc9 := hc; (try simp only [Bool.not_eq_true', Bool.not_eq_false'] at hc9); omega)))) ?_
 refine zg (Gd.f1 rfl rfl rfl) (fun hc => p_not (gh hc rfl)) <| Qq (p_pickOr rfl rfl rfl) <| JL.nil ?_
 refine zi (fun h10 h10' => ?_) fun h10 h10' => ?_
 ·
  have hno : ¬ (M.okB b = true ∧ M.okG g = true) := by have h9 := h10; rintro ⟨a1, a2⟩; rw [a1, a2] at h9; simp at h9
  have hP := M.addGame_1 hno
  have hq0 : 0 = (((M.addGame b g).1).rules).pits := by first | (rw [hP]; done) | (rw [hP]; rfl)
  have hq1 : 0 = (((M.addGame b g).1).rules).seeds := by first | (rw [hP]; done) | (rw [hP]; rfl)
  have hq2 : false = (((M.addGame b g).1).rules).stores := by first | (rw [hP]; done) | (rw [hP]; rfl)
  have hq3 : false = (((M.addGame b g).1).rules).skip := by first | (rw [hP]; done) | (rw [hP]; rfl)
  have hq4 : false = (((M.addGame b g).1).rules).relay := by first | (rw [hP]; done) | (rw [hP]; rfl)
  have hq5 : false = (((M.addGame b g).1).rules).feed := by first | (rw [hP]; done) | (rw [hP]; rfl)
  have hq6 : false = (((M.addGame b g).1).rules).again := by first | (rw [hP]; done) | (rw [hP]; rfl)
  have hq7 : 0 = (((M.addGame b g).1).rules).capture := by first | (rw [hP]; done) | (rw [hP]; rfl)
  have hq8 : 0 = (((M.addGame b g).1).rules).slam := by first | (rw [hP]; done) | (rw [hP]; rfl)
  have hq9 : [] = ((M.addGame b g).1).entries := by first | (rw [hP]; done) | (rw [hP]; rfl)
  have hq10 : 1 = (M.addGame b g).2 := by first | (rw [hP]; done) | (rw [hP]; rfl)
  refine zS <| Qb ?_
  refine zw 0 rfl rfl rfl ?_
  refine Qa rfl <| JL.nil ?_
  exact zro (Up.refl _ _)
 have hok : M.okB b = true ∧ M.okG g = true := by have h9 := h10; simpa using h9
 obtain ⟨k1, k2, k3, k4, k5, k6, k7, k8, k9⟩ := M.okG_parts hok.2
 (have k12 : (M.hist g.start (M.runs g.rules g.start g.moves)).length = g.moves.length + 1 := by rw [M.hist_length, k8])
 refine Js.skip <| zS <| Q9 1 rfl rfl ?_
 refine zv rfl (fun w hw => c_spec_WinnerOf g (ok_ hw)) <| Qm rfl <| Qx rfl rfl <| Qx rfl rfl <| Qa rfl <| Qa rfl <| zJ <| zS <| Qm rfl <| Qd rfl rfl <| Qm rfl <| zg (Gd.f1 rfl rfl rfl) (fun hc => p_fieldAddr fld_37_0.h rfl) <| zgq (Gd.f1 rfl rfl rfl) (fun hc => L9 2 (gh hc rfl) rfl) <| zg (Gd.f1 rfl rfl rfl) (fun hc => p_fieldAddr fld_56_0.h rfl) ?_
 refine zgq (Gd.f1 rfl rfl rfl) (fun hc => L9 1 (gh hc rfl) rfl) <| zg (Gd.f1 rfl rfl rfl) (fun hc => p_neqS (by kernel_rfl) (fun w => eqs_Rules b.rules g.rules w) (gh hc rfl) (gh hc rfl)) <| Qq (p_pickOr rfl rfl rfl) <| JL.nil ?_
 refine zi (fun h11 h11' => ?_) fun h11 h11' => ?_
 ·
  have hne : ¬ (M.endC g = 0 ∧ g.rules = b.rules) := by have h9 := h11; rintro ⟨a1, a2⟩; rw [a1, a2] at h9; simp at h9
  have hP := M.addGame_6 hok hne
  have hq0 : 0 = (((M.addGame b g).1).rules).pits := by first | (rw [hP]; done) | (rw [hP]; rfl)
  have hq1 : 0 = (((M.addGame b g).1).rules).seeds := by first | (rw [hP]; done) | (rw [hP]; rfl)
  have hq2 : false = (((M.addGame b g).1).rules).stores := by first | (rw [hP]; done) | (rw [hP]; rfl)
  have hq3 : false = (((M.addGame b g).1).rules).skip := by first | (rw [hP]; done) | (rw [hP]; rfl)
  have hq4 : false = (((M.addGame b g).1).rules).relay := by first | (rw [hP]; done) | (rw [hP]; rfl)
  have hq5 : false = (((M.addGame b g).1).rules).feed := by first | (rw [hP]; done) | (rw [hP]; rfl)
  have hq6 : false = (((M.addGame b g).1).rules).again := by first | (rw [hP]; done) | (rw [hP]; rfl)
  have hq7 : 0 = (((M.addGame b g).1).rules).capture := by first | (rw [hP]; done) | (rw [hP]; rfl)
  have hq8 : 0 = (((M.addGame b g).1).rules).slam := by first | (rw [hP]; done) | (rw [hP]; rfl)
  have hq9 : [] = ((M.addGame b g).1).entries := by first | (rw [hP]; done) | (rw [hP]; rfl)
  have hq10 : 6 = (M.addGame b g).2 := by first | (rw [hP]; done) | (rw [hP]; rfl)
  refine zS <| Qb ?_
  refine zw 0 rfl rfl rfl ?_
  refine Qa rfl <| JL.nil ?_
  exact zro (Up.refl _ _)
 have he : M.endC g = 0 ∧ g.rules = b.rules := by have h9 := h11; simp at h9; exact ⟨h9.1, h9.2.symm⟩
 refine Js.skip <| zS <| zc rfl (fun w hw => c_spec_l20Copy b (ok_ hw) (r1 := sb)) ?_
 intro A13 c13 vs13 f13 bl13 bh13
 refine za zeh fun b14 => zw 0 rfl rfl rfl ?_
 refine zN <| Qf fh rfl <| Qf fh rfl <| Qf fh rfl <| Q0 4 rfl rfl rfl <| zp rfl (fun w hw => c_spec_l08Run g.rules g.start g.moves ⟨_, _, [.int .i64 g.rules.pits, .int .i64 g.rules.seeds, .bool g.rules.stores, .bool g.rules.skip, .bool g.rules.relay, .bool g.rules.feed, .bool g.rules.again, .int .i64 g.rules.capture, .int .i64 g.rules.slam], rfl, ⟨rfl, rfl, rfl, rfl, rfl, rfl, rfl, rfl, rfl, trivial⟩, Mem.boxR (i := 4) rfl 0 9 _ hw⟩ ⟨_, _, [.slice A2 g.start.pits.length c2, .slice A3 g.start.stores.length c3, .int .i64 g.start.player], rfl, ⟨(ok_ hw), (ok_ hw), rfl, trivial⟩, Mem.boxR (i := 4) rfl 9 3 _ hw⟩ (ok_ hw)) ?_
 intro u15 x15 A16 c16 h16 bl16 bh16 A17 c17 h17 bl17 bh17
 refine Qm rfl <| Qx rfl rfl <| Qx rfl rfl <| Qa rfl <| Qa rfl <| zJ <| zS <| Qa rfl <| JL.nil <| Js.block ?_
 refine zl [3, 4, 6, 8, 9] (fun F U l os u m => ∃ (k : Nat) (acc : List M.Ent) (A18_8_9 : Option Addr) (c18_8_9 : Nat) (g18_8_9 : List Nat) (vs18_8_9 : List Value) (fl18_8_9 : List Nat), l = F [(11, .int .i64 (k : Int))] ∧ os = U [some (boxO b14 [.int .i64 b.rules.pits, .int .i64 b.rules.seeds, .bool b.rules.stores, .bool b.rules.skip, .bool b.rules.relay, .bool b.rules.feed, .bool b.rules.again, .int .i64 b.rules.capture, .int .i64 b.rules.slam, .slice A18_8_9 acc.length c18_8_9] 37), some (rowO 89 2 (.slice A18_8_9 acc.length c18_8_9) acc.length vs18_8_9 g18_8_9), some (ownC (lBookEntry acc) vs18_8_9 fl18_8_9)] ∧ (acc = M.gmE g b.entries ((M.gmL g).take k)) ∧ (k ≤ g.moves.length) ∧ (k ≤ 20) ∧ (M.MI k acc) ∧ (acc.length ≤ c18_8_9) ∧ (c18_8_9 ≤ 9223372036854775807) ∧ m = 20 - k) ⟨0, b.entries, _, _, _, _, _, rfl, rfl, by rfl, zt, zt, by exact M.MI_0 hok.1 r0, zu, zu, rfl⟩ ?_
 rintro _ _ u18 _ ⟨k, acc, A18_8_9, c18_8_9, g18_8_9, vs18_8_9, fl18_8_9, rfl, rfl, hA, hk, hk2, hI, f18_4, f18_5, rfl⟩ x18
 refine zn ?_
 refine Js.seq <| zS <| Qm rfl <| Qf fh rfl <| Q0 4 rfl rfl rfl <| Qz rfl <| Ql rfl rfl <| Qm rfl <| zg (Gd.t1 rfl rfl rfl) (fun hc => p_move rfl) <| zg (Gd.t1 rfl rfl rfl) (fun hc => p_lss (gh hc rfl) rfl) <| Qq (p_pickAnd rfl rfl rfl) <| JL.nil ?_
 refine zi (fun h19 h19' => ?_) fun h19 h19' => ?_
 ·
  have hkm : k < g.moves.length := by have := h19'; omega
  have hk20 : k < 20 := by have := h19'; omega
  obtain ⟨ye20, hye20⟩ : ∃ x, (M.hist g.start (M.runs g.rules g.start g.moves))[k]? = some x := ⟨_, List.getElem?_eq_getElem (by omega)⟩
  have hyk := M.hist_ok hok.2 hye20; have hyl := M.okP_len hyk; have hv := M.viewP_16 hyk; have hs9 := M.scS_eq (g := g) hyk; have hs8 := M.scS_bd ye20.player (M.winner g); have hA2 := M.gmE_step (es := b.entries) (show (M.playedP g)[k]? = some ye20 by rw [k6]; exact hye20) hkm hk20; rw [← hA, ← hs9] at hA2; have hA3 := hA2.symm
  have hq := hI.req (by omega)
  have hy21 := hye20
  obtain ⟨b21, o21, A21_0, c21_0, A21_1, c21_1, he21, hr21, h21_0, h21_1, bl21_0, bh21_0, bl21_1, bh21_1⟩ := elem_Position (Ty.mono _ h16 x18.vis) hy21
  refine Js.skip <| Js.seq <| Js.block <| zS <| Qm rfl <| Qm rfl <| Qq (p_indexAddr el_126 rfl rfl (by omega) (by omega) he21) <| Qa rfl <| JL.nil ?_
  refine zdr [16] ?_
  refine JH.p 0 rfl (p_fieldAddr fld_56_0.h rfl) ?_
  refine JH.p 1 rfl (p_move rfl) ?_
  refine JH.p 4 rfl (p_fieldAddr fld_56_2.h rfl) ?_
  refine JH.q 5 rfl (q_load1 ty_27.h rfl (Mem.box (i := 4) rfl rfl)) ?_
  refine JH.p 6 rfl (p_move rfl) ?_
  obtain ⟨b22, o22, he22, hc22⟩ := ints_elem (Ty.mono _ h4 (x15.vis.trans x18.vis)) (i := k) (by omega)
  refine JH.p 7 rfl (p_indexAddr el_27 rfl rfl (by omega) (by omega) he22) ?_
  refine JH.w 8 rfl (fun os' u' hv => q_load1 ty_2.h rfl (Mem.pub (hc22.vis hv))) ?_
  refine JH.p 9 rfl (p_move rfl) ?_
  refine JH.p 10 rfl (p_nilCheck rfl) ?_
  refine JH.p 11 rfl (p_fieldAddr fld_39_2.h rfl) ?_
  refine JH.w 12 rfl (fun os' u' hv => q_load1 ty_2.h rfl (Mem.pub ((hr21.vis hv) 2 _ rfl))) ?_
  refine JH.p 13 rfl (p_move rfl) ?_
  refine y1 2 ?_
  refine yp rfl rfl (fun w hw => c_spec_l04View g.rules ye20 ⟨_, _, [.int .i64 g.rules.pits, .int .i64 g.rules.seeds, .bool g.rules.stores, .bool g.rules.skip, .bool g.rules.relay, .bool g.rules.feed, .bool g.rules.again, .int .i64 g.rules.capture, .int .i64 g.rules.slam], rfl, ⟨rfl, rfl, rfl, rfl, rfl, rfl, rfl, rfl, rfl, trivial⟩, Mem.boxR (i := 4) rfl 0 9 _ hw⟩ (ok_ hw) (r0 := (Or.inl hyk))) ?_
  intro u23 x23 A24 c24 h24 bl24 bh24 A25 c25 h25 bl25 bh25
  refine JH.p 3 rfl (p_field1 fld_39_0.h rfl rfl) ?_
  refine y1 14 ?_
  refine yv rfl rfl (fun w hw => c_spec_l20Score ye20.player (M.winner g)) ?_
  refine JH.p 15 rfl (q_bld) ?_
  refine y1 16 ?_
  refine yB 3 sp_ rfl rfl (fun w hb hw => c_spec_l20Add b.rules acc ((M.viewP g.rules ye20).pits) (M.Cho.mk (M.nth g.moves k) 1 (M.scS ye20.player (M.winner g))) hb (ok_ hw) (ok_ hw) (r1 := hq.2.1) (r2 := hq.2.2)) ?_
  rintro _ _ G26 ⟨A26b_9, c26b_9, g26b_9, vs26b_9, f26b_9, rfl, rfl, bl26_0, bl26_1⟩
  refine znh ?_
  refine yd ?_
  refine Js.blockEnd <| Js.region <| Qm rfl <| Qp rfl rfl <| Qa rfl <| JL.nil ?_
  refine zd [0, 0, 0, 1, 1, 1] rfl fun u27 x27 => ?_
  exact zag ⟨k + 1, M.addE acc ((M.viewP g.rules ye20).pits) (M.Cho.mk (M.nth g.moves k) 1 (M.scS ye20.player (M.winner g))), _, _, _, _, _, rfl, rfl, by exact hA3, by omega, by omega, by exact hI.step (by omega) (by simp) (by simp) hs8.1 (by have := hs8.2; simp only; omega), zu, zu, rfl⟩ ((x18.trans x23).trans x27)
 have hE9 : (M.Boo.mk b.rules acc) = M.gamB b g := by unfold M.gamB; rw [hA, M.gmL_end (by have := h19'; omega)]
 have hq := hI.req (by omega)
 refine zx ?_
 refine Js.seq ?_
 rcases Bool.eq_false_or_eq_true (M.okB (M.Boo.mk b.rules acc)) with h28 | h28
 ·
  refine Js.region <| Q9 0 rfl rfl ?_
  refine zxc (fun v => v = .tuple #[.agg #[.int .i64 b.rules.pits, .int .i64 b.rules.seeds, .bool b.rules.stores, .bool b.rules.skip, .bool b.rules.relay, .bool b.rules.feed, .bool b.rules.again, .int .i64 b.rules.capture, .int .i64 b.rules.slam, .slice A18_8_9 acc.length c18_8_9], .int .i64 0]) rfl (fun w hw => c_spec_l20Full (M.Boo.mk b.rules acc) (by exact ⟨_, rfl, ⟨rfl, rfl, rfl, rfl, rfl, rfl, rfl, rfl, rfl, (srow_ok lBookEntry (xs := acc) (hw.pr (i := 1) rfl) (hw.pr (i := 2) rfl) (lBookEntry_length _)), trivial⟩⟩) (r1 := hq.2.1)) (fun w9 v9 hw9 g9 => by rw [if_pos h28] at g9; exact g9) ?_
  rintro _ rfl
  have hP := M.addGame_0 hok he (by rw [← hE9]; exact h28); rw [← hE9] at hP
  have hq0 : b.rules.pits = (((M.addGame b g).1).rules).pits := by first | (rw [hP]; done) | (rw [hP]; rfl)
  have hq1 : b.rules.seeds = (((M.addGame b g).1).rules).seeds := by first | (rw [hP]; done) | (rw [hP]; rfl)
  have hq2 : b.rules.stores = (((M.addGame b g).1).rules).stores := by first | (rw [hP]; done) | (rw [hP]; rfl)
  have hq3 : b.rules.skip = (((M.addGame b g).1).rules).skip := by first | (rw [hP]; done) | (rw [hP]; rfl)
  have hq4 : b.rules.relay = (((M.addGame b g).1).rules).relay := by first | (rw [hP]; done) | (rw [hP]; rfl)
  have hq5 : b.rules.feed = (((M.addGame b g).1).rules).feed := by first | (rw [hP]; done) | (rw [hP]; rfl)
  have hq6 : b.rules.again = (((M.addGame b g).1).rules).again := by first | (rw [hP]; done) | (rw [hP]; rfl)
  have hq7 : b.rules.capture = (((M.addGame b g).1).rules).capture := by first | (rw [hP]; done) | (rw [hP]; rfl)
  have hq8 : b.rules.slam = (((M.addGame b g).1).rules).slam := by first | (rw [hP]; done) | (rw [hP]; rfl)
  have hq9 : acc = ((M.addGame b g).1).entries := by first | (rw [hP]; done) | (rw [hP]; rfl)
  have hq10 : 0 = (M.addGame b g).2 := by first | (rw [hP]; done) | (rw [hP]; rfl)
  refine Qx rfl rfl <| Qx rfl rfl <| zw 3 rfl rfl rfl ?_
  refine Qa rfl <| JL.nil ?_
  exact zro (x15.trans x18)
 refine Js.region <| Q9 0 rfl rfl ?_
 refine zxc (fun v => v = .tuple #[.agg #[.int .i64 0, .int .i64 0, .bool false, .bool false, .bool false, .bool false, .bool false, .int .i64 0, .int .i64 0, .slice none 0 0], .int .i64 5]) rfl (fun w hw => c_spec_l20Full (M.Boo.mk b.rules acc) (by exact ⟨_, rfl, ⟨rfl, rfl, rfl, rfl, rfl, rfl, rfl, rfl, rfl, (srow_ok lBookEntry (xs := acc) (hw.pr (i := 1) rfl) (hw.pr (i := 2) rfl) (lBookEntry_length _)), trivial⟩⟩) (r1 := hq.2.1)) (fun w9 v9 hw9 g9 => by rw [if_neg (by simp [h28])] at g9; exact g9) ?_
 rintro _ rfl
 have hP := M.addGame_5 hok he (by rw [← hE9, h28]; simp)
 have hq0 : 0 = (((M.addGame b g).1).rules).pits := by first | (rw [hP]; done) | (rw [hP]; rfl)
 have hq1 : 0 = (((M.addGame b g).1).rules).seeds := by first | (rw [hP]; done) | (rw [hP]; rfl)
 have hq2 : false = (((M.addGame b g).1).rules).stores := by first | (rw [hP]; done) | (rw [hP]; rfl)
 have hq3 : false = (((M.addGame b g).1).rules).skip := by first | (rw [hP]; done) | (rw [hP]; rfl)
 have hq4 : false = (((M.addGame b g).1).rules).relay := by first | (rw [hP]; done) | (rw [hP]; rfl)
 have hq5 : false = (((M.addGame b g).1).rules).feed := by first | (rw [hP]; done) | (rw [hP]; rfl)
 have hq6 : false = (((M.addGame b g).1).rules).again := by first | (rw [hP]; done) | (rw [hP]; rfl)
 have hq7 : 0 = (((M.addGame b g).1).rules).capture := by first | (rw [hP]; done) | (rw [hP]; rfl)
 have hq8 : 0 = (((M.addGame b g).1).rules).slam := by first | (rw [hP]; done) | (rw [hP]; rfl)
 have hq9 : [] = ((M.addGame b g).1).entries := by first | (rw [hP]; done) | (rw [hP]; rfl)
 have hq10 : 5 = (M.addGame b g).2 := by first | (rw [hP]; done) | (rw [hP]; rfl)
 refine Qx rfl rfl <| Qx rfl rfl <| zw 3 rfl rfl rfl ?_
 refine Qa rfl <| JL.nil ?_
 exact zro (x15.trans x18)

end Go.Proofs.YtcmfnlleikcpnaaGreat

namespace Go.Proofs.YtcmfnlleikcpnaaGreat
open Go.RowKit

set_option maxHeartbeats 1000000 in
theorem c_laws_szInt64S (a : List Int) {v_a : Value} (left : Int) {w : World} (h_a : (Ty.ints 2 a).ok w v_a) (r0 : -1 ≤ left := by exact om_) (r1 : left ≤ 1048576 := by exact om_) : RetV Tryz.prog 53 [v_a, .int .i64 left] w (.int .i64 (M.szL a.length left)) := by
 have q1 := M.szL_cases a.length left
 revert v_a; apply opn
 intro A1 c1 h1 bl1 bh1
 have h_a := h1
 refine enter @Tryz.func53 @Tryz.ntmps53 rfl rfl ?_
 refine zent ?_
 refine zS <| Qa rfl <| zN <| Qm rfl <| Qm rfl <| Qz rfl <| Qs rfl rfl <| Qa rfl <| zJ <| zS <| Qm rfl <| Ql rfl rfl <| JL.nil ?_
 refine zi (fun h2 h2' => ?_) fun h2 h2' => ?_
 ·
  refine zS <| Qa rfl <| JL.nil ?_
  refine zR (Up.refl _ _) ?_
  refine congrArg (fun n => Ending.returned (Value.int .i64 n)) ?_; omega
 refine Js.skip <| zS <| Qm rfl <| Qa rfl <| JL.nil ?_
 refine zR (Up.refl _ _) ?_
 refine congrArg (fun n => Ending.returned (Value.int .i64 n)) ?_; omega

set_option maxHeartbeats 1000000 in
theorem c_laws_szPosition (a : M.Pos) {v_a : Value} (left : Int) {w : World} (h_a : (Ty.agg (cPosition a)).ok w v_a) (r0 : -1 ≤ left := by exact om_) (r1 : left ≤ 1048576 := by exact om_) : RetV Tryz.prog 9 [v_a, .int .i64 left] w (.int .i64 (M.szP a left)) := by
 have q1 := M.szL_cases a.pits.length left
 have q2 := M.szL_cases a.stores.length (M.szL a.pits.length left)
 have q3 := M.szL_cases (a.pits.length + a.stores.length) left
 revert v_a; apply opn
 intro A1 c1 h1 bl1 bh1 A2 c2 h2 bl2 bh2
 refine enter @Tryz.func9 @Tryz.ntmps9 rfl rfl ?_
 refine zent ?_
 refine zS <| zb rfl fun b3 => Qa rfl <| zN <| Qf fh rfl <| Q0 0 rfl rfl rfl <| Qm rfl <| zv rfl (fun w hw => c_laws_szInt64S a.pits left (ok_ hw)) <| Qa rfl <| zJ <| zS <| Qm rfl <| Ql rfl rfl <| JL.nil ?_
 refine zi (fun h4 h4' => ?_) fun h4 h4' => ?_
 ·
  refine zS <| Qa rfl <| JL.nil ?_
  refine zR (Up.refl _ _) ?_
  refine congrArg (fun n => Ending.returned (Value.int .i64 n)) ?_; unfold M.szP; omega
 refine Js.skip <| zS <| Qf fh rfl <| Q0 0 rfl rfl rfl <| Qm rfl <| zv rfl (fun w hw => c_laws_szInt64S a.stores (M.szL a.pits.length left) (ok_ hw)) <| Qa rfl <| zJ <| zS <| Qm rfl <| Ql rfl rfl <| JL.nil ?_
 refine zi (fun h5 h5' => ?_) fun h5 h5' => ?_
 ·
  refine zS <| Qa rfl <| JL.nil ?_
  refine zR (Up.refl _ _) ?_
  refine congrArg (fun n => Ending.returned (Value.int .i64 n)) ?_; unfold M.szP; omega
 refine Js.skip <| zS <| Qm rfl <| Qa rfl <| JL.nil ?_
 refine zR (Up.refl _ _) ?_
 refine congrArg (fun n => Ending.returned (Value.int .i64 n)) ?_; unfold M.szP; omega

set_option maxHeartbeats 1000000 in
theorem c_laws_szGame (a : M.Gam) {v_a : Value} (left : Int) {w : World} (h_a : (Ty.agg (cGame a)).ok w v_a) (r0 : -1 ≤ left := by exact om_) (r1 : left ≤ 1048576 := by exact om_) : RetV Tryz.prog 24 [v_a, .int .i64 left] w (.int .i64 (M.szG a left)) := by
 have q1 := M.szL_cases (a.start.pits.length + a.start.stores.length) left
 have q2 := M.szL_cases a.moves.length (M.szP a.start left)
 have q3 := M.szL_cases (a.now.pits.length + a.now.stores.length) (M.szL a.moves.length (M.szP a.start left))
 have q4 := M.szL_cases (a.start.pits.length + a.start.stores.length + a.moves.length + a.now.pits.length + a.now.stores.length) left
 change (left < _ ∧ M.szP a.start left = -1) ∨ (_ ≤ left ∧ M.szP a.start left = left - _) at q1
 change (_ < _ ∧ M.szP a.now _ = -1) ∨ (_ ≤ _ ∧ M.szP a.now _ = _) at q3
 revert v_a; apply opn
 intro A1 c1 h1 bl1 bh1 A2 c2 h2 bl2 bh2 A3 c3 h3 bl3 bh3 A4 c4 h4 bl4 bh4 A5 c5 h5 bl5 bh5
 refine enter @Tryz.func24 @Tryz.ntmps24 rfl rfl ?_
 refine zent ?_
 refine zS <| zb rfl fun b6 => Qa rfl <| zN <| Qf fh rfl <| Q9 0 rfl rfl ?_
 refine Qm rfl <| zv rfl (fun w hw => c_laws_szPosition a.start left (ok_ hw)) <| Qa rfl <| zJ <| zS <| Qm rfl <| Ql rfl rfl <| JL.nil ?_
 refine zi (fun h7 h7' => ?_) fun h7 h7' => ?_
 ·
  refine zS <| Qa rfl <| JL.nil ?_
  refine zR (Up.refl _ _) ?_
  refine congrArg (fun n => Ending.returned (Value.int .i64 n)) ?_; unfold M.szG; omega
 refine Js.skip <| zS <| Qf fh rfl <| Q0 0 rfl rfl rfl <| Qm rfl <| zv rfl (fun w hw => c_laws_szInt64S a.moves (M.szP a.start left) (ok_ hw)) <| Qa rfl <| zJ <| zS <| Qm rfl <| Ql rfl rfl <| JL.nil ?_
 refine zi (fun h8 h8' => ?_) fun h8 h8' => ?_
 ·
  refine zS <| Qa rfl <| JL.nil ?_
  refine zR (Up.refl _ _) ?_
  refine congrArg (fun n => Ending.returned (Value.int .i64 n)) ?_; unfold M.szG; omega
 refine Js.skip <| zS <| Qf fh rfl <| Q9 0 rfl rfl ?_
 refine Qm rfl <| zv rfl (fun w hw => c_laws_szPosition a.now (M.szL a.moves.length (M.szP a.start left)) (ok_ hw)) <| Qa rfl <| zJ <| zS <| Qm rfl <| Ql rfl rfl <| JL.nil ?_
 refine zi (fun h9 h9' => ?_) fun h9 h9' => ?_
 ·
  refine zS <| Qa rfl <| JL.nil ?_
  refine zR (Up.refl _ _) ?_
  refine congrArg (fun n => Ending.returned (Value.int .i64 n)) ?_; unfold M.szG; omega
 refine Js.skip <| zS <| Qm rfl <| Qa rfl <| JL.nil ?_
 refine zR (Up.refl _ _) ?_
 refine congrArg (fun n => Ending.returned (Value.int .i64 n)) ?_; unfold M.szG; omega

set_option maxHeartbeats 1000000 in
theorem c_laws_toInt64S (a : List Int) {v_a : Value} {w : World} (h_a : (Ty.ints 2 a).ok w v_a) (r0 : a.length ≤ 4194304 := by exact om_) : Ret Tryz.prog 62 [v_a] w (Ty.ints 2 a) := by
 revert v_a; apply opn
 intro A1 c1 h1 bl1 bh1
 have h_a := h1
 refine enter @Tryz.func62 @Tryz.ntmps62 rfl rfl ?_
 refine zent ?_
 refine zS <| Qa rfl <| zN <| Qm rfl <| Qz rfl <| zmk (a0 := (a.length : Int)) (m := a.length) (by omega) (by omega) fun b2 => Qa rfl <| zJ <| zS <| Qa rfl <| JL.nil <| Js.block ?_
 refine zl [0, 3] (fun F U l os u m => ∃ (k : Nat) (xs : List Int), l = F [(4, .int .i64 (k : Int))] ∧ os = U [some (rowO 2 1 (.slice (some ⟨b2, 0, none⟩) a.length a.length) a.length (ints_ xs) [])] ∧ (xs = M.cp a k) ∧ (k ≤ a.length) ∧ (xs.length = a.length) ∧ m = a.length - k) ⟨0, List.replicate a.length 0, rfl, rfl, by exact M.cp_zero a, zt, by simp, rfl⟩ ?_
 rintro _ _ u3 _ ⟨k, xs, rfl, rfl, hX, hk, hl, rfl⟩ x3
 refine zn ?_
 refine Js.seq <| zS <| Qm rfl <| Qm rfl <| Qz rfl <| Ql rfl rfl <| JL.nil ?_
 refine zi (fun h4 h4' => ?_) fun h4 h4' => ?_
 ·
  obtain ⟨b5, o5, he5, hc5⟩ := ints_elem (Ty.mono _ h1 x3.vis) (i := k) (by omega)
  refine Js.skip <| Js.seq <| Js.block <| Js.region <| Qm rfl <| Qm rfl <| Qm rfl <| Qm rfl <| Qq (p_indexAddr el_27 rfl rfl (by omega) (by omega) he5) <| QC hc5 rfl <| Qq (p_indexAddr el_27 rfl rfl (by omega) (by omega) rfl) ?_
  refine JL.s (e_storeRow (i := 0) (xs' := ints_ (xs.set k (M.nth a k))) ty_2.h rfl rfl rfl rfl rfl rfl (ints_lt (i := k) (by omega)) (ints_setL (i := k) (by omega))) ?_
  rintro _ _ _ ⟨rfl, rfl⟩ _
  refine znl ?_
  refine JL.nil <| Js.blockEnd <| Js.region <| Qm rfl <| Qp rfl rfl <| Qa rfl <| JL.nil ?_
  exact zag ⟨k + 1, xs.set k (M.nth a k), rfl, rfl, by rw [hX]; exact M.cp_step (by omega), zt, by rw [List.length_set]; exact hl, rfl⟩ x3
 have hE : xs = a := by rw [hX]; exact M.cp_all a (by have := h4'; omega)
 refine zx ?_
 have hq0 : xs = a := by exact hE
 refine zS <| Qm rfl <| Qa rfl <| JL.nil ?_
 exact zro x3

set_option maxHeartbeats 1000000 in
theorem c_laws_toPosition (a : M.Pos) {v_a : Value} {w : World} (h_a : (Ty.agg (cPosition a)).ok w v_a) (r0 : a.pits.length ≤ 4194304 := by exact om_) (r1 : a.stores.length ≤ 4194304 := by exact om_) : Ret Tryz.prog 12 [v_a] w (Ty.agg (cPosition a)) := by
 revert v_a; apply opn
 intro A1 c1 h1 bl1 bh1 A2 c2 h2 bl2 bh2
 refine enter @Tryz.func12 @Tryz.ntmps12 rfl rfl ?_
 refine zent ?_
 refine zS <| zb rfl fun b3 => za zeh fun b4 => zN <| za zeh fun b5 => zN <| Qf fh rfl <| Q0 2 rfl rfl rfl <| zcs rfl (fun w hw => c_laws_toInt64S a.pits (ok_ hw)) ?_
 intro A6 c6 bl6 bh6
 refine Qf fh rfl <| zw 1 rfl rfl rfl ?_
 refine zN <| Qf fh rfl <| Q0 3 rfl rfl rfl <| zcs rfl (fun w hw => c_laws_toInt64S a.stores (ok_ hw)) ?_
 intro A7 c7 bl7 bh7
 refine Qf fh rfl <| zw 2 rfl rfl rfl ?_
 refine zN <| Qf fh rfl <| Q0 4 rfl rfl rfl <| Qf fh rfl <| zw 2 rfl rfl rfl ?_
 refine zN <| Q9 2 rfl rfl ?_
 refine zw 3 rfl rfl rfl ?_
 refine JL.nil ?_
 exact zro (Up.refl _ _)

set_option maxHeartbeats 8000000 in
theorem c_laws_toRules (a : M.Rul) {v_a : Value} {w : World} (h_a : (Ty.agg (cRules a)).ok w v_a) : Ret Tryz.prog 60 [v_a] w (Ty.agg (cRules a)) := by
 revert v_a; apply opn
 refine enter @Tryz.func60 @Tryz.ntmps60 rfl rfl ?_
 refine zent ?_
 refine zS <| zb rfl fun b1 => za zeh fun b2 => zN <| za zeh fun b3 => zN <| Qf fh rfl <| Q0 2 rfl rfl rfl <| Qf fh rfl <| zw 0 rfl rfl rfl ?_
 refine zN <| Qf fh rfl <| Q0 2 rfl rfl rfl <| Qf fh rfl <| zw 0 rfl rfl rfl ?_
 refine zN <| Qf fh rfl <| Q0 2 rfl rfl rfl <| Qf fh rfl <| zw 0 rfl rfl rfl ?_
 refine zN <| Qf fh rfl <| Q0 2 rfl rfl rfl <| Qf fh rfl <| zw 0 rfl rfl rfl ?_
 refine zN <| Qf fh rfl <| Q0 2 rfl rfl rfl <| Qf fh rfl <| zw 0 rfl rfl rfl ?_
 refine zN <| Qf fh rfl <| Q0 2 rfl rfl rfl <| Qf fh rfl <| zw 0 rfl rfl rfl ?_
 refine zN <| Qf fh rfl <| Q0 2 rfl rfl rfl <| Qf fh rfl <| zw 0 rfl rfl rfl ?_
 refine zN <| Qf fh rfl <| Q0 2 rfl rfl rfl <| Qf fh rfl <| zw 0 rfl rfl rfl ?_
 refine zN <| Qf fh rfl <| Q0 2 rfl rfl rfl <| Qf fh rfl <| zw 0 rfl rfl rfl ?_
 refine zN <| Q9 0 rfl rfl ?_
 refine zw 1 rfl rfl rfl ?_
 refine JL.nil ?_
 exact zro (Up.refl _ _)

set_option maxHeartbeats 1000000 in
theorem c_laws_toGame (a : M.Gam) {v_a : Value} {w : World} (h_a : (Ty.agg (cGame a)).ok w v_a) (r0 : a.start.pits.length ≤ 4194304 := by exact om_) (r1 : a.start.stores.length ≤ 4194304 := by exact om_) (r2 : a.moves.length ≤ 4194304 := by exact om_) (r3 : a.now.pits.length ≤ 4194304 := by exact om_) (r4 : a.now.stores.length ≤ 4194304 := by exact om_) : Ret Tryz.prog 26 [v_a] w (Ty.agg (cGame a)) := by
 revert v_a; apply opn
 intro A1 c1 h1 bl1 bh1 A2 c2 h2 bl2 bh2 A3 c3 h3 bl3 bh3 A4 c4 h4 bl4 bh4 A5 c5 h5 bl5 bh5
 refine enter @Tryz.func26 @Tryz.ntmps26 rfl rfl ?_
 refine zent ?_
 refine zS <| zb rfl fun b6 => za zeh fun b7 => zN <| za zeh fun b8 => zN <| Qf fh rfl <| Q9 2 rfl rfl ?_
 refine zc rfl (fun w hw => c_laws_toRules a.rules (ok_ hw)) <| Qf fh rfl <| zw 0 rfl rfl rfl ?_
 refine zN <| Qf fh rfl <| Q9 2 rfl rfl ?_
 refine zc rfl (fun w hw => c_laws_toPosition a.start (ok_ hw)) ?_
 intro A11 c11 bl11 bh11 A12 c12 bl12 bh12
 refine Qf fh rfl <| zw 2 rfl rfl rfl ?_
 refine zN <| Qf fh rfl <| Q0 4 rfl rfl rfl <| zcs rfl (fun w hw => c_laws_toInt64S a.moves (ok_ hw)) ?_
 intro A13 c13 bl13 bh13
 refine Qf fh rfl <| zw 3 rfl rfl rfl ?_
 refine zN <| Qf fh rfl <| Q9 5 rfl rfl ?_
 refine zc rfl (fun w hw => c_laws_toPosition a.now (ok_ hw)) ?_
 intro A15 c15 bl15 bh15 A16 c16 bl16 bh16
 refine Qf fh rfl <| zw 5 rfl rfl rfl ?_
 refine zN <| Qf fh rfl <| Q0 7 rfl rfl rfl <| Qf fh rfl <| zw 5 rfl rfl rfl ?_
 refine zN <| Q9 5 rfl rfl ?_
 refine zw 6 rfl rfl rfl ?_
 refine JL.nil ?_
 exact zro (Up.refl _ _)

set_option maxHeartbeats 1000000 in
theorem c_laws_eqInt64S (a : List Int) {v_a : Value} (b : List Int) {v_b : Value} {w : World} (h_a : (Ty.ints 2 a).ok w v_a) (h_b : (Ty.ints 2 b).ok w v_b) (r0 : a.length ≤ 4194304 := by exact om_) (r1 : b.length ≤ 4194304 := by exact om_) : RetV Tryz.prog 14 [v_a, v_b] w (.bool (decide (a = b))) := by
 revert v_a; apply opn
 intro A1 c1 h1 bl1 bh1
 have h_a := h1
 revert v_b; apply opn
 intro A2 c2 h2 bl2 bh2
 have h_b := h2
 refine enter @Tryz.func14 @Tryz.ntmps14 rfl rfl ?_
 refine zent ?_
 refine zS <| Qa rfl <| zJ <| zS <| Qm rfl <| Qz rfl <| Qm rfl <| Qz rfl <| Qd rfl rfl <| JL.nil ?_
 refine zi (fun h3 h3' => ?_) fun h3 h3' => ?_
 ·
  have e1 : decide (a = b) = false := by simp; rintro rfl; simp at h3
  refine zS <| Qa rfl <| JL.nil ?_
  refine zR (Up.refl _ _) ?_
  simp [outV, e1]
 have hlen : a.length = b.length := by have := h3'; omega
 refine Js.skip <| Js.seq <| zS <| Qa rfl <| JL.nil <| Js.block ?_
 refine zl [0, 1] (fun F U l os u m => ∃ (k : Nat), l = F [(5, .int .i64 (k : Int))] ∧ os = U [] ∧ (k ≤ a.length) ∧ (M.Upto a b k) ∧ m = a.length - k) ⟨0, rfl, rfl, zt, by exact M.Upto.zero _ _, rfl⟩ ?_
 rintro _ _ u4 _ ⟨k, rfl, rfl, hk, hU, rfl⟩ x4
 refine zn ?_
 refine Js.seq <| zS <| Qm rfl <| Qm rfl <| Qz rfl <| Ql rfl rfl <| JL.nil ?_
 refine zi (fun h5 h5' => ?_) fun h5 h5' => ?_
 ·
  refine Js.skip <| Js.seq <| Js.block <| Js.seq ?_
  refine zdr [] ?_
  refine JH.p 0 rfl (p_move rfl) ?_
  refine JH.p 1 rfl (p_move rfl) ?_
  obtain ⟨b6, o6, he6, hc6⟩ := ints_elem (Ty.mono _ h1 x4.vis) (i := k) (by omega)
  refine JH.p 2 rfl (p_indexAddr el_27 rfl rfl (by omega) (by omega) he6) ?_
  refine JH.w 3 rfl (fun os' u' hv => q_load1 ty_2.h rfl (Mem.pub (hc6.vis hv))) ?_
  refine JH.p 4 rfl (p_move rfl) ?_
  refine JH.p 5 rfl (p_move rfl) ?_
  obtain ⟨b7, o7, he7, hc7⟩ := ints_elem (Ty.mono _ h2 x4.vis) (i := k) (by omega)
  refine JH.p 6 rfl (p_indexAddr el_27 rfl rfl (by omega) (by omega) he7) ?_
  refine JH.w 7 rfl (fun os' u' hv => q_load1 ty_2.h rfl (Mem.pub (hc7.vis hv))) ?_
  refine JH.p 8 rfl (p_neq rfl rfl) ?_
  refine yd ?_
  refine zi (fun h8 h8' => ?_) fun h8 h8' => ?_
  ·
   have e1 : decide (a = b) = false := by simpa using M.ne_of_nth (a := a) (b := b) (k := k) (by simpa using h8)
   refine zS <| Qa rfl <| JL.nil ?_
   refine zR x4 ?_
   simp [outV, e1]
  have hab : M.nth a k = M.nth b k := by simpa using h8
  refine Js.skip <| Js.blockEnd <| Js.region <| Qm rfl <| Qp rfl rfl <| Qa rfl <| JL.nil ?_
  exact zag ⟨k + 1, rfl, rfl, zt, by exact hU.step (by omega) (by omega) hab, rfl⟩ x4
 have e1 : a = b := hU.done (by omega) (by omega)
 refine zx ?_
 refine zS <| Qa rfl <| JL.nil ?_
 refine zR x4 ?_
 simp [outV, e1]

set_option maxHeartbeats 1000000 in
theorem c_laws_eqPosition (a : M.Pos) {v_a : Value} (b : M.Pos) {v_b : Value} {w : World} (h_a : (Ty.agg (cPosition a)).ok w v_a) (h_b : (Ty.agg (cPosition b)).ok w v_b) (r0 : a.pits.length ≤ 4194304 := by exact om_) (r1 : a.stores.length ≤ 4194304 := by exact om_) (r2 : b.pits.length ≤ 4194304 := by exact om_) (r3 : b.stores.length ≤ 4194304 := by exact om_) : RetV Tryz.prog 16 [v_a, v_b] w (.bool (decide (a = b))) := by
 revert v_a; apply opn
 intro A1 c1 h1 bl1 bh1 A2 c2 h2 bl2 bh2
 revert v_b; apply opn
 intro A3 c3 h3 bl3 bh3 A4 c4 h4 bl4 bh4
 refine enter @Tryz.func16 @Tryz.ntmps16 rfl rfl ?_
 refine zent ?_
 refine zS <| zb rfl fun b5 => zb rfl fun b6 => Qa rfl <| zJ <| zS <| Qf fh rfl <| Q0 1 rfl rfl rfl <| Qf fh rfl <| Q0 0 rfl rfl rfl <| zv rfl (fun w hw => c_laws_eqInt64S a.pits b.pits (ok_ hw) (ok_ hw)) <| Qt rfl <| JL.nil ?_
 refine zi (fun h7 h7' => ?_) fun h7 h7' => ?_
 ·
  have hne : a ≠ b := by rintro rfl; simp at h7
  refine zS <| Qa rfl <| JL.nil ?_
  refine zR (Up.refl _ _) ?_
  first | (rw [decide_eq_false hne]; rfl) | (rw [decide_eq_true (M.pos_ext q0 q1 q2)]; rfl)
 have q0 : a.pits = b.pits := by simpa using h7
 refine Js.skip <| Js.seq <| zS <| Qf fh rfl <| Q0 1 rfl rfl rfl <| Qf fh rfl <| Q0 0 rfl rfl rfl <| zv rfl (fun w hw => c_laws_eqInt64S a.stores b.stores (ok_ hw) (ok_ hw)) <| Qt rfl <| JL.nil ?_
 refine zi (fun h8 h8' => ?_) fun h8 h8' => ?_
 ·
  have hne : a ≠ b := by rintro rfl; simp at h8
  refine zS <| Qa rfl <| JL.nil ?_
  refine zR (Up.refl _ _) ?_
  first | (rw [decide_eq_false hne]; rfl) | (rw [decide_eq_true (M.pos_ext q0 q1 q2)]; rfl)
 have q1 : a.stores = b.stores := by simpa using h8
 refine Js.skip <| Js.seq <| zS <| Qf fh rfl <| Q0 1 rfl rfl rfl <| Qf fh rfl <| Q0 0 rfl rfl rfl <| Qd rfl rfl <| JL.nil ?_
 refine zi (fun h9 h9' => ?_) fun h9 h9' => ?_
 ·
  have hne : a ≠ b := by rintro rfl; simp at h9
  refine zS <| Qa rfl <| JL.nil ?_
  refine zR (Up.refl _ _) ?_
  first | (rw [decide_eq_false hne]; rfl) | (rw [decide_eq_true (M.pos_ext q0 q1 q2)]; rfl)
 have q2 : a.player = b.player := by simpa using h9
 refine Js.skip <| zS <| Qa rfl <| JL.nil ?_
 refine zR (Up.refl _ _) ?_
 first | (rw [decide_eq_false hne]; rfl) | (rw [decide_eq_true (M.pos_ext q0 q1 q2)]; rfl)

set_option maxHeartbeats 1000000 in
theorem c_laws_eqRules (a : M.Rul) {v_a : Value} (b : M.Rul) {v_b : Value} {w : World} (h_a : (Ty.agg (cRules a)).ok w v_a) (h_b : (Ty.agg (cRules b)).ok w v_b) : RetV Tryz.prog 68 [v_a, v_b] w (.bool (decide (a = b))) := by
 revert v_a; apply opn
 revert v_b; apply opn
 refine enter @Tryz.func68 @Tryz.ntmps68 rfl rfl ?_
 refine zent ?_
 refine zS <| zb rfl fun b1 => zb rfl fun b2 => Qa rfl <| zJ <| zS <| Qf fh rfl <| Q0 1 rfl rfl rfl <| Qf fh rfl <| Q0 0 rfl rfl rfl <| Qd rfl rfl <| JL.nil ?_
 refine zi (fun h3 h3' => ?_) fun h3 h3' => ?_
 ·
  have hne : a ≠ b := by rintro rfl; simp at h3
  refine zS <| Qa rfl <| JL.nil ?_
  refine zR (Up.refl _ _) ?_
  first | (rw [decide_eq_false hne]; rfl) | (rw [decide_eq_true (M.rul_ext q0 q1 q2 q3 q4 q5 q6 q7 q8)]; rfl)
 have q0 : a.pits = b.pits := by simpa using h3
 refine Js.skip <| Js.seq <| zS <| Qf fh rfl <| Q0 1 rfl rfl rfl <| Qf fh rfl <| Q0 0 rfl rfl rfl <| Qd rfl rfl <| JL.nil ?_
 refine zi (fun h4 h4' => ?_) fun h4 h4' => ?_
 ·
  have hne : a ≠ b := by rintro rfl; simp at h4
  refine zS <| Qa rfl <| JL.nil ?_
  refine zR (Up.refl _ _) ?_
  first | (rw [decide_eq_false hne]; rfl) | (rw [decide_eq_true (M.rul_ext q0 q1 q2 q3 q4 q5 q6 q7 q8)]; rfl)
 have q1 : a.seeds = b.seeds := by simpa using h4
 refine Js.skip <| Js.seq <| zS <| Qf fh rfl <| Q0 1 rfl rfl rfl <| Qf fh rfl <| Q0 0 rfl rfl rfl <| Qq (p_neqB und_4 rfl rfl) <| JL.nil ?_
 refine zi (fun h5 h5' => ?_) fun h5 h5' => ?_
 ·
  have hne : a ≠ b := by rintro rfl; simp at h5
  refine zS <| Qa rfl <| JL.nil ?_
  refine zR (Up.refl _ _) ?_
  first | (rw [decide_eq_false hne]; rfl) | (rw [decide_eq_true (M.rul_ext q0 q1 q2 q3 q4 q5 q6 q7 q8)]; rfl)
 have q2 : a.stores = b.stores := by simpa using h5
 refine Js.skip <| Js.seq <| zS <| Qf fh rfl <| Q0 1 rfl rfl rfl <| Qf fh rfl <| Q0 0 rfl rfl rfl <| Qq (p_neqB und_4 rfl rfl) <| JL.nil ?_
 refine zi (fun h6 h6' => ?_) fun h6 h6' => ?_
 ·
  have hne : a ≠ b := by rintro rfl; simp at h6
  refine zS <| Qa rfl <| JL.nil ?_
  refine zR (Up.refl _ _) ?_
  first | (rw [decide_eq_false hne]; rfl) | (rw [decide_eq_true (M.rul_ext q0 q1 q2 q3 q4 q5 q6 q7 q8)]; rfl)
 have q3 : a.skip = b.skip := by simpa using h6
 refine Js.skip <| Js.seq <| zS <| Qf fh rfl <| Q0 1 rfl rfl rfl <| Qf fh rfl <| Q0 0 rfl rfl rfl <| Qq (p_neqB und_4 rfl rfl) <| JL.nil ?_
 refine zi (fun h7 h7' => ?_) fun h7 h7' => ?_
 ·
  have hne : a ≠ b := by rintro rfl; simp at h7
  refine zS <| Qa rfl <| JL.nil ?_
  refine zR (Up.refl _ _) ?_
  first | (rw [decide_eq_false hne]; rfl) | (rw [decide_eq_true (M.rul_ext q0 q1 q2 q3 q4 q5 q6 q7 q8)]; rfl)
 have q4 : a.relay = b.relay := by simpa using h7
 refine Js.skip <| Js.seq <| zS <| Qf fh rfl <| Q0 1 rfl rfl rfl <| Qf fh rfl <| Q0 0 rfl rfl rfl <| Qq (p_neqB und_4 rfl rfl) <| JL.nil ?_
 refine zi (fun h8 h8' => ?_) fun h8 h8' => ?_
 ·
  have hne : a ≠ b := by rintro rfl; simp at h8
  refine zS <| Qa rfl <| JL.nil ?_
  refine zR (Up.refl _ _) ?_
  first | (rw [decide_eq_false hne]; rfl) | (rw [decide_eq_true (M.rul_ext q0 q1 q2 q3 q4 q5 q6 q7 q8)]; rfl)
 have q5 : a.feed = b.feed := by simpa using h8
 refine Js.skip <| Js.seq <| zS <| Qf fh rfl <| Q0 1 rfl rfl rfl <| Qf fh rfl <| Q0 0 rfl rfl rfl <| Qq (p_neqB und_4 rfl rfl) <| JL.nil ?_
 refine zi (fun h9 h9' => ?_) fun h9 h9' => ?_
 ·
  have hne : a ≠ b := by rintro rfl; simp at h9
  refine zS <| Qa rfl <| JL.nil ?_
  refine zR (Up.refl _ _) ?_
  first | (rw [decide_eq_false hne]; rfl) | (rw [decide_eq_true (M.rul_ext q0 q1 q2 q3 q4 q5 q6 q7 q8)]; rfl)
 have q6 : a.again = b.again := by simpa using h9
 refine Js.skip <| Js.seq <| zS <| Qf fh rfl <| Q0 1 rfl rfl rfl <| Qf fh rfl <| Q0 0 rfl rfl rfl <| Qd rfl rfl <| JL.nil ?_
 refine zi (fun h10 h10' => ?_) fun h10 h10' => ?_
 ·
  have hne : a ≠ b := by rintro rfl; simp at h10
  refine zS <| Qa rfl <| JL.nil ?_
  refine zR (Up.refl _ _) ?_
  first | (rw [decide_eq_false hne]; rfl) | (rw [decide_eq_true (M.rul_ext q0 q1 q2 q3 q4 q5 q6 q7 q8)]; rfl)
 have q7 : a.capture = b.capture := by simpa using h10
 refine Js.skip <| Js.seq <| zS <| Qf fh rfl <| Q0 1 rfl rfl rfl <| Qf fh rfl <| Q0 0 rfl rfl rfl <| Qd rfl rfl <| JL.nil ?_
 refine zi (fun h11 h11' => ?_) fun h11 h11' => ?_
 ·
  have hne : a ≠ b := by rintro rfl; simp at h11
  refine zS <| Qa rfl <| JL.nil ?_
  refine zR (Up.refl _ _) ?_
  first | (rw [decide_eq_false hne]; rfl) | (rw [decide_eq_true (M.rul_ext q0 q1 q2 q3 q4 q5 q6 q7 q8)]; rfl)
 have q8 : a.slam = b.slam := by simpa using h11
 refine Js.skip <| zS <| Qa rfl <| JL.nil ?_
 refine zR (Up.refl _ _) ?_
 first | (rw [decide_eq_false hne]; rfl) | (rw [decide_eq_true (M.rul_ext q0 q1 q2 q3 q4 q5 q6 q7 q8)]; rfl)

set_option maxHeartbeats 1000000 in
theorem c_laws_eqGame (a : M.Gam) {v_a : Value} (b : M.Gam) {v_b : Value} {w : World} (h_a : (Ty.agg (cGame a)).ok w v_a) (h_b : (Ty.agg (cGame b)).ok w v_b) (r0 : a.start.pits.length ≤ 4194304 := by exact om_) (r1 : a.start.stores.length ≤ 4194304 := by exact om_) (r2 : a.moves.length ≤ 4194304 := by exact om_) (r3 : a.now.pits.length ≤ 4194304 := by exact om_) (r4 : a.now.stores.length ≤ 4194304 := by exact om_) (r5 : b.start.pits.length ≤ 4194304 := by exact om_) (r6 : b.start.stores.length ≤ 4194304 := by exact om_) (r7 : b.moves.length ≤ 4194304 := by exact om_) (r8 : b.now.pits.length ≤ 4194304 := by exact om_) (r9 : b.now.stores.length ≤ 4194304 := by exact om_) : RetV Tryz.prog 28 [v_a, v_b] w (.bool (decide (a = b))) := by
 revert v_a; apply opn
 intro A1 c1 h1 bl1 bh1 A2 c2 h2 bl2 bh2 A3 c3 h3 bl3 bh3 A4 c4 h4 bl4 bh4 A5 c5 h5 bl5 bh5
 revert v_b; apply opn
 intro A6 c6 h6 bl6 bh6 A7 c7 h7 bl7 bh7 A8 c8 h8 bl8 bh8 A9 c9 h9 bl9 bh9 A10 c10 h10 bl10 bh10
 refine enter @Tryz.func28 @Tryz.ntmps28 rfl rfl ?_
 refine zent ?_
 refine zS <| zb rfl fun b11 => zb rfl fun b12 => Qa rfl <| zJ <| zS <| Qf fh rfl <| Q9 1 rfl rfl ?_
 refine Qf fh rfl <| Q9 0 rfl rfl ?_
 refine zv rfl (fun w hw => c_laws_eqRules a.rules b.rules (ok_ hw) (ok_ hw)) <| Qt rfl <| JL.nil ?_
 refine zi (fun h13 h13' => ?_) fun h13 h13' => ?_
 ·
  have hne : a ≠ b := by rintro rfl; simp at h13
  refine zS <| Qa rfl <| JL.nil ?_
  refine zR (Up.refl _ _) ?_
  first | (rw [decide_eq_false hne]; rfl) | (rw [decide_eq_true (M.gam_ext q0 q1 q2 q3 q4)]; rfl)
 have q0 : a.rules = b.rules := by simpa using h13
 refine Js.skip <| Js.seq <| zS <| Qf fh rfl <| Q9 1 rfl rfl ?_
 refine Qf fh rfl <| Q9 0 rfl rfl ?_
 refine zv rfl (fun w hw => c_laws_eqPosition a.start b.start (ok_ hw) (ok_ hw)) <| Qt rfl <| JL.nil ?_
 refine zi (fun h14 h14' => ?_) fun h14 h14' => ?_
 ·
  have hne : a ≠ b := by rintro rfl; simp at h14
  refine zS <| Qa rfl <| JL.nil ?_
  refine zR (Up.refl _ _) ?_
  first | (rw [decide_eq_false hne]; rfl) | (rw [decide_eq_true (M.gam_ext q0 q1 q2 q3 q4)]; rfl)
 have q1 : a.start = b.start := by simpa using h14
 refine Js.skip <| Js.seq <| zS <| Qf fh rfl <| Q0 1 rfl rfl rfl <| Qf fh rfl <| Q0 0 rfl rfl rfl <| zv rfl (fun w hw => c_laws_eqInt64S a.moves b.moves (ok_ hw) (ok_ hw)) <| Qt rfl <| JL.nil ?_
 refine zi (fun h15 h15' => ?_) fun h15 h15' => ?_
 ·
  have hne : a ≠ b := by rintro rfl; simp at h15
  refine zS <| Qa rfl <| JL.nil ?_
  refine zR (Up.refl _ _) ?_
  first | (rw [decide_eq_false hne]; rfl) | (rw [decide_eq_true (M.gam_ext q0 q1 q2 q3 q4)]; rfl)
 have q2 : a.moves = b.moves := by simpa using h15
 refine Js.skip <| Js.seq <| zS <| Qf fh rfl <| Q9 1 rfl rfl ?_
 refine Qf fh rfl <| Q9 0 rfl rfl ?_
 refine zv rfl (fun w hw => c_laws_eqPosition a.now b.now (ok_ hw) (ok_ hw)) <| Qt rfl <| JL.nil ?_
 refine zi (fun h16 h16' => ?_) fun h16 h16' => ?_
 ·
  have hne : a ≠ b := by rintro rfl; simp at h16
  refine zS <| Qa rfl <| JL.nil ?_
  refine zR (Up.refl _ _) ?_
  first | (rw [decide_eq_false hne]; rfl) | (rw [decide_eq_true (M.gam_ext q0 q1 q2 q3 q4)]; rfl)
 have q3 : a.now = b.now := by simpa using h16
 refine Js.skip <| Js.seq <| zS <| Qf fh rfl <| Q0 1 rfl rfl rfl <| Qf fh rfl <| Q0 0 rfl rfl rfl <| Qd rfl rfl <| JL.nil ?_
 refine zi (fun h17 h17' => ?_) fun h17 h17' => ?_
 ·
  have hne : a ≠ b := by rintro rfl; simp at h17
  refine zS <| Qa rfl <| JL.nil ?_
  refine zR (Up.refl _ _) ?_
  first | (rw [decide_eq_false hne]; rfl) | (rw [decide_eq_true (M.gam_ext q0 q1 q2 q3 q4)]; rfl)
 have q4 : a.resigned = b.resigned := by simpa using h17
 refine Js.skip <| zS <| Qa rfl <| JL.nil ?_
 refine zR (Up.refl _ _) ?_
 first | (rw [decide_eq_false hne]; rfl) | (rw [decide_eq_true (M.gam_ext q0 q1 q2 q3 q4)]; rfl)

end Go.Proofs.YtcmfnlleikcpnaaGreat


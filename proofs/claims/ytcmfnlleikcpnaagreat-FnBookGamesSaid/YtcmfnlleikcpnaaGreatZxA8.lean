/- Walks: K34. -/
import Derived.Test.YtcmfnlleikcpnaaGreatZxA3
import Derived.Test.YtcmfnlleikcpnaaGreatZxA7
import Derived.Test.YtcmfnlleikcpnaaGreatZxA5
import Derived.Test.YtcmfnlleikcpnaaGreatZxA1
import Derived.Test.YtcmfnlleikcpnaaGreatZxA2
set_option linter.unusedSimpArgs false
set_option linter.unusedVariables false
set_option maxRecDepth 100000
attribute [local irreducible] Go.Proofs.YtcmfnlleikcpnaaGreat.gv
set_option maxHeartbeats 12000000
namespace Go.Proofs.YtcmfnlleikcpnaaGreat
open Go.RowKit
theorem c_spec_l20Own (e : M.Ent) {v_e : Value} {w : World} (h_e : (Ty.ref (cBookEntry e)).ok w v_e) (r0 : e.pits.length ≤ 4194304 := by exact om_) (r1 : e.choices.length ≤ 4194304 := by exact om_) : Ret Tryz.prog 129 [v_e] w (Ty.agg (cBookEntry e)) := by
 revert v_e; apply opn
 intro b3 o3 A1 c1 h1 bl1 bh1 A2 c2 h2 bl2 bh2 hr3
 refine enter @Tryz.func129 @Tryz.ntmps129 rfl rfl ?_
 refine zent ?_
 refine zS <| za zeh fun b4 => zJ ?_
 refine zk [2] (fun F U l os u => ∃ (A10 : Option Addr) (c10 : Nat) (g9 : List Nat) (A5 : Option Addr) (c5 : Nat), l = F [] ∧ os = [rowO 81 3 (.slice A10 e.choices.length c10) e.choices.length (fltV vcChoice e.choices) g9, rowO 2 1 (.slice A5 e.pits.length c5) e.pits.length (ints_ e.pits) []] ++ U [some (boxO b4 [.slice A5 e.pits.length c5, .slice A10 e.choices.length c10] 89)] ∧ (e.choices.length ≤ c10) ∧ (c10 ≤ 9223372036854775807) ∧ (e.pits.length ≤ c5) ∧ (c5 ≤ 9223372036854775807)) ?_ ?_
 ·
  refine zdr [10, 12] ?_
  refine jM 0 rfl rfl ?_
  refine jN 1 rfl rfl ?_
  refine jF 2 fld_89_0 rfl rfl ?_
  refine jW 3 ty_27 rfl rfl (fun hv => (hr3.vis hv) 0 _ rfl) ?_
  refine jM 6 rfl rfl ?_
  refine jN 7 rfl rfl ?_
  refine jF 8 fld_89_1 rfl rfl ?_
  refine jW 9 ty_67 rfl rfl (fun hv => (hr3.vis hv) 1 _ rfl) ?_
  refine y2 4 5 ?_ ?_
  ·
   refine ycs rfl rfl (fun w hw => c_spec_l00Own e.pits (ok_ hw)) ?_
   intro A18 c18 bl18 bh18
   refine y1 5 ?_
   refine ybs rfl fun b19 => ?_
   refine y1 10 ?_
   refine JHo.e rfl (e_append (i := 0) (n' := e.choices.length) (vs' := fltV vcChoice e.choices) el_67 rfl rfl rfl rfl (src_flat lChoice und_67 rfl h2) (by omega) (by omega) ln2_ (by first | rfl | exact fltV_app _ _ _ | exact fltV_snoc _ _ _ | (simp [fltV]; done))) (.inr rfl) ?_
   rintro v21 _ _ ⟨⟨g22, rfl⟩, rfl⟩ _
   refine JH.fact (row_form' (i := 0) rfl) (fun hf23 => ?_)
   obtain ⟨A23, c23, rfl, bl23, bh23⟩ := hf23
   refine znh ?_
   refine JH.p 11 rfl (q_bld) ?_
   refine y1 12 ?_
   refine yst rfl rfl rfl ?_
   refine yd ?_
   exact zm ⟨_, _, _, _, _, rfl, rfl, zt, zt, zt, zt⟩ (Up.refl _ _)
  refine ybs rfl fun b24 => ?_
  refine y1 4 ?_
  refine ycs rfl rfl (fun w hw => c_spec_l00Own e.pits (ok_ hw)) ?_
  intro A26 c26 bl26 bh26
  refine y1 10 ?_
  refine JHo.e rfl (e_append (i := 1) (n' := e.choices.length) (vs' := fltV vcChoice e.choices) el_67 rfl rfl rfl rfl (src_flat lChoice und_67 rfl h2) (by omega) (by omega) ln2_ (by first | rfl | exact fltV_app _ _ _ | exact fltV_snoc _ _ _ | (simp [fltV]; done))) (.inr rfl) ?_
  rintro v27 _ _ ⟨⟨g28, rfl⟩, rfl⟩ _
  refine JH.fact (row_form' (i := 1) rfl) (fun hf29 => ?_)
  obtain ⟨A29, c29, rfl, bl29, bh29⟩ := hf29
  refine znh ?_
  refine JH.p 11 rfl (q_bld) ?_
  refine y1 12 ?_
  refine yst rfl rfl rfl ?_
  refine yd ?_
  refine zh [1, 0, 0] ?_
  exact zm ⟨_, _, _, _, _, rfl, rfl, zt, zt, zt, zt⟩ (Up.refl _ _)
 rintro _ _ u17 ⟨A10, c10, g9, A5, c5, rfl, rfl, f17_0, f17_1, f17_2, f17_3⟩ x17
 refine zn ?_
 exact zro x17 (g := by exact (gv_agg (gvc gv_ (gvc (gv_flat lChoice (xs := e.choices) po_ (by first | rfl | (simp [fltV]; done)) (by first | with_reducible rfl | assumption | rfl)) gvn))))
theorem c_spec_l20Copy (b : M.Boo) {v_b : Value} {w : World} (h_b : (Ty.ref (cBook b)).ok w v_b) (r0 : b.entries.length ≤ 4194304 := by exact om_) (r1 : ∀ x ∈ b.entries, x.pits.length ≤ 4194304 ∧ x.choices.length ≤ 4194304 := by exact om_) : Ret Tryz.prog 72 [v_b] w (Ty.agg (cBook b)) := by
 revert v_b; apply opn
 intro b2 o2 A1 c1 h1 bl1 bh1 hr2
 refine enter @Tryz.func72 @Tryz.ntmps72 rfl rfl ?_
 refine zent ?_
 refine zS <| za zeh fun b3 => zN <| Qm rfl <| Qc rfl <| Qf fh rfl <| QS 0 hr2 rfl ?_
 refine Qb ?_
 refine za zeh fun b4 => zw 0 rfl rfl rfl ?_
 refine zJ <| zS <| Qa rfl <| JL.nil <| Js.block ?_
 refine Js.conv (fun w hw => St.nilRowS 89 2 hw) ?_
 refine Js.vals (Ts := lBookEntry []) (vs := []) (fun w => rfl) ?_
 refine zl [0, 2, 3] (fun F U l os u m => ∃ (k : Nat) (acc : List M.Ent) (A5_3_9 : Option Addr) (c5_3_9 : Nat) (g5_3_9 : List Nat) (vs5_3_9 : List Value) (fl5_3_9 : List Nat), l = F [(4, .int .i64 (k : Int))] ∧ os = U [some (ownC (lBookEntry acc) vs5_3_9 fl5_3_9), some (rowO 89 2 (.slice A5_3_9 acc.length c5_3_9) acc.length vs5_3_9 g5_3_9), some (boxO b4 [.int .i64 b.rules.pits, .int .i64 b.rules.seeds, .bool b.rules.stores, .bool b.rules.skip, .bool b.rules.relay, .bool b.rules.feed, .bool b.rules.again, .int .i64 b.rules.capture, .int .i64 b.rules.slam, .slice A5_3_9 acc.length c5_3_9] 37)] ∧ (acc = b.entries.take k) ∧ (k ≤ b.entries.length) ∧ (acc.length ≤ c5_3_9) ∧ (c5_3_9 ≤ 9223372036854775807) ∧ m = b.entries.length - k) ⟨0, [], _, _, _, _, _, rfl, rfl, by rfl, zt, zu, zu, rfl⟩ ?_
 rintro _ _ u5 _ ⟨k, acc, A5_3_9, c5_3_9, g5_3_9, vs5_3_9, fl5_3_9, rfl, rfl, hA, hk, f5_2, f5_3, rfl⟩ x5
 refine zn ?_
 have hla : acc.length = k := by rw [hA, List.length_take]; omega
 refine Js.seq <| zS <| Qm rfl <| Qm rfl <| Qc rfl <| Qf fh rfl <| QC ((hr2.vis x5.vis) 9 _ rfl) rfl <| Qz rfl <| Ql rfl rfl <| JL.nil ?_
 refine zi (fun h6 h6' => ?_) fun h6 h6' => ?_
 ·
  have hkk : k < b.entries.length := by have := h6'; omega
  obtain ⟨e1_, e2_⟩ := r1 _ (M.ent_mem (es := b.entries) (k := k) hkk)
  have hA2 := M.takeE hkk
  rw [← hA] at hA2
  have hA2 := hA2.symm
  refine Js.skip <| Js.seq <| Js.block ?_
  refine zdr [10, 12] ?_
  refine jF 0 fld_37_1 rfl rfl ?_
  refine jB 1 2 ty_35 rfl rfl rfl rfl ?_
  refine jM 2 rfl rfl ?_
  refine jN 3 rfl rfl ?_
  refine jF 4 fld_37_1 rfl rfl ?_
  refine jW 5 ty_35 rfl rfl (fun hv => (hr2.vis (x5.vis.trans hv)) 9 _ rfl) ?_
  refine jM 6 rfl rfl ?_
  have hy7 : b.entries[k]? = some (M.ent b.entries k) := M.ent_get (by omega)
  obtain ⟨b7, o7, A7_0, c7_0, A7_1, c7_1, he7, hr7, h7_0, h7_1, bl7_0, bh7_0, bl7_1, bh7_1⟩ := elem_BookEntry (Ty.mono _ h1 x5.vis) hy7
  refine jI 7 el_35 rfl rfl rfl he7 ?_
  refine y1 8 ?_
  refine yc rfl rfl (fun w hw => c_spec_l20Own (M.ent b.entries k) (ok_ hw)) ?_
  intro A9 c9 bl9 bh9 A10 c10 bl10 bh10
  refine y1 9 ?_
  refine ybs rfl fun b11 => ?_
  refine y1 10 ?_
  refine JHo.e rfl (e_append (i := 4) (n' := (acc ++ [(M.ent b.entries k)]).length) (vs' := vs5_3_9 ++ [.slice A9 (((M.ent b.entries k).pits).length) c9, .slice A10 (((M.ent b.entries k).choices).length) c10]) el_35 rfl rfl rfl rfl (src_row (i := 0) und_35 rfl rfl) (by omega) (by omega) ln2_ (rfl)) (.inr rfl) ?_
  rintro v13 _ _ ⟨⟨g14, rfl⟩, rfl⟩ _
  refine JH.fact (row_form' (i := 4) rfl) (fun hf15 => ?_)
  obtain ⟨A15, c15, rfl, bl15, bh15⟩ := hf15
  refine znh ?_
  refine jF 11 fld_37_1 rfl rfl ?_
  refine y1 12 ?_
  refine yst rfl rfl rfl ?_
  refine yd ?_
  refine Js.pk (cBookEntry (M.ent b.entries k)) [.slice A9 (((M.ent b.entries k).pits).length) c9, .slice A10 (((M.ent b.entries k).choices).length) c10] (fun f17 G17 => ?_) (by exact (gv_agg (gvc gv_ (gvc (gv_flat lChoice (xs := ((M.ent b.entries k).choices)) po_ (by first | rfl | (simp [fltV]; done)) (by first | with_reducible rfl | assumption | rfl)) gvn))))
  refine zn ?_
  refine Js.joinL (i := 3) (j := 0) (Vs := lBookEntry (acc ++ [(M.ent b.entries k)])) rfl rfl (lBookEntry_snoc _ _) (fun f18 => ?_)
  refine zn ?_
  refine Js.blockEnd <| Js.region <| Qm rfl <| Qp rfl rfl <| Qa rfl <| JL.nil ?_
  refine zd [0, 2, 2, 2] rfl fun u19 x19 => ?_
  exact zag ⟨k + 1, acc ++ [(M.ent b.entries k)], _, _, _, _, _, rfl, rfl, by exact hA2, zt, zu, zu, rfl⟩ (x5.trans x19)
 have hE : acc = b.entries := by rw [hA, List.take_of_length_le (by have := h6'; omega)]
 refine zx ?_
 have hq0 : acc = b.entries := by first | rfl | (rw [hE]; done) | (rw [hE]; rfl)
 refine zS <| Q9 2 rfl rfl ?_
 refine zw 3 rfl rfl rfl ?_
 refine JL.nil ?_
 exact zro x5
theorem c_spec_l20Count (e : List M.Ent) (e_k : Nat) {be_0 ce_0 : Nat} {ge_0 : List Nat} {vse_0 : List Value} {fe_0 : List Nat} (c : M.Cho) {v_c : Value} {w : World} (hb : Bw w [rowO 89 2 (.slice (some ⟨be_0, 0, none⟩) e.length ce_0) e.length vse_0 ge_0, ownC (lBookEntry e) vse_0 fe_0]) (h_c : (Ty.agg (cChoice c)).ok (offW w (([rowO 89 2 (.slice (some ⟨be_0, 0, none⟩) e.length ce_0) e.length vse_0 ge_0, ownC (lBookEntry e) vse_0 fe_0] : List Own).flatMap (·.fp))) v_c) (bd0 : e.length ≤ ce_0 := by exact om_) (bd1 : ce_0 ≤ 9223372036854775807 := by exact om_) (bd2 : e_k < e.length := by exact om_) (r0 : (M.ent e e_k).choices.length ≤ 4194304 := by exact om_) (r1 : ∀ y ∈ (M.ent e e_k).choices, 0 ≤ y.games ∧ y.games ≤ 1000000000000000 ∧ 0 ≤ y.score ∧ y.score ≤ 1000000000000000 := by exact om_) (r2 : 0 ≤ c.games := by exact om_) (r3 : c.games ≤ 2000000 := by exact om_) (r4 : 0 ≤ c.score := by exact om_) (r5 : c.score ≤ 2000000 := by exact om_) : RetB Tryz.prog 131 [.pointer (some ⟨be_0, 0 + e_k * 2, none⟩), v_c] w [rowO 89 2 (.slice (some ⟨be_0, 0, none⟩) e.length ce_0) e.length vse_0 ge_0, ownC (lBookEntry e) vse_0 fe_0] (fun v bs' => ∃ (vsxe : List Value) (fxe : List Nat), v = .tuple #[] ∧ bs' = [rowO 89 2 (.slice (some ⟨be_0, 0, none⟩) e.length ce_0) e.length vsxe ge_0, ownC (lBookEntry (e.set e_k (M.Ent.mk (M.ent e e_k).pits (M.addC (M.ent e e_k).choices c)))) vsxe fxe]) := by
 revert v_c; apply opn
 refine enterB hb @Tryz.func131 @Tryz.ntmps131 rfl rfl ?_
 refine zent ?_
 refine Js.trashE ?_
 refine zn ?_
 have hy1 : e[e_k]? = some (M.ent e e_k) := M.ent_get len_
 refine Js.fact (fun w hw => elemv_BookEntry (Mem.ownC (i := 1) rfl w hw) hy1) (fun hf1 => ?_)
 obtain ⟨A1_0, c1_0, A1_1, c1_1, he1, bl1_0, bh1_0, bl1_1, bh1_1⟩ := hf1
 refine Js.fact (fun w hw => elem_in cBookEntry (m := 2) (k := e_k) (xs := e) (fun _ => rfl) (Mem.ownC (i := 1) rfl w hw) (by omega)) (fun hl2 => ?_)
 refine Js.ex3 (fun w hw => St.elemS cBookEntry (m := 2) (i := 1) (xs := e) (fun _ => rfl) rfl hy1 he1 hw) (fun f2_1 f2_2 f2_3 => ?_)
 refine Js.unp 0 ?_
 refine zn ?_
 refine zS <| zb rfl fun b3 => zN <| Qa rfl <| zJ <| Js.block ?_
 refine zl [0, 3] (fun F U l os u m => ∃ (j : Nat) (G4_6 : List Nat), l = F [(4, .int .i64 (j : Int))] ∧ os = U [nO, nO, nO, nO, nO, nO, some (anyO G4_6)] ∧ (j + M.findC ((M.ent e e_k).choices.drop j) c.move = M.findC (M.ent e e_k).choices c.move) ∧ (j ≤ (M.ent e e_k).choices.length) ∧ m = (M.ent e e_k).choices.length - j) ⟨0, _, rfl, rfl, by simp, zt, rfl⟩ ?_
 rintro _ _ u4 _ ⟨j, G4_6, rfl, rfl, hM, hj, rfl⟩ x4
 refine zn ?_
 refine Js.seq <| Js.seq ?_
 refine zk [0, 3, 4] (fun F U l os u => ∃ (e25_ : Bool) (G5_6 : List Nat), l = F [(25, .bool e25_)] ∧ os = U [nO, nO, nO, nO, nO, nO, some (anyO G5_6)] ∧ (e25_ = (decide ((j : Int) < ((M.ent e e_k).choices.length : Int)) && decide ((M.cho (M.ent e e_k).choices j).move < c.move)))) ?_ ?_
 ·
  rcases Bool.eq_false_or_eq_true (decide ((j : Int) < ((((M.ent e e_k).choices).length) : Int))) with h6 | h6
  ·
   have h6' := h6; simp only [decide_eq_true_eq, Int.not_lt, Int.not_le] at h6'
   refine zdr [] ?_
   refine jM 0 rfl rfl ?_
   refine jM 1 rfl rfl ?_
   refine jN 2 rfl rfl ?_
   refine jF 3 fld_89_1 rfl rfl ?_
   refine JH.q 4 rfl (q_load1 ty_67.h rfl (fun w hw => (Mem.rowR' (i := 5) rfl he1 w hw) 1 _ rfl)) ?_
   refine JH.p 5 rfl (p_len el_67 rfl) ?_
   refine JH.p 6 rfl (p_lss rfl rfl) ?_
   refine jM 7 rfl rfl ?_
   refine JH.pgT 8 rfl (Gd.t1 rfl rfl rfl) (show (decide ((j : Int) < ((((M.ent e e_k).choices).length) : Int))) = true by first | exact h6 | (rw [h6]; rfl) | simp [h6]) (p_move rfl) ?_
   refine JH.pgT 9 rfl (Gd.t1 rfl rfl rfl) (show (decide ((j : Int) < ((((M.ent e e_k).choices).length) : Int))) = true by first | exact h6 | (rw [h6]; rfl) | simp [h6]) (p_nilCheck rfl) ?_
   refine JH.pgT 10 rfl (Gd.t1 rfl rfl rfl) (show (decide ((j : Int) < ((((M.ent e e_k).choices).length) : Int))) = true by first | exact h6 | (rw [h6]; rfl) | simp [h6]) (p_fieldAddr fld_89_1.h rfl) ?_
   refine JH.qgT 11 rfl (Gd.t1 rfl rfl rfl) (show (decide ((j : Int) < ((((M.ent e e_k).choices).length) : Int))) = true by first | exact h6 | (rw [h6]; rfl) | simp [h6]) (q_load1 ty_67.h rfl (fun w hw => (Mem.rowR' (i := 5) rfl he1 w hw) 1 _ rfl)) ?_
   refine JH.pgT 12 rfl (Gd.t1 rfl rfl rfl) (show (decide ((j : Int) < ((((M.ent e e_k).choices).length) : Int))) = true by first | exact h6 | (rw [h6]; rfl) | simp [h6]) (p_move rfl) ?_
   refine JH.fact (row_some (i := 1) rfl len_) (fun hf8 => ?_)
   obtain ⟨b8, rfl⟩ := hf8
   have hy7 : ((M.ent e e_k).choices)[j]? = some (M.cho ((M.ent e e_k).choices) j) := M.cho_get len_
   refine JH.pgT 13 rfl (Gd.t1 rfl rfl rfl) (show (decide ((j : Int) < ((((M.ent e e_k).choices).length) : Int))) = true by first | exact h6 | (rw [h6]; rfl) | simp [h6]) (p_indexAddr el_67 rfl rfl len_ len_ rfl) ?_
   refine JH.pgT 14 rfl (Gd.t1 rfl rfl rfl) (show (decide ((j : Int) < ((((M.ent e e_k).choices).length) : Int))) = true by first | exact h6 | (rw [h6]; rfl) | simp [h6]) (p_fieldAddr fld_81_0.h rfl) ?_
   refine JH.qgT 15 rfl (Gd.t1 rfl rfl rfl) (show (decide ((j : Int) < ((((M.ent e e_k).choices).length) : Int))) = true by first | exact h6 | (rw [h6]; rfl) | simp [h6]) (q_load1 ty_2.h rfl (fun w hw => (Mem.rowR' (i := 1) rfl (fltV_at (C := vcChoice) (fun _ => rfl) hy7) w hw) 0 _ rfl)) ?_
   refine JH.pgT 16 rfl (Gd.t1 rfl rfl rfl) (show (decide ((j : Int) < ((((M.ent e e_k).choices).length) : Int))) = true by first | exact h6 | (rw [h6]; rfl) | simp [h6]) (p_fieldAddr fld_81_0.h rfl) ?_
   refine JH.qgT 17 rfl (Gd.t1 rfl rfl rfl) (show (decide ((j : Int) < ((((M.ent e e_k).choices).length) : Int))) = true by first | exact h6 | (rw [h6]; rfl) | simp [h6]) (q_load1 ty_2.h rfl (Mem.box (i := 0) rfl rfl)) ?_
   refine JH.pgT 18 rfl (Gd.t1 rfl rfl rfl) (show (decide ((j : Int) < ((((M.ent e e_k).choices).length) : Int))) = true by first | exact h6 | (rw [h6]; rfl) | simp [h6]) (p_lss rfl rfl) ?_
   refine JH.p 19 rfl (p_pickAnd2 rfl rfl rfl) ?_
   refine yd ?_
   exact zm ⟨((decide ((j : Int) < ((((M.ent e e_k).choices).length) : Int))) && (decide ((M.cho ((M.ent e e_k).choices) j).move < c.move))), _, rfl, rfl, by first | rfl | (rw [‹decide ((j : Int) < ((M.ent e e_k).choices.length : Int)) = false›]; rfl) | (rw [‹decide ((j : Int) < ((M.ent e e_k).choices.length : Int)) = true›]; simp)⟩ (Up.refl _ _)
  have h6' := h6; simp only [decide_eq_false_iff_not, Int.not_lt, Int.not_le] at h6'
  refine zdr [] ?_
  refine jM 0 rfl rfl ?_
  refine jM 1 rfl rfl ?_
  refine jN 2 rfl rfl ?_
  refine jF 3 fld_89_1 rfl rfl ?_
  refine JH.q 4 rfl (q_load1 ty_67.h rfl (fun w hw => (Mem.rowR' (i := 5) rfl he1 w hw) 1 _ rfl)) ?_
  refine JH.p 5 rfl (p_len el_67 rfl) ?_
  refine JH.p 6 rfl (p_lss rfl rfl) ?_
  refine jM 7 rfl rfl ?_
  refine jU 8 rfl (Gd.t1 rfl rfl rfl) h6 ?_
  refine jU 9 rfl (Gd.t1 rfl rfl rfl) h6 ?_
  refine jU 10 rfl (Gd.t1 rfl rfl rfl) h6 ?_
  refine jU 11 rfl (Gd.t1 rfl rfl rfl) h6 ?_
  refine jU 12 rfl (Gd.t1 rfl rfl rfl) h6 ?_
  refine jU 13 rfl (Gd.t1 rfl rfl rfl) h6 ?_
  refine jU 14 rfl (Gd.t1 rfl rfl rfl) h6 ?_
  refine jU 15 rfl (Gd.t1 rfl rfl rfl) h6 ?_
  refine jU 16 rfl (Gd.t1 rfl rfl rfl) h6 ?_
  refine jU 17 rfl (Gd.t1 rfl rfl rfl) h6 ?_
  refine JH.pg (v := .bool false) 18 rfl (Gd.t1 rfl rfl rfl) (fun hc => absurd hc (by first | (rw [h6]; simp; done) | simp [h6])) ?_
  refine JH.p 19 rfl (p_pickAnd rfl rfl rfl) ?_
  refine yd ?_
  exact zm ⟨((decide ((j : Int) < ((((M.ent e e_k).choices).length) : Int))) && false), _, rfl, rfl, by first | rfl | (rw [‹decide ((j : Int) < ((M.ent e e_k).choices.length : Int)) = false›]; rfl) | (rw [‹decide ((j : Int) < ((M.ent e e_k).choices.length : Int)) = true›]; simp)⟩ (Up.refl _ _)
 rintro _ _ u5 ⟨e25_, G5_6, rfl, rfl, hB25⟩ x5
 refine zn ?_
 refine zi (fun h9 h9' => ?_) fun h9 h9' => ?_
 ·
  have q25 := hB25.symm.trans h9; simp only [Bool.and_eq_true, Bool.or_eq_true, decide_eq_true_eq, Bool.and_eq_false_iff, Bool.or_eq_false_iff, decide_eq_false_iff_not, Int.not_lt, Decidable.not_not] at q25
  have hM2 := M.findC_step hM (by omega) (by omega)
  refine Js.skip <| Js.block <| Js.region <| Qm rfl <| Qp rfl rfl <| Qa rfl <| JL.nil <| Js.blockEnd ?_
  exact zag ⟨j + 1, _, rfl, rfl, by exact hM2, zt, rfl⟩ (x4.trans x5)
 have q25 := hB25.symm.trans h9; simp only [Bool.and_eq_true, Bool.or_eq_true, decide_eq_true_eq, Bool.and_eq_false_iff, Bool.or_eq_false_iff, decide_eq_false_iff_not, Int.not_lt, Decidable.not_not] at q25
 have hN : M.findC (M.ent e e_k).choices c.move = j := q25.elim (fun q => M.findC_end hM (by omega)) (fun q => if q8 : j < (M.ent e e_k).choices.length then M.findC_hit hM q8 (by omega) else M.findC_end hM (by omega))
 refine zx ?_
 refine Js.seq <| Js.seq ?_
 refine zk [0, 3, 4] (fun F U l os u => ∃ (e47_ : Bool) (G10_6 : List Nat), l = F [(47, .bool e47_)] ∧ os = U [nO, nO, nO, nO, nO, nO, some (anyO G10_6)] ∧ (e47_ = (decide ((j : Int) < ((M.ent e e_k).choices.length : Int)) && decide ((M.cho (M.ent e e_k).choices j).move = c.move)))) ?_ ?_
 ·
  rcases Bool.eq_false_or_eq_true (decide ((j : Int) < ((((M.ent e e_k).choices).length) : Int))) with h11 | h11
  ·
   have h11' := h11; simp only [decide_eq_true_eq, Int.not_lt, Int.not_le] at h11'
   refine zdr [] ?_
   refine jM 0 rfl rfl ?_
   refine jM 1 rfl rfl ?_
   refine jN 2 rfl rfl ?_
   refine jF 3 fld_89_1 rfl rfl ?_
   refine JH.q 4 rfl (q_load1 ty_67.h rfl (fun w hw => (Mem.rowR' (i := 5) rfl he1 w hw) 1 _ rfl)) ?_
   refine JH.p 5 rfl (p_len el_67 rfl) ?_
   refine JH.p 6 rfl (p_lss rfl rfl) ?_
   refine jM 7 rfl rfl ?_
   refine JH.pgT 8 rfl (Gd.t1 rfl rfl rfl) (show (decide ((j : Int) < ((((M.ent e e_k).choices).length) : Int))) = true by first | exact h11 | (rw [h11]; rfl) | simp [h11]) (p_move rfl) ?_
   refine JH.pgT 9 rfl (Gd.t1 rfl rfl rfl) (show (decide ((j : Int) < ((((M.ent e e_k).choices).length) : Int))) = true by first | exact h11 | (rw [h11]; rfl) | simp [h11]) (p_nilCheck rfl) ?_
   refine JH.pgT 10 rfl (Gd.t1 rfl rfl rfl) (show (decide ((j : Int) < ((((M.ent e e_k).choices).length) : Int))) = true by first | exact h11 | (rw [h11]; rfl) | simp [h11]) (p_fieldAddr fld_89_1.h rfl) ?_
   refine JH.qgT 11 rfl (Gd.t1 rfl rfl rfl) (show (decide ((j : Int) < ((((M.ent e e_k).choices).length) : Int))) = true by first | exact h11 | (rw [h11]; rfl) | simp [h11]) (q_load1 ty_67.h rfl (fun w hw => (Mem.rowR' (i := 5) rfl he1 w hw) 1 _ rfl)) ?_
   refine JH.pgT 12 rfl (Gd.t1 rfl rfl rfl) (show (decide ((j : Int) < ((((M.ent e e_k).choices).length) : Int))) = true by first | exact h11 | (rw [h11]; rfl) | simp [h11]) (p_move rfl) ?_
   refine JH.fact (row_some (i := 1) rfl len_) (fun hf13 => ?_)
   obtain ⟨b13, rfl⟩ := hf13
   have hy12 : ((M.ent e e_k).choices)[j]? = some (M.cho ((M.ent e e_k).choices) j) := M.cho_get len_
   refine JH.pgT 13 rfl (Gd.t1 rfl rfl rfl) (show (decide ((j : Int) < ((((M.ent e e_k).choices).length) : Int))) = true by first | exact h11 | (rw [h11]; rfl) | simp [h11]) (p_indexAddr el_67 rfl rfl len_ len_ rfl) ?_
   refine JH.pgT 14 rfl (Gd.t1 rfl rfl rfl) (show (decide ((j : Int) < ((((M.ent e e_k).choices).length) : Int))) = true by first | exact h11 | (rw [h11]; rfl) | simp [h11]) (p_fieldAddr fld_81_0.h rfl) ?_
   refine JH.qgT 15 rfl (Gd.t1 rfl rfl rfl) (show (decide ((j : Int) < ((((M.ent e e_k).choices).length) : Int))) = true by first | exact h11 | (rw [h11]; rfl) | simp [h11]) (q_load1 ty_2.h rfl (fun w hw => (Mem.rowR' (i := 1) rfl (fltV_at (C := vcChoice) (fun _ => rfl) hy12) w hw) 0 _ rfl)) ?_
   refine JH.pgT 16 rfl (Gd.t1 rfl rfl rfl) (show (decide ((j : Int) < ((((M.ent e e_k).choices).length) : Int))) = true by first | exact h11 | (rw [h11]; rfl) | simp [h11]) (p_fieldAddr fld_81_0.h rfl) ?_
   refine JH.qgT 17 rfl (Gd.t1 rfl rfl rfl) (show (decide ((j : Int) < ((((M.ent e e_k).choices).length) : Int))) = true by first | exact h11 | (rw [h11]; rfl) | simp [h11]) (q_load1 ty_2.h rfl (Mem.box (i := 0) rfl rfl)) ?_
   refine JH.pgT 18 rfl (Gd.t1 rfl rfl rfl) (show (decide ((j : Int) < ((((M.ent e e_k).choices).length) : Int))) = true by first | exact h11 | (rw [h11]; rfl) | simp [h11]) (p_eql rfl rfl) ?_
   refine JH.p 19 rfl (p_pickAnd2 rfl rfl rfl) ?_
   refine yd ?_
   exact zm ⟨((decide ((j : Int) < ((((M.ent e e_k).choices).length) : Int))) && (decide ((M.cho ((M.ent e e_k).choices) j).move = c.move))), _, rfl, rfl, by first | rfl | (rw [‹decide ((j : Int) < ((M.ent e e_k).choices.length : Int)) = false›]; rfl) | (rw [‹decide ((j : Int) < ((M.ent e e_k).choices.length : Int)) = true›]; simp)⟩ (Up.refl _ _)
  have h11' := h11; simp only [decide_eq_false_iff_not, Int.not_lt, Int.not_le] at h11'
  refine zdr [] ?_
  refine jM 0 rfl rfl ?_
  refine jM 1 rfl rfl ?_
  refine jN 2 rfl rfl ?_
  refine jF 3 fld_89_1 rfl rfl ?_
  refine JH.q 4 rfl (q_load1 ty_67.h rfl (fun w hw => (Mem.rowR' (i := 5) rfl he1 w hw) 1 _ rfl)) ?_
  refine JH.p 5 rfl (p_len el_67 rfl) ?_
  refine JH.p 6 rfl (p_lss rfl rfl) ?_
  refine jM 7 rfl rfl ?_
  refine jU 8 rfl (Gd.t1 rfl rfl rfl) h11 ?_
  refine jU 9 rfl (Gd.t1 rfl rfl rfl) h11 ?_
  refine jU 10 rfl (Gd.t1 rfl rfl rfl) h11 ?_
  refine jU 11 rfl (Gd.t1 rfl rfl rfl) h11 ?_
  refine jU 12 rfl (Gd.t1 rfl rfl rfl) h11 ?_
  refine jU 13 rfl (Gd.t1 rfl rfl rfl) h11 ?_
  refine jU 14 rfl (Gd.t1 rfl rfl rfl) h11 ?_
  refine jU 15 rfl (Gd.t1 rfl rfl rfl) h11 ?_
  refine jU 16 rfl (Gd.t1 rfl rfl rfl) h11 ?_
  refine jU 17 rfl (Gd.t1 rfl rfl rfl) h11 ?_
  refine JH.pg (v := .bool false) 18 rfl (Gd.t1 rfl rfl rfl) (fun hc => absurd hc (by first | (rw [h11]; simp; done) | simp [h11])) ?_
  refine JH.p 19 rfl (p_pickAnd rfl rfl rfl) ?_
  refine yd ?_
  exact zm ⟨((decide ((j : Int) < ((((M.ent e e_k).choices).length) : Int))) && false), _, rfl, rfl, by first | rfl | (rw [‹decide ((j : Int) < ((M.ent e e_k).choices.length : Int)) = false›]; rfl) | (rw [‹decide ((j : Int) < ((M.ent e e_k).choices.length : Int)) = true›]; simp)⟩ (Up.refl _ _)
 rintro _ _ u10 ⟨e47_, G10_6, rfl, rfl, hB47⟩ x10
 refine zn ?_
 refine zi (fun h14 h14' => ?_) fun h14 h14' => ?_
 ·
  have q47 := hB47.symm.trans h14; simp only [Bool.and_eq_true, Bool.or_eq_true, decide_eq_true_eq, Bool.and_eq_false_iff, Bool.or_eq_false_iff, decide_eq_false_iff_not, Int.not_lt, Decidable.not_not] at q47
  have hC := M.addC_yes (c := c) hN (by omega) q47.2
  have hB9 := M.bump_yes (show j < (M.ent e e_k).choices.length by omega) hC
  have hx14 := r1 _ (M.cho_mem (show j < (M.ent e e_k).choices.length by omega))
  refine Js.seq ?_
  refine zdr [13] ?_
  refine jM 0 rfl rfl ?_
  refine jN 1 rfl rfl ?_
  refine jF 2 fld_89_1 rfl rfl ?_
  refine JH.q 3 rfl (q_load1 ty_67.h rfl (fun w hw => (Mem.rowR' (i := 5) rfl he1 w hw) 1 _ rfl)) ?_
  refine jM 4 rfl rfl ?_
  refine JH.fact (row_some (i := 1) rfl len_) (fun hf16 => ?_)
  obtain ⟨b16, rfl⟩ := hf16
  have hy15 : ((M.ent e e_k).choices)[j]? = some (M.cho ((M.ent e e_k).choices) j) := M.cho_get len_
  refine jI 5 el_67 rfl rfl rfl rfl ?_
  refine jF 6 fld_81_1 rfl rfl ?_
  refine JH.q 7 rfl (q_load1 ty_2.h rfl (fun w hw => (Mem.rowR' (i := 1) rfl (fltV_at (C := vcChoice) (fun _ => rfl) hy15) w hw) 1 _ rfl)) ?_
  refine jF 8 fld_81_1 rfl rfl ?_
  refine jB 9 0 ty_2 rfl rfl rfl rfl ?_
  refine JH.p 10 rfl (p_add rfl rfl (IntWalk.i64_in _ (by omega))) ?_
  have hy17 : ((M.ent e e_k).choices)[j]? = some (M.cho ((M.ent e e_k).choices) j) := M.cho_get len_
  refine jI 11 el_67 rfl rfl rfl rfl ?_
  refine jF 12 fld_81_1 rfl rfl ?_
  refine y1 13 ?_
  refine JHo.s rfl (e_storeRow (i := 1) (xs' := fltV vcChoice (((M.ent e e_k).choices).set j (M.Cho.mk ((M.cho ((M.ent e e_k).choices) j).move) (((M.cho ((M.ent e e_k).choices) j).games) + c.games) ((M.cho ((M.ent e e_k).choices) j).score)))) ty_2.h rfl rfl rfl rfl rfl rfl (fltV_lt (C := vcChoice) (j := 1) (fun _ => rfl) len_ (by decide)) (fltV_cell (C := vcChoice) (j := 1) (y' := (M.Cho.mk ((M.cho ((M.ent e e_k).choices) j).move) (((M.cho ((M.ent e e_k).choices) j).games) + c.games) ((M.cho ((M.ent e e_k).choices) j).score))) (fun _ => rfl) hy17 (by decide) rfl)) (.inr rfl) ?_
  rintro _ _ _ ⟨rfl, rfl⟩ _
  refine znh ?_
  refine yd ?_
  have hx15 : (M.cho (((M.ent e e_k).choices).set j (M.Cho.mk ((M.cho ((M.ent e e_k).choices) j).move) (((M.cho ((M.ent e e_k).choices) j).games) + c.games) ((M.cho ((M.ent e e_k).choices) j).score))) j).score = (M.cho (M.ent e e_k).choices j).score := by rw [M.cho_set (by first | omega | (simp only [List.length_append, List.length_cons, List.length_nil, List.length_take, List.length_drop]; omega))]
  refine Js.seq ?_
  refine zdr [13] ?_
  refine jM 0 rfl rfl ?_
  refine jN 1 rfl rfl ?_
  refine jF 2 fld_89_1 rfl rfl ?_
  refine JH.q 3 rfl (q_load1 ty_67.h rfl (fun w hw => (Mem.rowR' (i := 5) rfl he1 w hw) 1 _ rfl)) ?_
  refine jM 4 rfl rfl ?_
  have hy18 : (((M.ent e e_k).choices).set j (M.Cho.mk ((M.cho ((M.ent e e_k).choices) j).move) (((M.cho ((M.ent e e_k).choices) j).games) + c.games) ((M.cho ((M.ent e e_k).choices) j).score)))[j]? = some (M.cho (((M.ent e e_k).choices).set j (M.Cho.mk ((M.cho ((M.ent e e_k).choices) j).move) (((M.cho ((M.ent e e_k).choices) j).games) + c.games) ((M.cho ((M.ent e e_k).choices) j).score))) j) := M.cho_get len_
  refine jI 5 el_67 rfl rfl rfl rfl ?_
  refine jF 6 fld_81_2 rfl rfl ?_
  refine JH.q 7 rfl (q_load1 ty_2.h rfl (fun w hw => (Mem.rowR' (i := 1) rfl (fltV_at (C := vcChoice) (fun _ => rfl) hy18) w hw) 2 _ rfl)) ?_
  refine jF 8 fld_81_2 rfl rfl ?_
  refine jB 9 0 ty_2 rfl rfl rfl rfl ?_
  refine JH.p 10 rfl (p_add rfl rfl (IntWalk.i64_in _ (by omega))) ?_
  have hy19 : (((M.ent e e_k).choices).set j (M.Cho.mk ((M.cho ((M.ent e e_k).choices) j).move) (((M.cho ((M.ent e e_k).choices) j).games) + c.games) ((M.cho ((M.ent e e_k).choices) j).score)))[j]? = some (M.cho (((M.ent e e_k).choices).set j (M.Cho.mk ((M.cho ((M.ent e e_k).choices) j).move) (((M.cho ((M.ent e e_k).choices) j).games) + c.games) ((M.cho ((M.ent e e_k).choices) j).score))) j) := M.cho_get len_
  refine jI 11 el_67 rfl rfl rfl rfl ?_
  refine jF 12 fld_81_2 rfl rfl ?_
  refine y1 13 ?_
  refine JHo.s rfl (e_storeRow (i := 1) (xs' := fltV vcChoice ((((M.ent e e_k).choices).set j (M.Cho.mk ((M.cho ((M.ent e e_k).choices) j).move) (((M.cho ((M.ent e e_k).choices) j).games) + c.games) ((M.cho ((M.ent e e_k).choices) j).score))).set j (M.Cho.mk ((M.cho (((M.ent e e_k).choices).set j (M.Cho.mk ((M.cho ((M.ent e e_k).choices) j).move) (((M.cho ((M.ent e e_k).choices) j).games) + c.games) ((M.cho ((M.ent e e_k).choices) j).score))) j).move) ((M.cho (((M.ent e e_k).choices).set j (M.Cho.mk ((M.cho ((M.ent e e_k).choices) j).move) (((M.cho ((M.ent e e_k).choices) j).games) + c.games) ((M.cho ((M.ent e e_k).choices) j).score))) j).games) (((M.cho (((M.ent e e_k).choices).set j (M.Cho.mk ((M.cho ((M.ent e e_k).choices) j).move) (((M.cho ((M.ent e e_k).choices) j).games) + c.games) ((M.cho ((M.ent e e_k).choices) j).score))) j).score) + c.score)))) ty_2.h rfl rfl rfl rfl rfl rfl (fltV_lt (C := vcChoice) (j := 2) (fun _ => rfl) len_ (by decide)) (fltV_cell (C := vcChoice) (j := 2) (y' := (M.Cho.mk ((M.cho (((M.ent e e_k).choices).set j (M.Cho.mk ((M.cho ((M.ent e e_k).choices) j).move) (((M.cho ((M.ent e e_k).choices) j).games) + c.games) ((M.cho ((M.ent e e_k).choices) j).score))) j).move) ((M.cho (((M.ent e e_k).choices).set j (M.Cho.mk ((M.cho ((M.ent e e_k).choices) j).move) (((M.cho ((M.ent e e_k).choices) j).games) + c.games) ((M.cho ((M.ent e e_k).choices) j).score))) j).games) (((M.cho (((M.ent e e_k).choices).set j (M.Cho.mk ((M.cho ((M.ent e e_k).choices) j).move) (((M.cho ((M.ent e e_k).choices) j).games) + c.games) ((M.cho ((M.ent e e_k).choices) j).score))) j).score) + c.score))) (fun _ => rfl) hy19 (by decide) rfl)) (.inr rfl) ?_
  rintro _ _ _ ⟨rfl, rfl⟩ _
  refine znh ?_
  refine yd ?_
  refine Js.pk (cBookEntry (M.Ent.mk ((M.ent e e_k).pits) ((((M.ent e e_k).choices).set j (M.Cho.mk ((M.cho ((M.ent e e_k).choices) j).move) (((M.cho ((M.ent e e_k).choices) j).games) + c.games) ((M.cho ((M.ent e e_k).choices) j).score))).set j (M.Cho.mk ((M.cho (((M.ent e e_k).choices).set j (M.Cho.mk ((M.cho ((M.ent e e_k).choices) j).move) (((M.cho ((M.ent e e_k).choices) j).games) + c.games) ((M.cho ((M.ent e e_k).choices) j).score))) j).move) ((M.cho (((M.ent e e_k).choices).set j (M.Cho.mk ((M.cho ((M.ent e e_k).choices) j).move) (((M.cho ((M.ent e e_k).choices) j).games) + c.games) ((M.cho ((M.ent e e_k).choices) j).score))) j).games) (((M.cho (((M.ent e e_k).choices).set j (M.Cho.mk ((M.cho ((M.ent e e_k).choices) j).move) (((M.cho ((M.ent e e_k).choices) j).games) + c.games) ((M.cho ((M.ent e e_k).choices) j).score))) j).score) + c.score))))) [.slice A1_0 (((M.ent e e_k).pits).length) c1_0, .slice (some ⟨b16, 0, none⟩) (((M.ent e e_k).choices).length) c1_1] (fun f21 G21 => ?_) (by exact (gv_agg (gvc gv_ (gvc (gv_flat lChoice (xs := ((((M.ent e e_k).choices).set j (M.Cho.mk ((M.cho ((M.ent e e_k).choices) j).move) (((M.cho ((M.ent e e_k).choices) j).games) + c.games) ((M.cho ((M.ent e e_k).choices) j).score))).set j (M.Cho.mk ((M.cho (((M.ent e e_k).choices).set j (M.Cho.mk ((M.cho ((M.ent e e_k).choices) j).move) (((M.cho ((M.ent e e_k).choices) j).games) + c.games) ((M.cho ((M.ent e e_k).choices) j).score))) j).move) ((M.cho (((M.ent e e_k).choices).set j (M.Cho.mk ((M.cho ((M.ent e e_k).choices) j).move) (((M.cho ((M.ent e e_k).choices) j).games) + c.games) ((M.cho ((M.ent e e_k).choices) j).score))) j).games) (((M.cho (((M.ent e e_k).choices).set j (M.Cho.mk ((M.cho ((M.ent e e_k).choices) j).move) (((M.cho ((M.ent e e_k).choices) j).games) + c.games) ((M.cho ((M.ent e e_k).choices) j).score))) j).score) + c.score)))) po_ (by first | rfl | (simp [fltV]; done)) (by first | with_reducible rfl | assumption | rfl)) gvn))))
  refine Js.front (i := 3) rfl ?_
  refine zn ?_
  refine Js.front (i := 1) rfl ?_
  refine zn ?_
  refine Js.front (i := 4) rfl ?_
  refine zn ?_
  refine Js.conv (fun w hw => St.closeE cBookEntry (k := e_k) (m := 2) (xs := e) (y := (M.Ent.mk ((M.ent e e_k).pits) ((((M.ent e e_k).choices).set j (M.Cho.mk ((M.cho ((M.ent e e_k).choices) j).move) (((M.cho ((M.ent e e_k).choices) j).games) + c.games) ((M.cho ((M.ent e e_k).choices) j).score))).set j (M.Cho.mk ((M.cho (((M.ent e e_k).choices).set j (M.Cho.mk ((M.cho ((M.ent e e_k).choices) j).move) (((M.cho ((M.ent e e_k).choices) j).games) + c.games) ((M.cho ((M.ent e e_k).choices) j).score))) j).move) ((M.cho (((M.ent e e_k).choices).set j (M.Cho.mk ((M.cho ((M.ent e e_k).choices) j).move) (((M.cho ((M.ent e e_k).choices) j).games) + c.games) ((M.cho ((M.ent e e_k).choices) j).score))) j).games) (((M.cho (((M.ent e e_k).choices).set j (M.Cho.mk ((M.cho ((M.ent e e_k).choices) j).move) (((M.cho ((M.ent e e_k).choices) j).games) + c.games) ((M.cho ((M.ent e e_k).choices) j).score))) j).score) + c.score))))) (vs := vse_0) (vs' := vse_0) (by omega) rfl (setL_same he1 rfl) hw) ?_
  refine zn ?_
  refine zrb0 [3, 0] hb ((x4.trans x5).trans x10) ?_
  have hE1 : e.set e_k (M.Ent.mk (M.ent e e_k).pits (M.addC (M.ent e e_k).choices c)) = e.set e_k (M.Ent.mk ((M.ent e e_k).pits) ((((M.ent e e_k).choices).set j (M.Cho.mk ((M.cho ((M.ent e e_k).choices) j).move) (((M.cho ((M.ent e e_k).choices) j).games) + c.games) ((M.cho ((M.ent e e_k).choices) j).score))).set j (M.Cho.mk ((M.cho (((M.ent e e_k).choices).set j (M.Cho.mk ((M.cho ((M.ent e e_k).choices) j).move) (((M.cho ((M.ent e e_k).choices) j).games) + c.games) ((M.cho ((M.ent e e_k).choices) j).score))) j).move) ((M.cho (((M.ent e e_k).choices).set j (M.Cho.mk ((M.cho ((M.ent e e_k).choices) j).move) (((M.cho ((M.ent e e_k).choices) j).games) + c.games) ((M.cho ((M.ent e e_k).choices) j).score))) j).games) (((M.cho (((M.ent e e_k).choices).set j (M.Cho.mk ((M.cho ((M.ent e e_k).choices) j).move) (((M.cho ((M.ent e e_k).choices) j).games) + c.games) ((M.cho ((M.ent e e_k).choices) j).score))) j).score) + c.score)))) := by first | (simp only [List.length_set]; done) | (rw [← hB9]; done) | (rw [hC]; done) | (rw [hC]; rfl)
  refine ⟨vse_0, (f2_3 ++ f21 ++ f2_2), rfl, ?_⟩
  · exact r5_ hE1
 have q47 := hB47.symm.trans h14; simp only [Bool.and_eq_true, Bool.or_eq_true, decide_eq_true_eq, Bool.and_eq_false_iff, Bool.or_eq_false_iff, decide_eq_false_iff_not, Int.not_lt, Decidable.not_not] at q47
 have hC := M.addC_no (c := c) hN (fun a => q47.elim (fun q => by omega) (fun q => q a.2))
 refine Js.skip <| zS <| zbs fun b22 => ?_
 refine Qm rfl <| Qc rfl <| Qf fh rfl <| Qw (q_load1 ty_67.h rfl (fun w hw => (Mem.rowR' (i := 6) rfl he1 w hw) 1 _ rfl)) <| Qm rfl <| Qq (p_slice (lo' := 0) (hi' := j) (mx' := c1_1) el_67 rfl rfl ⟨_, rfl, by omega⟩ rfl) ?_
 refine JL.e (e_append (i := 0) (n' := (((M.ent e e_k).choices).take j).length) (vs' := fltV vcChoice (((M.ent e e_k).choices).take j)) el_67 rfl rfl rfl rfl (src_pre (i := 2) (b := j) und_67 rfl (fun w hw => (FltL.one (F := lChoice) _)) (by omega) (by omega)) (by first | omega | (simp only [List.length_append, List.length_cons, List.length_nil, List.length_take, List.length_drop]; omega)) (by first | omega | (simp only [List.length_append, List.length_cons, List.length_nil, List.length_take, List.length_drop]; omega)) ln2_ (by rw [(fltV_split (F := lChoice) _ _).1]; first | rfl | exact fltV_app _ _ _ | (simp [fltV]; done))) ?_
 rintro v24 _ _ ⟨⟨g25, rfl⟩, rfl⟩ _
 refine JL.fact (row_form' (i := 0) rfl) (fun hf26 => ?_)
 obtain ⟨A26, c26, rfl, bl26, bh26⟩ := hf26
 refine znl ?_
 refine Qa rfl <| zN <| Qm rfl <| Q9 1 rfl rfl ?_
 refine zbs fun b27 => ?_
 refine JL.e (e_append (i := 1) (n' := ((((M.ent e e_k).choices).take j) ++ [c]).length) (vs' := fltV vcChoice ((((M.ent e e_k).choices).take j) ++ [c])) el_67 rfl rfl rfl rfl (src_row (i := 0) und_67 rfl rfl) (by first | omega | (simp only [List.length_append, List.length_cons, List.length_nil, List.length_take, List.length_drop]; omega)) (by first | omega | (simp only [List.length_append, List.length_cons, List.length_nil, List.length_take, List.length_drop]; omega)) ln2_ (by first | rfl | exact fltV_app _ _ _ | exact fltV_snoc _ _ _ | (simp [fltV]; done))) ?_
 rintro v29 _ _ ⟨⟨g30, rfl⟩, rfl⟩ _
 refine JL.fact (row_form' (i := 1) rfl) (fun hf31 => ?_)
 obtain ⟨A31, c31, rfl, bl31, bh31⟩ := hf31
 refine znl ?_
 refine Qa rfl <| zG <| Qm rfl <| Qm rfl <| Qm rfl <| Qc rfl <| Qf fh rfl <| Qw (q_load1 ty_67.h rfl (fun w hw => (Mem.rowR' (i := 7) rfl he1 w hw) 1 _ rfl)) <| Qm rfl <| Qq (p_slice (lo' := j) (hi' := ((M.ent e e_k).choices).length) (mx' := c1_1) el_67 rfl rfl ⟨rfl, rfl⟩ ⟨_, rfl, by omega⟩) ?_
 refine JL.e (e_append (i := 1) (n' := (((((M.ent e e_k).choices).take j) ++ [c]) ++ (((M.ent e e_k).choices).drop j)).length) (vs' := fltV vcChoice (((((M.ent e e_k).choices).take j) ++ [c]) ++ (((M.ent e e_k).choices).drop j))) el_67 rfl rfl rfl rfl (src_suf (i := 3) (a := j) und_67 rfl (fun w hw => (FltL.one (F := lChoice) _)) (by omega) (by omega)) (by first | omega | (simp only [List.length_append, List.length_cons, List.length_nil, List.length_take, List.length_drop]; omega)) (by first | omega | (simp only [List.length_append, List.length_cons, List.length_nil, List.length_take, List.length_drop]; omega)) ln2_ (by rw [(fltV_split (F := lChoice) _ _).2]; first | rfl | exact fltV_app _ _ _ | (simp [fltV]; done))) ?_
 rintro v32 _ _ ⟨⟨g33, rfl⟩, rfl⟩ _
 refine JL.fact (row_form' (i := 1) rfl) (fun hf34 => ?_)
 obtain ⟨A34, c34, rfl, bl34, bh34⟩ := hf34
 refine znl ?_
 refine Qc rfl <| Qf fh rfl ?_
 refine JL.s (e_storeRow (i := 7) (xs' := setL vse_0 (0 + e_k * 2) [.slice A1_0 (((M.ent e e_k).pits).length) c1_0, .slice A34 ((((((M.ent e e_k).choices).take j) ++ [c]) ++ (((M.ent e e_k).choices).drop j)).length) c34]) ty_67.h rfl rfl rfl rfl rfl rfl (by omega) (setL_at (j := 1) he1 (by decide) hl2 rfl)) ?_
 rintro _ _ _ ⟨rfl, rfl⟩ _
 refine znl ?_
 refine JL.nil ?_
 refine Js.pk (cBookEntry (M.Ent.mk ((M.ent e e_k).pits) (((((M.ent e e_k).choices).take j) ++ [c]) ++ (((M.ent e e_k).choices).drop j)))) [.slice A1_0 (((M.ent e e_k).pits).length) c1_0, .slice A34 ((((((M.ent e e_k).choices).take j) ++ [c]) ++ (((M.ent e e_k).choices).drop j)).length) c34] (fun f36 G36 => ?_) (by exact (gv_agg (gvc gv_ (gvc (gv_flat lChoice (xs := (((((M.ent e e_k).choices).take j) ++ [c]) ++ (((M.ent e e_k).choices).drop j))) po_ (by first | rfl | (simp [fltV]; done)) (by first | with_reducible rfl | assumption | rfl)) gvn))))
 refine Js.front (i := 5) rfl ?_
 refine zn ?_
 refine Js.front (i := 1) rfl ?_
 refine zn ?_
 refine Js.front (i := 6) rfl ?_
 refine zn ?_
 refine Js.conv (fun w hw => St.closeE cBookEntry (k := e_k) (m := 2) (xs := e) (y := (M.Ent.mk ((M.ent e e_k).pits) (((((M.ent e e_k).choices).take j) ++ [c]) ++ (((M.ent e e_k).choices).drop j)))) (vs := vse_0) (vs' := (setL vse_0 (0 + e_k * 2) [.slice A1_0 (((M.ent e e_k).pits).length) c1_0, .slice A34 ((((((M.ent e e_k).choices).take j) ++ [c]) ++ (((M.ent e e_k).choices).drop j)).length) c34])) (by omega) rfl rfl hw) ?_
 refine zn ?_
 refine zrbE [5, 0] hb ((x4.trans x5).trans x10) ?_
 have hE1 : e.set e_k (M.Ent.mk (M.ent e e_k).pits (M.addC (M.ent e e_k).choices c)) = e.set e_k (M.Ent.mk ((M.ent e e_k).pits) (((((M.ent e e_k).choices).take j) ++ [c]) ++ (((M.ent e e_k).choices).drop j))) := by first | (simp only [List.length_set]; done) | (rw [← hB9]; done) | (rw [hC]; done) | (rw [hC]; rfl)
 refine ⟨(setL vse_0 (0 + e_k * 2) [.slice A1_0 (((M.ent e e_k).pits).length) c1_0, .slice A34 ((((((M.ent e e_k).choices).take j) ++ [c]) ++ (((M.ent e e_k).choices).drop j)).length) c34]), (f2_3 ++ f36 ++ f2_2), rfl, ?_⟩
 · exact r5_ hE1
theorem c_spec_l20Add (b_rules : M.Rul) (b_entries : List M.Ent) {Ab_9 : Option Addr} {cb_9 : Nat} {gb_9 : List Nat} {vsb_9 : List Value} {fb_9 : List Nat} (pits : List Int) {v_pits : Value} (c : M.Cho) {v_c : Value} {bb : Nat} {w : World} (hb : Bw w [boxO bb [.int .i64 b_rules.pits, .int .i64 b_rules.seeds, .bool b_rules.stores, .bool b_rules.skip, .bool b_rules.relay, .bool b_rules.feed, .bool b_rules.again, .int .i64 b_rules.capture, .int .i64 b_rules.slam, .slice Ab_9 b_entries.length cb_9] 37, rowO 89 2 (.slice Ab_9 b_entries.length cb_9) b_entries.length vsb_9 gb_9, ownC (lBookEntry b_entries) vsb_9 fb_9]) (h_pits : (Ty.ints 2 pits).ok (offW w (([boxO bb [.int .i64 b_rules.pits, .int .i64 b_rules.seeds, .bool b_rules.stores, .bool b_rules.skip, .bool b_rules.relay, .bool b_rules.feed, .bool b_rules.again, .int .i64 b_rules.capture, .int .i64 b_rules.slam, .slice Ab_9 b_entries.length cb_9] 37, rowO 89 2 (.slice Ab_9 b_entries.length cb_9) b_entries.length vsb_9 gb_9, ownC (lBookEntry b_entries) vsb_9 fb_9] : List Own).flatMap (·.fp))) v_pits) (h_c : (Ty.agg (cChoice c)).ok (offW w (([boxO bb [.int .i64 b_rules.pits, .int .i64 b_rules.seeds, .bool b_rules.stores, .bool b_rules.skip, .bool b_rules.relay, .bool b_rules.feed, .bool b_rules.again, .int .i64 b_rules.capture, .int .i64 b_rules.slam, .slice Ab_9 b_entries.length cb_9] 37, rowO 89 2 (.slice Ab_9 b_entries.length cb_9) b_entries.length vsb_9 gb_9, ownC (lBookEntry b_entries) vsb_9 fb_9] : List Own).flatMap (·.fp))) v_c) (bd0 : b_entries.length ≤ cb_9 := by exact om_) (bd1 : cb_9 ≤ 9223372036854775807 := by exact om_) (r0 : b_entries.length ≤ 4194303 := by exact om_) (r1 : ∀ x ∈ b_entries, x.pits.length ≤ 4194304 ∧ x.choices.length ≤ 4194304 := by exact om_) (r2 : M.EB 1000000000000000 b_entries := by exact om_) (r3 : pits.length ≤ 4194304 := by exact om_) (r4 : 0 ≤ c.games := by exact om_) (r5 : c.games ≤ 2000000 := by exact om_) (r6 : 0 ≤ c.score := by exact om_) (r7 : c.score ≤ 2000000 := by exact om_) : RetB Tryz.prog 73 [.pointer (some ⟨bb, 0, none⟩), v_pits, v_c] w [boxO bb [.int .i64 b_rules.pits, .int .i64 b_rules.seeds, .bool b_rules.stores, .bool b_rules.skip, .bool b_rules.relay, .bool b_rules.feed, .bool b_rules.again, .int .i64 b_rules.capture, .int .i64 b_rules.slam, .slice Ab_9 b_entries.length cb_9] 37, rowO 89 2 (.slice Ab_9 b_entries.length cb_9) b_entries.length vsb_9 gb_9, ownC (lBookEntry b_entries) vsb_9 fb_9] (fun v bs' => ∃ (Axb_9 : Option Addr) (cxb_9 : Nat) (gxb_9 : List Nat) (vsxb_9 : List Value) (fxb_9 : List Nat), v = .tuple #[] ∧ bs' = [boxO bb [.int .i64 b_rules.pits, .int .i64 b_rules.seeds, .bool b_rules.stores, .bool b_rules.skip, .bool b_rules.relay, .bool b_rules.feed, .bool b_rules.again, .int .i64 b_rules.capture, .int .i64 b_rules.slam, .slice Axb_9 ((M.addE b_entries pits c).length) cxb_9] 37, rowO 89 2 (.slice Axb_9 ((M.addE b_entries pits c).length) cxb_9) ((M.addE b_entries pits c).length) vsxb_9 gxb_9, ownC (lBookEntry (M.addE b_entries pits c)) vsxb_9 fxb_9] ∧ (M.addE b_entries pits c).length ≤ cxb_9 ∧ cxb_9 ≤ 9223372036854775807) := by
 have hfl := M.findE_le b_entries pits
 revert v_pits; apply opn
 intro A1 c1 h1 bl1 bh1
 have h_pits := h1
 revert v_c; apply opn
 refine enterB hb @Tryz.func73 @Tryz.ntmps73 rfl rfl ?_
 refine zent ?_
 refine Js.trashE ?_
 refine zn ?_
 refine zS <| zb rfl fun b2 => zN <| Qm rfl <| Qm rfl <| zv rfl (fun w hw => c_spec_l20Find (M.Boo.mk b_rules b_entries) pits ⟨_, _, [.int .i64 b_rules.pits, .int .i64 b_rules.seeds, .bool b_rules.stores, .bool b_rules.skip, .bool b_rules.relay, .bool b_rules.feed, .bool b_rules.again, .int .i64 b_rules.capture, .int .i64 b_rules.slam, .slice Ab_9 b_entries.length cb_9], rfl, ⟨rfl, rfl, rfl, rfl, rfl, rfl, rfl, rfl, rfl, (srow_ok lBookEntry (xs := b_entries) (hw.pr (i := 2) rfl) (hw.pr (i := 3) rfl) (lBookEntry_length _)), trivial⟩, Mem.boxR (i := 1) rfl 0 10 _ hw⟩ (ok_ hw) (r1 := r1)) <| Qm rfl <| Qx rfl rfl <| Qx rfl rfl <| Qa rfl <| Qa rfl <| zJ <| zS <| Qm rfl ?_
 refine Qt rfl <| JL.nil ?_
 refine zk [0, 5] (fun F U l os u => ∃ (ES : List M.Ent) (q : Nat) (A3_0_9 : Option Addr) (c3_0_9 : Nat) (g3_0_9 : List Nat) (vs3_0_9 : List Value) (fl3_0_9 : List Nat) (G3_4 : List Nat), l = F [(6, .int .i64 (q : Int))] ∧ os = U [nO, some (boxO bb [.int .i64 b_rules.pits, .int .i64 b_rules.seeds, .bool b_rules.stores, .bool b_rules.skip, .bool b_rules.relay, .bool b_rules.feed, .bool b_rules.again, .int .i64 b_rules.capture, .int .i64 b_rules.slam, .slice A3_0_9 ES.length c3_0_9] 37), some (rowO 89 2 (.slice A3_0_9 ES.length c3_0_9) ES.length vs3_0_9 g3_0_9), some (ownC (lBookEntry ES) vs3_0_9 fl3_0_9), some (anyO G3_4)] ∧ (ES = M.atE b_entries pits) ∧ (q < ES.length) ∧ (ES.length ≤ 4194304) ∧ (M.findE b_entries pits = q) ∧ (ES.length ≤ c3_0_9) ∧ (c3_0_9 ≤ 9223372036854775807)) ?_ ?_
 ·
  refine zi (fun h4 h4' => ?_) fun h4 h4' => ?_
  ·
   have hno : ¬ M.hasE b_entries pits = true := by simpa using h4
   have hA : b_entries.take (M.findE b_entries pits) ++ [(M.Ent.mk pits [])] ++ b_entries.drop (M.findE b_entries pits) = M.atE b_entries pits := M.atE_no rfl hno
   have hAl : (b_entries.take (M.findE b_entries pits) ++ [(M.Ent.mk pits [])] ++ b_entries.drop (M.findE b_entries pits)).length = b_entries.length + 1 := by simp; omega
   refine zS <| zbs fun b5 => ?_
   refine Qm rfl <| Qc rfl <| Qf fh rfl <| Q0 2 rfl rfl rfl <| Qm rfl <| Qq (p_slice (lo' := 0) (hi' := M.findE b_entries pits) (mx' := cb_9) el_35 rfl rfl ⟨_, rfl, by omega⟩ rfl) ?_
   refine JL.e (e_append (i := 0) (n' := (M.findE b_entries pits) - 0) (vs' := vsb_9.take ((M.findE b_entries pits) * 2)) el_35 rfl rfl rfl rfl (src_pre (i := 3) (b := M.findE b_entries pits) und_35 rfl (fun w hw => (ownOne (i := 4) rfl (OneL.flat (F := cBookEntry) (fun _ => (.consSl (.consSl .nil))) _) w hw)) (by omega) (by omega)) (by first | omega | (simp only [List.length_append, List.length_cons, List.length_nil, List.length_take, List.length_drop]; omega)) (by first | omega | (simp only [List.length_append, List.length_cons, List.length_nil, List.length_take, List.length_drop]; omega)) ln2_ (rfl)) ?_
   rintro v7 _ _ ⟨⟨g8, rfl⟩, rfl⟩ _
   refine JL.fact (row_form' (i := 0) rfl) (fun hf9 => ?_)
   obtain ⟨A9, c9, rfl, bl9, bh9⟩ := hf9
   refine znl ?_
   refine Qa rfl <| zN <| Qm rfl <| Qm rfl <| zcs rfl (fun w hw => c_spec_l00Own pits (ok_ hw)) ?_
   intro A10 c10 bl10 bh10
   refine Qb ?_
   refine zbs fun b11 => ?_
   refine JL.e (e_append (i := 2) (n' := ((b_entries.take (M.findE b_entries pits)) ++ ([(M.Ent.mk pits [])])).length) (vs' := (vsb_9.take ((M.findE b_entries pits) * 2)) ++ [.slice A10 pits.length c10, .slice none 0 0]) el_35 rfl rfl rfl rfl (src_row (i := 0) und_35 rfl rfl) (by first | omega | (simp only [List.length_append, List.length_cons, List.length_nil, List.length_take, List.length_drop]; omega)) (by first | omega | (simp only [List.length_append, List.length_cons, List.length_nil, List.length_take, List.length_drop]; omega)) ln2_ (rfl)) ?_
   rintro v13 _ _ ⟨⟨g14, rfl⟩, rfl⟩ _
   refine JL.fact (row_form' (i := 2) rfl) (fun hf15 => ?_)
   obtain ⟨A15, c15, rfl, bl15, bh15⟩ := hf15
   refine znl ?_
   refine Qa rfl <| zG <| Qm rfl <| Qm rfl <| Qm rfl <| Qc rfl <| Qf fh rfl <| Q0 4 rfl rfl rfl <| Qm rfl <| Qq (p_slice (lo' := M.findE b_entries pits) (hi' := b_entries.length) (mx' := cb_9) el_35 rfl rfl ⟨rfl, rfl⟩ ⟨_, rfl, by omega⟩) ?_
   refine JL.e (e_append (i := 2) (n' := (((b_entries.take (M.findE b_entries pits)) ++ ([(M.Ent.mk pits [])])) ++ (b_entries.drop (M.findE b_entries pits))).length) (vs' := ((vsb_9.take ((M.findE b_entries pits) * 2)) ++ [.slice A10 pits.length c10, .slice none 0 0]) ++ (vsb_9.drop ((M.findE b_entries pits) * 2))) el_35 rfl rfl rfl rfl (src_suf (i := 5) (a := M.findE b_entries pits) und_35 rfl (fun w hw => (ownOne (i := 6) rfl (OneL.flat (F := cBookEntry) (fun _ => (.consSl (.consSl .nil))) _) w hw)) (by omega) (by omega)) (by first | omega | (simp only [List.length_append, List.length_cons, List.length_nil, List.length_take, List.length_drop]; omega)) (by first | omega | (simp only [List.length_append, List.length_cons, List.length_nil, List.length_take, List.length_drop]; omega)) ln2_ (rfl)) ?_
   rintro v16 _ _ ⟨⟨g17, rfl⟩, rfl⟩ _
   refine JL.fact (row_form' (i := 2) rfl) (fun hf18 => ?_)
   obtain ⟨A18, c18, rfl, bl18, bh18⟩ := hf18
   refine znl ?_
   refine Qc rfl <| Qf fh rfl <| zw 4 rfl rfl rfl ?_
   refine JL.nil ?_
   refine Js.pk (cBookEntry (M.Ent.mk pits [])) [.slice A10 pits.length c10, .slice none 0 0] (fun f19 G19 => ?_)
   refine zn ?_
   refine Js.insL cBookEntry (i := 7) (j := 0) (m := 2) (k := M.findE b_entries pits) (vs' := ((vsb_9.take ((M.findE b_entries pits) * 2)) ++ [.slice A10 pits.length c10, .slice none 0 0]) ++ (vsb_9.drop ((M.findE b_entries pits) * 2))) (fun _ => rfl) rfl rfl (by omega) (by first | rfl | simp) (fun f20 => ?_)
   refine zn ?_
   refine zf [4, 4, 3, 0] fun GG21 => ?_
   refine zn ?_
   exact zm ⟨(b_entries.take (M.findE b_entries pits) ++ [(M.Ent.mk pits [])] ++ b_entries.drop (M.findE b_entries pits)), (M.findE b_entries pits), _, _, _, _, _, _, rfl, rfl, by exact hA, by omega, by omega, by rfl, by first | assumption | omega | rfl | (dsimp only; omega) | (simp; done), by first | assumption | omega | rfl | (dsimp only; omega) | (simp; done)⟩ (Up.refl _ _)
  have hyes : M.hasE b_entries pits = true := by simpa using h4
  have hA : b_entries = M.atE b_entries pits := M.atE_yes hyes
  have hlt := M.hasE_lt hyes
  refine Js.skip ?_
  exact zm ⟨(b_entries), (M.findE b_entries pits), _, _, _, _, _, _, rfl, rfl, by exact hA, by omega, by omega, by rfl, by first | assumption | omega | rfl | (dsimp only; omega) | (simp; done), by first | assumption | omega | rfl | (dsimp only; omega) | (simp; done)⟩ (Up.refl _ _)
 rintro _ _ u3 ⟨ES, q, A3_0_9, c3_0_9, g3_0_9, vs3_0_9, fl3_0_9, G3_4, rfl, rfl, hA, hAk, hAl, hE, f3_4, f3_5⟩ x3
 refine zn ?_
 have hsz := (hA.symm ▸ (M.SzE.at_ (n := 4194304) r1 r3) : M.SzE 4194304 ES) _ (M.ent_mem hAk)
 have hcb := (hA.symm ▸ r2.at_ : M.EB 1000000000000000 ES) _ (M.ent_mem hAk)
 refine zdr [7] ?_
 refine jM 0 rfl rfl ?_
 refine jN 1 rfl rfl ?_
 refine jF 2 fld_37_1 rfl rfl ?_
 refine jB 3 1 ty_35 rfl rfl rfl rfl ?_
 refine jM 4 rfl rfl ?_
 refine JH.fact (row_some (i := 2) rfl (by omega)) (fun hf23 => ?_)
 obtain ⟨b23, rfl⟩ := hf23
 have hy22 : ES[q]? = some (M.ent ES q) := M.ent_get len_
 refine JH.fact (fun w hw => elemv_BookEntry (Mem.ownC (i := 3) rfl w hw) hy22) (fun hf22 => ?_)
 obtain ⟨A22_0, c22_0, A22_1, c22_1, he22, bl22_0, bh22_0, bl22_1, bh22_1⟩ := hf22
 refine jI 5 el_35 rfl rfl rfl rfl ?_
 refine JH.q 6 rfl (L9 0 rfl rfl) ?_
 refine y1 7 ?_
 refine zhh [2, 2] ?_
 refine yBB 2 sp_ rfl rfl (fun w hb _ hw => c_spec_l20Count ES q c hb (ok_ hw) (r0 := hsz.2) (r1 := hcb)) ?_
 rintro _ _ G24 ⟨vs24_e, f24_e, rfl, rfl⟩
 refine znh ?_
 refine yd ?_
 refine zrbE [4, 0, 0] hb x3 ?_
 have hN10 : (M.addE b_entries pits c).length = ES.length := by first | (rw [← M.addE_at (c := c) hE hA]; simp; done) | exact (M.addE_at (c := c) hE hA).symm
 have hE10 : M.addE b_entries pits c = (ES.set q (M.Ent.mk (M.ent ES q).pits (M.addC (M.ent ES q).choices c))) := by first | (rw [← M.addE_at (c := c) hE hA]; simp; done) | exact (M.addE_at (c := c) hE hA).symm
 refine ⟨(some ⟨b23, 0, none⟩), c3_0_9, g3_0_9, vs24_e, f24_e, rfl, ?_, ?_, ?_⟩
 · first | rfl | (dsimp only; rw [hN10, hE10]; done) | (dsimp only; rw [hN10, hE10]; rfl) | (dsimp only; simp only [hN10, hE10]) | (rw [hN10, hE10]; done) | (rw [hN10, hE10]; rfl)
 all_goals (try dsimp only)
 all_goals (first | (rw [hN10, hE10]; omega) | omega | (simp only [*]; omega))
theorem c_spec_l20Full (b : M.Boo) {v_b : Value} {w : World} (h_b : (Ty.agg (cBook b)).ok w v_b) (r0 : b.entries.length ≤ 4194304 := by exact om_) (r1 : ∀ x ∈ b.entries, x.pits.length ≤ 4194304 ∧ x.choices.length ≤ 4194304 := by exact om_) : RetX Tryz.prog 75 [v_b] w (fun v => v = if M.okB b = true then .tuple #[v_b, .int .i64 0] else .tuple #[.agg #[.int .i64 0, .int .i64 0, .bool false, .bool false, .bool false, .bool false, .bool false, .int .i64 0, .int .i64 0, .slice none 0 0], .int .i64 5]) := by
 revert v_b; apply opn
 intro A1 c1 h1 bl1 bh1
 refine enter @Tryz.func75 @Tryz.ntmps75 rfl rfl ?_
 refine zent ?_
 refine zS <| zb rfl fun b2 => za zeh fun b3 => Qa rfl <| zJ <| zS <| zv rfl (fun w hw => c_spec_l20Ok b (ok_ hw) (r1 := r1)) <| Qt rfl <| JL.nil ?_
 refine zi (fun h4 h4' => ?_) fun h4 h4' => ?_
 ·
  have hno : ¬ M.okB b = true := by simpa using h4
  refine zS <| Qb ?_
  refine zw 0 rfl rfl rfl ?_
  refine Qa rfl <| JL.nil ?_
  refine zX (Up.refl _ _) ?_
  show _ = _; first | rw [if_pos hok] | rw [if_neg hno]
 have hok : M.okB b = true := by simpa using h4
 refine Js.skip <| zS <| Q9 1 rfl rfl ?_
 refine zw 0 rfl rfl rfl ?_
 refine Qa rfl <| JL.nil ?_
 refine zX (Up.refl _ _) ?_
 show _ = _; first | rw [if_pos hok] | rw [if_neg hno]
theorem c_spec_l04TurnL (r : M.Rul) {v_r : Value} (p : M.Pos) {v_p : Value} {w : World} (h_r : (Ty.ref (cRules r)).ok w v_r) (h_p : (Ty.ref (cPosition p)).ok w v_p) (r0 : (p.pits.length : Int) = 2 * r.pits := by exact om_) (r1 : p.stores.length = 2 := by exact om_) (r2 : 2 ≤ r.pits := by exact om_) (r3 : r.pits ≤ 8 := by exact om_) (r4 : p.player = 1 := by exact om_) : Ret Tryz.prog 132 [v_r, v_p] w (Ty.agg (cPosition (M.turnP r p))) := by
 revert v_r; apply opn
 intro b1 o1 hr1
 revert v_p; apply opn
 intro b4 o4 A2 c2 h2 bl2 bh2 A3 c3 h3 bl3 bh3 hr4
 refine enter @Tryz.func132 @Tryz.ntmps132 rfl rfl ?_
 refine zent ?_
 refine zS <| za zeh fun b5 => zJ ?_
 refine zdr [] ?_
 refine jM 0 rfl rfl ?_
 refine jN 1 rfl rfl ?_
 refine jF 2 fld_39_0 rfl rfl ?_
 refine jW 3 ty_27 rfl rfl (fun hv => (hr4.vis hv) 0 _ rfl) ?_
 refine jM 4 rfl rfl ?_
 refine jN 5 rfl rfl ?_
 refine jF 6 fld_34_0 rfl rfl ?_
 refine jW 7 ty_2 rfl rfl (fun hv => (hr1.vis hv) 0 _ rfl) ?_
 have hs6 := ints_cut (a := r.pits.toNat) (b := p.pits.length) (m := c2) h2 (by omega) (by omega) (by omega) (by omega)
 have hl6 : ((p.pits.drop r.pits.toNat).take (p.pits.length - r.pits.toNat)).length = p.pits.length - r.pits.toNat := by rw [List.length_take, List.length_drop]; omega
 refine JH.p 8 rfl (p_slice (lo' := r.pits.toNat) (hi' := p.pits.length) (mx' := c2) el_27 rfl rfl ⟨rfl, rfl⟩ ⟨_, by rw [Int.toNat_of_nonneg (by omega)]; exact rfl, by omega⟩) ?_
 refine y1 9 ?_
 refine ycs rfl rfl (fun w hw => c_spec_l00Own ((p.pits.drop r.pits.toNat).take (p.pits.length - r.pits.toNat)) (ok_ hw)) ?_
 intro A7 c7 bl7 bh7
 refine jA 10 rfl rfl ?_
 refine yd ?_
 refine Js.seq ?_
 refine zk [4] (fun F U l os u => ∃ (b14 : Nat) (A13 : Option Addr) (c13 : Nat) (g12 : List Nat), l = F [] ∧ os = [rowO 2 1 (.slice (some ⟨b14, 0, none⟩) 2 2) 2 [.int .i64 (M.nth p.stores 1), .int .i64 (M.nth p.stores 0)] []] ++ U [some (rowO 2 1 (.slice A13 ((((p.pits.drop r.pits.toNat).take (p.pits.length - r.pits.toNat)) ++ ((p.pits.drop 0).take (r.pits.toNat - 0))).length) c13) ((((p.pits.drop r.pits.toNat).take (p.pits.length - r.pits.toNat)) ++ ((p.pits.drop 0).take (r.pits.toNat - 0))).length) (ints_ (((p.pits.drop r.pits.toNat).take (p.pits.length - r.pits.toNat)) ++ ((p.pits.drop 0).take (r.pits.toNat - 0)))) g12), some (boxO b5 [.slice A13 ((((p.pits.drop r.pits.toNat).take (p.pits.length - r.pits.toNat)) ++ ((p.pits.drop 0).take (r.pits.toNat - 0))).length) c13, .slice (some ⟨b14, 0, none⟩) 2 2, .int .i64 (1 - p.player)] 39)] ∧ ((((p.pits.drop r.pits.toNat).take (p.pits.length - r.pits.toNat)) ++ ((p.pits.drop 0).take (r.pits.toNat - 0))).length ≤ c13) ∧ (c13 ≤ 9223372036854775807)) ?_ ?_
 ·
  refine zdr [10, 30] ?_
  refine jM 0 rfl rfl ?_
  refine jM 1 rfl rfl ?_
  refine jN 2 rfl rfl ?_
  refine jF 3 fld_39_0 rfl rfl ?_
  refine jW 4 ty_27 rfl rfl (fun hv => (hr4.vis hv) 0 _ rfl) ?_
  refine jM 5 rfl rfl ?_
  refine jN 6 rfl rfl ?_
  refine jF 7 fld_34_0 rfl rfl ?_
  refine jW 8 ty_2 rfl rfl (fun hv => (hr1.vis hv) 0 _ rfl) ?_
  have hs22 := ints_cut (a := 0) (b := r.pits.toNat) (m := c2) h2 (by omega) (by omega) (by omega) (by omega)
  have hl22 : ((p.pits.drop 0).take (r.pits.toNat - 0)).length = r.pits.toNat - 0 := by rw [List.length_take, List.length_drop]; omega
  refine JH.p 9 rfl (p_slice (lo' := 0) (hi' := r.pits.toNat) (mx' := c2) el_27 rfl rfl ⟨_, by rw [Int.toNat_of_nonneg (by omega)]; exact rfl, by omega⟩ rfl) ?_
  refine jM 11 rfl rfl ?_
  refine jN 12 rfl rfl ?_
  refine jF 13 fld_39_1 rfl rfl ?_
  refine jW 14 ty_27 rfl rfl (fun hv => (hr4.vis hv) 1 _ rfl) ?_
  obtain ⟨b23, o23, he23, hc23⟩ := ints_elem h3 (i := 1) (by omega)
  refine jI 15 el_27 rfl rfl rfl he23 ?_
  refine jW 16 ty_2 rfl rfl hc23.vis ?_
  refine jM 17 rfl rfl ?_
  refine jN 18 rfl rfl ?_
  refine jF 19 fld_39_1 rfl rfl ?_
  refine jW 20 ty_27 rfl rfl (fun hv => (hr4.vis hv) 1 _ rfl) ?_
  obtain ⟨b24, o24, he24, hc24⟩ := ints_elem h3 (i := 0) (by omega)
  refine jI 21 el_27 rfl rfl rfl he24 ?_
  refine jW 22 ty_2 rfl rfl hc24.vis ?_
  refine jM 24 rfl rfl ?_
  refine jN 25 rfl rfl ?_
  refine jF 26 fld_39_2 rfl rfl ?_
  refine jW 27 ty_2 rfl rfl (fun hv => (hr4.vis hv) 2 _ rfl) ?_
  refine JH.p 28 rfl (p_sub rfl rfl (IntWalk.i64_in _ (by omega))) ?_
  refine y2 10 23 ?_ ?_
  ·
   refine JHo.e rfl (e_append (i := 0) (n' := (((p.pits.drop r.pits.toNat).take (p.pits.length - r.pits.toNat)) ++ ((p.pits.drop 0).take (r.pits.toNat - 0))).length) (vs' := ints_ (((p.pits.drop r.pits.toNat).take (p.pits.length - r.pits.toNat)) ++ ((p.pits.drop 0).take (r.pits.toNat - 0)))) el_27 rfl rfl rfl rfl (src_intsN und_27 hl22 hs22) (by omega) (by omega) ln2_ (by simp [ints_])) (.inr rfl) ?_
   rintro v25 _ _ ⟨⟨g26, rfl⟩, rfl⟩ _
   refine JH.fact (row_form' (i := 0) rfl) (fun hf27 => ?_)
   obtain ⟨A27, c27, rfl, bl27, bh27⟩ := hf27
   refine znh ?_
   refine y1 23 ?_
   refine ybs rfl fun b28 => ?_
   refine JH.p 29 rfl (q_bld) ?_
   refine y1 30 ?_
   refine yst rfl rfl rfl ?_
   refine yd ?_
   exact zm ⟨_, _, _, _, rfl, rfl, zt, zt⟩ (Up.refl _ _)
  refine ybs rfl fun b30 => ?_
  refine y1 10 ?_
  refine JHo.e rfl (e_append (i := 1) (n' := (((p.pits.drop r.pits.toNat).take (p.pits.length - r.pits.toNat)) ++ ((p.pits.drop 0).take (r.pits.toNat - 0))).length) (vs' := ints_ (((p.pits.drop r.pits.toNat).take (p.pits.length - r.pits.toNat)) ++ ((p.pits.drop 0).take (r.pits.toNat - 0)))) el_27 rfl rfl rfl rfl (src_intsN und_27 hl22 hs22) (by omega) (by omega) ln2_ (by simp [ints_])) (.inr rfl) ?_
  rintro v32 _ _ ⟨⟨g33, rfl⟩, rfl⟩ _
  refine JH.fact (row_form' (i := 1) rfl) (fun hf34 => ?_)
  obtain ⟨A34, c34, rfl, bl34, bh34⟩ := hf34
  refine znh ?_
  refine JH.p 29 rfl (q_bld) ?_
  refine y1 30 ?_
  refine yst rfl rfl rfl ?_
  refine yd ?_
  exact zm ⟨_, _, _, _, rfl, rfl, zt, zt⟩ (Up.refl _ _)
 rintro _ _ u21 ⟨b14, A13, c13, g12, rfl, rfl, f21_0, f21_1⟩ x21
 refine zn ?_
 have hq0 : (((p.pits.drop r.pits.toNat).take (p.pits.length - r.pits.toNat)) ++ ((p.pits.drop 0).take (r.pits.toNat - 0))) = (M.turnP r p).pits := by first | rfl | (simp [M.turnP, List.take_of_length_le]; done) | (unfold M.turnP; simp; omega)
 have hq1 : [(M.nth p.stores 1), (M.nth p.stores 0)] = (M.turnP r p).stores := by first | rfl | (simp [M.turnP, List.take_of_length_le]; done) | (unfold M.turnP; simp; omega)
 have hq2 : (1 - p.player) = (M.turnP r p).player := by first | rfl | (simp [M.turnP, List.take_of_length_le]; done) | (unfold M.turnP; simp; omega)
 exact zro x21
theorem c_spec_l04ViewL (r : M.Rul) {v_r : Value} (p : M.Pos) {v_p : Value} {w : World} (h_r : (Ty.ref (cRules r)).ok w v_r) (h_p : (Ty.ref (cPosition p)).ok w v_p) (r0 : (p.pits.length : Int) = 2 * r.pits := by exact om_) (r1 : p.stores.length = 2 := by exact om_) (r2 : 2 ≤ r.pits := by exact om_) (r3 : r.pits ≤ 8 := by exact om_) : Ret Tryz.prog 74 [v_r, v_p] w (Ty.ex (fun (VX : M.Pos) => ((VX.pits.length : Int) = 2 * r.pits)) (fun VX => Ty.agg (cPosition VX))) := by
 revert v_r; apply opn
 intro b1 o1 hr1
 revert v_p; apply opn
 intro b4 o4 A2 c2 h2 bl2 bh2 A3 c3 h3 bl3 bh3 hr4
 refine enter @Tryz.func74 @Tryz.ntmps74 rfl rfl ?_
 refine zent ?_
 refine zS <| za zeh fun b5 => zJ <| zS <| Qm rfl <| Qc rfl <| Qf fh rfl <| QC (hr4 2 _ rfl) rfl <| Qe rfl rfl <| JL.nil ?_
 refine zi (fun h6 h6' => ?_) fun h6 h6' => ?_
 ·
  refine zS <| Qm rfl <| Qm rfl <| zc rfl (fun w hw => c_spec_l04TurnL r p (ok_ hw) (ok_ hw)) ?_
  intro A8 c8 bl8 bh8 A9 c9 bl9 bh9
  refine zw 2 rfl rfl rfl ?_
  refine JL.nil ?_
  exact zro (Up.refl _ _) (g := by exact (gv_ex (M.turnP r p) (by first | omega | (rw [M.turnP_len]; omega)) gv_))
 refine Js.skip <| zS <| Qm rfl <| zc rfl (fun w hw => c_spec_l04Own p (ok_ hw)) ?_
 intro A11 c11 bl11 bh11 A12 c12 bl12 bh12
 refine zw 2 rfl rfl rfl ?_
 refine JL.nil ?_
 exact zro (Up.refl _ _) (g := by exact (gv_ex p (by first | omega | (rw [M.turnP_len]; omega)) gv_))
theorem c_spec_l20Fill (s_code : Nat) (s_at s_seed : Int) {As_0 : Option Addr} {cs_0 : Nat} (b_rules : M.Rul) (b_entries : List M.Ent) {Ab_9 : Option Addr} {cb_9 : Nat} {gb_9 : List Nat} {vsb_9 : List Value} {fb_9 : List Nat} (p : M.Pos) {v_p : Value} {bs bb : Nat} {w : World} (hb : Bw w [boxO bs [.slice As_0 s_code cs_0, .int .i64 s_at, .int .u64 s_seed] 189, boxO bb [.int .i64 b_rules.pits, .int .i64 b_rules.seeds, .bool b_rules.stores, .bool b_rules.skip, .bool b_rules.relay, .bool b_rules.feed, .bool b_rules.again, .int .i64 b_rules.capture, .int .i64 b_rules.slam, .slice Ab_9 b_entries.length cb_9] 37, rowO 89 2 (.slice Ab_9 b_entries.length cb_9) b_entries.length vsb_9 gb_9, ownC (lBookEntry b_entries) vsb_9 fb_9]) (hps_0 : (Ty.bytes 5 s_code).ok (offW w (([boxO bs [.slice As_0 s_code cs_0, .int .i64 s_at, .int .u64 s_seed] 189, boxO bb [.int .i64 b_rules.pits, .int .i64 b_rules.seeds, .bool b_rules.stores, .bool b_rules.skip, .bool b_rules.relay, .bool b_rules.feed, .bool b_rules.again, .int .i64 b_rules.capture, .int .i64 b_rules.slam, .slice Ab_9 b_entries.length cb_9] 37, rowO 89 2 (.slice Ab_9 b_entries.length cb_9) b_entries.length vsb_9 gb_9, ownC (lBookEntry b_entries) vsb_9 fb_9] : List Own).flatMap (·.fp))) (.slice As_0 s_code cs_0)) (h_p : (Ty.ref (cPosition p)).ok (offW w (([boxO bs [.slice As_0 s_code cs_0, .int .i64 s_at, .int .u64 s_seed] 189, boxO bb [.int .i64 b_rules.pits, .int .i64 b_rules.seeds, .bool b_rules.stores, .bool b_rules.skip, .bool b_rules.relay, .bool b_rules.feed, .bool b_rules.again, .int .i64 b_rules.capture, .int .i64 b_rules.slam, .slice Ab_9 b_entries.length cb_9] 37, rowO 89 2 (.slice Ab_9 b_entries.length cb_9) b_entries.length vsb_9 gb_9, ownC (lBookEntry b_entries) vsb_9 fb_9] : List Own).flatMap (·.fp))) v_p) (bd0 : b_entries.length ≤ cb_9 := by exact om_) (bd1 : cb_9 ≤ 9223372036854775807 := by exact om_) (r0 : 0 ≤ s_at := by exact om_) (r1 : s_at ≤ 999999900 := by exact om_) (r2 : s_code ≤ 1048576 := by exact om_) (r3 : (p.pits.length : Int) = 2 * b_rules.pits := by exact om_) (r4 : p.stores.length = 2 := by exact om_) (r5 : 2 ≤ b_rules.pits := by exact om_) (r6 : b_rules.pits ≤ 8 := by exact om_) (r7 : M.BE 1000 b_entries := by exact om_) : RetB Tryz.prog 151 [.pointer (some ⟨bs, 0, none⟩), .pointer (some ⟨bb, 0, none⟩), v_p] w [boxO bs [.slice As_0 s_code cs_0, .int .i64 s_at, .int .u64 s_seed] 189, boxO bb [.int .i64 b_rules.pits, .int .i64 b_rules.seeds, .bool b_rules.stores, .bool b_rules.skip, .bool b_rules.relay, .bool b_rules.feed, .bool b_rules.again, .int .i64 b_rules.capture, .int .i64 b_rules.slam, .slice Ab_9 b_entries.length cb_9] 37, rowO 89 2 (.slice Ab_9 b_entries.length cb_9) b_entries.length vsb_9 gb_9, ownC (lBookEntry b_entries) vsb_9 fb_9] (fun v bs' => ∃ (ES : List M.Ent) (AT SD : Int) (Axb_9 : Option Addr) (cxb_9 : Nat) (gxb_9 : List Nat) (vsxb_9 : List Value) (fxb_9 : List Nat), v = .tuple #[] ∧ bs' = [boxO bs [.slice As_0 s_code cs_0, .int .i64 AT, .int .u64 SD] 189, boxO bb [.int .i64 b_rules.pits, .int .i64 b_rules.seeds, .bool b_rules.stores, .bool b_rules.skip, .bool b_rules.relay, .bool b_rules.feed, .bool b_rules.again, .int .i64 b_rules.capture, .int .i64 b_rules.slam, .slice Axb_9 ES.length cxb_9] 37, rowO 89 2 (.slice Axb_9 ES.length cxb_9) ES.length vsxb_9 gxb_9, ownC (lBookEntry ES) vsxb_9 fxb_9] ∧ ES.length ≤ cxb_9 ∧ cxb_9 ≤ 9223372036854775807 ∧ (M.Gro b_entries ES 6) ∧ (s_at ≤ AT) ∧ (AT ≤ s_at + 100)) := by
 revert v_p; apply opn
 intro b3 o3 A1 c1 h1 bl1 bh1 A2 c2 h2 bl2 bh2 hr3
 refine enterB hb @Tryz.func151 @Tryz.ntmps151 rfl rfl ?_
 refine zent ?_
 refine Js.trashE ?_
 refine zn ?_
 refine zS <| Qm rfl <| Qc rfl <| Qf fh rfl <| Qm rfl <| zc rfl (fun w hw => c_spec_l08New b_rules p ⟨_, _, [.int .i64 b_rules.pits, .int .i64 b_rules.seeds, .bool b_rules.stores, .bool b_rules.skip, .bool b_rules.relay, .bool b_rules.feed, .bool b_rules.again, .int .i64 b_rules.capture, .int .i64 b_rules.slam], rfl, ⟨rfl, rfl, rfl, rfl, rfl, rfl, rfl, rfl, rfl, trivial⟩, Mem.boxR (i := 1) rfl 0 9 _ hw⟩ (ok_ hw)) ?_
 intro A5 c5 bl5 bh5 A6 c6 bl6 bh6 A7 c7 bl7 bh7 A8 c8 bl8 bh8 A9 c9 bl9 bh9
 refine za zeh fun b10 => zw 0 rfl rfl rfl ?_
 refine zN <| Qm rfl ?_
 refine zhl [6] ?_
 refine zBB 1 sp_ rfl (fun w hb _ hw => c_spec_l00Src_pick s_code s_at s_seed 6 hb (ok_ hw)) ?_
 rintro _ _ G11 ⟨X11KX, X11AT, X11SD, rfl, rfl, hX11_0, hX11_1, hX11_2, hX11_3⟩
 refine znl ?_
 refine Qp rfl rfl <| Qa rfl <| JL.nil ?_
 refine zf [0, 1, 1, 1, 1, 1, 1, 1, 1, 1] fun GG12 => ?_
 refine zn ?_
 refine Js.block ?_
 refine zl [0, 1, 6] (fun F U l os u m => ∃ (j at1 sd1 : Int) (gk : M.Gam) (acc : List M.Ent) (A13_1_9 : Option Addr) (c13_1_9 : Nat) (g13_1_9 : List Nat) (vs13_1_9 : List Value) (fl13_1_9 : List Nat) (A13_6_9 : Option Addr) (c13_6_9 : Nat) (g13_6_9 : List Nat) (A13_6_10 : Option Addr) (c13_6_10 : Nat) (g13_6_10 : List Nat) (A13_6_12 : Option Addr) (c13_6_12 : Nat) (g13_6_12 : List Nat) (A13_6_13 : Option Addr) (c13_6_13 : Nat) (g13_6_13 : List Nat) (A13_6_14 : Option Addr) (c13_6_14 : Nat) (g13_6_14 : List Nat) (G13_10 : List Nat), l = F [(7, .int .i64 j)] ∧ os = U [some (boxO bs [.slice As_0 s_code cs_0, .int .i64 at1, .int .u64 sd1] 189), some (boxO b10 [.int .i64 gk.rules.pits, .int .i64 gk.rules.seeds, .bool gk.rules.stores, .bool gk.rules.skip, .bool gk.rules.relay, .bool gk.rules.feed, .bool gk.rules.again, .int .i64 gk.rules.capture, .int .i64 gk.rules.slam, .slice A13_6_9 gk.start.pits.length c13_6_9, .slice A13_6_10 gk.start.stores.length c13_6_10, .int .i64 gk.start.player, .slice A13_6_12 gk.moves.length c13_6_12, .slice A13_6_13 gk.now.pits.length c13_6_13, .slice A13_6_14 gk.now.stores.length c13_6_14, .int .i64 gk.now.player, .int .i64 gk.resigned] 56), some (rowO 2 1 (.slice A13_6_14 gk.now.stores.length c13_6_14) gk.now.stores.length (ints_ gk.now.stores) g13_6_14), some (rowO 2 1 (.slice A13_6_13 gk.now.pits.length c13_6_13) gk.now.pits.length (ints_ gk.now.pits) g13_6_13), some (rowO 2 1 (.slice A13_6_12 gk.moves.length c13_6_12) gk.moves.length (ints_ gk.moves) g13_6_12), some (rowO 2 1 (.slice A13_6_10 gk.start.stores.length c13_6_10) gk.start.stores.length (ints_ gk.start.stores) g13_6_10), some (rowO 2 1 (.slice A13_6_9 gk.start.pits.length c13_6_9) gk.start.pits.length (ints_ gk.start.pits) g13_6_9), some (boxO bb [.int .i64 b_rules.pits, .int .i64 b_rules.seeds, .bool b_rules.stores, .bool b_rules.skip, .bool b_rules.relay, .bool b_rules.feed, .bool b_rules.again, .int .i64 b_rules.capture, .int .i64 b_rules.slam, .slice A13_1_9 acc.length c13_1_9] 37), some (rowO 89 2 (.slice A13_1_9 acc.length c13_1_9) acc.length vs13_1_9 g13_1_9), some (ownC (lBookEntry acc) vs13_1_9 fl13_1_9), some (anyO G13_10)] ∧ (0 ≤ j ∧ j ≤ 6) ∧ (s_at ≤ at1) ∧ (at1 + 6 * j ≤ s_at + 60) ∧ (M.GI b_rules gk) ∧ (M.Gro b_entries acc (6 - j)) ∧ (acc.length ≤ c13_1_9) ∧ (c13_1_9 ≤ 9223372036854775807) ∧ (gk.start.pits.length ≤ c13_6_9) ∧ (c13_6_9 ≤ 9223372036854775807) ∧ (gk.start.stores.length ≤ c13_6_10) ∧ (c13_6_10 ≤ 9223372036854775807) ∧ (gk.moves.length ≤ c13_6_12) ∧ (c13_6_12 ≤ 9223372036854775807) ∧ (gk.now.pits.length ≤ c13_6_13) ∧ (c13_6_13 ≤ 9223372036854775807) ∧ (gk.now.stores.length ≤ c13_6_14) ∧ (c13_6_14 ≤ 9223372036854775807) ∧ m = j.toNat) ⟨1 + X11KX, X11AT, X11SD, (M.Gam.mk b_rules p [] p (-1)), b_entries, _, _, _, _, _, _, _, _, _, _, _, _, _, _, _, _, _, _, _, _, _, rfl, rfl, zt, zt, zt, by exact ⟨rfl, by dsimp only; omega, by dsimp only; omega, by simp, by dsimp only; omega, by dsimp only; omega⟩, by exact M.Gro.refl' _ (by omega), zu, zu, zu, zu, zu, zu, zu, zu, zu, zu, zu, zu, rfl⟩ ?_
 rintro _ _ u13 _ ⟨j, at1, sd1, gk, acc, A13_1_9, c13_1_9, g13_1_9, vs13_1_9, fl13_1_9, A13_6_9, c13_6_9, g13_6_9, A13_6_10, c13_6_10, g13_6_10, A13_6_12, c13_6_12, g13_6_12, A13_6_13, c13_6_13, g13_6_13, A13_6_14, c13_6_14, g13_6_14, G13_10, rfl, rfl, hj, ha0, ha1, hG, hR, f13_5, f13_6, f13_7, f13_8, f13_9, f13_10, f13_11, f13_12, f13_13, f13_14, f13_15, f13_16, rfl⟩ x13
 refine zn ?_
 have s1 := hG.sp
 have s2 := hG.ss
 have s3 := hG.m
 have s4 := hG.np
 have s5 := hG.ns
 have s6 := hG.ru
 refine Js.seq <| zS <| Qm rfl <| Qg rfl rfl <| JL.nil ?_
 refine zi (fun h14 h14' => ?_) fun h14 h14' => ?_
 ·
  have hq := (hR 1000 r7).req (by omega)
  refine Js.skip <| Js.seq <| Js.block <| zS <| Qm rfl <| zBB 1 sp_ rfl (fun w hb _ hw => c_spec_l08Legal s_code at1 sd1 gk hb (ok_ hw) (ok_ hw)) ?_
  rintro _ _ G15 ⟨X15KX, X15AT, X15SD, rfl, rfl, hX15_0, hX15_1⟩
  refine znl ?_
  refine Qa rfl <| JL.nil ?_
  refine zf [0, 1, 1, 1, 1, 1, 1, 1, 1, 1] fun GG16 => ?_
  refine zn ?_
  refine Js.seq <| zS <| Qm rfl <| Ql rfl rfl <| JL.nil ?_
  refine zi (fun h17 h17' => ?_) fun h17 h17' => ?_
  ·
   refine zx ?_
   refine zrbE [0, 6, 6, 6] hb x13 ?_
   refine ⟨(acc), (X15AT), (X15SD), A13_1_9, c13_1_9, g13_1_9, vs13_1_9, fl13_1_9, rfl, ?_, ?_, ?_, by first | trivial | omega | exact hR.mono (by omega), by first | trivial | omega | exact hR.mono (by omega), by first | trivial | omega | exact hR.mono (by omega)⟩
   · rfl
   all_goals (try dsimp only)
   all_goals (first | (omega) | omega | (simp only [*]; omega))
  refine Js.skip <| zS <| Qm rfl <| zBB 1 sp_ rfl (fun w hb _ hw => c_spec_l00Src_pick s_code X15AT X15SD 3 hb (ok_ hw)) ?_
  rintro _ _ G18 ⟨X18KX, X18AT, X18SD, rfl, rfl, hX18_0, hX18_1, hX18_2, hX18_3⟩
  refine znl ?_
  refine Qa rfl <| JL.nil ?_
  refine zf [0, 1, 1, 1, 1, 1, 1, 1, 1, 1] fun GG19 => ?_
  refine zn ?_
  refine zS <| Qm rfl <| Qm rfl <| Qc rfl <| Qf fh rfl <| Qf fh rfl <| zc rfl (fun w hw => c_spec_l04ViewL b_rules gk.now ⟨_, _, [.int .i64 b_rules.pits, .int .i64 b_rules.seeds, .bool b_rules.stores, .bool b_rules.skip, .bool b_rules.relay, .bool b_rules.feed, .bool b_rules.again, .int .i64 b_rules.capture, .int .i64 b_rules.slam], rfl, ⟨rfl, rfl, rfl, rfl, rfl, rfl, rfl, rfl, rfl, trivial⟩, Mem.boxR (i := 7) rfl 0 9 _ hw⟩ ⟨_, _, [.slice A13_6_13 gk.now.pits.length c13_6_13, .slice A13_6_14 gk.now.stores.length c13_6_14, .int .i64 gk.now.player], rfl, ⟨(ok_ hw), (ok_ hw), rfl, trivial⟩, Mem.boxR (i := 1) rfl 13 3 _ hw⟩) ?_
  intro X20 hX20 A22 c22 bl22 bh22 A23 c23 bl23 bh23
  refine Qi fh rfl rfl <| Qm rfl <| Qm rfl <| Qb ?_
  refine zhl [9, 9, 9] ?_
  refine zBB 3 sp_ rfl (fun w hb _ hw => c_spec_l20Add b_rules acc X20.pits (M.Cho.mk X15KX 1 X18KX) hb (ok_ hw) (ok_ hw) (r1 := hq.2.1) (r2 := hq.2.2)) ?_
  rintro _ _ G24 ⟨A24b_9, c24b_9, g24b_9, vs24b_9, f24b_9, rfl, rfl, bl24_0, bl24_1⟩
  refine znl ?_
  refine JL.nil ?_
  refine zf [0, 0, 0, 3, 3, 3, 3, 3, 3, 3] fun GG25 => ?_
  refine zn ?_
  refine zS <| Qm rfl <| zc rfl (fun w hw => c_spec_l08Play gk X15KX (ok_ hw)) ?_
  intro A28 c28 bl28 bh28 A29 c29 bl29 bh29 A30 c30 bl30 bh30 A31 c31 bl31 bh31 A32 c32 bl32 bh32
  refine Qm rfl <| Qx rfl rfl <| Qx rfl rfl <| za zeh fun b33 => zw 0 rfl rfl rfl ?_
  refine Qa rfl <| zN <| Qm rfl <| Qe rfl rfl <| JL.nil ?_
  refine zi (fun h34 h34' => ?_) fun h34 h34' => ?_
  ·
   have hz : (M.play gk X15KX).2 = 0 := by simpa using h34
   refine Js.region <| Q9 0 rfl rfl ?_
   refine zw 10 rfl rfl rfl ?_
   refine JL.nil ?_
   refine zf [1, 1, 1, 1, 1, 1, 1, 1, 1, 1] fun GG35 => ?_
   refine zn ?_
   refine Js.blockEnd <| Js.region <| Qm rfl <| Qs rfl rfl <| Qa rfl <| JL.nil ?_
   refine zf [8, 8, 0, 0, 0, 0, 0, 0, 0, 0] fun GG36 => ?_
   refine zn ?_
   exact zag ⟨j - 1, X18AT, X18SD, ((M.play gk X15KX).1), M.addE acc X20.pits (M.Cho.mk X15KX 1 X18KX), _, _, _, _, _, _, _, _, _, _, _, _, _, _, _, _, _, _, _, _, _, rfl, rfl, zt, zt, zt, by first | exact hG | exact hG.play hz, by (refine M.Gro.mono (hR.step (by omega) (by omega) (by omega) (by dsimp only; omega) (by dsimp only; omega) (by dsimp only; omega) (by dsimp only; omega)) (by omega)), zu, zu, zu, zu, zu, zu, zu, zu, zu, zu, zu, zu, rfl⟩ x13
  refine Js.skip <| Js.blockEnd <| Js.region <| Qm rfl <| Qs rfl rfl <| Qa rfl <| JL.nil ?_
  refine zf [6, 6, 6, 6, 6, 6, 6, 6, 6, 6] fun GG37 => ?_
  refine zn ?_
  refine zf [3, 3, 3, 3, 3, 3, 3, 0, 0, 0] fun GG38 => ?_
  refine zn ?_
  exact zag ⟨j - 1, X18AT, X18SD, gk, M.addE acc X20.pits (M.Cho.mk X15KX 1 X18KX), _, _, _, _, _, _, _, _, _, _, _, _, _, _, _, _, _, _, _, _, _, rfl, rfl, zt, zt, zt, by first | exact hG | exact hG.play hz, by (refine M.Gro.mono (hR.step (by omega) (by omega) (by omega) (by dsimp only; omega) (by dsimp only; omega) (by dsimp only; omega) (by dsimp only; omega)) (by omega)), zu, zu, zu, zu, zu, zu, zu, zu, zu, zu, zu, zu, rfl⟩ x13
 refine zx ?_
 refine zrbE [0, 6, 6, 6] hb x13 ?_
 refine ⟨(acc), (at1), (sd1), A13_1_9, c13_1_9, g13_1_9, vs13_1_9, fl13_1_9, rfl, ?_, ?_, ?_, by first | trivial | omega | exact hR.mono (by omega), by first | trivial | omega | exact hR.mono (by omega), by first | trivial | omega | exact hR.mono (by omega)⟩
 · rfl
 all_goals (try dsimp only)
 all_goals (first | (omega) | omega | (simp only [*]; omega))
theorem c_spec_l20Draw (s_code : Nat) (s_at s_seed : Int) {As_0 : Option Addr} {cs_0 bs : Nat} {w : World} (hb : Bw w [boxO bs [.slice As_0 s_code cs_0, .int .i64 s_at, .int .u64 s_seed] 189]) (hps_0 : (Ty.bytes 5 s_code).ok (offW w (([boxO bs [.slice As_0 s_code cs_0, .int .i64 s_at, .int .u64 s_seed] 189] : List Own).flatMap (·.fp))) (.slice As_0 s_code cs_0)) (r0 : 0 ≤ s_at := by exact om_) (r1 : s_at ≤ 999999200 := by exact om_) (r2 : s_code ≤ 1048576 := by exact om_) : RetB Tryz.prog 99 [.pointer (some ⟨bs, 0, none⟩)] w [boxO bs [.slice As_0 s_code cs_0, .int .i64 s_at, .int .u64 s_seed] 189] (fun v bs' => ∃ (BX : M.Boo) (PX : M.Pos) (AT SD : Int) (Axra_9 : Option Addr) (cxra_9 : Nat) (gxra_9 : List Nat) (vsxra_9 : List Value) (fxra_9 : List Nat) (Axrb_0 : Option Addr) (cxrb_0 : Nat) (gxrb_0 : List Nat) (Axrb_1 : Option Addr) (cxrb_1 : Nat) (gxrb_1 : List Nat), v = .tuple #[.agg #[.int .i64 BX.rules.pits, .int .i64 BX.rules.seeds, .bool BX.rules.stores, .bool BX.rules.skip, .bool BX.rules.relay, .bool BX.rules.feed, .bool BX.rules.again, .int .i64 BX.rules.capture, .int .i64 BX.rules.slam, .slice Axra_9 BX.entries.length cxra_9], .agg #[.slice Axrb_0 PX.pits.length cxrb_0, .slice Axrb_1 PX.stores.length cxrb_1, .int .i64 PX.player]] ∧ bs' = [boxO bs [.slice As_0 s_code cs_0, .int .i64 AT, .int .u64 SD] 189, rowO 89 2 (.slice Axra_9 BX.entries.length cxra_9) BX.entries.length vsxra_9 gxra_9, ownC (lBookEntry BX.entries) vsxra_9 fxra_9, rowO 2 1 (.slice Axrb_0 PX.pits.length cxrb_0) PX.pits.length (ints_ PX.pits) gxrb_0, rowO 2 1 (.slice Axrb_1 PX.stores.length cxrb_1) PX.stores.length (ints_ PX.stores) gxrb_1] ∧ BX.entries.length ≤ cxra_9 ∧ cxra_9 ≤ 9223372036854775807 ∧ PX.pits.length ≤ cxrb_0 ∧ cxrb_0 ≤ 9223372036854775807 ∧ PX.stores.length ≤ cxrb_1 ∧ cxrb_1 ≤ 9223372036854775807 ∧ (M.BE 24 BX.entries) ∧ (PX.pits.length ≤ 16 ∧ PX.stores.length = 2 ∧ (PX.pits.length : Int) = 2 * BX.rules.pits ∧ 2 ≤ BX.rules.pits ∧ BX.rules.pits ≤ 8) ∧ (s_at ≤ AT) ∧ (AT ≤ s_at + 800)) := by
 refine enterB hb @Tryz.func99 @Tryz.ntmps99 rfl rfl ?_
 refine zent ?_
 refine Js.trashE ?_
 refine zn ?_
 refine zS <| za zeh fun b1 => za zeh fun b2 => zN <| Qm rfl <| zbs fun b3 => ?_
 refine zhl [3] ?_
 refine zBB 1 sp_ rfl (fun w hb _ hw => c_spec_l00Src_text s_code s_at s_seed ([([109, 105, 110, 105] : List UInt8), ([114, 101, 108, 97, 121] : List UInt8), ([107, 97, 108, 97, 104] : List UInt8)]) hb (ok_ hw) (strs_rowok (xs := ([([109, 105, 110, 105] : List UInt8), ([114, 101, 108, 97, 121] : List UInt8), ([107, 97, 108, 97, 104] : List UInt8)])) (hw.pr (i := 0) rfl)) (r3 := (by decide)) (r4 := (by decide))) ?_
 rintro _ _ G5 ⟨X5TX, X5AT, X5SD, rfl, rfl, hX5_0, hX5_1, hX5_2⟩
 refine znl ?_
 refine zp rfl (fun w hw => c_spec_StandardRules X5TX (r0 := (M.std3 (by assumption)))) ?_
 intro u6 x6 X7 hX7 X8 hX8
 refine Qm rfl <| Qx rfl rfl <| Qx rfl rfl <| za zeh fun b9 => zw 0 rfl rfl rfl ?_
 refine Qa rfl <| JL.nil ?_
 refine zf [0, 0, 2, 2] fun GG10 => ?_
 refine zn ?_
 refine Js.seq <| zS <| Qm rfl ?_
 refine zhl [1] ?_
 refine zBB 1 sp_ rfl (fun w hb _ hw => c_spec_l00Src_one s_code X5AT X5SD 4 hb (ok_ hw)) ?_
 rintro _ _ G11 ⟨X11BX, X11AT, X11SD, rfl, rfl, hX11_0, hX11_1⟩
 refine znl ?_
 refine JL.nil ?_
 refine zf [0, 1, 1, 1] fun GG12 => ?_
 refine zn ?_
 refine zk [0, 2, 3, 4] (fun F U l os u => ∃ (rr : M.Rul) (at2 sd2 : Int) (G13_4 : List Nat), l = F [] ∧ os = U [some (boxO bs [.slice As_0 s_code cs_0, .int .i64 at2, .int .u64 sd2] 189), some (boxO b9 [.int .i64 rr.pits, .int .i64 rr.seeds, .bool rr.stores, .bool rr.skip, .bool rr.relay, .bool rr.feed, .bool rr.again, .int .i64 rr.capture, .int .i64 rr.slam] 34), nO, nO, some (anyO G13_4)] ∧ (2 ≤ rr.pits ∧ rr.pits ≤ 8) ∧ (s_at ≤ at2) ∧ (at2 ≤ s_at + 50)) ?_ ?_
 ·
  refine zi (fun h14 h14' => ?_) fun h14 h14' => ?_
  ·
   refine Js.region <| Qm rfl <| zBB 1 sp_ rfl (fun w hb _ hw => c_spec_l02Draw s_code X11AT X11SD hb (ok_ hw)) ?_
   rintro _ _ G15 ⟨X15RX, X15AT, X15SD, rfl, rfl, hX15_0, hX15_1, hX15_2⟩
   refine znl ?_
   refine zw 2 rfl rfl rfl ?_
   refine JL.nil ?_
   refine zf [0, 1, 1, 1] fun GG16 => ?_
   refine zn ?_
   exact zm ⟨(X15RX), (X15AT), (X15SD), _, rfl, rfl, by first | assumption | omega | rfl | (dsimp only; omega) | (simp; done), by first | assumption | omega | rfl | (dsimp only; omega) | (simp; done), by first | assumption | omega | rfl | (dsimp only; omega) | (simp; done)⟩ (Up.refl _ _)
  refine Js.skip ?_
  exact zm ⟨(X7), (X11AT), (X11SD), _, rfl, rfl, by first | assumption | omega | rfl | (dsimp only; omega) | (simp; done), by first | assumption | omega | rfl | (dsimp only; omega) | (simp; done), by first | assumption | omega | rfl | (dsimp only; omega) | (simp; done)⟩ (Up.refl _ _)
 rintro _ _ u13 ⟨rr, at2, sd2, G13_4, rfl, rfl, hr9, hb0, hb1⟩ x13
 refine zn ?_
 refine zS <| Q9 1 rfl rfl ?_
 refine Qb ?_
 refine za zeh fun b17 => zw 0 rfl rfl rfl ?_
 refine zN <| zc rfl (fun w hw => c_spec_l04Start rr (ok_ hw)) ?_
 intro A19 c19 bl19 bh19 A20 c20 bl20 bh20
 have hl0 : (M.startP rr).pits.length = (2 * (rr).pits).toNat := by simp [M.startP]
 have hl1 : (M.startP rr).stores.length = 2 := rfl
 refine za zeh fun b21 => zw 0 rfl rfl rfl ?_
 refine zJ <| zS <| Qm rfl ?_
 refine zhl [4] ?_
 refine zBB 1 sp_ rfl (fun w hb _ hw => c_spec_l00Src_one s_code at2 sd2 4 hb (ok_ hw)) ?_
 rintro _ _ G22 ⟨X22BX, X22AT, X22SD, rfl, rfl, hX22_0, hX22_1⟩
 refine znl ?_
 refine JL.nil ?_
 refine zf [0, 1, 1, 1, 1, 1, 1, 1] fun GG23 => ?_
 refine zn ?_
 refine zk [0, 2, 3, 6, 7] (fun F U l os u => ∃ (pp : M.Pos) (at3 sd3 : Int) (A24_7_0 : Option Addr) (c24_7_0 : Nat) (g24_7_0 : List Nat) (A24_7_1 : Option Addr) (c24_7_1 : Nat) (g24_7_1 : List Nat) (G24_8 : List Nat), l = F [] ∧ os = U [some (boxO bs [.slice As_0 s_code cs_0, .int .i64 at3, .int .u64 sd3] 189), some (boxO b21 [.slice A24_7_0 pp.pits.length c24_7_0, .slice A24_7_1 pp.stores.length c24_7_1, .int .i64 pp.player] 39), some (rowO 2 1 (.slice A24_7_1 pp.stores.length c24_7_1) pp.stores.length (ints_ pp.stores) g24_7_1), some (rowO 2 1 (.slice A24_7_0 pp.pits.length c24_7_0) pp.pits.length (ints_ pp.pits) g24_7_0), nO, nO, nO, nO, some (anyO G24_8)] ∧ (pp.pits.length = (2 * rr.pits).toNat ∧ pp.stores.length = 2) ∧ (s_at ≤ at3) ∧ (at3 ≤ s_at + 270) ∧ (pp.pits.length ≤ c24_7_0) ∧ (c24_7_0 ≤ 9223372036854775807) ∧ (pp.stores.length ≤ c24_7_1) ∧ (c24_7_1 ≤ 9223372036854775807)) ?_ ?_
 ·
  refine zi (fun h25 h25' => ?_) fun h25 h25' => ?_
  ·
   refine Js.region <| Qm rfl <| zBB 1 sp_ rfl (fun w hb _ hw => c_spec_l04Draw s_code X22AT X22SD rr hb (ok_ hw) (ok_ hw)) ?_
   rintro _ _ G26 ⟨X26PX, X26AT, X26SD, A26r_0, c26r_0, g26r_0, A26r_1, c26r_1, g26r_1, rfl, rfl, bl26_0, bl26_1, bl26_2, bl26_3, hX26_0, hX26_1, hX26_2⟩
   refine znl ?_
   refine zw 4 rfl rfl rfl ?_
   refine JL.nil ?_
   refine zf [0, 0, 0, 1, 1, 1, 1, 1, 1, 1] fun GG27 => ?_
   refine zn ?_
   refine zf [0, 2, 1, 0, 2, 2, 2, 2] fun GG28 => ?_
   refine zn ?_
   exact zm ⟨(X26PX), (X26AT), (X26SD), _, _, _, _, _, _, _, rfl, rfl, by first | omega | exact ⟨hl0, hl1⟩, by first | assumption | omega | rfl | (dsimp only; omega) | (simp; done), by first | assumption | omega | rfl | (dsimp only; omega) | (simp; done), by first | assumption | omega | rfl | (dsimp only; omega) | (simp; done), by first | assumption | omega | rfl | (dsimp only; omega) | (simp; done), by first | assumption | omega | rfl | (dsimp only; omega) | (simp; done), by first | assumption | omega | rfl | (dsimp only; omega) | (simp; done)⟩ (Up.refl _ _)
  refine Js.skip ?_
  exact zm ⟨((M.startP rr)), (X22AT), (X22SD), _, _, _, _, _, _, _, rfl, rfl, by first | omega | exact ⟨hl0, hl1⟩, by first | assumption | omega | rfl | (dsimp only; omega) | (simp; done), by first | assumption | omega | rfl | (dsimp only; omega) | (simp; done), by first | assumption | omega | rfl | (dsimp only; omega) | (simp; done), by first | assumption | omega | rfl | (dsimp only; omega) | (simp; done), by first | assumption | omega | rfl | (dsimp only; omega) | (simp; done), by first | assumption | omega | rfl | (dsimp only; omega) | (simp; done)⟩ (Up.refl _ _)
 rintro _ _ u24 ⟨pp, at3, sd3, A24_7_0, c24_7_0, g24_7_0, A24_7_1, c24_7_1, g24_7_1, G24_8, rfl, rfl, hp9, hc0, hc1, f24_3, f24_4, f24_5, f24_6⟩ x24
 refine zn ?_
 refine Js.seq <| zS <| Qm rfl <| zBB 1 sp_ rfl (fun w hb _ hw => c_spec_l00Src_pick s_code at3 sd3 5 hb (ok_ hw)) ?_
 rintro _ _ G29 ⟨X29KX, X29AT, X29SD, rfl, rfl, hX29_0, hX29_1, hX29_2, hX29_3⟩
 refine znl ?_
 refine Qa rfl <| JL.nil ?_
 refine zf [0, 1, 1, 1, 1, 2, 2] fun GG30 => ?_
 refine zn ?_
 refine Js.block ?_
 refine Js.conv (fun w hw => St.nilRowS 89 2 hw) ?_
 refine Js.vals (Ts := lBookEntry []) (vs := []) (fun w => rfl) ?_
 refine zl [0, 2, 3, 6, 7] (fun F U l os u m => ∃ (j at4 sd4 : Int) (acc : List M.Ent) (A31_6_9 : Option Addr) (c31_6_9 : Nat) (g31_6_9 : List Nat) (vs31_6_9 : List Value) (fl31_6_9 : List Nat) (G31_9 : List Nat), l = F [(8, .int .i64 j)] ∧ os = U [some (ownC (lBookEntry acc) vs31_6_9 fl31_6_9), some (rowO 89 2 (.slice A31_6_9 acc.length c31_6_9) acc.length vs31_6_9 g31_6_9), some (boxO bs [.slice As_0 s_code cs_0, .int .i64 at4, .int .u64 sd4] 189), nO, nO, nO, some (boxO b17 [.int .i64 rr.pits, .int .i64 rr.seeds, .bool rr.stores, .bool rr.skip, .bool rr.relay, .bool rr.feed, .bool rr.again, .int .i64 rr.capture, .int .i64 rr.slam, .slice A31_6_9 acc.length c31_6_9] 37), nO, nO, some (anyO G31_9)] ∧ (0 ≤ j ∧ j ≤ 4) ∧ (s_at ≤ at4) ∧ (at4 + 100 * j ≤ s_at + 700) ∧ (M.Gro [] acc (24 - 6 * j)) ∧ (acc.length ≤ c31_6_9) ∧ (c31_6_9 ≤ 9223372036854775807) ∧ m = j.toNat) ⟨X29KX, X29AT, X29SD, [], _, _, _, _, _, _, rfl, rfl, zt, zt, zt, by exact M.Gro.refl' _ (by omega), zu, zu, rfl⟩ ?_
 rintro _ _ u31 _ ⟨j, at4, sd4, acc, A31_6_9, c31_6_9, g31_6_9, vs31_6_9, fl31_6_9, G31_9, rfl, rfl, hj, ha0, ha1, hR, f31_4, f31_5, rfl⟩ x31
 refine zn ?_
 refine Js.seq <| zS <| Qm rfl <| Qg rfl rfl <| JL.nil ?_
 refine zi (fun h32 h32' => ?_) fun h32 h32' => ?_
 ·
  refine Js.skip <| Js.seq <| Js.block <| Js.region <| Qm rfl ?_
  refine zhl [2, 5, 1, 0] ?_
  refine zBB 4 sp_ rfl (fun w hb _ hw => c_spec_l20Fill s_code at4 sd4 rr acc pp hb (ok_ hw) (ok_ hw) (r7 := ((hR 0 (M.BE.nil 0)).mono (by omega)))) ?_
  rintro _ _ G33 ⟨X33ES, X33AT, X33SD, A33b_9, c33b_9, g33b_9, vs33b_9, f33b_9, rfl, rfl, bl33_0, bl33_1, hX33_0, hX33_1, hX33_2⟩
  refine znl ?_
  refine JL.nil ?_
  refine zf [0, 0, 0, 0, 1, 1, 1, 1, 1] fun GG34 => ?_
  refine zn ?_
  refine Js.blockEnd <| Js.region <| Qm rfl <| Qs rfl rfl <| Qa rfl <| JL.nil ?_
  refine zf [3, 2, 0, 1, 1, 1, 0, 0, 0] fun GG35 => ?_
  refine zn ?_
  exact zag ⟨j - 1, X33AT, X33SD, X33ES, _, _, _, _, _, _, rfl, rfl, zt, zt, zt, by exact (hR.trans (by assumption) (by omega) (by omega)).mono (by omega), zu, zu, rfl⟩ x31
 refine zx ?_
 refine Js.seq ?_
 refine zk [2, 3] (fun F U l os u => l = F [] ∧ os = U [nO, nO, nO, nO, nO, nO, nO, some (boxO b2 [.slice A24_7_0 pp.pits.length c24_7_0, .slice A24_7_1 pp.stores.length c24_7_1, .int .i64 pp.player] 39), some (boxO b1 [.int .i64 rr.pits, .int .i64 rr.seeds, .bool rr.stores, .bool rr.skip, .bool rr.relay, .bool rr.feed, .bool rr.again, .int .i64 rr.capture, .int .i64 rr.slam, .slice A31_6_9 acc.length c31_6_9] 37)]) ?_ ?_
 ·
  refine zdr [2, 3] ?_
  refine JH.q 0 rfl (L9 6 rfl rfl) ?_
  refine y2 1 2 ?_ ?_
  ·
   refine JHo.q rfl (L9 3 rfl rfl) ?_
   refine y1 2 ?_
   refine yst rfl rfl rfl ?_
   refine y1 3 ?_
   refine yst rfl rfl rfl ?_
   refine yd ?_
   exact zm ⟨rfl, rfl⟩ (Up.refl _ _)
  refine yst rfl rfl rfl ?_
  refine y1 1 ?_
  refine JHo.q rfl (L9 3 rfl rfl) ?_
  refine y1 3 ?_
  refine yst rfl rfl rfl ?_
  refine yd ?_
  exact zm ⟨rfl, rfl⟩ (Up.refl _ _)
 rintro _ _ u36 ⟨rfl, rfl⟩ x36
 refine zn ?_
 refine zf [0, 0, 0, 1, 1, 2, 2] fun GG37 => ?_
 refine zn ?_
 refine zrb [2, 1, 0, 1, 0] hb ((((x6.trans x13).trans x24).trans x31).trans x36) ?_
 refine ⟨((M.Boo.mk rr acc)), (pp), (at4), (sd4), A31_6_9, c31_6_9, g31_6_9, vs31_6_9, fl31_6_9, A24_7_0, c24_7_0, g24_7_0, A24_7_1, c24_7_1, g24_7_1, rfl, ?_, ?_, ?_, ?_, ?_, ?_, ?_, by first | trivial | omega | exact (hR 0 (M.BE.nil 0)).mono (by omega) | (dsimp only; omega), by first | trivial | omega | exact (hR 0 (M.BE.nil 0)).mono (by omega) | (dsimp only; omega), by first | trivial | omega | exact (hR 0 (M.BE.nil 0)).mono (by omega) | (dsimp only; omega), by first | trivial | omega | exact (hR 0 (M.BE.nil 0)).mono (by omega) | (dsimp only; omega)⟩
 · rfl
 all_goals (try dsimp only)
 all_goals (first | (omega) | omega | (simp only [*]; omega))
theorem c_spec_l20Wide (many : Int) {w : World} (r0 : many ≤ 300 := by exact om_) : Ret Tryz.prog 144 [.int .i64 many] w (Ty.ex (fun (BX : M.Boo) => (M.BE 300 BX.entries)) (fun BX => Ty.agg (cBook BX))) := by
 refine enter @Tryz.func144 @Tryz.ntmps144 rfl rfl ?_
 refine zent ?_
 refine zS <| za zeh fun b1 => zN <| Qb ?_
 refine Qb ?_
 refine za zeh fun b2 => zw 0 rfl rfl rfl ?_
 refine zJ <| zS <| Qa rfl <| JL.nil <| Js.block ?_
 refine Js.conv (fun w hw => St.nilRowS 89 2 hw) ?_
 refine Js.vals (Ts := lBookEntry []) (vs := []) (fun w => rfl) ?_
 refine zl [0, 2, 3] (fun F U l os u m => ∃ (k : Nat) (acc : List M.Ent) (A3_3_9 : Option Addr) (c3_3_9 : Nat) (g3_3_9 : List Nat) (vs3_3_9 : List Value) (fl3_3_9 : List Nat), l = F [(4, .int .i64 (k : Int))] ∧ os = U [some (ownC (lBookEntry acc) vs3_3_9 fl3_3_9), some (rowO 89 2 (.slice A3_3_9 acc.length c3_3_9) acc.length vs3_3_9 g3_3_9), some (boxO b2 [.int .i64 2, .int .i64 1, .bool false, .bool false, .bool false, .bool false, .bool false, .int .i64 0, .int .i64 0, .slice A3_3_9 acc.length c3_3_9] 37)] ∧ (M.BE k acc) ∧ (acc.length = k) ∧ (k ≤ 300) ∧ (acc.length ≤ c3_3_9) ∧ (c3_3_9 ≤ 9223372036854775807) ∧ m = 301 - k) ⟨0, [], _, _, _, _, _, rfl, rfl, by exact M.BE.nil 0, by rfl, zt, zu, zu, rfl⟩ ?_
 rintro _ _ u3 _ ⟨k, acc, A3_3_9, c3_3_9, g3_3_9, vs3_3_9, fl3_3_9, rfl, rfl, hB, hl, hk, f3_3, f3_4, rfl⟩ x3
 refine zn ?_
 refine Js.seq <| zS <| Qf fh rfl <| Q0 2 rfl rfl rfl <| Qz rfl <| Qm rfl <| Ql rfl rfl <| JL.nil ?_
 refine zi (fun h4 h4' => ?_) fun h4 h4' => ?_
 ·
  refine Js.skip <| Js.seq <| Js.block <| Js.region <| Qf fh rfl <| Q0 2 rfl rfl rfl <| Qm rfl <| Qq (p_quo rfl rfl (by omega) (wrap_quo (by omega) (by omega) (by omega))) <| Qm rfl <| Qq (p_rem rfl rfl (by omega) (Int.tmod_eq_emod_of_nonneg (by omega))) <| zbs fun b5 => ?_
  refine Qm rfl <| Qq (p_rem rfl rfl (by omega) (Int.tmod_eq_emod_of_nonneg (by omega))) <| Qp rfl rfl <| Qm rfl <| Qq (p_rem rfl rfl (by omega) (Int.tmod_eq_emod_of_nonneg (by omega))) <| Qq (p_rem rfl rfl (by omega) (Int.tmod_eq_emod_of_nonneg (by omega))) <| Qb ?_
  refine zbs fun b7 => ?_
  refine Qb ?_
  refine zbs fun b9 => ?_
  refine JL.e (e_append (i := 4) (n' := (acc ++ ([(M.Ent.mk [1, ((k : Int) / 40), ((k : Int) % 40), 0] [(M.Cho.mk 0 (1 + ((k : Int) % 7)) (((k : Int) % 3) % 2))])])).length) (vs' := vs3_3_9 ++ [.slice (some ⟨b5, 0, none⟩) 4 4, .slice (some ⟨b7, 0, none⟩) 1 1]) el_35 rfl rfl rfl rfl (src_row (i := 0) und_35 rfl rfl) (by omega) (by omega) ln2_ (rfl)) ?_
  rintro v11 _ _ ⟨⟨g12, rfl⟩, rfl⟩ _
  refine JL.fact (row_form' (i := 4) rfl) (fun hf13 => ?_)
  obtain ⟨A13, c13, rfl, bl13, bh13⟩ := hf13
  refine znl ?_
  refine Qf fh rfl <| zw 5 rfl rfl rfl ?_
  refine JL.nil ?_
  refine Js.pk (cBookEntry (M.Ent.mk [1, ((k : Int) / 40), ((k : Int) % 40), 0] [(M.Cho.mk 0 (1 + ((k : Int) % 7)) (((k : Int) % 3) % 2))])) [.slice (some ⟨b5, 0, none⟩) 4 4, .slice (some ⟨b7, 0, none⟩) 1 1] (fun f15 G15 => ?_) (by exact (gv_agg (gvc gv_ (gvc (gv_flat lChoice (xs := [(M.Cho.mk 0 (1 + ((k : Int) % 7)) (((k : Int) % 3) % 2))]) po_ (by first | rfl | (simp [fltV]; done)) (by first | with_reducible rfl | assumption | rfl)) gvn))))
  refine zn ?_
  refine Js.joinL (i := 3) (j := 0) (Vs := lBookEntry (acc ++ [(M.Ent.mk [1, ((k : Int) / 40), ((k : Int) % 40), 0] [(M.Cho.mk 0 (1 + ((k : Int) % 7)) (((k : Int) % 3) % 2))])])) rfl rfl (lBookEntry_snoc _ _) (fun f16 => ?_)
  refine zn ?_
  refine Js.blockEnd <| Js.region <| Qm rfl <| Qp rfl rfl <| Qa rfl <| JL.nil ?_
  refine zd [0, 2, 2, 2] rfl fun u17 x17 => ?_
  exact zag ⟨k + 1, acc ++ ([(M.Ent.mk [1, ((k : Int) / 40), ((k : Int) % 40), 0] [(M.Cho.mk 0 (1 + ((k : Int) % 7)) (((k : Int) % 3) % 2))])]), _, _, _, _, _, rfl, rfl, by exact hB.snoc (by simp) (by simp) (by simp) (by simp) (by simp; omega), by simp; omega, zt, zu, zu, rfl⟩ (x3.trans x17)
 refine zx ?_
 refine zS <| Q9 2 rfl rfl ?_
 refine zw 3 rfl rfl rfl ?_
 refine JL.nil ?_
 exact zro x3 (g := by exact (gv_ex (M.Boo.mk (M.Rul.mk 2 1 false false false false false 0 0) acc) (by exact hB.mono (by omega)) gv_))
theorem c_spec_l20Same (a : M.Ent) {v_a : Value} (b : M.Ent) {v_b : Value} {w : World} (h_a : (Ty.ref (cBookEntry a)).ok w v_a) (h_b : (Ty.ref (cBookEntry b)).ok w v_b) (r0 : a.pits.length ≤ 4194304 := by exact om_) (r1 : a.choices.length ≤ 4194304 := by exact om_) (r2 : b.pits.length ≤ 4194304 := by exact om_) (r3 : b.choices.length ≤ 4194304 := by exact om_) : RetV Tryz.prog 100 [v_a, v_b] w (.bool (decide (a = b))) := by
 revert v_a; apply opn
 intro b3 o3 A1 c1 h1 bl1 bh1 A2 c2 h2 bl2 bh2 hr3
 revert v_b; apply opn
 intro b6 o6 A4 c4 h4 bl4 bh4 A5 c5 h5 bl5 bh5 hr6
 refine enter @Tryz.func100 @Tryz.ntmps100 rfl rfl ?_
 refine zent ?_
 refine zS <| Qa rfl <| zJ <| Js.seq ?_
 refine zdr [] ?_
 refine jM 0 rfl rfl ?_
 refine jN 1 rfl rfl ?_
 refine jF 2 fld_89_0 rfl rfl ?_
 refine jW 3 ty_27 rfl rfl (fun hv => (hr3.vis hv) 0 _ rfl) ?_
 refine jM 4 rfl rfl ?_
 refine jN 5 rfl rfl ?_
 refine jF 6 fld_89_0 rfl rfl ?_
 refine jW 7 ty_27 rfl rfl (fun hv => (hr6.vis hv) 0 _ rfl) ?_
 refine y1 8 ?_
 refine yv rfl rfl (fun w hw => c_spec_l00Same a.pits b.pits (ok_ hw) (ok_ hw)) ?_
 refine JH.p 9 rfl (p_not rfl) ?_
 refine jM 10 rfl rfl ?_
 refine JH.pg 11 rfl (Gd.f1 rfl rfl rfl) (fun hc => p_move rfl) ?_
 refine JH.pg 12 rfl (Gd.f1 rfl rfl rfl) (fun hc => p_nilCheck (gvt rfl hc)) ?_
 refine JH.pg 13 rfl (Gd.f1 rfl rfl rfl) (fun hc => p_fieldAddr fld_89_1.h (gvt rfl hc)) ?_
 refine JH.wg 14 rfl (Gd.f1 rfl rfl rfl) (fun hc os' u' hv => q_load1 ty_67.h (gvt rfl hc) (Mem.pub ((hr3.vis hv) 1 _ rfl))) ?_
 refine JH.pg 15 rfl (Gd.f1 rfl rfl rfl) (fun hc => p_len el_67 (gvt rfl hc)) ?_
 refine JH.pg 16 rfl (Gd.f1 rfl rfl rfl) (fun hc => p_move rfl) ?_
 refine JH.pg 17 rfl (Gd.f1 rfl rfl rfl) (fun hc => p_nilCheck (gvt rfl hc)) ?_
 refine JH.pg 18 rfl (Gd.f1 rfl rfl rfl) (fun hc => p_fieldAddr fld_89_1.h (gvt rfl hc)) ?_
 refine JH.wg 19 rfl (Gd.f1 rfl rfl rfl) (fun hc os' u' hv => q_load1 ty_67.h (gvt rfl hc) (Mem.pub ((hr6.vis hv) 1 _ rfl))) ?_
 refine JH.pg 20 rfl (Gd.f1 rfl rfl rfl) (fun hc => p_len el_67 (gvt rfl hc)) ?_
 refine JH.pg 21 rfl (Gd.f1 rfl rfl rfl) (fun hc => p_neq (gvt rfl hc) (gvt rfl hc)) ?_
 refine JH.p 22 rfl (p_pickOr rfl rfl rfl) ?_
 refine yd ?_
 refine zi (fun h7 h7' => ?_) fun h7 h7' => ?_
 ·
  have e1 : decide (a = b) = false := decide_eq_false (by rintro rfl; simp at h7)
  refine zS <| Qa rfl <| JL.nil ?_
  refine zR (Up.refl _ _) ?_
  simp [outV, e1]
 have h9 := h7
 simp at h9
 have hpp := h9.1
 have hlen : a.choices.length = b.choices.length := by omega
 refine Js.skip <| Js.seq <| zS <| Qa rfl <| JL.nil <| Js.block ?_
 refine zl [0, 1] (fun F U l os u m => ∃ (k : Nat), l = F [(5, .int .i64 (k : Int))] ∧ os = U [] ∧ (k ≤ a.choices.length) ∧ (a.choices.take k = b.choices.take k) ∧ m = a.choices.length - k) ⟨0, rfl, rfl, zt, by rfl, rfl⟩ ?_
 rintro _ _ u8 _ ⟨k, rfl, rfl, hk, hU, rfl⟩ x8
 refine zn ?_
 refine Js.seq <| zS <| Qm rfl <| Qm rfl <| Qc rfl <| Qf fh rfl <| QC ((hr3.vis x8.vis) 1 _ rfl) rfl <| Qz rfl <| Ql rfl rfl <| JL.nil ?_
 refine zi (fun h9 h9' => ?_) fun h9 h9' => ?_
 ·
  have hkk : k < a.choices.length := by have := h9'; omega
  refine Js.skip <| Js.seq <| Js.block <| Js.seq ?_
  refine zdr [] ?_
  refine jM 0 rfl rfl ?_
  refine jN 1 rfl rfl ?_
  refine jF 2 fld_89_1 rfl rfl ?_
  refine jW 3 ty_67 rfl rfl (fun hv => (hr3.vis (x8.vis.trans hv)) 1 _ rfl) ?_
  refine jM 4 rfl rfl ?_
  have hy10 : a.choices[k]? = some (M.cho a.choices k) := M.cho_get (by omega)
  obtain ⟨b10, o10, he10, hr10⟩ := elem_Choice (Ty.mono _ h2 x8.vis) hy10
  refine jI 5 el_67 rfl rfl rfl he10 ?_
  refine JH.w 6 rfl (fun os' u' hv => LS 0 (hr10.vis hv) rfl) ?_
  refine jM 7 rfl rfl ?_
  refine jN 8 rfl rfl ?_
  refine jF 9 fld_89_1 rfl rfl ?_
  refine jW 10 ty_67 rfl rfl (fun hv => (hr6.vis (x8.vis.trans hv)) 1 _ rfl) ?_
  refine jM 11 rfl rfl ?_
  have hy11 : b.choices[k]? = some (M.cho b.choices k) := M.cho_get (by omega)
  obtain ⟨b11, o11, he11, hr11⟩ := elem_Choice (Ty.mono _ h5 x8.vis) hy11
  refine jI 12 el_67 rfl rfl rfl he11 ?_
  refine JH.w 13 rfl (fun os' u' hv => LS 0 (hr11.vis hv) rfl) ?_
  refine JH.p 14 rfl (p_neqS (by kernel_rfl) (fun w => eqs_Choice (M.cho a.choices k) (M.cho b.choices k) w) rfl rfl) ?_
  refine yd ?_
  refine zi (fun h12 h12' => ?_) fun h12 h12' => ?_
  ·
   have e1 : decide (a = b) = false := decide_eq_false (fun q => M.upto_ne (M.cho_get hkk) (M.cho_get (by omega)) (by simpa using h12) (congrArg M.Ent.choices q))
   refine zS <| Qa rfl <| JL.nil ?_
   refine zR x8 ?_
   simp [outV, e1]
  have hab : M.cho a.choices k = M.cho b.choices k := by simpa using h12
  have hU2 := M.upto_step hU (M.cho_get hkk) (by rw [hab]; exact M.cho_get (by omega))
  refine Js.skip <| Js.blockEnd <| Js.region <| Qm rfl <| Qp rfl rfl <| Qa rfl <| JL.nil ?_
  exact zag ⟨k + 1, rfl, rfl, zt, by exact hU2, rfl⟩ x8
 have e2 : a.choices = b.choices := M.upto_done hU (by have := h9'; omega) (by have := h9'; omega)
 have e1 : a = b := M.ent_ext hpp e2
 refine zx ?_
 refine zS <| Qa rfl <| JL.nil ?_
 refine zR x8 ?_
 simp [outV, e1]
theorem c_spec_SameBook (a : M.Boo) {v_a : Value} (b : M.Boo) {v_b : Value} {w : World} (h_a : (Ty.agg (cBook a)).ok w v_a) (h_b : (Ty.agg (cBook b)).ok w v_b) (r0 : a.entries.length ≤ 4194304 := by exact om_) (r1 : ∀ x ∈ a.entries, x.pits.length ≤ 4194304 ∧ x.choices.length ≤ 4194304 := by exact om_) (r2 : b.entries.length ≤ 4194304 := by exact om_) (r3 : ∀ x ∈ b.entries, x.pits.length ≤ 4194304 ∧ x.choices.length ≤ 4194304 := by exact om_) : RetV Tryz.prog 42 [v_a, v_b] w (.bool (decide (a = b))) := by
 revert v_a; apply opn
 intro A1 c1 h1 bl1 bh1
 revert v_b; apply opn
 intro A2 c2 h2 bl2 bh2
 refine enter @Tryz.func42 @Tryz.ntmps42 rfl rfl ?_
 refine zent ?_
 refine zS <| zb rfl fun b3 => zb rfl fun b4 => Qa rfl <| zJ <| zS <| Qf fh rfl <| Q9 1 rfl rfl ?_
 refine Qf fh rfl <| Q9 0 rfl rfl ?_
 refine Qq (p_neqS (by kernel_rfl) (fun w => eqs_Rules a.rules b.rules w) rfl rfl) <| Qm rfl <| zg (Gd.f1 rfl rfl rfl) (fun hc => p_fieldAddr fld_37_1.h rfl) <| zgq (Gd.f1 rfl rfl rfl) (fun hc => q_load1 ty_35.h (gh hc rfl) (Mem.box (i := 1) rfl rfl)) <| zg (Gd.f1 rfl rfl rfl) (fun hc => p_len el_35 (gh hc rfl)) <| zg (Gd.f1 rfl rfl rfl) (fun hc => p_fieldAddr fld_37_1.h rfl) <| zgq (Gd.f1 rfl rfl rfl) (fun hc => q_load1 ty_35.h (gh hc rfl) (Mem.box (i := 0) rfl rfl)) <| zg (Gd.f1 rfl rfl rfl) (fun hc => p_len el_35 (gh hc rfl)) <| zg (Gd.f1 rfl rfl rfl) (fun hc => p_neq (gh hc rfl) (gh hc rfl)) <| Qq (p_pickOr rfl rfl rfl) <| JL.nil ?_
 refine zi (fun h5 h5' => ?_) fun h5 h5' => ?_
 ·
  have e1 : decide (a = b) = false := decide_eq_false (by rintro rfl; simp at h5)
  refine zS <| Qa rfl <| JL.nil ?_
  refine zR (Up.refl _ _) ?_
  simp [outV, e1]
 have h9 := h5
 simp at h9
 have hru := h9.1
 have hlen : a.entries.length = b.entries.length := by omega
 refine Js.skip <| Js.seq <| zS <| Qa rfl <| JL.nil <| Js.block ?_
 refine zl [2, 3] (fun F U l os u m => ∃ (k : Nat), l = F [(5, .int .i64 (k : Int))] ∧ os = U [] ∧ (k ≤ a.entries.length) ∧ (a.entries.take k = b.entries.take k) ∧ m = a.entries.length - k) ⟨0, rfl, rfl, zt, by rfl, rfl⟩ ?_
 rintro _ _ u6 _ ⟨k, rfl, rfl, hk, hU, rfl⟩ x6
 refine zn ?_
 refine Js.seq <| zS <| Qm rfl <| Qf fh rfl <| Q0 1 rfl rfl rfl <| Qz rfl <| Ql rfl rfl <| JL.nil ?_
 refine zi (fun h7 h7' => ?_) fun h7 h7' => ?_
 ·
  have hkk : k < a.entries.length := by have := h7'; omega
  obtain ⟨e1a_, e2a_⟩ := r1 _ (M.ent_mem (es := a.entries) (k := k) (by omega))
  obtain ⟨e1b_, e2b_⟩ := r3 _ (M.ent_mem (es := b.entries) (k := k) (by omega))
  refine Js.skip <| Js.seq <| Js.block <| Js.seq ?_
  refine zdr [] ?_
  refine jF 0 fld_37_1 rfl rfl ?_
  refine jB 1 1 ty_35 rfl rfl rfl rfl ?_
  refine jM 2 rfl rfl ?_
  have hy8 : a.entries[k]? = some (M.ent a.entries k) := M.ent_get (by omega)
  obtain ⟨b8, o8, A8_0, c8_0, A8_1, c8_1, he8, hr8, h8_0, h8_1, bl8_0, bh8_0, bl8_1, bh8_1⟩ := elem_BookEntry (Ty.mono _ h1 x6.vis) hy8
  refine jI 3 el_35 rfl rfl rfl he8 ?_
  refine jF 4 fld_37_1 rfl rfl ?_
  refine jB 5 0 ty_35 rfl rfl rfl rfl ?_
  refine jM 6 rfl rfl ?_
  have hy9 : b.entries[k]? = some (M.ent b.entries k) := M.ent_get (by omega)
  obtain ⟨b9, o9, A9_0, c9_0, A9_1, c9_1, he9, hr9, h9_0, h9_1, bl9_0, bh9_0, bl9_1, bh9_1⟩ := elem_BookEntry (Ty.mono _ h2 x6.vis) hy9
  refine jI 7 el_35 rfl rfl rfl he9 ?_
  refine y1 8 ?_
  refine yv rfl rfl (fun w hw => c_spec_l20Same (M.ent a.entries k) (M.ent b.entries k) (ok_ hw) (ok_ hw)) ?_
  refine JH.p 9 rfl (p_not rfl) ?_
  refine yd ?_
  refine zi (fun h10 h10' => ?_) fun h10 h10' => ?_
  ·
   have e1 : decide (a = b) = false := decide_eq_false (fun q => by have hq : M.ent a.entries k = M.ent b.entries k := (by rw [q]); rw [hq] at h10; simp at h10)
   refine zS <| Qa rfl <| JL.nil ?_
   refine zR x6 ?_
   simp [outV, e1]
  have hab : M.ent a.entries k = M.ent b.entries k := by simpa using h10
  have hU2 := M.upto_step hU (M.ent_get hkk) (by rw [hab]; exact M.ent_get (by omega))
  refine Js.skip <| Js.blockEnd <| Js.region <| Qm rfl <| Qp rfl rfl <| Qa rfl <| JL.nil ?_
  exact zag ⟨k + 1, rfl, rfl, zt, by exact hU2, rfl⟩ x6
 have e2 : a.entries = b.entries := M.upto_done hU (by have := h7'; omega) (by have := h7'; omega)
 have e1 : a = b := M.boo_ext hru e2
 refine zx ?_
 refine zS <| Qa rfl <| JL.nil ?_
 refine zR x6 ?_
 simp [outV, e1]
end Go.Proofs.YtcmfnlleikcpnaaGreat

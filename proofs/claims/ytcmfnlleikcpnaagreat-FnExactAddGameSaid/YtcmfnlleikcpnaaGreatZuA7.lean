/- Walks: K2. -/
import Derived.Test.YtcmfnlleikcpnaaGreatZuA3
import Derived.Test.YtcmfnlleikcpnaaGreatZuA6
set_option linter.unusedSimpArgs false
set_option linter.unusedVariables false
set_option maxRecDepth 100000
attribute [local irreducible] Go.Proofs.YtcmfnlleikcpnaaGreat.gv
namespace Go.Proofs.YtcmfnlleikcpnaaGreat
open Go.RowKit

set_option maxHeartbeats 1000000 in
theorem c_spec_l05Lap (r : M.Rul) {v_r : Value} (s_pits s_stores : List Int) (s_last s_laps : Int) {As_0 : Option Addr} {cs_0 : Nat} {gs_0 : List Nat} {As_1 : Option Addr} {cs_1 : Nat} {gs_1 : List Nat} (player from_ : Int) (path : List Int) {Apath_0 : Option Addr} {cpath_0 : Nat} {gpath_0 : List Nat} {bs : Nat} {w : World} (hb : Bw w [boxO bs [.slice As_0 s_pits.length cs_0, .slice As_1 s_stores.length cs_1, .int .i64 s_last, .int .i64 s_laps] 162, rowO 2 1 (.slice As_0 s_pits.length cs_0) s_pits.length (ints_ s_pits) gs_0, rowO 2 1 (.slice As_1 s_stores.length cs_1) s_stores.length (ints_ s_stores) gs_1, rowO 2 1 (.slice Apath_0 path.length cpath_0) path.length (ints_ path) gpath_0]) (h_r : (Ty.ref (cRules r)).ok (offW w (([boxO bs [.slice As_0 s_pits.length cs_0, .slice As_1 s_stores.length cs_1, .int .i64 s_last, .int .i64 s_laps] 162, rowO 2 1 (.slice As_0 s_pits.length cs_0) s_pits.length (ints_ s_pits) gs_0, rowO 2 1 (.slice As_1 s_stores.length cs_1) s_stores.length (ints_ s_stores) gs_1, rowO 2 1 (.slice Apath_0 path.length cpath_0) path.length (ints_ path) gpath_0] : List Own).flatMap (·.fp))) v_r) (bd0 : s_pits.length ≤ cs_0 := by exact om_) (bd1 : cs_0 ≤ 9223372036854775807 := by exact om_) (bd2 : s_stores.length ≤ cs_1 := by exact om_) (bd3 : cs_1 ≤ 9223372036854775807 := by exact om_) (bd4 : path.length ≤ cpath_0 := by exact om_) (bd5 : cpath_0 ≤ 9223372036854775807 := by exact om_) (r0 : 2 ≤ r.pits := by exact om_) (r1 : r.pits ≤ 8 := by exact om_) (r2 : player = 0 ∨ player = 1 := by exact om_) (r3 : 0 ≤ from_ := by exact om_) (r4 : from_ < 2 * r.pits := by exact om_) (r5 : M.Good r s_pits s_stores 0 := by exact om_) (r6 : 0 < (M.getI s_pits from_) := by exact om_) (r7 : 0 ≤ s_laps := by exact om_) (r8 : s_laps ≤ 99 := by exact om_) (r9 : path.length ≤ 10000 := by exact om_) : RetB Tryz.prog 179 [v_r, .pointer (some ⟨bs, 0, none⟩), .int .i64 player, .int .i64 from_, .slice Apath_0 path.length cpath_0] w [boxO bs [.slice As_0 s_pits.length cs_0, .slice As_1 s_stores.length cs_1, .int .i64 s_last, .int .i64 s_laps] 162, rowO 2 1 (.slice As_0 s_pits.length cs_0) s_pits.length (ints_ s_pits) gs_0, rowO 2 1 (.slice As_1 s_stores.length cs_1) s_stores.length (ints_ s_stores) gs_1, rowO 2 1 (.slice Apath_0 path.length cpath_0) path.length (ints_ path) gpath_0] (fun v bs' => ∃ (Axs_0 : Option Addr) (cxs_0 : Nat) (gxs_0 : List Nat) (Axs_1 : Option Addr) (cxs_1 : Nat) (gxs_1 : List Nat) (Axr : Option Addr) (cxr : Nat) (gxr : List Nat), v = .slice Axr (((M.lap r player from_ (M.Sw.mk s_pits s_stores s_last s_laps) path).2).length) cxr ∧ bs' = [boxO bs [.slice Axs_0 (((M.lap r player from_ (M.Sw.mk s_pits s_stores s_last s_laps) path).1.pits).length) cxs_0, .slice Axs_1 (((M.lap r player from_ (M.Sw.mk s_pits s_stores s_last s_laps) path).1.stores).length) cxs_1, .int .i64 ((M.lap r player from_ (M.Sw.mk s_pits s_stores s_last s_laps) path).1.last), .int .i64 ((M.lap r player from_ (M.Sw.mk s_pits s_stores s_last s_laps) path).1.laps)] 162, rowO 2 1 (.slice Axs_0 (((M.lap r player from_ (M.Sw.mk s_pits s_stores s_last s_laps) path).1.pits).length) cxs_0) (((M.lap r player from_ (M.Sw.mk s_pits s_stores s_last s_laps) path).1.pits).length) (ints_ ((M.lap r player from_ (M.Sw.mk s_pits s_stores s_last s_laps) path).1.pits)) gxs_0, rowO 2 1 (.slice Axs_1 (((M.lap r player from_ (M.Sw.mk s_pits s_stores s_last s_laps) path).1.stores).length) cxs_1) (((M.lap r player from_ (M.Sw.mk s_pits s_stores s_last s_laps) path).1.stores).length) (ints_ ((M.lap r player from_ (M.Sw.mk s_pits s_stores s_last s_laps) path).1.stores)) gxs_1, rowO 2 1 (.slice Axr (((M.lap r player from_ (M.Sw.mk s_pits s_stores s_last s_laps) path).2).length) cxr) (((M.lap r player from_ (M.Sw.mk s_pits s_stores s_last s_laps) path).2).length) (ints_ ((M.lap r player from_ (M.Sw.mk s_pits s_stores s_last s_laps) path).2)) gxr] ∧ ((M.lap r player from_ (M.Sw.mk s_pits s_stores s_last s_laps) path).1.pits).length ≤ cxs_0 ∧ cxs_0 ≤ 9223372036854775807 ∧ ((M.lap r player from_ (M.Sw.mk s_pits s_stores s_last s_laps) path).1.stores).length ≤ cxs_1 ∧ cxs_1 ≤ 9223372036854775807 ∧ ((M.lap r player from_ (M.Sw.mk s_pits s_stores s_last s_laps) path).2).length ≤ cxr ∧ cxr ≤ 9223372036854775807) := by
 have l1 := r5.lp
 have l2 := r5.ls
 have hk0 := r5.pit from_
 revert v_r; apply opn
 intro b1 o1 hr1
 refine enterB hb @Tryz.func179 @Tryz.ntmps179 rfl rfl ?_
 refine zent ?_
 refine Js.trashE ?_
 refine zn ?_
 refine Js.fact (row_some (i := 1) rfl (by omega)) (fun hf2 => ?_)
 obtain ⟨b2, rfl⟩ := hf2
 refine Js.fact (row_some (i := 2) rfl (by omega)) (fun hf3 => ?_)
 obtain ⟨b3, rfl⟩ := hf3
 refine zS <| Qa rfl <| zN <| Qm rfl <| Qc rfl <| Qf fh rfl <| Q0 0 rfl rfl rfl <| Qm rfl <| Qq (p_indexAddr el_27 rfl rfl (by omega) (by omega) rfl) <| Qw (q_load1 ty_2.h rfl (Mem.row (i := 1) rfl (ints_getI (i := from_) (by omega)))) <| Qa rfl <| zN <| Qm rfl <| Qc rfl ?_
 refine Qf fh rfl <| Q0 0 rfl rfl rfl <| Qm rfl <| Qq (p_indexAddr el_27 rfl rfl (by omega) (by omega) rfl) ?_
 refine JL.s (e_storeRow (i := 1) (xs' := ints_ (M.setI s_pits from_ 0)) ty_2.h rfl rfl rfl rfl rfl rfl (ints_lt (i := from_.toNat) (by omega)) (ints_setL (i := from_.toNat) (by omega))) ?_
 rintro _ _ _ ⟨rfl, rfl⟩ _
 refine znl ?_
 refine zN <| Qm rfl <| Qa rfl <| zJ <| Js.block ?_
 refine zl [0, 1, 2, 3] (fun F U l os u m => ∃ (k place : Int) (ps ss pth : List Int) (A6_4 : Option Addr) (c6_4 : Nat) (g6_4 : List Nat) (G6_4 : List Nat), l = F [(4, .slice A6_4 pth.length c6_4), (11, .int .i64 k), (12, .int .i64 place)] ∧ os = U [nO, some (rowO 2 1 (.slice (some ⟨b2, 0, none⟩) s_pits.length cs_0) s_pits.length (ints_ ps) gs_0), some (rowO 2 1 (.slice (some ⟨b3, 0, none⟩) s_stores.length cs_1) s_stores.length (ints_ ss) gs_1), some (rowO 2 1 (.slice A6_4 pth.length c6_4) pth.length (ints_ pth) g6_4), some (anyO G6_4)] ∧ (M.sow r player from_ k.toNat place ps ss pth = M.sow r player from_ (M.getI s_pits from_).toNat from_ (M.setI s_pits from_ 0) s_stores path) ∧ (M.Good r ps ss k) ∧ (-1 ≤ place) ∧ (place < 2 * r.pits) ∧ ((pth.length : Int) + k = path.length + (M.getI s_pits from_)) ∧ (0 ≤ k) ∧ (pth.length ≤ c6_4) ∧ (c6_4 ≤ 9223372036854775807) ∧ m = M.ms k place from_) ⟨M.getI s_pits from_, from_, M.setI s_pits from_ 0, s_stores, path, _, _, _, _, rfl, rfl, by rfl, by exact r5.takeUp r3 r4, zt, zt, zt, zt, zu, zu, rfl⟩ ?_
 rintro _ _ u6 _ ⟨k, place, ps, ss, pth, A6_4, c6_4, g6_4, G6_4, rfl, rfl, hS, hG, p0, p1, hl, hk, f6_6, f6_7, rfl⟩ x6
 refine zn ?_
 have l3 := hG.lp
 have l4 := hG.ls
 have hs0 := hG.store player
 have ha := M.after_bd r (player := player) (n := place) r1 r0 r2 p0
 refine Js.seq <| zS <| Qm rfl <| Qg rfl rfl <| JL.nil ?_
 refine zi (fun h7 h7' => ?_) fun h7 h7' => ?_
 ·
  refine Js.skip <| Js.block <| zS <| Qm rfl <| Qm rfl <| Qm rfl <| zv rfl (fun w hw => c_spec_l05Next r player place (ok_ hw)) <| Qa rfl <| zJ <| zS <| Qm rfl <| Qc rfl <| Qf fh rfl <| QC ((hr1.vis x6.vis) 3 _ rfl) rfl ?_
  refine Qm rfl <| zg (Gd.t1 rfl rfl rfl) (fun hc => p_move rfl) <| zg (Gd.t1 rfl rfl rfl) (fun hc => p_move rfl) <| zg (Gd.t1 rfl rfl rfl) (fun hc => p_eql (gh hc rfl) (gh hc rfl)) <| Qq (p_pickAnd rfl rfl rfl) <| JL.nil ?_
  refine zi (fun h8 h8' => ?_) fun h8 h8' => ?_
  ·
   have hc : r.skip = true ∧ M.after r player place = from_ := by simpa using h8
   have hS2 : M.sow r player from_ k.toNat (M.after r player place) ps ss pth = M.sow r player from_ (M.getI s_pits from_).toNat from_ (M.setI s_pits from_ 0) s_stores path := by rw [hc.2, ← M.sow_skip r1 r0 r3 r4 hc (by omega)]; exact hS
   have hm2 := M.ms_skip (k := k) r1 r0 r3 r4 hc.2
   refine zx ?_
   exact zag ⟨k, M.after r player place, ps, ss, pth, _, _, _, _, rfl, rfl, by exact hS2, by first | exact hG2 | exact hG, zt, zt, by first | omega | (simp only [List.length_append, List.length_cons, List.length_nil]; omega), zt, zu, zu, rfl⟩ x6 (by exact hm2)
  have hc : ¬(r.skip = true ∧ M.after r player place = from_) := by simpa using h8
  have hq := M.nxt_no hc
  have hm2 := M.ms_lt (a := (M.after r player place)) (b := place) (frm := from_) (show 0 < k by omega)
  refine Js.skip <| Js.seq <| zS <| Qm rfl <| Qe rfl rfl <| JL.nil ?_
  refine zi (fun h9 h9' => ?_) fun h9 h9' => ?_
  ·
   have hq0 : (M.after r player place) = -1 := by simpa using h9
   have hS2 : M.sow r player from_ (k - 1).toNat (M.after r player place) ps (M.setI ss player (M.getI ss player + 1)) (pth ++ [(M.after r player place)]) = M.sow r player from_ (M.getI s_pits from_).toNat from_ (M.setI s_pits from_ 0) s_stores path := by rw [← hS, show k.toNat = (k - 1).toNat + 1 by omega, M.sow_succ hq, if_pos (by omega)]
   have hG2 := hG.putStore (k := player) (by omega) (by omega) (by omega)
   refine Js.region <| Qm rfl <| Qc rfl <| Qf fh rfl <| Q0 0 rfl rfl rfl <| Qm rfl <| Qq (p_indexAddr el_27 rfl rfl (by omega) (by omega) rfl) <| Qw (q_load1 ty_2.h rfl (Mem.row (i := 2) rfl (ints_getI (i := player) (by omega)))) <| Qp rfl rfl <| Qq (p_indexAddr el_27 rfl rfl (by omega) (by omega) rfl) ?_
   refine JL.s (e_storeRow (i := 2) (xs' := ints_ (M.setI ss player ((M.getI ss player) + 1))) ty_2.h rfl rfl rfl rfl rfl rfl (ints_lt (i := player.toNat) (by omega)) (ints_setL (i := player.toNat) (by omega))) ?_
   rintro _ _ _ ⟨rfl, rfl⟩ _
   refine znl ?_
   refine zN <| Qm rfl <| Qm rfl <| zbs fun b12 => ?_
   refine JL.e (e_append (i := 4) (n' := (pth ++ [(M.after r player place)]).length) (vs' := ints_ (pth ++ [(M.after r player place)])) el_27 rfl rfl rfl rfl (src_row (i := 0) und_27 rfl rfl) (by omega) (by omega) (by first | omega | (simp only [List.length_append, List.length_cons, List.length_nil, List.length_take, List.length_drop] <;> omega)) (by simp [ints_])) ?_
   rintro v14 _ _ ⟨⟨g15, rfl⟩, rfl⟩ _
   refine JL.fact (row_form' (i := 4) rfl) (fun hf16 => ?_)
   obtain ⟨A16, c16, rfl, bl16, bh16⟩ := hf16
   refine znl ?_
   refine Qa rfl <| zG <| Qm rfl <| Qs rfl rfl <| Qa rfl <| JL.nil <| Js.blockEnd ?_
   refine zf [1, 1, 1, 1] fun GG17 => ?_
   refine zn ?_
   exact zag ⟨k - 1, M.after r player place, ps, M.setI ss player ((M.getI ss player) + 1), pth ++ [(M.after r player place)], _, _, _, _, rfl, rfl, by exact hS2, by first | exact hG2 | exact hG, zt, zt, by first | omega | (simp only [List.length_append, List.length_cons, List.length_nil]; omega), zt, zu, zu, rfl⟩ x6 (by exact hm2)
  have hq0 : ¬ (M.after r player place) = -1 := by simpa using h9
  have hS2 : M.sow r player from_ (k - 1).toNat (M.after r player place) (M.setI ps (M.after r player place) (M.getI ps (M.after r player place) + 1)) ss (pth ++ [(M.after r player place)]) = M.sow r player from_ (M.getI s_pits from_).toNat from_ (M.setI s_pits from_ 0) s_stores path := by rw [← hS, show k.toNat = (k - 1).toNat + 1 by omega, M.sow_succ hq, if_neg (by omega)]
  have hG2 := hG.putPit (k := (M.after r player place)) (by omega) (by omega) ha.2
  have hpq := hG.pit (M.after r player place)
  refine Js.region <| Qm rfl <| Qc rfl <| Qf fh rfl <| Q0 0 rfl rfl rfl <| Qm rfl <| Qq (p_indexAddr el_27 rfl rfl (by omega) (by omega) rfl) <| Qw (q_load1 ty_2.h rfl (Mem.row (i := 1) rfl (ints_getI (i := M.after r player place) (by omega)))) <| Qp rfl rfl <| Qq (p_indexAddr el_27 rfl rfl (by omega) (by omega) rfl) ?_
  refine JL.s (e_storeRow (i := 1) (xs' := ints_ (M.setI ps (M.after r player place) ((M.getI ps (M.after r player place)) + 1))) ty_2.h rfl rfl rfl rfl rfl rfl (ints_lt (i := (M.after r player place).toNat) (by omega)) (ints_setL (i := (M.after r player place).toNat) (by omega))) ?_
  rintro _ _ _ ⟨rfl, rfl⟩ _
  refine znl ?_
  refine zN <| Qm rfl <| Qm rfl <| zbs fun b20 => ?_
  refine JL.e (e_append (i := 4) (n' := (pth ++ [(M.after r player place)]).length) (vs' := ints_ (pth ++ [(M.after r player place)])) el_27 rfl rfl rfl rfl (src_row (i := 0) und_27 rfl rfl) (by omega) (by omega) (by first | omega | (simp only [List.length_append, List.length_cons, List.length_nil, List.length_take, List.length_drop] <;> omega)) (by simp [ints_])) ?_
  rintro v22 _ _ ⟨⟨g23, rfl⟩, rfl⟩ _
  refine JL.fact (row_form' (i := 4) rfl) (fun hf24 => ?_)
  obtain ⟨A24, c24, rfl, bl24, bh24⟩ := hf24
  refine znl ?_
  refine Qa rfl <| zG <| Qm rfl <| Qs rfl rfl <| Qa rfl <| JL.nil <| Js.blockEnd ?_
  refine zf [1, 1, 1, 1] fun GG25 => ?_
  refine zn ?_
  exact zag ⟨k - 1, M.after r player place, M.setI ps (M.after r player place) ((M.getI ps (M.after r player place)) + 1), ss, pth ++ [(M.after r player place)], _, _, _, _, rfl, rfl, by exact hS2, by first | exact hG2 | exact hG, zt, zt, by first | omega | (simp only [List.length_append, List.length_cons, List.length_nil]; omega), zt, zu, zu, rfl⟩ x6 (by exact hm2)
 have hL : M.lap r player from_ (M.Sw.mk s_pits s_stores s_last s_laps) path = (⟨ps, ss, place, s_laps + 1⟩, pth) := by unfold M.lap; dsimp only; rw [← hS]; simp [show k.toNat = 0 by omega, M.sow]
 clear hS
 refine zx ?_
 refine zS <| Qm rfl <| Qm rfl <| Qc rfl <| Qf fh rfl <| zw 0 rfl rfl rfl ?_
 refine zN <| Qm rfl <| Qc rfl <| Qf fh rfl <| Q0 0 rfl rfl rfl <| Qp rfl rfl <| Qc rfl <| Qf fh rfl <| zw 0 rfl rfl rfl ?_
 refine zN <| Qm rfl <| Qa rfl <| JL.nil ?_
 refine zrb [0, 0, 0, 0] hb x6 ?_
 have hN1 : ((M.lap r player from_ (M.Sw.mk s_pits s_stores s_last s_laps) path).1.pits).length = s_pits.length := by first | (rw [hL]; done) | (rw [hL]; show ps.length = _; omega) | (rw [hL]; show ss.length = _; omega)
 have hE1 : (M.lap r player from_ (M.Sw.mk s_pits s_stores s_last s_laps) path).1.pits = ps := by rw [hL]
 have hN2 : ((M.lap r player from_ (M.Sw.mk s_pits s_stores s_last s_laps) path).1.stores).length = s_stores.length := by first | (rw [hL]; done) | (rw [hL]; show ps.length = _; omega) | (rw [hL]; show ss.length = _; omega)
 have hE2 : (M.lap r player from_ (M.Sw.mk s_pits s_stores s_last s_laps) path).1.stores = ss := by rw [hL]
 have hE3 : (M.lap r player from_ (M.Sw.mk s_pits s_stores s_last s_laps) path).1.last = place := by rw [hL]
 have hE4 : (M.lap r player from_ (M.Sw.mk s_pits s_stores s_last s_laps) path).1.laps = (s_laps + 1) := by rw [hL]
 have hN5 : ((M.lap r player from_ (M.Sw.mk s_pits s_stores s_last s_laps) path).2).length = pth.length := by first | (rw [hL]; done) | (rw [hL]; show ps.length = _; omega) | (rw [hL]; show ss.length = _; omega)
 have hE5 : (M.lap r player from_ (M.Sw.mk s_pits s_stores s_last s_laps) path).2 = pth := by rw [hL]
 refine ⟨(some ⟨b2, 0, none⟩), cs_0, gs_0, (some ⟨b3, 0, none⟩), cs_1, gs_1, A6_4, c6_4, g6_4, (by first | rfl | (rw [hN5]; done) | (rw [hN5]; rfl) | (rw [hE5]; done) | (rw [hE5]; rfl)), ?_, ?_, ?_, ?_, ?_, ?_, ?_⟩
 · rw [hN1, hE1, hN2, hE2, hE3, hE4, hN5, hE5]
 all_goals (first | (rw [hN1, hE1, hN2, hE2, hE3, hE4, hN5, hE5]; omega) | omega | (simp only [*]; omega))

set_option maxHeartbeats 1000000 in
theorem c_spec_l05Sow (r : M.Rul) {v_r : Value} (p : M.Pos) {v_p : Value} (from_ : Int) {w : World} (h_r : (Ty.ref (cRules r)).ok w v_r) (h_p : (Ty.ref (cPosition p)).ok w v_p) (r0 : 2 ≤ r.pits := by exact om_) (r1 : r.pits ≤ 8 := by exact om_) (r2 : p.player = 0 ∨ p.player = 1 := by exact om_) (r3 : 0 ≤ from_ := by exact om_) (r4 : from_ < 2 * r.pits := by exact om_) (r5 : M.Good r p.pits p.stores 0 := by exact om_) (r6 : 0 < M.getI p.pits from_ := by exact om_) : Ret Tryz.prog 159 [v_r, v_p, .int .i64 from_] w (Ty.tup [Ty.agg (cSown ((M.sowT r p from_).1)), Ty.ints 2 ((M.sowT r p from_).2.1), Ty.bool ((M.sowT r p from_).2.2)]) := by
 have l1 := r5.lp
 have l2 := r5.ls
 obtain ⟨ha, hb1, hc1, hd, he, hf⟩ := M.lap_keeps (s := ⟨p.pits, p.stores, 0, 0⟩) r [] r1 r0 r2 r3 r4 r5
 replace hf : (M.lap r p.player from_ (M.Sw.mk p.pits p.stores 0 0) []).1.laps = 1 := hf
 replace hd : (M.lap r p.player from_ (M.Sw.mk p.pits p.stores 0 0) []).2.length ≤ 96 := by simpa using hd
 revert v_r; apply opn
 intro b1 o1 hr1
 revert v_p; apply opn
 intro b4 o4 A2 c2 h2 bl2 bh2 A3 c3 h3 bl3 bh3 hr4
 refine enter @Tryz.func159 @Tryz.ntmps159 rfl rfl ?_
 refine zent ?_
 refine zS <| za zeh fun b5 => Qa rfl <| Qa rfl <| zJ ?_
 refine zk [0, 1, 2, 6] (fun F U l os u => ∃ (b8 : Nat) (A6 : Option Addr) (c6 : Nat) (A7 : Option Addr) (c7 : Nat), l = F [(9, .pointer (some ⟨b8, 0, none⟩))] ∧ os = [boxO b8 [.slice A6 p.pits.length c6, .slice A7 p.stores.length c7, .int .i64 0, .int .i64 0] 162, rowO 2 1 (.slice A7 p.stores.length c7) p.stores.length (ints_ p.stores) [], rowO 2 1 (.slice A6 p.pits.length c6) p.pits.length (ints_ p.pits) []] ++ U [] ∧ (p.pits.length ≤ c6) ∧ (c6 ≤ 9223372036854775807) ∧ (p.stores.length ≤ c7) ∧ (c7 ≤ 9223372036854775807)) ?_ ?_
 ·
  refine zdr [12] ?_
  refine JH.p 0 rfl (p_move rfl) ?_
  refine JH.p 1 rfl (p_nilCheck rfl) ?_
  refine JH.p 2 rfl (p_fieldAddr fld_39_0.h rfl) ?_
  refine JH.w 3 rfl (fun os' u' hv => q_load1 ty_27.h rfl (Mem.pub ((hr4.vis hv) 0 _ rfl))) ?_
  refine JH.p 5 rfl (p_move rfl) ?_
  refine JH.p 6 rfl (p_nilCheck rfl) ?_
  refine JH.p 7 rfl (p_fieldAddr fld_39_1.h rfl) ?_
  refine JH.w 8 rfl (fun os' u' hv => q_load1 ty_27.h rfl (Mem.pub ((hr4.vis hv) 1 _ rfl))) ?_
  refine y2 4 11 ?_ ?_
  ·
   refine ycs rfl rfl (fun w hw => c_spec_l00Own p.pits (ok_ hw)) ?_
   intro A15 c15 bl15 bh15
   refine y2 9 11 ?_ ?_
   ·
    refine ycs rfl rfl (fun w hw => c_spec_l00Own p.stores (ok_ hw)) ?_
    intro A16 c16 bl16 bh16
    refine JH.p 10 rfl (q_bld) ?_
    refine y1 11 ?_
    refine ya rfl fun b17 => ?_
    refine y1 12 ?_
    refine yst rfl rfl rfl ?_
    refine yd ?_
    exact zm ⟨_, _, _, _, _, rfl, rfl, zt, zt, zt, zt⟩ (Up.refl _ _)
   refine ya rfl fun b18 => ?_
   refine y1 9 ?_
   refine ycs rfl rfl (fun w hw => c_spec_l00Own p.stores (ok_ hw)) ?_
   intro A19 c19 bl19 bh19
   refine JH.p 10 rfl (q_bld) ?_
   refine y1 12 ?_
   refine yst rfl rfl rfl ?_
   refine yd ?_
   refine zh [1, 0, 0, 0] ?_
   exact zm ⟨_, _, _, _, _, rfl, rfl, zt, zt, zt, zt⟩ (Up.refl _ _)
  refine ya rfl fun b20 => ?_
  refine y1 4 ?_
  refine ycs rfl rfl (fun w hw => c_spec_l00Own p.pits (ok_ hw)) ?_
  intro A21 c21 bl21 bh21
  refine y1 9 ?_
  refine ycs rfl rfl (fun w hw => c_spec_l00Own p.stores (ok_ hw)) ?_
  intro A22 c22 bl22 bh22
  refine JH.p 10 rfl (q_bld) ?_
  refine y1 12 ?_
  refine yst rfl rfl rfl ?_
  refine yd ?_
  refine zh [2, 0, 0, 0] ?_
  exact zm ⟨_, _, _, _, _, rfl, rfl, zt, zt, zt, zt⟩ (Up.refl _ _)
 rintro _ _ u14 ⟨b8, A6, c6, A7, c7, rfl, rfl, f14_0, f14_1, f14_2, f14_3⟩ x14
 refine zn ?_
 refine zS <| Qm rfl <| Qm rfl <| Qc rfl <| Qf fh rfl <| QC ((hr4.vis x14.vis) 2 _ rfl) rfl <| Qm rfl <| zbs fun b23 => ?_
 refine zhl [1, 2, 1, 0] ?_
 refine zB 4 sp_ rfl (fun w hb hw => c_spec_l05Lap r p.pits p.stores 0 0 p.player from_ [] hb (ok_ hw) (r3 := r3) (r5 := r5) (r6 := r6) (r9 := (by simp))) ?_
 rintro _ _ G25 ⟨A25s_0, c25s_0, g25s_0, A25s_1, c25s_1, g25s_1, A25_r, c25_r, g25_r, rfl, rfl, bl25_0, bl25_1, bl25_2, bl25_3, bl25_4, bl25_5⟩
 refine znl ?_
 refine Qa rfl <| zJ <| Js.block ?_
 refine zl [0, 1, 6, 9] (fun F U l os u m => ∃ (sw : M.Sw) (path : List Int) (A26_10 : Option Addr) (c26_10 : Nat) (g26_10 : List Nat) (A26_9_0 : Option Addr) (c26_9_0 : Nat) (g26_9_0 : List Nat) (A26_9_1 : Option Addr) (c26_9_1 : Nat) (g26_9_1 : List Nat) (G26_4 : List Nat), l = F [(10, .slice A26_10 path.length c26_10)] ∧ os = U [some (boxO b8 [.slice A26_9_0 sw.pits.length c26_9_0, .slice A26_9_1 sw.stores.length c26_9_1, .int .i64 sw.last, .int .i64 sw.laps] 162), some (rowO 2 1 (.slice A26_9_0 sw.pits.length c26_9_0) sw.pits.length (ints_ sw.pits) g26_9_0), some (rowO 2 1 (.slice A26_9_1 sw.stores.length c26_9_1) sw.stores.length (ints_ sw.stores) g26_9_1), some (rowO 2 1 (.slice A26_10 path.length c26_10) path.length (ints_ path) g26_10), some (anyO G26_4)] ∧ (M.moreT r p.player sw path = (M.mvT r p.player 100 from_ ⟨p.pits, p.stores, 0, 0⟩ [])) ∧ (M.Good r sw.pits sw.stores 0) ∧ (-1 ≤ sw.last) ∧ (sw.last < 2 * r.pits) ∧ (1 ≤ sw.laps) ∧ (sw.laps ≤ 100) ∧ (path.length ≤ 96 * sw.laps) ∧ (path.length ≤ c26_10) ∧ (c26_10 ≤ 9223372036854775807) ∧ (sw.pits.length ≤ c26_9_0) ∧ (c26_9_0 ≤ 9223372036854775807) ∧ (sw.stores.length ≤ c26_9_1) ∧ (c26_9_1 ≤ 9223372036854775807) ∧ m = (101 - sw.laps).toNat) ⟨(M.lap r p.player from_ (M.Sw.mk p.pits p.stores 0 0) []).1, (M.lap r p.player from_ (M.Sw.mk p.pits p.stores 0 0) []).2, _, _, _, _, _, _, _, _, _, _, rfl, rfl, by exact (M.mvT_moreT (s := ⟨p.pits, p.stores, 0, 0⟩) (Int.le_refl 0) (show (0 : Int) ≤ 99 by decide)).symm, by exact ha, zt, zt, zt, zt, by omega, zu, zu, zu, zu, zu, zu, rfl⟩ ?_
 rintro _ _ u26 _ ⟨sw, path, A26_10, c26_10, g26_10, A26_9_0, c26_9_0, g26_9_0, A26_9_1, c26_9_1, g26_9_1, G26_4, rfl, rfl, hS, hG, q0, q1, la0, la1, hl, f26_7, f26_8, f26_9, f26_10, f26_11, f26_12, rfl⟩ x26
 refine zn ?_
 have l3 := hG.lp
 have l4 := hG.ls
 refine Js.seq <| zS <| Qm rfl <| Qc rfl <| Qf fh rfl <| QC ((hr1.vis (x14.vis.trans x26.vis)) 4 _ rfl) rfl <| Qm rfl <| zg (Gd.t1 rfl rfl rfl) (fun hc => p_fieldAddr fld_162_2.h rfl) <| zgq (Gd.t1 rfl rfl rfl) (fun hc => q_load1 ty_2.h (gh hc rfl) (Mem.box (i := 0) rfl rfl)) <| zg (Gd.t1 rfl rfl rfl) (fun hc => p_geq (gh hc rfl) rfl) <| Qq (p_pickAnd rfl rfl rfl) <| Qm rfl <| zg (Gd.t1 rfl rfl rfl) (fun hc => p_fieldAddr fld_162_0.h rfl) <| zgq (Gd.t1 rfl rfl rfl) (fun hc => q_load1 ty_27.h (gh hc rfl) (Mem.box (i := 0) rfl rfl)) ?_
 refine zg (Gd.t1 rfl rfl rfl) (fun hc => p_fieldAddr fld_162_2.h rfl) <| zgq (Gd.t1 rfl rfl rfl) (fun hc => q_load1 ty_2.h (gh hc rfl) (Mem.box (i := 0) rfl rfl)) ?_
 refine JL.fact (row_some (i := 1) rfl (by omega)) (fun hf28 => ?_)
 obtain ⟨b28, rfl⟩ := hf28
 refine zg (Gd.t1 rfl rfl rfl) (fun hc => p_indexAddr el_27 (gh hc rfl) (gh hc rfl) (by have hc9 := hc; (try simp only [Bool.and_eq_true, decide_eq_true_eq] at hc9); omega) (by have hc9 := hc; (try simp only [Bool.and_eq_true, decide_eq_true_eq] at hc9); omega) rfl) ?_
 refine zgq (Gd.t1 rfl rfl rfl) (fun hc => q_load1 ty_2.h (gh hc rfl) (Mem.row (i := 1) rfl (ints_getI (i := sw.last) (by have hc9 := hc; (try simp only [Bool.and_eq_true, decide_eq_true_eq] at hc9); omega)))) ?_
 refine zg (Gd.t1 rfl rfl rfl) (fun hc => p_gtr (gh hc rfl) rfl) <| Qq (p_pickAnd rfl rfl rfl) <| JL.nil ?_
 refine zi (fun h29 h29' => ?_) fun h29 h29' => ?_
 ·
  have hm : M.more r sw = true := h29
  have hmm := M.more_get hm
  obtain ⟨ka, kb, kc, kd, ke, kf⟩ := M.lap_keeps r path r1 r0 r2 hmm.1 q1 hG
  have hgp := hmm.2
  refine Js.skip <| Js.block <| Js.seq <| zS <| Qf fh rfl <| Q0 0 rfl rfl rfl <| Qh rfl rfl <| JL.nil ?_
  refine zi (fun h30 h30' => ?_) fun h30 h30' => ?_
  ·
   have hT := M.sowT_no (r := r) (p := p) (frm := from_) (by rw [← hS, M.moreT_yes hm, show (100 - sw.laps).toNat = 0 by omega]; rfl)
   have hq0 : [] = ((M.sowT r p from_).1).pits := by first | (rw [hT]; done) | (rw [hT]; rfl)
   have hq1 : [] = ((M.sowT r p from_).1).stores := by first | (rw [hT]; done) | (rw [hT]; rfl)
   have hq2 : 0 = ((M.sowT r p from_).1).last := by first | (rw [hT]; done) | (rw [hT]; rfl)
   have hq3 : 0 = ((M.sowT r p from_).1).laps := by first | (rw [hT]; done) | (rw [hT]; rfl)
   have hq4 : [] = (M.sowT r p from_).2.1 := by first | (rw [hT]; done) | (rw [hT]; rfl)
   have hq5 : false = (M.sowT r p from_).2.2 := by first | (rw [hT]; done) | (rw [hT]; rfl)
   refine zS <| Qb ?_
   refine zw 5 rfl rfl rfl ?_
   refine Qa rfl <| Qa rfl <| JL.nil ?_
   exact zro (x14.trans x26)
  have hS2 : M.moreT r p.player (M.lap r p.player sw.last sw path).1 (M.lap r p.player sw.last sw path).2 = (M.mvT r p.player 100 from_ ⟨p.pits, p.stores, 0, 0⟩ []) := by rw [← hS, M.moreT_yes hm, M.mvT_moreT (by omega) (by omega)]
  refine Js.skip ?_
  refine zdr [8] ?_
  refine JH.p 0 rfl (p_move rfl) ?_
  refine JH.p 1 rfl (p_move rfl) ?_
  refine JH.p 2 rfl (p_nilCheck rfl) ?_
  refine JH.p 3 rfl (p_fieldAddr fld_39_2.h rfl) ?_
  refine JH.w 4 rfl (fun os' u' hv => q_load1 ty_2.h rfl (Mem.pub ((hr4.vis ((x14.vis.trans x26.vis).trans hv)) 2 _ rfl))) ?_
  refine JH.p 5 rfl (p_fieldAddr fld_162_2.h rfl) ?_
  refine JH.q 6 rfl (q_load1 ty_2.h rfl (Mem.box (i := 0) rfl rfl)) ?_
  refine JH.p 7 rfl (p_move rfl) ?_
  refine y1 8 ?_
  refine yB 4 sp_ rfl rfl (fun w hb hw => c_spec_l05Lap r sw.pits sw.stores sw.last sw.laps p.player sw.last path hb (ok_ hw) (r3 := hmm.1) (r5 := hG)) ?_
  rintro _ _ G31 ⟨A31s_0, c31s_0, g31s_0, A31s_1, c31s_1, g31s_1, A31_r, c31_r, g31_r, rfl, rfl, bl31_0, bl31_1, bl31_2, bl31_3, bl31_4, bl31_5⟩
  refine znh ?_
  refine JH.p 9 rfl (p_assign rfl) ?_
  refine yd ?_
  refine Js.blockEnd ?_
  refine zd [0, 0, 0, 0, 1, 1] rfl fun u32 x32 => ?_
  exact zag ⟨(M.lap r p.player sw.last sw path).1, (M.lap r p.player sw.last sw path).2, _, _, _, _, _, _, _, _, _, _, rfl, rfl, by exact hS2, by exact ka, zt, zt, zt, zt, zt, zu, zu, zu, zu, zu, zu, rfl⟩ (x26.trans x32)
 have hm : M.more r sw = false := h29
 have hT := M.sowT_done (by rw [← hS]; exact M.moreT_no hm)
 refine zx ?_
 have hq0 : sw.pits = ((M.sowT r p from_).1).pits := by first | (rw [hT]; done) | (rw [hT]; rfl)
 have hq1 : sw.stores = ((M.sowT r p from_).1).stores := by first | (rw [hT]; done) | (rw [hT]; rfl)
 have hq2 : sw.last = ((M.sowT r p from_).1).last := by first | (rw [hT]; done) | (rw [hT]; rfl)
 have hq3 : sw.laps = ((M.sowT r p from_).1).laps := by first | (rw [hT]; done) | (rw [hT]; rfl)
 have hq4 : path = (M.sowT r p from_).2.1 := by first | (rw [hT]; done) | (rw [hT]; rfl)
 have hq5 : true = (M.sowT r p from_).2.2 := by first | (rw [hT]; done) | (rw [hT]; rfl)
 refine zS <| Q9 0 rfl rfl ?_
 refine Qm rfl <| zw 5 rfl rfl rfl ?_
 refine Qa rfl <| Qa rfl <| JL.nil ?_
 exact zro (x14.trans x26)

set_option maxHeartbeats 1000000 in
theorem c_spec_l05Move (r : M.Rul) {v_r : Value} (p : M.Pos) {v_p : Value} (move : Int) {w : World} (h_r : (Ty.ref (cRules r)).ok w v_r) (h_p : (Ty.ref (cPosition p)).ok w v_p) (r0 : p.pits.length ≤ 4194304 := by exact om_) (r1 : p.stores.length ≤ 4194304 := by exact om_) : Ret Tryz.prog 117 [v_r, v_p, .int .i64 move] w (Ty.tup [Ty.agg (cSown ((M.sowMove r p move).2.1)), Ty.ints 2 ((M.sowMove r p move).2.2), Ty.int ((M.sowMove r p move).1)]) := by
 revert v_r; apply opn
 intro b1 o1 hr1
 revert v_p; apply opn
 intro b4 o4 A2 c2 h2 bl2 bh2 A3 c3 h3 bl3 bh3 hr4
 refine enter @Tryz.func117 @Tryz.ntmps117 rfl rfl ?_
 refine zent ?_
 refine zS <| za zeh fun b5 => Qa rfl <| Qa rfl <| zN <| Qm rfl <| Qm rfl <| Qm rfl <| zv rfl (fun w hw => c_spec_l05Code r p move (ok_ hw) (ok_ hw)) <| Qa rfl <| zJ <| zS <| Qm rfl <| Qd rfl rfl ?_
 refine JL.nil ?_
 refine zi (fun h6 h6' => ?_) fun h6 h6' => ?_
 ·
  have hT := M.sowMove_code (r := r) (p := p) (move := move) (by simpa using h6)
  have hq0 : [] = ((M.sowMove r p move).2.1).pits := by first | (rw [hT]; done) | (rw [hT]; rfl)
  have hq1 : [] = ((M.sowMove r p move).2.1).stores := by first | (rw [hT]; done) | (rw [hT]; rfl)
  have hq2 : 0 = ((M.sowMove r p move).2.1).last := by first | (rw [hT]; done) | (rw [hT]; rfl)
  have hq3 : 0 = ((M.sowMove r p move).2.1).laps := by first | (rw [hT]; done) | (rw [hT]; rfl)
  have hq4 : [] = (M.sowMove r p move).2.2 := by first | (rw [hT]; done) | (rw [hT]; rfl)
  have hq5 : (M.sowCode r p move) = (M.sowMove r p move).1 := by first | (rw [hT]; done) | (rw [hT]; rfl)
  refine zS <| Qb ?_
  refine Qm rfl <| zw 0 rfl rfl rfl ?_
  refine Qa rfl <| Qa rfl <| JL.nil ?_
  exact zro (Up.refl _ _)
 have hc : M.sowCode r p move = 0 := by simpa using h6
 obtain ⟨hok, m0, m1, hg⟩ := M.sowCode_ok hc
 obtain ⟨g1, g2, g3, g4, g5, g6, g7⟩ := M.okP_bd hok
 have hq := M.mul_bd g7 g1 g2
 have hG := M.Good.of_ok hok
 refine Js.skip <| Js.seq ?_
 refine zk [6] (fun F U l os u => ∃ (b12 : Nat) (A11 : Option Addr) (c11 : Nat) (A9 : Option Addr) (c9 : Nat) (A10 : Option Addr) (c10 : Nat), l = F [(10, .pointer (some ⟨b12, 0, none⟩)), (11, .slice A11 (((M.sowT r p ((p.player * r.pits) + move)).2.1).length) c11), (12, .bool ((M.sowT r p ((p.player * r.pits) + move)).2.2))] ∧ os = [boxO b12 [.slice A9 ((((M.sowT r p ((p.player * r.pits) + move)).1).pits).length) c9, .slice A10 ((((M.sowT r p ((p.player * r.pits) + move)).1).stores).length) c10, .int .i64 (((M.sowT r p ((p.player * r.pits) + move)).1).last), .int .i64 (((M.sowT r p ((p.player * r.pits) + move)).1).laps)] 162, rowO 2 1 (.slice A11 (((M.sowT r p ((p.player * r.pits) + move)).2.1).length) c11) (((M.sowT r p ((p.player * r.pits) + move)).2.1).length) (ints_ ((M.sowT r p ((p.player * r.pits) + move)).2.1)) [], rowO 2 1 (.slice A10 ((((M.sowT r p ((p.player * r.pits) + move)).1).stores).length) c10) ((((M.sowT r p ((p.player * r.pits) + move)).1).stores).length) (ints_ (((M.sowT r p ((p.player * r.pits) + move)).1).stores)) [], rowO 2 1 (.slice A9 ((((M.sowT r p ((p.player * r.pits) + move)).1).pits).length) c9) ((((M.sowT r p ((p.player * r.pits) + move)).1).pits).length) (ints_ (((M.sowT r p ((p.player * r.pits) + move)).1).pits)) []] ++ U [] ∧ (((M.sowT r p ((p.player * r.pits) + move)).2.1).length ≤ c11) ∧ (c11 ≤ 9223372036854775807) ∧ ((((M.sowT r p ((p.player * r.pits) + move)).1).pits).length ≤ c9) ∧ (c9 ≤ 9223372036854775807) ∧ ((((M.sowT r p ((p.player * r.pits) + move)).1).stores).length ≤ c10) ∧ (c10 ≤ 9223372036854775807)) ?_ ?_
 ·
  refine zdr [19] ?_
  refine JH.p 0 rfl (p_move rfl) ?_
  refine JH.p 1 rfl (p_move rfl) ?_
  refine JH.p 2 rfl (p_move rfl) ?_
  refine JH.p 3 rfl (p_nilCheck rfl) ?_
  refine JH.p 4 rfl (p_fieldAddr fld_39_2.h rfl) ?_
  refine JH.w 5 rfl (fun os' u' hv => q_load1 ty_2.h rfl (Mem.pub ((hr4.vis hv) 2 _ rfl))) ?_
  refine JH.p 6 rfl (p_move rfl) ?_
  refine JH.p 7 rfl (p_nilCheck rfl) ?_
  refine JH.p 8 rfl (p_fieldAddr fld_34_0.h rfl) ?_
  refine JH.w 9 rfl (fun os' u' hv => q_load1 ty_2.h rfl (Mem.pub ((hr1.vis hv) 0 _ rfl))) ?_
  refine JH.p 10 rfl (p_mul rfl rfl (IntWalk.i64_in _ (by omega))) ?_
  refine JH.p 11 rfl (p_move rfl) ?_
  refine JH.p 12 rfl (p_add rfl rfl (IntWalk.i64_in _ (by omega))) ?_
  refine y2 13 18 ?_ ?_
  ·
   refine yc rfl rfl (fun w hw => c_spec_l05Sow r p ((p.player * r.pits) + move) (ok_ hw) (ok_ hw) (r5 := hG) (r6 := hg)) ?_
   intro A22 c22 bl22 bh22 A23 c23 bl23 bh23 A24 c24 bl24 bh24
   refine JH.p 14 rfl (p_move rfl) ?_
   refine JH.p 15 rfl (p_extract rfl rfl) ?_
   refine JH.p 16 rfl (p_extract rfl rfl) ?_
   refine JH.p 17 rfl (p_extract rfl rfl) ?_
   refine y1 18 ?_
   refine ya rfl fun b25 => ?_
   refine y1 19 ?_
   refine yst rfl rfl rfl ?_
   refine JH.p 20 rfl (p_assign rfl) ?_
   refine JH.p 21 rfl (p_assign rfl) ?_
   refine yd ?_
   exact zm ⟨_, _, _, _, _, _, _, rfl, rfl, zt, zt, zt, zt, zt, zt⟩ (Up.refl _ _)
  refine ya rfl fun b26 => ?_
  refine y1 13 ?_
  refine yc rfl rfl (fun w hw => c_spec_l05Sow r p ((p.player * r.pits) + move) (ok_ hw) (ok_ hw) (r5 := hG) (r6 := hg)) ?_
  intro A29 c29 bl29 bh29 A30 c30 bl30 bh30 A31 c31 bl31 bh31
  refine JH.p 14 rfl (p_move rfl) ?_
  refine JH.p 15 rfl (p_extract rfl rfl) ?_
  refine JH.p 16 rfl (p_extract rfl rfl) ?_
  refine JH.p 17 rfl (p_extract rfl rfl) ?_
  refine y1 19 ?_
  refine yst rfl rfl rfl ?_
  refine JH.p 20 rfl (p_assign rfl) ?_
  refine JH.p 21 rfl (p_assign rfl) ?_
  refine yd ?_
  refine zh [3, 0, 0, 0, 0] ?_
  exact zm ⟨_, _, _, _, _, _, _, rfl, rfl, zt, zt, zt, zt, zt, zt⟩ (Up.refl _ _)
 rintro _ _ u19 ⟨b12, A11, c11, A9, c9, A10, c10, rfl, rfl, f19_0, f19_1, f19_2, f19_3, f19_4, f19_5⟩ x19
 refine zn ?_
 refine Js.seq <| zS <| Qm rfl <| Qt rfl <| JL.nil ?_
 refine zi (fun h32 h32' => ?_) fun h32 h32' => ?_
 ·
  have hT := M.sowMove_fail hc (by simpa using h32)
  have hq0 : [] = ((M.sowMove r p move).2.1).pits := by first | (rw [hT]; done) | (rw [hT]; rfl)
  have hq1 : [] = ((M.sowMove r p move).2.1).stores := by first | (rw [hT]; done) | (rw [hT]; rfl)
  have hq2 : 0 = ((M.sowMove r p move).2.1).last := by first | (rw [hT]; done) | (rw [hT]; rfl)
  have hq3 : 0 = ((M.sowMove r p move).2.1).laps := by first | (rw [hT]; done) | (rw [hT]; rfl)
  have hq4 : [] = (M.sowMove r p move).2.2 := by first | (rw [hT]; done) | (rw [hT]; rfl)
  have hq5 : 10 = (M.sowMove r p move).1 := by first | (rw [hT]; done) | (rw [hT]; rfl)
  refine zS <| Qb ?_
  refine zw 4 rfl rfl rfl ?_
  refine Qa rfl <| Qa rfl <| JL.nil ?_
  exact zro x19
 have hT := M.sowMove_T2 hc (by simpa using h32)
 have hq0 : (((M.sowT r p ((p.player * r.pits) + move)).1).pits) = ((M.sowMove r p move).2.1).pits := by first | (rw [hT]; done) | (rw [hT]; rfl)
 have hq1 : (((M.sowT r p ((p.player * r.pits) + move)).1).stores) = ((M.sowMove r p move).2.1).stores := by first | (rw [hT]; done) | (rw [hT]; rfl)
 have hq2 : (((M.sowT r p ((p.player * r.pits) + move)).1).last) = ((M.sowMove r p move).2.1).last := by first | (rw [hT]; done) | (rw [hT]; rfl)
 have hq3 : (((M.sowT r p ((p.player * r.pits) + move)).1).laps) = ((M.sowMove r p move).2.1).laps := by first | (rw [hT]; done) | (rw [hT]; rfl)
 have hq4 : ((M.sowT r p ((p.player * r.pits) + move)).2.1) = (M.sowMove r p move).2.2 := by first | (rw [hT]; done) | (rw [hT]; rfl)
 have hq5 : 0 = (M.sowMove r p move).1 := by first | (rw [hT]; done) | (rw [hT]; rfl)
 refine Js.skip <| zS <| Q9 0 rfl rfl ?_
 refine Qm rfl <| zw 4 rfl rfl rfl ?_
 refine Qa rfl <| Qa rfl <| JL.nil ?_
 exact zro x19

end Go.Proofs.YtcmfnlleikcpnaaGreat

namespace Go.Proofs.YtcmfnlleikcpnaaGreat
open Go.RowKit

set_option maxHeartbeats 1000000 in
theorem c_spec_l06Raw (r : M.Rul) {v_r : Value} (s : M.Sw) {v_s : Value} (player : Int) {w : World} (h_r : (Ty.ref (cRules r)).ok w v_r) (h_s : (Ty.ref (cSown s)).ok w v_s) (r0 : 2 ≤ r.pits := by exact om_) (r1 : r.pits ≤ 8 := by exact om_) (r2 : player = 0 ∨ player = 1 := by exact om_) (r3 : M.Good r s.pits s.stores 0 := by exact om_) (r4 : -1 ≤ s.last := by exact om_) (r5 : s.last < 2 * r.pits := by exact om_) : Ret Tryz.prog 160 [v_r, v_s, .int .i64 player] w (Ty.ints 2 (M.taken r s player)) := by
 have l1 := r3.lp
 have l2 := r3.ls
 have hv9 := r3.pit s.last
 revert v_r; apply opn
 intro b1 o1 hr1
 revert v_s; apply opn
 intro b4 o4 A2 c2 h2 bl2 bh2 A3 c3 h3 bl3 bh3 hr4
 refine enter @Tryz.func160 @Tryz.ntmps160 rfl rfl ?_
 refine zent ?_
 obtain ⟨b5, o5, rfl⟩ := ints_some h2 (by omega)
 refine zS <| Qa rfl <| zN <| zbs fun b6 => ?_
 refine Qa rfl <| zN <| Qm rfl <| Qc rfl <| Qf fh rfl <| QC (hr4 2 _ rfl) rfl <| Qa rfl <| zJ <| zS <| Qm rfl <| Ql rfl rfl <| JL.nil ?_
 refine zi (fun h8 h8' => ?_) fun h8 h8' => ?_
 ·
  have hR : M.taken r s player = [] := by unfold M.taken; rw [if_pos (by simpa using h8)]
  have hq0 : [] = M.taken r s player := by rw [hR]
  refine zS <| Qm rfl <| Qa rfl <| JL.nil ?_
  exact zro (Up.refl _ _)
 have hl0 : ¬ s.last < 0 := by simpa using h8
 refine Js.skip <| zS <| Qm rfl <| Qm rfl <| zv rfl (fun w hw => c_spec_l02Owner r s.last (ok_ hw)) <| Qm rfl <| Qe rfl rfl <| Qa rfl <| zJ <| zS <| Qm rfl <| Qc rfl <| Qf fh rfl <| QC (hr1 7 _ rfl) rfl ?_
 refine JL.nil <| Js.block <| zS <| Qe rfl rfl <| Qa rfl <| JL.nil ?_
 refine zi (fun h9 h9' => ?_) fun h9 h9' => ?_
 ·
  have hcap : r.capture = 1 := by simpa using h9
  refine Js.block ?_
  refine zl [0, 1, 2] (fun F U l os u m => ∃ (k : Int) (out : List Int) (A10_7 : Option Addr) (c10_7 : Nat) (g10_7 : List Nat), l = F [(7, .slice A10_7 out.length c10_7), (8, .int .i64 k)] ∧ os = U [some (rowO 2 1 (.slice A10_7 out.length c10_7) out.length (ints_ out) g10_7)] ∧ (out ++ M.ttI r player s.pits k = M.ttI r player s.pits s.last) ∧ (-1 ≤ k) ∧ (k < 2 * r.pits) ∧ ((out.length : Int) + k = s.last) ∧ (out.length ≤ c10_7) ∧ (c10_7 ≤ 9223372036854775807) ∧ m = (k + 1).toNat) ⟨s.last, [], _, _, _, rfl, rfl, by rfl, zt, zt, by simp, zu, zu, rfl⟩ ?_
  rintro _ _ u10 _ ⟨k, out, A10_7, c10_7, g10_7, rfl, rfl, hS, k0, k1, hl, f10_4, f10_5, rfl⟩ x10
  refine zn ?_
  refine Js.seq <| zS <| Qm rfl <| Qh rfl rfl <| Qm rfl <| zg (Gd.t1 rfl rfl rfl) (fun hc => p_move rfl) <| zg (Gd.t1 rfl rfl rfl) (fun hc => p_move rfl) <| zgv (Gd.t1 rfl rfl rfl) (fun hc => (opds_2 (gh hc rfl) (gh hc rfl))) (fun hc => (fun w hw => c_spec_l02Owner r k (ok_ hw) (r0 := (by have hc9 := hc; (try simp only [decide_eq_true_eq] at hc9); omega)) (r1 := (by have hc9 := hc; (try simp only [decide_eq_true_eq] at hc9); omega)) (r2 := (by have hc9 := hc; (try simp only [decide_eq_true_eq] at hc9); omega)) (r3 := (by have hc9 := hc; (try simp only [decide_eq_true_eq] at hc9); omega)))) ?_
  refine zg (Gd.t1 rfl rfl rfl) (fun hc => p_move rfl) <| zg (Gd.t1 rfl rfl rfl) (fun hc => p_neq (gh hc rfl) (gh hc rfl)) <| Qq (p_pickAnd rfl rfl rfl) <| Qm rfl <| zg (Gd.t1 rfl rfl rfl) (fun hc => p_move rfl) <| zg (Gd.t1 rfl rfl rfl) (fun hc => p_nilCheck (gh hc rfl)) <| zg (Gd.t1 rfl rfl rfl) (fun hc => p_fieldAddr fld_162_0.h (gh hc rfl)) <| zgq (Gd.t1 rfl rfl rfl) (fun hc => q_load1 ty_27.h (gh hc rfl) (Mem.pub ((hr4.vis x10.vis) 0 _ rfl))) <| zg (Gd.t1 rfl rfl rfl) (fun hc => p_move rfl) <| zg (Gd.t1 rfl rfl rfl) (fun hc => p_indexAddr el_27 (gh hc rfl) (gh hc rfl) (by have hc9 := hc; (try simp only [Bool.and_eq_true, decide_eq_true_eq, Bool.not_eq_true', decide_eq_false_iff_not] at hc9); omega) (by have hc9 := hc; (try simp only [Bool.and_eq_true, decide_eq_true_eq, Bool.not_eq_true', decide_eq_false_iff_not] at hc9); omega) rfl) ?_
  refine zgq (Gd.t1 rfl rfl rfl) (fun hc => q_load1 ty_2.h (gh hc rfl) (Mem.pub (ints_cellI (i := k) (Ty.mono _ h2 x10.vis) (by have hc9 := hc; (try simp only [Bool.and_eq_true, decide_eq_true_eq, Bool.not_eq_true', decide_eq_false_iff_not] at hc9); omega)))) ?_
  refine zgv (Gd.t1 rfl rfl rfl) (fun hc => (opds_3 (gh hc rfl) rfl rfl)) (fun hc => (fun w hw => c_spec_l00In (M.getI s.pits k) 2 3)) ?_
  refine Qq (p_pickAnd rfl rfl rfl) <| JL.nil ?_
  refine zi (fun h12 h12' => ?_) fun h12 h12' => ?_
  ·
   obtain ⟨⟨c0, c1⟩, c2⟩ : (0 ≤ k ∧ ¬ M.owner r k = player) ∧ M.betw (M.getI s.pits k) 2 3 = true := by simpa using h12
   have hS2 : (out ++ [k]) ++ M.ttI r player s.pits (k - 1) = M.ttI r player s.pits s.last := by rw [← hS, M.ttI_yes c0 c1 c2]; simp
   refine Js.skip <| Js.block <| zS <| Qm rfl <| Qm rfl <| zbs fun b13 => ?_
   refine JL.e (e_append (i := 1) (n' := (out ++ [k]).length) (vs' := ints_ (out ++ [k])) el_27 rfl rfl rfl rfl (src_row (i := 0) und_27 rfl rfl) (by omega) (by omega) (by first | omega | (simp only [List.length_append, List.length_cons, List.length_nil, List.length_take, List.length_drop] <;> omega)) (by simp [ints_])) ?_
   rintro v15 _ _ ⟨⟨g16, rfl⟩, rfl⟩ _
   refine JL.fact (row_form' (i := 1) rfl) (fun hf17 => ?_)
   obtain ⟨A17, c17, rfl, bl17, bh17⟩ := hf17
   refine znl ?_
   refine Qa rfl <| zG <| Qm rfl <| Qs rfl rfl <| Qa rfl <| JL.nil <| Js.blockEnd ?_
   refine zd [1] rfl fun u18 x18 => ?_
   exact zag ⟨k - 1, out ++ [k], _, _, _, rfl, rfl, by exact hS2, zt, zt, by simp only [List.length_append, List.length_cons, List.length_nil]; omega, zu, zu, rfl⟩ (x10.trans x18)
  have hF : M.ttI r player s.pits k = [] := by rcases h12' with (h | h) | h; exact M.ttI_neg h; exact M.ttI_no (.inl h); exact M.ttI_no (.inr h)
  rw [hF, List.append_nil] at hS
  have hR : M.taken r s player = out := by unfold M.taken; rw [if_neg hl0, if_pos hcap, hS]; simp [M.ttI, hl0]
  refine zx ?_
  have hq0 : out = M.taken r s player := by rw [hR]
  refine Js.blockEnd <| zS <| Qm rfl <| Qa rfl <| JL.nil ?_
  exact zro x10
 have hcap1 : ¬ r.capture = 1 := by simpa using h9
 refine zS <| Qe rfl rfl <| Qa rfl <| JL.nil ?_
 refine zi (fun h19 h19' => ?_) fun h19 h19' => ?_
 ·
  have hcap : r.capture = 2 := by simpa using h19
  have ho : M.opp r s.last = 2 * r.pits - 1 - s.last := rfl
  refine Js.seq ?_
  refine zdr [] ?_
  refine JH.p 0 rfl (p_move rfl) ?_
  refine JH.p 1 rfl (p_move rfl) ?_
  refine JH.pg 2 rfl (Gd.t1 rfl rfl rfl) (fun hc => p_move rfl) ?_
  refine JH.pg 3 rfl (Gd.t1 rfl rfl rfl) (fun hc => p_nilCheck (gvt rfl hc)) ?_
  refine JH.pg 4 rfl (Gd.t1 rfl rfl rfl) (fun hc => p_fieldAddr fld_162_0.h (gvt rfl hc)) ?_
  refine JH.wg 5 rfl (Gd.t1 rfl rfl rfl) (fun hc os' u' hv => q_load1 ty_27.h (gvt rfl hc) (Mem.pub ((hr4.vis hv) 0 _ rfl))) ?_
  refine JH.pg 6 rfl (Gd.t1 rfl rfl rfl) (fun hc => p_move rfl) ?_
  refine JH.pg 7 rfl (Gd.t1 rfl rfl rfl) (fun hc => p_indexAddr el_27 (gvt rfl hc) (gvt rfl hc) (by have hc9 := hc; (try simp only [decide_eq_true_eq] at hc9); omega) (by have hc9 := hc; (try simp only [decide_eq_true_eq] at hc9); omega) rfl) ?_
  refine JH.wg 8 rfl (Gd.t1 rfl rfl rfl) (fun hc os' u' hv => q_load1 ty_2.h (gvt rfl hc) (Mem.pub (ints_cellI (i := s.last) (Ty.mono _ h2 hv) (by have hc9 := hc; (try simp only [decide_eq_true_eq] at hc9); omega)))) ?_
  refine JH.pg 9 rfl (Gd.t1 rfl rfl rfl) (fun hc => p_eql (gvt rfl hc) rfl) ?_
  refine JH.p 10 rfl (p_pickAnd rfl rfl rfl) ?_
  refine JH.p 11 rfl (p_move rfl) ?_
  refine JH.pg 12 rfl (Gd.t1 rfl rfl rfl) (fun hc => p_move rfl) ?_
  refine JH.pg 13 rfl (Gd.t1 rfl rfl rfl) (fun hc => p_nilCheck (gvt rfl hc)) ?_
  refine JH.pg 14 rfl (Gd.t1 rfl rfl rfl) (fun hc => p_fieldAddr fld_162_0.h (gvt rfl hc)) ?_
  refine JH.wg 15 rfl (Gd.t1 rfl rfl rfl) (fun hc os' u' hv => q_load1 ty_27.h (gvt rfl hc) (Mem.pub ((hr4.vis hv) 0 _ rfl))) ?_
  refine JH.pg 16 rfl (Gd.t1 rfl rfl rfl) (fun hc => p_move rfl) ?_
  refine JH.pg 17 rfl (Gd.t1 rfl rfl rfl) (fun hc => p_move rfl) ?_
  refine y1 18 ?_
  refine JHo.ge rfl (Gd.t1 rfl rfl rfl) (fun hc => e_callV fn_180.h (opds_2 (gvt rfl hc) (gvt rfl hc)) (fun w hw => c_spec_l02Opposite r s.last (ok_ hw) (r0 := (by have hc9 := hc; (try simp only [Bool.and_eq_true, decide_eq_true_eq] at hc9); omega)) (r1 := (by have hc9 := hc; (try simp only [Bool.and_eq_true, decide_eq_true_eq] at hc9); omega)) (r2 := (by have hc9 := hc; (try simp only [Bool.and_eq_true, decide_eq_true_eq] at hc9); omega)) (r3 := (by have hc9 := hc; (try simp only [Bool.and_eq_true, decide_eq_true_eq] at hc9); omega)))) ?_
  refine JH.pg 19 rfl (Gd.t1 rfl rfl rfl) (fun hc => p_indexAddr el_27 (gvt rfl hc) (gvt rfl hc) (by have hc9 := hc; (try simp only [Bool.and_eq_true, decide_eq_true_eq] at hc9); omega) (by have hc9 := hc; (try simp only [Bool.and_eq_true, decide_eq_true_eq] at hc9); omega) rfl) ?_
  refine JH.wg 20 rfl (Gd.t1 rfl rfl rfl) (fun hc os' u' hv => q_load1 ty_2.h (gvt rfl hc) (Mem.pub (ints_cellI (i := M.opp r s.last) (Ty.mono _ h2 hv) (by have hc9 := hc; (try simp only [Bool.and_eq_true, decide_eq_true_eq] at hc9); omega)))) ?_
  refine JH.pg 21 rfl (Gd.t1 rfl rfl rfl) (fun hc => p_gtr (gvt rfl hc) rfl) ?_
  refine JH.p 22 rfl (p_pickAnd rfl rfl rfl) ?_
  refine yd ?_
  refine zi (fun h22 h22' => ?_) fun h22 h22' => ?_
  ·
   have hR : M.taken r s player = [s.last, M.opp r s.last] := by unfold M.taken; rw [if_neg hl0, if_neg hcap1, if_pos hcap, if_pos (by simpa [and_assoc] using h22)]
   refine Js.region <| Qm rfl <| Qm rfl <| Qm rfl <| Qm rfl <| zv rfl (fun w hw => c_spec_l02Opposite r s.last (ok_ hw)) <| zbs fun b23 => ?_
   refine JL.e (e_append (i := 1) (n' := 2) (vs' := ints_ [s.last, (M.opp r s.last)]) el_27 rfl rfl rfl rfl (src_row (i := 0) und_27 rfl rfl) (by omega) (by omega) (by first | omega | (simp only [List.length_append, List.length_cons, List.length_nil, List.length_take, List.length_drop] <;> omega)) (by simp [ints_])) ?_
   rintro v25 _ _ ⟨⟨g26, rfl⟩, rfl⟩ _
   refine JL.fact (row_form' (i := 1) rfl) (fun hf27 => ?_)
   obtain ⟨A27, c27, rfl, bl27, bh27⟩ := hf27
   refine znl ?_
   have hq0 : [s.last, (M.opp r s.last)] = M.taken r s player := by rw [hR]
   refine Qa rfl <| JL.nil <| Js.blockEnd <| zS <| Qm rfl <| Qa rfl <| JL.nil ?_
   exact zro (Up.refl _ _)
  have hR : M.taken r s player = [] := by unfold M.taken; rw [if_neg hl0, if_neg hcap1, if_pos hcap, if_neg (by simpa [and_assoc] using h22)]
  have hq0 : [] = M.taken r s player := by rw [hR]
  refine Js.skip <| Js.blockEnd <| zS <| Qm rfl <| Qa rfl <| JL.nil ?_
  exact zro (Up.refl _ _)
 have hcap2 : ¬ r.capture = 2 := by simpa using h19
 refine zS <| Qe rfl rfl <| Qa rfl <| JL.nil ?_
 refine zi (fun h28 h28' => ?_) fun h28 h28' => ?_
 ·
  have hcap : r.capture = 3 := by simpa using h28
  refine zS <| Qm rfl <| Qt rfl <| Qm rfl <| zg (Gd.t1 rfl rfl rfl) (fun hc => p_move rfl) <| zg (Gd.t1 rfl rfl rfl) (fun hc => p_nilCheck (gh hc rfl)) <| zg (Gd.t1 rfl rfl rfl) (fun hc => p_fieldAddr fld_162_0.h (gh hc rfl)) <| zgq (Gd.t1 rfl rfl rfl) (fun hc => q_load1 ty_27.h (gh hc rfl) (Mem.pub (hr4 0 _ rfl))) <| zg (Gd.t1 rfl rfl rfl) (fun hc => p_move rfl) <| zg (Gd.t1 rfl rfl rfl) (fun hc => p_indexAddr el_27 (gh hc rfl) (gh hc rfl) (by have hc9 := hc; (try simp only [Bool.not_eq_true', decide_eq_false_iff_not] at hc9); omega) (by have hc9 := hc; (try simp only [Bool.not_eq_true', decide_eq_false_iff_not] at hc9); omega) rfl) ?_
  refine zgq (Gd.t1 rfl rfl rfl) (fun hc => q_load1 ty_2.h (gh hc rfl) (Mem.pub (ints_cellI (i := s.last) h2 (by have hc9 := hc; (try simp only [Bool.not_eq_true', decide_eq_false_iff_not] at hc9); omega)))) ?_
  refine zg (Gd.t1 rfl rfl rfl) (fun hc => p_rem (gh hc rfl) rfl (by have hc9 := hc; (try simp only [Bool.not_eq_true', decide_eq_false_iff_not] at hc9); omega) (Int.tmod_eq_emod_of_nonneg (by have hc9 := hc; (try simp only [Bool.not_eq_true', decide_eq_false_iff_not] at hc9); omega))) ?_
  refine zg (Gd.t1 rfl rfl rfl) (fun hc => p_eql (gh hc rfl) rfl) <| Qq (p_pickAnd rfl rfl rfl) <| JL.nil ?_
  refine zi (fun h30 h30' => ?_) fun h30 h30' => ?_
  ·
   have hR : M.taken r s player = [s.last] := by unfold M.taken; rw [if_neg hl0, if_neg hcap1, if_neg hcap2, if_pos hcap, if_pos (by simpa using h30)]
   refine Js.region <| Qm rfl <| Qm rfl <| zbs fun b31 => ?_
   refine JL.e (e_append (i := 1) (n' := 1) (vs' := ints_ [s.last]) el_27 rfl rfl rfl rfl (src_row (i := 0) und_27 rfl rfl) (by omega) (by omega) (by first | omega | (simp only [List.length_append, List.length_cons, List.length_nil, List.length_take, List.length_drop] <;> omega)) (by simp [ints_])) ?_
   rintro v33 _ _ ⟨⟨g34, rfl⟩, rfl⟩ _
   refine JL.fact (row_form' (i := 1) rfl) (fun hf35 => ?_)
   obtain ⟨A35, c35, rfl, bl35, bh35⟩ := hf35
   refine znl ?_
   have hq0 : [s.last] = M.taken r s player := by rw [hR]
   refine Qa rfl <| JL.nil <| Js.blockEnd <| zS <| Qm rfl <| Qa rfl <| JL.nil ?_
   exact zro (Up.refl _ _)
  have hR : M.taken r s player = [] := by unfold M.taken; rw [if_neg hl0, if_neg hcap1, if_neg hcap2, if_pos hcap, if_neg (by simpa using h30)]
  have hq0 : [] = M.taken r s player := by rw [hR]
  refine Js.skip <| Js.blockEnd <| zS <| Qm rfl <| Qa rfl <| JL.nil ?_
  exact zro (Up.refl _ _)
 have hcap3 : ¬ r.capture = 3 := by simpa using h28
 have hR : M.taken r s player = [] := by unfold M.taken; rw [if_neg hl0, if_neg hcap1, if_neg hcap2, if_neg hcap3]
 have hq0 : [] = M.taken r s player := by rw [hR]
 refine Js.skip <| Js.blockEnd <| zS <| Qm rfl <| Qa rfl <| JL.nil ?_
 exact zro (Up.refl _ _)

set_option maxHeartbeats 1000000 in
theorem c_spec_l06Sum (s : M.Sw) {v_s : Value} (list : List Int) {v_list : Value} {w : World} (h_s : (Ty.ref (cSown s)).ok w v_s) (h_list : (Ty.ints 2 list).ok w v_list) (r0 : s.pits.length ≤ 16 := by exact om_) (r1 : list.length ≤ 16 := by exact om_) (r2 : ∀ x ∈ list, 0 ≤ x ∧ x < s.pits.length := by exact om_) (r3 : ∀ k : Int, 0 ≤ M.getI s.pits k ∧ M.getI s.pits k ≤ 96 := by exact om_) : RetV Tryz.prog 163 [v_s, v_list] w (.int .i64 (M.isum (list.map (M.getI s.pits)))) := by
 revert v_s; apply opn
 intro b3 o3 A1 c1 h1 bl1 bh1 A2 c2 h2 bl2 bh2 hr3
 revert v_list; apply opn
 intro A4 c4 h4 bl4 bh4
 have h_list := h4
 refine enter @Tryz.func163 @Tryz.ntmps163 rfl rfl ?_
 refine zent ?_
 refine zS <| Qa rfl <| zN <| Qa rfl <| zJ <| zS <| Qa rfl <| JL.nil <| Js.block ?_
 refine zl [0, 1] (fun F U l os u m => ∃ (k : Nat) (t : Int), l = F [(5, .int .i64 t), (6, .int .i64 (k : Int))] ∧ os = U [] ∧ (t + M.isum ((list.drop k).map (M.getI s.pits)) = M.isum (list.map (M.getI s.pits))) ∧ (k ≤ list.length) ∧ (0 ≤ t) ∧ (t ≤ 96 * k) ∧ m = list.length - k) ⟨0, 0, rfl, rfl, by simp, zt, zt, zt, rfl⟩ ?_
 rintro _ _ u5 _ ⟨k, t, rfl, rfl, hS, hk, t0, t1, rfl⟩ x5
 refine zn ?_
 refine Js.seq <| zS <| Qm rfl <| Qm rfl <| Qz rfl <| Ql rfl rfl <| JL.nil ?_
 refine zi (fun h6 h6' => ?_) fun h6 h6' => ?_
 ·
  have hk2 : k < list.length := by have := h6'; omega
  have hx := r2 _ (M.nth_mem hk2)
  have hv := r3 (M.nth list k)
  simp only [M.getI] at hv
  have hS2 := hS
  rw [M.drop_nth hk2, List.map_cons, M.isum_cons, ← Int.add_assoc] at hS2
  refine Js.skip <| Js.seq <| Js.block ?_
  refine zdr [] ?_
  refine JH.p 0 rfl (p_move rfl) ?_
  refine JH.p 1 rfl (p_move rfl) ?_
  refine JH.p 2 rfl (p_nilCheck rfl) ?_
  refine JH.p 3 rfl (p_fieldAddr fld_162_0.h rfl) ?_
  refine JH.w 4 rfl (fun os' u' hv => q_load1 ty_27.h rfl (Mem.pub ((hr3.vis (x5.vis.trans hv)) 0 _ rfl))) ?_
  refine JH.p 5 rfl (p_move rfl) ?_
  refine JH.p 6 rfl (p_move rfl) ?_
  obtain ⟨b7, o7, he7, hc7⟩ := ints_elem (Ty.mono _ h4 x5.vis) (i := k) (by omega)
  refine JH.p 7 rfl (p_indexAddr el_27 rfl rfl (by omega) (by omega) he7) ?_
  refine JH.w 8 rfl (fun os' u' hv => q_load1 ty_2.h rfl (Mem.pub (hc7.vis hv))) ?_
  obtain ⟨b8, o8, he8, hc8⟩ := ints_elem (Ty.mono _ h1 x5.vis) (i := (M.nth list k).toNat) (by omega)
  refine JH.p 9 rfl (p_indexAddr el_27 rfl rfl (by omega) (by omega) he8) ?_
  refine JH.w 10 rfl (fun os' u' hv => q_load1 ty_2.h rfl (Mem.pub (hc8.vis hv))) ?_
  refine JH.p 11 rfl (p_add rfl rfl (IntWalk.i64_in _ (by omega))) ?_
  refine JH.p 12 rfl (p_assign rfl) ?_
  refine yd ?_
  refine Js.blockEnd <| Js.region <| Qm rfl <| Qp rfl rfl <| Qa rfl <| JL.nil ?_
  exact zag ⟨k + 1, t + (M.nth s.pits ((M.nth list k).toNat)), rfl, rfl, by exact hS2, zt, zt, zt, rfl⟩ x5
 have hT : M.isum (list.map (M.getI s.pits)) = t := by rw [← hS, List.drop_eq_nil_of_le (by have := h6'; omega)]; simp
 refine zx ?_
 refine zS <| Qm rfl <| Qa rfl <| JL.nil ?_
 refine zR x5 ?_
 rw [hT]; rfl

set_option maxHeartbeats 1000000 in
theorem c_spec_l06Slam (r : M.Rul) {v_r : Value} (s : M.Sw) {v_s : Value} (player : Int) {w : World} (h_r : (Ty.ref (cRules r)).ok w v_r) (h_s : (Ty.ref (cSown s)).ok w v_s) (r0 : 2 ≤ r.pits := by exact om_) (r1 : r.pits ≤ 8 := by exact om_) (r2 : player = 0 ∨ player = 1 := by exact om_) (r3 : M.Good r s.pits s.stores 0 := by exact om_) (r4 : -1 ≤ s.last := by exact om_) (r5 : s.last < 2 * r.pits := by exact om_) : RetV Tryz.prog 118 [v_r, v_s, .int .i64 player] w (.bool (M.slams r s player)) := by
 have l1 := r3.lp
 have l2 := r3.ls
 have hao := M.Good.ok r3
 have hlen := M.taken_len (s := s) (player := player) r5 r1
 revert v_r; apply opn
 intro b1 o1 hr1
 revert v_s; apply opn
 intro b4 o4 A2 c2 h2 bl2 bh2 A3 c3 h3 bl3 bh3 hr4
 refine enter @Tryz.func118 @Tryz.ntmps118 rfl rfl ?_
 refine zent ?_
 obtain ⟨b5, o5, rfl⟩ := ints_some h2 (by omega)
 refine zS <| Qa rfl <| zN <| Qm rfl <| Qm rfl <| Qm rfl <| zp rfl (fun w hw => c_spec_l06Raw r s player (ok_ hw) (ok_ hw) (r3 := r3)) ?_
 intro u6 x6 A7 c7 h7 bl7 bh7
 refine Qa rfl <| zN <| Qa rfl <| zJ <| zS <| Qa rfl <| JL.nil <| Js.block ?_
 refine zl [0, 1, 2, 7] (fun F U l os u m => ∃ (k : Nat) (g : Int), l = F [(8, .int .i64 g), (9, .int .i64 (k : Int))] ∧ os = U [] ∧ (g + M.gone r s player ((M.taken r s player).drop k) = M.gone r s player (M.taken r s player)) ∧ (k ≤ (M.taken r s player).length) ∧ (0 ≤ g) ∧ (g ≤ 96 * k) ∧ m = (M.taken r s player).length - k) ⟨0, 0, rfl, rfl, by simp, zt, zt, zt, rfl⟩ ?_
 rintro _ _ u8 _ ⟨k, g, rfl, rfl, hS, hk, g0, g1, rfl⟩ x8
 refine zn ?_
 refine Js.seq <| zS <| Qm rfl <| Qm rfl <| Qz rfl <| Ql rfl rfl <| JL.nil ?_
 refine zi (fun h9 h9' => ?_) fun h9 h9' => ?_
 ·
  have hk2 : k < (M.taken r s player).length := by have := h9'; omega
  have hx := M.taken_mem (r := r) (s := s) (player := player) r5 (M.nth_mem hk2)
  have hvx := r3.pit (M.nth (M.taken r s player) k)
  have hS1 := hS
  rw [M.drop_nth hk2, M.gone_cons] at hS1
  obtain ⟨b10, o10, he10, hc10⟩ := ints_elem (Ty.mono _ h7 x8.vis) (i := k) (by omega)
  refine Js.skip <| Js.seq <| Js.block <| zS <| Qm rfl <| Qm rfl <| Qm rfl <| Qq (p_indexAddr el_27 rfl rfl (by omega) (by omega) he10) <| QC hc10 rfl <| zv rfl (fun w hw => c_spec_l02Owner r (M.nth (M.taken r s player) k) (ok_ hw)) <| Qm rfl <| Qd rfl rfl <| JL.nil ?_
  refine zi (fun h11 h11' => ?_) fun h11 h11' => ?_
  ·
   have hS2 : (g + M.getI s.pits (M.nth (M.taken r s player) k)) + M.gone r s player ((M.taken r s player).drop (k + 1)) = M.gone r s player (M.taken r s player) := by rw [if_neg (by simpa using h11)] at hS1; omega
   refine zdr [] ?_
   refine JH.p 0 rfl (p_move rfl) ?_
   refine JH.p 1 rfl (p_move rfl) ?_
   refine JH.p 2 rfl (p_nilCheck rfl) ?_
   refine JH.p 3 rfl (p_fieldAddr fld_162_0.h rfl) ?_
   refine JH.w 4 rfl (fun os' u' hv => q_load1 ty_27.h rfl (Mem.pub ((hr4.vis ((x6.vis.trans x8.vis).trans hv)) 0 _ rfl))) ?_
   refine JH.p 5 rfl (p_move rfl) ?_
   refine JH.p 6 rfl (p_move rfl) ?_
   obtain ⟨b12, o12, he12, hc12⟩ := ints_elem (Ty.mono _ h7 x8.vis) (i := k) (by omega)
   refine JH.p 7 rfl (p_indexAddr el_27 rfl rfl (by omega) (by omega) he12) ?_
   refine JH.w 8 rfl (fun os' u' hv => q_load1 ty_2.h rfl (Mem.pub (hc12.vis hv))) ?_
   refine JH.p 9 rfl (p_indexAddr el_27 rfl rfl (by omega) (by omega) rfl) ?_
   refine JH.w 10 rfl (fun os' u' hv => q_load1 ty_2.h rfl (Mem.pub (ints_cellI (i := M.nth (M.taken r s player) k) (Ty.mono _ h2 ((x6.vis.trans x8.vis).trans hv)) (by omega)))) ?_
   refine JH.p 11 rfl (p_add rfl rfl (IntWalk.i64_in _ (by omega))) ?_
   refine JH.p 12 rfl (p_assign rfl) ?_
   refine yd ?_
   refine Js.blockEnd <| Js.region <| Qm rfl <| Qp rfl rfl <| Qa rfl <| JL.nil ?_
   exact zag ⟨k + 1, g + (M.getI s.pits (M.nth (M.taken r s player) k)), rfl, rfl, by exact hS2, zt, zt, zt, rfl⟩ x8
  have hS2 : g + M.gone r s player ((M.taken r s player).drop (k + 1)) = M.gone r s player (M.taken r s player) := by rw [if_pos (by simpa using h11)] at hS1; omega
  refine Js.skip <| Js.blockEnd <| Js.region <| Qm rfl <| Qp rfl rfl <| Qa rfl <| JL.nil ?_
  exact zag ⟨k + 1, g, rfl, rfl, by exact hS2, zt, zt, zt, rfl⟩ x8
 have hg : g = M.gone r s player (M.taken r s player) := by rw [← hS, List.drop_eq_nil_of_le (by have := h9'; omega), M.gone_nil]; omega
 refine zx ?_
 refine zS <| Qm rfl <| Qg rfl rfl <| Qm rfl <| zg (Gd.t1 rfl rfl rfl) (fun hc => p_move rfl) <| zg (Gd.t1 rfl rfl rfl) (fun hc => p_move rfl) <| zg (Gd.t1 rfl rfl rfl) (fun hc => p_move rfl) <| zg (Gd.t1 rfl rfl rfl) (fun hc => p_nilCheck (gh hc rfl)) <| zg (Gd.t1 rfl rfl rfl) (fun hc => p_fieldAddr fld_162_0.h (gh hc rfl)) <| zgq (Gd.t1 rfl rfl rfl) (fun hc => q_load1 ty_27.h (gh hc rfl) (Mem.pub ((hr4.vis (x6.vis.trans x8.vis)) 0 _ rfl))) <| zg (Gd.t1 rfl rfl rfl) (fun hc => p_move rfl) <| zg (Gd.t1 rfl rfl rfl) (fun hc => p_sub rfl (gh hc rfl) (IntWalk.i64_in _ (by have hc9 := hc; (try simp only [decide_eq_true_eq] at hc9); omega))) ?_
 refine zgv (Gd.t1 rfl rfl rfl) (fun hc => (opds_3 (gh hc rfl) (gh hc rfl) (gh hc rfl))) (fun hc => (fun w hw => c_spec_l04Side r s.pits (1 - player) (ok_ hw) (ok_ hw) (r0 := (by have hc9 := hc; (try simp only [decide_eq_true_eq] at hc9); omega)) (r1 := (by have hc9 := hc; (try simp only [decide_eq_true_eq] at hc9); omega)) (r2 := (by have hc9 := hc; (try simp only [decide_eq_true_eq] at hc9); omega)) (r3 := (by have hc9 := hc; (try simp only [decide_eq_true_eq] at hc9); omega)) (r4 := hao.1))) ?_
 refine zg (Gd.t1 rfl rfl rfl) (fun hc => p_eql (gh hc rfl) (gh hc rfl)) <| Qq (p_pickAnd rfl rfl rfl) <| Qa rfl <| JL.nil ?_
 refine zR (x6.trans x8) ?_
 subst hg; simp [outV, M.slams, eq_comm]

set_option maxHeartbeats 1000000 in
theorem c_spec_l06Pits (r : M.Rul) {v_r : Value} (s : M.Sw) {v_s : Value} (player : Int) {w : World} (h_r : (Ty.ref (cRules r)).ok w v_r) (h_s : (Ty.ref (cSown s)).ok w v_s) (r0 : 2 ≤ r.pits := by exact om_) (r1 : r.pits ≤ 8 := by exact om_) (r2 : player = 0 ∨ player = 1 := by exact om_) (r3 : M.Good r s.pits s.stores 0 := by exact om_) (r4 : -1 ≤ s.last := by exact om_) (r5 : s.last < 2 * r.pits := by exact om_) : Ret Tryz.prog 162 [v_r, v_s, .int .i64 player] w (Ty.ints 2 (M.captured r s player)) := by
 revert v_r; apply opn
 intro b1 o1 hr1
 revert v_s; apply opn
 intro b4 o4 A2 c2 h2 bl2 bh2 A3 c3 h3 bl3 bh3 hr4
 refine enter @Tryz.func162 @Tryz.ntmps162 rfl rfl ?_
 refine zent ?_
 refine zS <| Qa rfl <| zJ <| zS <| Qm rfl <| Qc rfl <| Qf fh rfl <| QC (hr1 8 _ rfl) rfl <| Qe rfl rfl <| Qm rfl <| zg (Gd.t1 rfl rfl rfl) (fun hc => p_move rfl) <| zg (Gd.t1 rfl rfl rfl) (fun hc => p_move rfl) <| zg (Gd.t1 rfl rfl rfl) (fun hc => p_move rfl) <| zgv (Gd.t1 rfl rfl rfl) (fun hc => (opds_3 (gh hc rfl) (gh hc rfl) (gh hc rfl))) (fun hc => (fun w hw => c_spec_l06Slam r s player (ok_ hw) (ok_ hw) (r0 := (by have hc9 := hc; (try simp only [decide_eq_true_eq] at hc9); omega)) (r1 := (by have hc9 := hc; (try simp only [decide_eq_true_eq] at hc9); omega)) (r2 := (by have hc9 := hc; (try simp only [decide_eq_true_eq] at hc9); omega)) (r3 := r3) (r4 := (by have hc9 := hc; (try simp only [decide_eq_true_eq] at hc9); omega)) (r5 := (by have hc9 := hc; (try simp only [decide_eq_true_eq] at hc9); omega)))) ?_
 refine Qq (p_pickAnd rfl rfl rfl) <| JL.nil ?_
 refine zi (fun h5 h5' => ?_) fun h5 h5' => ?_
 ·
  have hR : M.captured r s player = [] := by unfold M.captured; rw [if_pos (by simpa using h5)]
  have hq0 : [] = M.captured r s player := by rw [hR]
  refine zS <| zbs fun b6 => ?_
  refine Qa rfl <| JL.nil ?_
  exact zro (Up.refl _ _)
 have hR : M.captured r s player = M.taken r s player := by unfold M.captured; rw [if_neg (by simpa using h5)]
 refine Js.skip <| zS <| Qm rfl <| Qm rfl <| Qm rfl <| zcs rfl (fun w hw => c_spec_l06Raw r s player (ok_ hw) (ok_ hw) (r3 := r3)) ?_
 intro A8 c8 bl8 bh8
 have hq0 : (M.taken r s player) = M.captured r s player := by rw [hR]
 refine Qa rfl <| JL.nil ?_
 exact zro (Up.refl _ _)

set_option maxHeartbeats 1000000 in
theorem c_spec_l06Take (r : M.Rul) {v_r : Value} (s : M.Sw) {v_s : Value} (player : Int) {w : World} (h_r : (Ty.ref (cRules r)).ok w v_r) (h_s : (Ty.ref (cSown s)).ok w v_s) (r0 : 2 ≤ r.pits := by exact om_) (r1 : r.pits ≤ 8 := by exact om_) (r2 : player = 0 ∨ player = 1 := by exact om_) (r3 : M.Good r s.pits s.stores 0 := by exact om_) (r4 : -1 ≤ s.last := by exact om_) (r5 : s.last < 2 * r.pits := by exact om_) : Ret Tryz.prog 119 [v_r, v_s, .int .i64 player] w (Ty.agg (cSown (M.take r s player))) := by
 have l1 := r3.lp
 have l2 := r3.ls
 have hlen := M.captured_len (s := s) (player := player) r5 r1
 have hmem : ∀ x ∈ (M.captured r s player), 0 ≤ x ∧ x < s.pits.length := fun x hx => by have := M.captured_mem r5 hx; omega
 have hbs := r3.store player
 have hbi := M.cap_sum (r := r) (s := s) (player := player) r3 r5
 revert v_r; apply opn
 intro b1 o1 hr1
 revert v_s; apply opn
 intro b4 o4 A2 c2 h2 bl2 bh2 A3 c3 h3 bl3 bh3 hr4
 refine enter @Tryz.func119 @Tryz.ntmps119 rfl rfl ?_
 refine zent ?_
 obtain ⟨b5, o5, rfl⟩ := ints_some h2 (by omega)
 obtain ⟨b6, o6, rfl⟩ := ints_some h3 (by omega)
 refine zS <| za zeh fun b7 => zN <| Qm rfl <| Qm rfl <| Qm rfl <| zp rfl (fun w hw => c_spec_l06Pits r s player (ok_ hw) (ok_ hw) (r3 := r3)) ?_
 intro u8 x8 A9 c9 h9 bl9 bh9
 refine Qa rfl <| zJ ?_
 refine zk [1, 2, 6, 7] (fun F U l os u => ∃ (b12 : Nat) (A10 : Option Addr) (c10 : Nat) (A11 : Option Addr) (c11 : Nat), l = F [(8, .pointer (some ⟨b12, 0, none⟩))] ∧ os = [boxO b12 [.slice A10 s.pits.length c10, .slice A11 s.stores.length c11, .int .i64 s.last, .int .i64 s.laps] 162, rowO 2 1 (.slice A11 s.stores.length c11) s.stores.length (ints_ s.stores) [], rowO 2 1 (.slice A10 s.pits.length c10) s.pits.length (ints_ s.pits) []] ++ U [] ∧ (s.pits.length ≤ c10) ∧ (c10 ≤ 9223372036854775807) ∧ (s.stores.length ≤ c11) ∧ (c11 ≤ 9223372036854775807)) ?_ ?_
 ·
  refine zdr [20] ?_
  refine JH.p 0 rfl (p_move rfl) ?_
  refine JH.p 1 rfl (p_nilCheck rfl) ?_
  refine JH.p 2 rfl (p_fieldAddr fld_162_0.h rfl) ?_
  refine JH.w 3 rfl (fun os' u' hv => q_load1 ty_27.h rfl (Mem.pub ((hr4.vis (x8.vis.trans hv)) 0 _ rfl))) ?_
  refine JH.p 5 rfl (p_move rfl) ?_
  refine JH.p 6 rfl (p_nilCheck rfl) ?_
  refine JH.p 7 rfl (p_fieldAddr fld_162_1.h rfl) ?_
  refine JH.w 8 rfl (fun os' u' hv => q_load1 ty_27.h rfl (Mem.pub ((hr4.vis (x8.vis.trans hv)) 1 _ rfl))) ?_
  refine JH.p 10 rfl (p_move rfl) ?_
  refine JH.p 11 rfl (p_nilCheck rfl) ?_
  refine JH.p 12 rfl (p_fieldAddr fld_162_2.h rfl) ?_
  refine JH.w 13 rfl (fun os' u' hv => q_load1 ty_2.h rfl (Mem.pub ((hr4.vis (x8.vis.trans hv)) 2 _ rfl))) ?_
  refine JH.p 14 rfl (p_move rfl) ?_
  refine JH.p 15 rfl (p_nilCheck rfl) ?_
  refine JH.p 16 rfl (p_fieldAddr fld_162_3.h rfl) ?_
  refine JH.w 17 rfl (fun os' u' hv => q_load1 ty_2.h rfl (Mem.pub ((hr4.vis (x8.vis.trans hv)) 3 _ rfl))) ?_
  refine y2 4 19 ?_ ?_
  ·
   refine ycs rfl rfl (fun w hw => c_spec_l00Own s.pits (ok_ hw)) ?_
   intro A19 c19 bl19 bh19
   refine y2 9 19 ?_ ?_
   ·
    refine ycs rfl rfl (fun w hw => c_spec_l00Own s.stores (ok_ hw)) ?_
    intro A20 c20 bl20 bh20
    refine JH.p 18 rfl (q_bld) ?_
    refine y1 19 ?_
    refine ya rfl fun b21 => ?_
    refine y1 20 ?_
    refine yst rfl rfl rfl ?_
    refine yd ?_
    exact zm ⟨_, _, _, _, _, rfl, rfl, zt, zt, zt, zt⟩ (Up.refl _ _)
   refine ya rfl fun b22 => ?_
   refine y1 9 ?_
   refine ycs rfl rfl (fun w hw => c_spec_l00Own s.stores (ok_ hw)) ?_
   intro A23 c23 bl23 bh23
   refine JH.p 18 rfl (q_bld) ?_
   refine y1 20 ?_
   refine yst rfl rfl rfl ?_
   refine yd ?_
   refine zh [1, 0, 0, 0] ?_
   exact zm ⟨_, _, _, _, _, rfl, rfl, zt, zt, zt, zt⟩ (Up.refl _ _)
  refine ya rfl fun b24 => ?_
  refine y1 4 ?_
  refine ycs rfl rfl (fun w hw => c_spec_l00Own s.pits (ok_ hw)) ?_
  intro A25 c25 bl25 bh25
  refine y1 9 ?_
  refine ycs rfl rfl (fun w hw => c_spec_l00Own s.stores (ok_ hw)) ?_
  intro A26 c26 bl26 bh26
  refine JH.p 18 rfl (q_bld) ?_
  refine y1 20 ?_
  refine yst rfl rfl rfl ?_
  refine yd ?_
  refine zh [2, 0, 0, 0] ?_
  exact zm ⟨_, _, _, _, _, rfl, rfl, zt, zt, zt, zt⟩ (Up.refl _ _)
 rintro _ _ u18 ⟨b12, A10, c10, A11, c11, rfl, rfl, f18_0, f18_1, f18_2, f18_3⟩ x18
 refine zn ?_
 refine Js.fact (row_some (i := 1) rfl (by omega)) (fun hf27 => ?_)
 obtain ⟨b27, rfl⟩ := hf27
 refine Js.fact (row_some (i := 2) rfl (by omega)) (fun hf28 => ?_)
 obtain ⟨b28, rfl⟩ := hf28
 refine Js.seq ?_
 refine zdr [10] ?_
 refine JH.p 0 rfl (p_fieldAddr fld_162_1.h rfl) ?_
 refine JH.q 1 rfl (q_load1 ty_27.h rfl (Mem.box (i := 0) rfl rfl)) ?_
 refine JH.p 2 rfl (p_move rfl) ?_
 refine JH.p 3 rfl (p_indexAddr el_27 rfl rfl (by omega) (by omega) rfl) ?_
 refine JH.q 4 rfl (q_load1 ty_2.h rfl (Mem.row (i := 1) rfl (ints_getI (i := player) (by omega)))) ?_
 refine JH.p 5 rfl (p_move rfl) ?_
 refine JH.p 6 rfl (p_move rfl) ?_
 refine y1 7 ?_
 refine yv rfl rfl (fun w hw => c_spec_l06Sum s (M.captured r s player) (ok_ hw) (ok_ hw) (r2 := hmem) (r3 := r3.pit)) ?_
 refine JH.p 8 rfl (p_add rfl rfl (IntWalk.i64_in _ (by omega))) ?_
 refine JH.p 9 rfl (p_indexAddr el_27 rfl rfl (by omega) (by omega) rfl) ?_
 refine y1 10 ?_
 refine JHo.s rfl (e_storeRow (i := 1) (xs' := ints_ (M.setI s.stores player ((M.getI s.stores player) + (M.isum ((M.captured r s player).map (M.getI s.pits)))))) ty_2.h rfl rfl rfl rfl rfl rfl (ints_lt (i := player.toNat) (by omega)) (ints_setL (i := player.toNat) (by omega))) (.inr rfl) ?_
 rintro _ _ _ ⟨rfl, rfl⟩ _
 refine znh ?_
 refine yd ?_
 refine Js.seq <| zS <| Qa rfl <| JL.nil <| Js.block ?_
 refine zl [6, 7, 8] (fun F U l os u m => ∃ (k : Nat) (ps : List Int), l = F [(9, .int .i64 (k : Int))] ∧ os = U [nO, nO, some (rowO 2 1 (.slice (some ⟨b28, 0, none⟩) s.pits.length c10) s.pits.length (ints_ ps) [])] ∧ (ps = M.zeros ((M.captured r s player).take k) s.pits) ∧ (k ≤ (M.captured r s player).length) ∧ (ps.length = s.pits.length) ∧ m = (M.captured r s player).length - k) ⟨0, s.pits, rfl, rfl, by rfl, zt, by rfl, rfl⟩ ?_
 rintro _ _ u31 _ ⟨k, ps, rfl, rfl, hP, hk, hpl, rfl⟩ x31
 refine zn ?_
 refine Js.seq <| zS <| Qm rfl <| Qm rfl <| Qz rfl <| Ql rfl rfl <| JL.nil ?_
 refine zi (fun h32 h32' => ?_) fun h32 h32' => ?_
 ·
  have hk2 : k < (M.captured r s player).length := by have := h32'; omega
  have hx := hmem _ (M.nth_mem hk2)
  refine Js.skip <| Js.seq <| Js.block ?_
  refine zdr [7] ?_
  refine JH.p 0 rfl (p_fieldAddr fld_162_0.h rfl) ?_
  refine JH.q 1 rfl (q_load1 ty_27.h rfl (Mem.box (i := 0) rfl rfl)) ?_
  refine JH.p 2 rfl (p_move rfl) ?_
  refine JH.p 3 rfl (p_move rfl) ?_
  obtain ⟨b33, o33, he33, hc33⟩ := ints_elem (Ty.mono _ h9 (x18.vis.trans x31.vis)) (i := k) (by omega)
  refine JH.p 4 rfl (p_indexAddr el_27 rfl rfl (by omega) (by omega) he33) ?_
  refine JH.w 5 rfl (fun os' u' hv => q_load1 ty_2.h rfl (Mem.pub (hc33.vis hv))) ?_
  refine JH.p 6 rfl (p_indexAddr el_27 rfl rfl (by omega) (by omega) rfl) ?_
  refine y1 7 ?_
  refine JHo.s rfl (e_storeRow (i := 2) (xs' := ints_ (M.setI ps (M.nth (M.captured r s player) k) 0)) ty_2.h rfl rfl rfl rfl rfl rfl (ints_lt (i := (M.nth (M.captured r s player) k).toNat) (by omega)) (ints_setL (i := (M.nth (M.captured r s player) k).toNat) (by omega))) (.inr rfl) ?_
  rintro _ _ _ ⟨rfl, rfl⟩ _
  refine znh ?_
  refine yd ?_
  refine Js.blockEnd <| Js.region <| Qm rfl <| Qp rfl rfl <| Qa rfl <| JL.nil ?_
  exact zag ⟨k + 1, M.setI ps (M.nth (M.captured r s player) k) 0, rfl, rfl, by rw [hP]; exact (M.zeros_step hk2 _).symm, zt, by rw [M.setI_length]; exact hpl, rfl⟩ x31
 have hR : ps = (M.take r s player).pits := by rw [hP, List.take_of_length_le (by have := h32'; omega)]; rfl
 refine zx ?_
 have hq0 : ps = (M.take r s player).pits := by first | exact hR | rfl
 have hq1 : (M.setI s.stores player ((M.getI s.stores player) + (M.isum ((M.captured r s player).map (M.getI s.pits))))) = (M.take r s player).stores := by first | exact hR | rfl
 have hq2 : s.last = (M.take r s player).last := by first | exact hR | rfl
 have hq3 : s.laps = (M.take r s player).laps := by first | exact hR | rfl
 refine zS <| Q9 0 rfl rfl ?_
 refine zw 3 rfl rfl rfl ?_
 refine JL.nil ?_
 exact zro ((x8.trans x18).trans x31)

set_option maxHeartbeats 1000000 in
theorem c_spec_l07Feed (r : M.Rul) {v_r : Value} (p : M.Pos) {v_p : Value} {w : World} (h_r : (Ty.ref (cRules r)).ok w v_r) (h_p : (Ty.ref (cPosition p)).ok w v_p) (r0 : M.okP r p = true := by exact om_) : RetV Tryz.prog 120 [v_r, v_p] w (.bool (M.mustFeed r p)) := by
 obtain ⟨g1, g2, g3, g4, g5, g6, g7⟩ := M.okP_bd r0
 revert v_r; apply opn
 intro b1 o1 hr1
 revert v_p; apply opn
 intro b4 o4 A2 c2 h2 bl2 bh2 A3 c3 h3 bl3 bh3 hr4
 refine enter @Tryz.func120 @Tryz.ntmps120 rfl rfl ?_
 refine zent ?_
 refine zS <| Qa rfl <| zJ ?_
 refine zdr [] ?_
 refine JH.p 0 rfl (p_move rfl) ?_
 refine JH.p 1 rfl (p_nilCheck rfl) ?_
 refine JH.p 2 rfl (p_fieldAddr fld_34_5.h rfl) ?_
 refine JH.w 3 rfl (fun os' u' hv => q_load1 ty_4.h rfl (Mem.pub ((hr1.vis hv) 5 _ rfl))) ?_
 refine JH.p 4 rfl (p_move rfl) ?_
 refine JH.pg 5 rfl (Gd.t1 rfl rfl rfl) (fun hc => p_move rfl) ?_
 refine JH.pg 6 rfl (Gd.t1 rfl rfl rfl) (fun hc => p_move rfl) ?_
 refine JH.pg 7 rfl (Gd.t1 rfl rfl rfl) (fun hc => p_nilCheck (gvt rfl hc)) ?_
 refine JH.pg 8 rfl (Gd.t1 rfl rfl rfl) (fun hc => p_fieldAddr fld_39_0.h (gvt rfl hc)) ?_
 refine JH.wg 9 rfl (Gd.t1 rfl rfl rfl) (fun hc os' u' hv => q_load1 ty_27.h (gvt rfl hc) (Mem.pub ((hr4.vis hv) 0 _ rfl))) ?_
 refine JH.pg 10 rfl (Gd.t1 rfl rfl rfl) (fun hc => p_move rfl) ?_
 refine JH.pg 11 rfl (Gd.t1 rfl rfl rfl) (fun hc => p_nilCheck (gvt rfl hc)) ?_
 refine JH.pg 12 rfl (Gd.t1 rfl rfl rfl) (fun hc => p_fieldAddr fld_39_2.h (gvt rfl hc)) ?_
 refine JH.wg 13 rfl (Gd.t1 rfl rfl rfl) (fun hc os' u' hv => q_load1 ty_2.h (gvt rfl hc) (Mem.pub ((hr4.vis hv) 2 _ rfl))) ?_
 refine JH.pg 14 rfl (Gd.t1 rfl rfl rfl) (fun hc => p_sub rfl (gvt rfl hc) (IntWalk.i64_in _ (by omega))) ?_
 refine y1 15 ?_
 refine JHo.ge rfl (Gd.t1 rfl rfl rfl) (fun hc => e_callV fn_121.h (opds_3 (gvt rfl hc) (gvt rfl hc) (gvt rfl hc)) (fun w hw => c_spec_l04Side r p.pits (1 - p.player) (ok_ hw) (ok_ hw) (r4 := g5))) ?_
 refine JH.pg 16 rfl (Gd.t1 rfl rfl rfl) (fun hc => p_eql (gvt rfl hc) rfl) ?_
 refine JH.p 17 rfl (p_pickAnd rfl rfl rfl) ?_
 refine JH.p 18 rfl (p_assign rfl) ?_
 refine yd ?_
 refine zR (Up.refl _ _) ?_
 simp [outV, M.mustFeed]

set_option maxHeartbeats 1000000 in
theorem c_spec_l07Make (r : M.Rul) {v_r : Value} (p : M.Pos) {v_p : Value} (move : Int) {w : World} (h_r : (Ty.ref (cRules r)).ok w v_r) (h_p : (Ty.ref (cPosition p)).ok w v_p) (r0 : p.pits.length ≤ 4194304 := by exact om_) (r1 : p.stores.length ≤ 4194304 := by exact om_) : Ret Tryz.prog 59 [v_r, v_p, .int .i64 move] w (Ty.tup [Ty.agg (cResult ((M.make r p move).1)), Ty.int ((M.make r p move).2)]) := by
 revert v_r; apply opn
 intro b1 o1 hr1
 revert v_p; apply opn
 intro b4 o4 A2 c2 h2 bl2 bh2 A3 c3 h3 bl3 bh3 hr4
 refine enter @Tryz.func59 @Tryz.ntmps59 rfl rfl ?_
 refine zent ?_
 refine zS <| za zeh fun b5 => Qa rfl <| zN <| Qm rfl <| Qm rfl <| Qm rfl <| zp rfl (fun w hw => c_spec_l05Move r p move (ok_ hw) (ok_ hw)) ?_
 intro u6 x6 A7 c7 h7 bl7 bh7 A8 c8 h8 bl8 bh8 A9 c9 h9 bl9 bh9
 refine Qm rfl <| Qx rfl rfl <| Qx rfl rfl <| Qx rfl rfl <| za zeh fun b10 => zw 0 rfl rfl rfl ?_
 refine Qa rfl <| Qa rfl <| zJ <| zS <| Qm rfl <| Qd rfl rfl <| JL.nil ?_
 refine zi (fun h11 h11' => ?_) fun h11 h11' => ?_
 ·
  have hD := M.make_sow (r := r) (p := p) (move := move) (by simpa using h11)
  have hq0 : 0 = ((M.make r p move).1).move := by first | (rw [hD]; done) | (rw [hD]; rfl)
  have hq1 : 0 = ((M.make r p move).1).gain := by first | (rw [hD]; done) | (rw [hD]; rfl)
  have hq2 : false = ((M.make r p move).1).again := by first | (rw [hD]; done) | (rw [hD]; rfl)
  have hq3 : [] = (((M.make r p move).1).next).pits := by first | (rw [hD]; done) | (rw [hD]; rfl)
  have hq4 : [] = (((M.make r p move).1).next).stores := by first | (rw [hD]; done) | (rw [hD]; rfl)
  have hq5 : 0 = (((M.make r p move).1).next).player := by first | (rw [hD]; done) | (rw [hD]; rfl)
  have hq6 : ((M.sowMove r p move).1) = (M.make r p move).2 := by first | (rw [hD]; done) | (rw [hD]; rfl)
  refine zS <| Qb ?_
  refine Qm rfl <| zw 1 rfl rfl rfl ?_
  refine Qa rfl <| JL.nil ?_
  exact zro x6
 have hz : (M.sowMove r p move).1 = 0 := by simpa using h11
 obtain ⟨hok, m0, m1, hG, q0, q1, hsum⟩ := M.sowMove_ok hz
 obtain ⟨g1, g2, g3, g4, g5, g6, g7⟩ := M.okP_bd hok
 have hG2 := (M.take_keeps g7 hG q1).1
 have hao := M.Good.ok hG2
 have hl2 := hG2.lp
 have hl3 := hG2.ls
 have hs1 := hG2.store p.player
 have hs2 := (M.Good.of_ok hok).store p.player
 simp only [M.getI] at hs2
 refine Js.skip <| Js.seq <| zS <| Qm rfl <| Qc rfl <| Qf fh rfl <| QC ((hr1.vis x6.vis) 8 _ rfl) rfl <| Qe rfl rfl <| Qm rfl <| zg (Gd.t1 rfl rfl rfl) (fun hc => p_move rfl) <| zg (Gd.t1 rfl rfl rfl) (fun hc => p_move rfl) <| zg (Gd.t1 rfl rfl rfl) (fun hc => p_nilCheck (gh hc rfl)) <| zg (Gd.t1 rfl rfl rfl) (fun hc => p_fieldAddr fld_39_2.h (gh hc rfl)) <| zgq (Gd.t1 rfl rfl rfl) (fun hc => q_load1 ty_2.h (gh hc rfl) (Mem.pub ((hr4.vis x6.vis) 2 _ rfl))) ?_
 refine zgv (Gd.t1 rfl rfl rfl) (fun hc => (opds_3 (gh hc rfl) rfl (gh hc rfl))) (fun hc => (fun w hw => c_spec_l06Slam r ((M.sowMove r p move).2.1) p.player (ok_ hw) (ok_ hw) (r0 := (by have hc9 := hc; (try simp only [decide_eq_true_eq] at hc9); omega)) (r1 := (by have hc9 := hc; (try simp only [decide_eq_true_eq] at hc9); omega)) (r2 := (by have hc9 := hc; (try simp only [decide_eq_true_eq] at hc9); omega)) (r3 := hG) (r4 := (by have hc9 := hc; (try simp only [decide_eq_true_eq] at hc9); omega)) (r5 := (by have hc9 := hc; (try simp only [decide_eq_true_eq] at hc9); omega)))) ?_
 refine Qq (p_pickAnd rfl rfl rfl) <| JL.nil ?_
 refine zi (fun h12 h12' => ?_) fun h12 h12' => ?_
 ·
  have hD := M.make_slam hz (by simpa using h12)
  have hq0 : 0 = ((M.make r p move).1).move := by first | (rw [hD]; done) | (rw [hD]; rfl)
  have hq1 : 0 = ((M.make r p move).1).gain := by first | (rw [hD]; done) | (rw [hD]; rfl)
  have hq2 : false = ((M.make r p move).1).again := by first | (rw [hD]; done) | (rw [hD]; rfl)
  have hq3 : [] = (((M.make r p move).1).next).pits := by first | (rw [hD]; done) | (rw [hD]; rfl)
  have hq4 : [] = (((M.make r p move).1).next).stores := by first | (rw [hD]; done) | (rw [hD]; rfl)
  have hq5 : 0 = (((M.make r p move).1).next).player := by first | (rw [hD]; done) | (rw [hD]; rfl)
  have hq6 : 9 = (M.make r p move).2 := by first | (rw [hD]; done) | (rw [hD]; rfl)
  refine zS <| Qb ?_
  refine zw 1 rfl rfl rfl ?_
  refine Qa rfl <| JL.nil ?_
  exact zro x6
 have hns : ¬ (r.slam = 1 ∧ M.slams r (M.sowMove r p move).2.1 p.player = true) := by simpa using h12
 refine Js.skip <| zS <| Qm rfl <| Qm rfl <| Qc rfl <| Qf fh rfl <| QC ((hr4.vis x6.vis) 2 _ rfl) rfl <| zc rfl (fun w hw => c_spec_l06Take r ((M.sowMove r p move).2.1) p.player (ok_ hw) (ok_ hw) (r3 := hG)) ?_
 intro A14 c14 bl14 bh14 A15 c15 bl15 bh15
 refine za zeh fun b16 => zw 0 rfl rfl rfl ?_
 refine zJ <| Js.seq ?_
 refine zdr [] ?_
 refine JH.p 0 rfl (p_move rfl) ?_
 refine JH.p 1 rfl (p_move rfl) ?_
 refine y1 2 ?_
 refine yv rfl rfl (fun w hw => c_spec_l07Feed r p (ok_ hw) (ok_ hw) (r0 := hok)) ?_
 refine JH.p 3 rfl (p_move rfl) ?_
 refine JH.pg 4 rfl (Gd.t1 rfl rfl rfl) (fun hc => p_move rfl) ?_
 refine JH.pg 5 rfl (Gd.t1 rfl rfl rfl) (fun hc => p_fieldAddr fld_162_0.h rfl) ?_
 refine JH.qg 6 rfl (Gd.t1 rfl rfl rfl) (fun hc => q_load1 ty_27.h (gvt rfl hc) (Mem.box (i := 0) rfl rfl)) ?_
 refine JH.pg 7 rfl (Gd.t1 rfl rfl rfl) (fun hc => p_move rfl) ?_
 refine JH.pg 8 rfl (Gd.t1 rfl rfl rfl) (fun hc => p_nilCheck (gvt rfl hc)) ?_
 refine JH.pg 9 rfl (Gd.t1 rfl rfl rfl) (fun hc => p_fieldAddr fld_39_2.h (gvt rfl hc)) ?_
 refine JH.wg 10 rfl (Gd.t1 rfl rfl rfl) (fun hc os' u' hv => q_load1 ty_2.h (gvt rfl hc) (Mem.pub ((hr4.vis (x6.vis.trans hv)) 2 _ rfl))) ?_
 refine JH.pg 11 rfl (Gd.t1 rfl rfl rfl) (fun hc => p_sub rfl (gvt rfl hc) (IntWalk.i64_in _ (by omega))) ?_
 refine y1 12 ?_
 refine JHo.ge rfl (Gd.t1 rfl rfl rfl) (fun hc => e_callV fn_121.h (opds_3 (gvt rfl hc) (gvt rfl hc) (gvt rfl hc)) (fun w hw => c_spec_l04Side r ((M.take r ((M.sowMove r p move).2.1) p.player).pits) (1 - p.player) (ok_ hw) (ok_ hw) (r4 := hao.1))) ?_
 refine JH.pg 13 rfl (Gd.t1 rfl rfl rfl) (fun hc => p_eql (gvt rfl hc) rfl) ?_
 refine JH.p 14 rfl (p_pickAnd rfl rfl rfl) ?_
 refine yd ?_
 refine zi (fun h17 h17' => ?_) fun h17 h17' => ?_
 ·
  have hD := M.make_feed hz hns (by simpa using h17)
  have hq0 : 0 = ((M.make r p move).1).move := by first | (rw [hD]; done) | (rw [hD]; rfl)
  have hq1 : 0 = ((M.make r p move).1).gain := by first | (rw [hD]; done) | (rw [hD]; rfl)
  have hq2 : false = ((M.make r p move).1).again := by first | (rw [hD]; done) | (rw [hD]; rfl)
  have hq3 : [] = (((M.make r p move).1).next).pits := by first | (rw [hD]; done) | (rw [hD]; rfl)
  have hq4 : [] = (((M.make r p move).1).next).stores := by first | (rw [hD]; done) | (rw [hD]; rfl)
  have hq5 : 0 = (((M.make r p move).1).next).player := by first | (rw [hD]; done) | (rw [hD]; rfl)
  have hq6 : 9 = (M.make r p move).2 := by first | (rw [hD]; done) | (rw [hD]; rfl)
  refine zS <| Qb ?_
  refine zw 4 rfl rfl rfl ?_
  refine Qa rfl <| JL.nil ?_
  exact zro x6
 have hD := M.make_go hz hns (by simpa using h17)
 refine Js.skip <| Js.seq ?_
 refine zk [1, 6, 11] (fun F U l os u => ∃ (b21 b19 : Nat), l = F [(12, .pointer (some ⟨b21, 0, none⟩))] ∧ os = [boxO b21 [.int .i64 move, .int .i64 ((M.getI ((M.take r ((M.sowMove r p move).2.1) p.player).stores) p.player) - (M.nth p.stores p.player.toNat)), .bool (r.again && (decide ((M.take r ((M.sowMove r p move).2.1) p.player).last = (-1)))), .slice none 0 0, .slice none 0 0, .int .i64 0] 101] ++ U [some (boxO b16 [.slice A14 (((M.take r ((M.sowMove r p move).2.1) p.player).pits).length) c14, .slice (some ⟨b19, 0, none⟩) (((M.take r ((M.sowMove r p move).2.1) p.player).stores).length) c15, .int .i64 ((M.take r ((M.sowMove r p move).2.1) p.player).last), .int .i64 ((M.take r ((M.sowMove r p move).2.1) p.player).laps)] 162), some (rowO 2 1 (.slice (some ⟨b19, 0, none⟩) (((M.take r ((M.sowMove r p move).2.1) p.player).stores).length) c15) (((M.take r ((M.sowMove r p move).2.1) p.player).stores).length) (ints_ ((M.take r ((M.sowMove r p move).2.1) p.player).stores)) [])]) ?_ ?_
 ·
  refine zdr [31] ?_
  refine JH.p 0 rfl (p_move rfl) ?_
  refine JH.p 1 rfl (p_fieldAddr fld_162_1.h rfl) ?_
  refine JH.q 2 rfl (q_load1 ty_27.h rfl (Mem.box (i := 0) rfl rfl)) ?_
  refine JH.p 3 rfl (p_move rfl) ?_
  refine JH.p 4 rfl (p_nilCheck rfl) ?_
  refine JH.p 5 rfl (p_fieldAddr fld_39_2.h rfl) ?_
  refine JH.w 6 rfl (fun os' u' hv => q_load1 ty_2.h rfl (Mem.pub ((hr4.vis (x6.vis.trans hv)) 2 _ rfl))) ?_
  refine JH.fact (row_some (i := 1) rfl (by omega)) (fun hf25 => ?_)
  obtain ⟨b25, rfl⟩ := hf25
  refine JH.p 7 rfl (p_indexAddr el_27 rfl rfl (by omega) (by omega) rfl) ?_
  refine JH.q 8 rfl (q_load1 ty_2.h rfl (Mem.row (i := 1) rfl (ints_getI (i := p.player) (by omega)))) ?_
  refine JH.p 9 rfl (p_move rfl) ?_
  refine JH.p 10 rfl (p_nilCheck rfl) ?_
  refine JH.p 11 rfl (p_fieldAddr fld_39_1.h rfl) ?_
  refine JH.w 12 rfl (fun os' u' hv => q_load1 ty_27.h rfl (Mem.pub ((hr4.vis (x6.vis.trans hv)) 1 _ rfl))) ?_
  refine JH.p 13 rfl (p_move rfl) ?_
  refine JH.p 14 rfl (p_nilCheck rfl) ?_
  refine JH.p 15 rfl (p_fieldAddr fld_39_2.h rfl) ?_
  refine JH.w 16 rfl (fun os' u' hv => q_load1 ty_2.h rfl (Mem.pub ((hr4.vis (x6.vis.trans hv)) 2 _ rfl))) ?_
  obtain ⟨b26, o26, he26, hc26⟩ := ints_elem (Ty.mono _ h3 x6.vis) (i := p.player.toNat) (by omega)
  refine JH.p 17 rfl (p_indexAddr el_27 rfl rfl (by omega) (by omega) he26) ?_
  refine JH.w 18 rfl (fun os' u' hv => q_load1 ty_2.h rfl (Mem.pub (hc26.vis hv))) ?_
  refine JH.p 19 rfl (p_sub rfl rfl (IntWalk.i64_in _ (by omega))) ?_
  refine JH.p 20 rfl (p_move rfl) ?_
  refine JH.p 21 rfl (p_nilCheck rfl) ?_
  refine JH.p 22 rfl (p_fieldAddr fld_34_6.h rfl) ?_
  refine JH.w 23 rfl (fun os' u' hv => q_load1 ty_4.h rfl (Mem.pub ((hr1.vis (x6.vis.trans hv)) 6 _ rfl))) ?_
  refine JH.p 24 rfl (p_move rfl) ?_
  refine JH.pg 25 rfl (Gd.t1 rfl rfl rfl) (fun hc => p_fieldAddr fld_162_2.h rfl) ?_
  refine y2 26 30 ?_ ?_
  ·
   refine JHo.qg rfl (Gd.t1 rfl rfl rfl) (fun hc => q_load1 ty_2.h (gvt rfl hc) (Mem.box (i := 0) rfl rfl)) ?_
   refine JH.pg 27 rfl (Gd.t1 rfl rfl rfl) (fun hc => p_eql (gvt rfl hc) rfl) ?_
   refine JH.p 28 rfl (p_pickAnd rfl rfl rfl) ?_
   refine JH.p 29 rfl (q_bld) ?_
   refine y1 30 ?_
   refine ya rfl fun b27 => ?_
   refine y1 31 ?_
   refine yst rfl rfl rfl ?_
   refine yd ?_
   exact zm ⟨_, _, rfl, rfl⟩ (Up.refl _ _)
  refine ya rfl fun b28 => ?_
  refine y1 26 ?_
  refine JHo.qg rfl (Gd.t1 rfl rfl rfl) (fun hc => q_load1 ty_2.h (gvt rfl hc) (Mem.box (i := 1) rfl rfl)) ?_
  refine JH.pg 27 rfl (Gd.t1 rfl rfl rfl) (fun hc => p_eql (gvt rfl hc) rfl) ?_
  refine JH.p 28 rfl (p_pickAnd rfl rfl rfl) ?_
  refine JH.p 29 rfl (q_bld) ?_
  refine y1 31 ?_
  refine yst rfl rfl rfl ?_
  refine yd ?_
  exact zm ⟨_, _, rfl, rfl⟩ (Up.refl _ _)
 rintro _ _ u23 ⟨b21, b19, rfl, rfl⟩ x23
 refine zn ?_
 refine Js.seq ?_
 refine zdr [11] ?_
 refine JH.p 0 rfl (p_fieldAddr fld_162_0.h rfl) ?_
 refine JH.q 1 rfl (q_load1 ty_27.h rfl (Mem.box (i := 1) rfl rfl)) ?_
 refine JH.p 2 rfl (p_fieldAddr fld_162_1.h rfl) ?_
 refine JH.q 3 rfl (q_load1 ty_27.h rfl (Mem.box (i := 1) rfl rfl)) ?_
 refine JH.p 4 rfl (p_move rfl) ?_
 refine JH.p 5 rfl (p_nilCheck rfl) ?_
 refine JH.p 6 rfl (p_fieldAddr fld_39_2.h rfl) ?_
 refine JH.w 7 rfl (fun os' u' hv => q_load1 ty_2.h rfl (Mem.pub ((hr4.vis ((x6.vis.trans x23.vis).trans hv)) 2 _ rfl))) ?_
 refine JH.p 8 rfl (p_sub rfl rfl (IntWalk.i64_in _ (by omega))) ?_
 refine JH.p 9 rfl (q_bld) ?_
 refine JH.p 10 rfl (p_fieldAddr fld_101_3.h rfl) ?_
 refine y1 11 ?_
 refine yst rfl rfl rfl ?_
 refine yd ?_
 refine Js.seq <| zS <| Qf fh rfl <| Q0 0 rfl rfl rfl <| JL.nil ?_
 refine zi (fun h29 h29' => ?_) fun h29 h29' => ?_
 ·
  unfold M.resOf at hD
  rw [if_pos h29] at hD
  have hq0 : move = ((M.make r p move).1).move := by first | (rw [hD]; done) | (rw [hD]; rfl)
  have hq1 : ((M.getI ((M.take r ((M.sowMove r p move).2.1) p.player).stores) p.player) - (M.nth p.stores p.player.toNat)) = ((M.make r p move).1).gain := by first | (rw [hD]; done) | (rw [hD]; rfl)
  have hq2 : (r.again && (decide ((M.take r ((M.sowMove r p move).2.1) p.player).last = (-1)))) = ((M.make r p move).1).again := by first | (rw [hD]; done) | (rw [hD]; rfl)
  have hq3 : ((M.take r ((M.sowMove r p move).2.1) p.player).pits) = (((M.make r p move).1).next).pits := by first | (rw [hD]; done) | (rw [hD]; rfl)
  have hq4 : ((M.take r ((M.sowMove r p move).2.1) p.player).stores) = (((M.make r p move).1).next).stores := by first | (rw [hD]; done) | (rw [hD]; rfl)
  have hq5 : p.player = (((M.make r p move).1).next).player := by first | (rw [hD]; done) | (rw [hD]; rfl)
  have hq6 : 0 = (M.make r p move).2 := by first | (rw [hD]; done) | (rw [hD]; rfl)
  refine Js.region <| Qm rfl <| Qc rfl <| Qf fh rfl <| QC ((hr4.vis (x6.vis.trans x23.vis)) 2 _ rfl) rfl <| Qf fh rfl <| Qf fh rfl <| zw 0 rfl rfl rfl ?_
  refine zN <| Q9 0 rfl rfl ?_
  refine zw 5 rfl rfl rfl ?_
  refine Qa rfl <| JL.nil ?_
  exact zro (x6.trans x23)
 unfold M.resOf at hD
 rw [if_neg (by simpa using h29)] at hD
 have hq0 : move = ((M.make r p move).1).move := by first | (rw [hD]; done) | (rw [hD]; rfl)
 have hq1 : ((M.getI ((M.take r ((M.sowMove r p move).2.1) p.player).stores) p.player) - (M.nth p.stores p.player.toNat)) = ((M.make r p move).1).gain := by first | (rw [hD]; done) | (rw [hD]; rfl)
 have hq2 : (r.again && (decide ((M.take r ((M.sowMove r p move).2.1) p.player).last = (-1)))) = ((M.make r p move).1).again := by first | (rw [hD]; done) | (rw [hD]; rfl)
 have hq3 : ((M.take r ((M.sowMove r p move).2.1) p.player).pits) = (((M.make r p move).1).next).pits := by first | (rw [hD]; done) | (rw [hD]; rfl)
 have hq4 : ((M.take r ((M.sowMove r p move).2.1) p.player).stores) = (((M.make r p move).1).next).stores := by first | (rw [hD]; done) | (rw [hD]; rfl)
 have hq5 : (1 - p.player) = (((M.make r p move).1).next).player := by first | (rw [hD]; done) | (rw [hD]; rfl)
 have hq6 : 0 = (M.make r p move).2 := by first | (rw [hD]; done) | (rw [hD]; rfl)
 refine Js.skip <| zS <| Q9 0 rfl rfl ?_
 refine zw 5 rfl rfl rfl ?_
 refine Qa rfl <| JL.nil ?_
 exact zro (x6.trans x23)

end Go.Proofs.YtcmfnlleikcpnaaGreat

namespace Go.Proofs.YtcmfnlleikcpnaaGreat
open Go.RowKit

set_option maxHeartbeats 1000000 in
theorem c_spec_l08Run (r : M.Rul) {v_r : Value} (p : M.Pos) {v_p : Value} (moves : List Int) {v_moves : Value} {w : World} (h_r : (Ty.ref (cRules r)).ok w v_r) (h_p : (Ty.ref (cPosition p)).ok w v_p) (h_moves : (Ty.ints 2 moves).ok w v_moves) (r0 : p.pits.length ≤ 4194304 := by exact om_) (r1 : p.stores.length ≤ 4194304 := by exact om_) (r2 : moves.length ≤ 4194304 := by exact om_) : Ret Tryz.prog 84 [v_r, v_p, v_moves] w (Ty.tup [Ty.sl 39 3 (M.hist p (M.runs r p moves)).length (lPosition (M.hist p (M.runs r p moves))), Ty.ints 2 (M.gains (M.runs r p moves))]) := by
 revert v_r; apply opn
 intro b1 o1 hr1
 revert v_p; apply opn
 intro b4 o4 A2 c2 h2 bl2 bh2 A3 c3 h3 bl3 bh3 hr4
 revert v_moves; apply opn
 intro A5 c5 h5 bl5 bh5
 have h_moves := h5
 refine enter @Tryz.func84 @Tryz.ntmps84 rfl rfl ?_
 refine zent ?_
 refine zS <| Qa rfl <| Qa rfl <| zN <| Qm rfl <| zcs rfl (fun w hw => c_spec_l04Own p (ok_ hw)) ?_
 intro A6_0 c6_0 bl6_0 bh6_0 A6_1 c6_1 bl6_1 bh6_1 f6
 refine zbs fun b7 => ?_
 refine Qa rfl <| zN <| zbs fun b9 => ?_
 refine Qa rfl <| zN <| Qm rfl <| zp rfl (fun w hw => c_spec_l04Own p (ok_ hw)) ?_
 intro u11 x11 A12 c12 h12 bl12 bh12 A13 c13 h13 bl13 bh13
 refine za zeh fun b14 => zw 0 rfl rfl rfl ?_
 refine zJ <| zS <| Qa rfl <| JL.nil <| Js.block ?_
 refine Js.vals (Ts := lPosition []) (vs := []) (fun w => rfl) ?_
 refine Js.joinL (i := 0) (j := 3) (Vs := lPosition ([] ++ [p])) rfl rfl (lPosition_snoc _ _) (fun f17 => ?_)
 refine zn ?_
 refine zl [0, 2, 10] (fun F U l os u m => ∃ (k : Nat) (now : M.Pos) (made : List M.Res) (out : List M.Pos) (gains : List Int) (A15_8 : Option Addr) (c15_8 : Nat) (g15_8 : List Nat) (vs15_8 : List Value) (fl15_8 : List Nat) (A15_9 : Option Addr) (c15_9 : Nat) (g15_9 : List Nat) (A15_10_0 : Option Addr) (c15_10_0 : Nat) (A15_10_1 : Option Addr) (c15_10_1 : Nat), l = F [(8, .slice A15_8 out.length c15_8), (9, .slice A15_9 gains.length c15_9), (11, .int .i64 (k : Int))] ∧ os = U [some (ownC (lPosition out) vs15_8 fl15_8), some (boxO b14 [.slice A15_10_0 now.pits.length c15_10_0, .slice A15_10_1 now.stores.length c15_10_1, .int .i64 now.player] 39), some (rowO 2 1 (.slice A15_9 gains.length c15_9) gains.length (ints_ gains) g15_9), some (rowO 39 3 (.slice A15_8 out.length c15_8) out.length vs15_8 g15_8)] ∧ (M.Run r p moves k now made) ∧ (out = M.hist p made) ∧ (gains = M.gains made) ∧ (now.pits.length ≤ 4194304) ∧ (now.stores.length ≤ 4194304) ∧ (out.length ≤ c15_8) ∧ (c15_8 ≤ 9223372036854775807) ∧ (gains.length ≤ c15_9) ∧ (c15_9 ≤ 9223372036854775807) ∧ ((Ty.ints 2 now.pits).ok u (.slice A15_10_0 now.pits.length c15_10_0)) ∧ (now.pits.length ≤ c15_10_0) ∧ (c15_10_0 ≤ 9223372036854775807) ∧ ((Ty.ints 2 now.stores).ok u (.slice A15_10_1 now.stores.length c15_10_1)) ∧ (now.stores.length ≤ c15_10_1) ∧ (c15_10_1 ≤ 9223372036854775807) ∧ m = moves.length - k) ⟨0, p, [], [p], [], _, _, _, _, _, _, _, _, _, _, _, _, rfl, rfl, by exact M.Run.zero _ _ _, by rfl, by rfl, zt, zt, zu, zu, zu, zu, h12, zu, zu, h13, zu, zu, rfl⟩ ?_
 rintro _ _ u15 _ ⟨k, now, made, out, gains, A15_8, c15_8, g15_8, vs15_8, fl15_8, A15_9, c15_9, g15_9, A15_10_0, c15_10_0, A15_10_1, c15_10_1, rfl, rfl, hR, hO, hGn, n0, n1, f15_5, f15_6, f15_7, f15_8, f15_9, f15_10, f15_11, f15_12, f15_13, f15_14, rfl⟩ x15
 refine zn ?_
 have hl1 := hR.len
 have hl3 := hR.le
 have hlO : out.length = made.length + 1 := by rw [hO]; simp
 have hlG : gains.length = made.length := by rw [hGn]; simp [M.gains]
 refine Js.seq <| zS <| Qm rfl <| Qm rfl <| Qz rfl <| Ql rfl rfl <| JL.nil ?_
 refine zi (fun h18 h18' => ?_) fun h18 h18' => ?_
 ·
  obtain ⟨b19, o19, he19, hc19⟩ := ints_elem (Ty.mono _ h5 (x11.vis.trans x15.vis)) (i := k) (by omega)
  refine Js.skip <| Js.seq <| Js.block <| zS <| Qm rfl <| Qm rfl <| Qm rfl <| Qq (p_indexAddr el_27 rfl rfl (by omega) (by omega) he19) <| QC hc19 rfl <| zp rfl (fun w hw => c_spec_l07Make r now (M.nth moves k) (ok_ hw) (ok_ hw)) ?_
  intro u20 x20 A21 c21 h21 bl21 bh21 A22 c22 h22 bl22 bh22
  refine Qm rfl <| Qx rfl rfl <| Qx rfl rfl <| za zeh fun b23 => zw 0 rfl rfl rfl ?_
  refine Qa rfl <| zJ <| zS <| Qm rfl <| Qd rfl rfl <| JL.nil ?_
  refine zi (fun h24 h24' => ?_) fun h24 h24' => ?_
  ·
   have hE := (hR.fail (by omega) (by simpa using h24)).1
   have hq0 : out = M.hist p (M.runs r p moves) := by first | (rw [hE]; exact hO) | (rw [hE]; exact hGn)
   have hq1 : gains = M.gains (M.runs r p moves) := by first | (rw [hE]; exact hO) | (rw [hE]; exact hGn)
   refine zS <| Qm rfl <| Qm rfl <| Qa rfl <| Qa rfl <| JL.nil ?_
   exact zro ((x11.trans x15).trans x20)
  have hm : (M.make r now (M.nth moves k)).2 = 0 := by simpa using h24
  have hR2 := hR.step (by omega) hm
  have hl2 := M.okP_len (M.make_ok hm).2.2.2.1
  refine Js.skip <| zS <| Qf fh rfl <| Q9 0 rfl rfl ?_
  refine zw 2 rfl rfl rfl ?_
  refine zN <| Qm rfl <| zcs rfl (fun w hw => c_spec_l04Own (((M.make r now (M.nth moves k)).1).next) (ok_ hw)) ?_
  intro A25_0 c25_0 bl25_0 bh25_0 A25_1 c25_1 bl25_1 bh25_1 f25
  refine zbs fun b26 => ?_
  refine JL.e (e_append (i := 6) (n' := (out ++ [(((M.make r now (M.nth moves k)).1).next)]).length) (vs' := vs15_8 ++ [.slice A25_0 (((((M.make r now (M.nth moves k)).1).next).pits).length) c25_0, .slice A25_1 (((((M.make r now (M.nth moves k)).1).next).stores).length) c25_1, .int .i64 ((((M.make r now (M.nth moves k)).1).next).player)]) el_126 rfl rfl rfl rfl (src_row (i := 0) und_126 rfl rfl) (by omega) (by omega) (by first | omega | (simp only [List.length_append, List.length_cons, List.length_nil, List.length_take, List.length_drop] <;> omega)) (rfl)) ?_
  rintro v28 _ _ ⟨⟨g29, rfl⟩, rfl⟩ _
  refine JL.fact (row_form' (i := 6) rfl) (fun hf30 => ?_)
  obtain ⟨A30, c30, rfl, bl30, bh30⟩ := hf30
  refine znl ?_
  refine Qa rfl <| JL.nil ?_
  refine Js.joinL (i := 3) (j := 1) (Vs := lPosition (out ++ [(((M.make r now (M.nth moves k)).1).next)])) rfl rfl (lPosition_snoc _ _) (fun f32 => ?_)
  refine zn ?_
  refine Js.region <| Qm rfl <| Qf fh rfl <| Q0 2 rfl rfl rfl <| zbs fun b33 => ?_
  refine JL.e (e_append (i := 5) (n' := (gains ++ [(((M.make r now (M.nth moves k)).1).gain)]).length) (vs' := ints_ (gains ++ [(((M.make r now (M.nth moves k)).1).gain)])) el_27 rfl rfl rfl rfl (src_row (i := 0) und_27 rfl rfl) (by omega) (by omega) (by first | omega | (simp only [List.length_append, List.length_cons, List.length_nil, List.length_take, List.length_drop] <;> omega)) (by simp [ints_])) ?_
  rintro v35 _ _ ⟨⟨g36, rfl⟩, rfl⟩ _
  refine JL.fact (row_form' (i := 5) rfl) (fun hf37 => ?_)
  obtain ⟨A37, c37, rfl, bl37, bh37⟩ := hf37
  refine znl ?_
  refine Qa rfl <| JL.nil <| Js.blockEnd <| Js.region <| Qm rfl <| Qp rfl rfl <| Qa rfl <| JL.nil ?_
  refine zd [1, 3, 3, 3] rfl fun u38 x38 => ?_
  exact zag ⟨k + 1, (((M.make r now (M.nth moves k)).1).next), made ++ [(M.make r now (M.nth moves k)).1], out ++ [(((M.make r now (M.nth moves k)).1).next)], gains ++ [(((M.make r now (M.nth moves k)).1).gain)], _, _, _, _, _, _, _, _, _, _, _, _, rfl, rfl, by exact hR2, by rw [hO]; exact (M.hist_snoc _ _ _).symm, by rw [hGn]; simp [M.gains], by exact hl2.1, by exact hl2.2, zu, zu, zu, zu, (Ty.mono _ h21 x38.vis), zu, zu, (Ty.mono _ h22 x38.vis), zu, zu, rfl⟩ ((x15.trans x20).trans x38)
 have hE := (hR.done (by have := h18'; omega)).1
 refine zx ?_
 have hq0 : out = M.hist p (M.runs r p moves) := by first | (rw [hE]; exact hO) | (rw [hE]; exact hGn)
 have hq1 : gains = M.gains (M.runs r p moves) := by first | (rw [hE]; exact hO) | (rw [hE]; exact hGn)
 refine zS <| Qm rfl <| Qm rfl <| Qa rfl <| Qa rfl <| JL.nil ?_
 exact zro (x11.trans x15)

set_option maxHeartbeats 1000000 in
theorem c_spec_l08Ok (g : M.Gam) {v_g : Value} {w : World} (h_g : (Ty.ref (cGame g)).ok w v_g) (r0 : g.start.pits.length ≤ 4194304 := by exact om_) (r1 : g.start.stores.length ≤ 4194304 := by exact om_) (r2 : g.moves.length ≤ 4194304 := by exact om_) (r3 : g.now.pits.length ≤ 4194304 := by exact om_) (r4 : g.now.stores.length ≤ 4194304 := by exact om_) : RetV Tryz.prog 82 [v_g] w (.bool (M.okG g)) := by
 revert v_g; apply opn
 intro b6 o6 A1 c1 h1 bl1 bh1 A2 c2 h2 bl2 bh2 A3 c3 h3 bl3 bh3 A4 c4 h4 bl4 bh4 A5 c5 h5 bl5 bh5 hr6
 refine enter @Tryz.func82 @Tryz.ntmps82 rfl rfl ?_
 refine zent ?_
 refine zS <| Qa rfl <| zJ <| Js.seq ?_
 refine zdr [] ?_
 refine JH.p 0 rfl (p_move rfl) ?_
 refine JH.p 1 rfl (p_nilCheck rfl) ?_
 refine JH.p 2 rfl (p_fieldAddr fld_56_0.h rfl) ?_
 refine JH.p 3 rfl (p_move rfl) ?_
 refine JH.p 4 rfl (p_nilCheck rfl) ?_
 refine JH.p 5 rfl (p_fieldAddr fld_56_1.h rfl) ?_
 refine y1 6 ?_
 refine yv rfl rfl (fun w hw => c_spec_l04Ok g.rules g.start (ok_ hw) (ok_ hw)) ?_
 refine JH.p 7 rfl (p_not rfl) ?_
 refine JH.p 8 rfl (p_move rfl) ?_
 refine JH.pg 9 rfl (Gd.f1 rfl rfl rfl) (fun hc => p_move rfl) ?_
 refine JH.pg 10 rfl (Gd.f1 rfl rfl rfl) (fun hc => p_nilCheck (gvt rfl hc)) ?_
 refine JH.pg 11 rfl (Gd.f1 rfl rfl rfl) (fun hc => p_fieldAddr fld_56_2.h (gvt rfl hc)) ?_
 refine JH.wg 12 rfl (Gd.f1 rfl rfl rfl) (fun hc os' u' hv => q_load1 ty_27.h (gvt rfl hc) (Mem.pub ((hr6.vis hv) 12 _ rfl))) ?_
 refine JH.pg 13 rfl (Gd.f1 rfl rfl rfl) (fun hc => p_len el_27 (gvt rfl hc)) ?_
 refine JH.pg 14 rfl (Gd.f1 rfl rfl rfl) (fun hc => p_gtr (gvt rfl hc) rfl) ?_
 refine JH.p 15 rfl (p_pickOr rfl rfl rfl) ?_
 refine JH.p 16 rfl (p_move rfl) ?_
 refine JH.pg 17 rfl (Gd.f1 rfl rfl rfl) (fun hc => p_move rfl) ?_
 refine JH.pg 18 rfl (Gd.f1 rfl rfl rfl) (fun hc => p_nilCheck (gvt rfl hc)) ?_
 refine JH.pg 19 rfl (Gd.f1 rfl rfl rfl) (fun hc => p_fieldAddr fld_56_4.h (gvt rfl hc)) ?_
 refine JH.wg 20 rfl (Gd.f1 rfl rfl rfl) (fun hc os' u' hv => q_load1 ty_2.h (gvt rfl hc) (Mem.pub ((hr6.vis hv) 16 _ rfl))) ?_
 refine y1 21 ?_
 refine JHo.ge rfl (Gd.f1 rfl rfl rfl) (fun hc => e_callV fn_56.h (opds_3 (gvt rfl hc) rfl rfl) (fun w hw => c_spec_l00In g.resigned (-1) 1)) ?_
 refine JH.pg 22 rfl (Gd.f1 rfl rfl rfl) (fun hc => p_not (gvt rfl hc)) ?_
 refine JH.p 23 rfl (p_pickOr rfl rfl rfl) ?_
 refine yd ?_
 refine zi (fun h7 h7' => ?_) fun h7 h7' => ?_
 ·
  refine zS <| Qa rfl <| JL.nil ?_
  refine zR (Up.refl _ _) ?_
  exact congrArg (fun b => Ending.returned (.bool b)) (M.okG_no (by simpa [or_assoc] using h7)).symm
 have ho : M.okP g.rules g.start = true ∧ (g.moves.length : Int) ≤ 120 ∧ M.betw g.resigned (-1) 1 = true := by simpa [and_assoc] using h7
 have hl3 := M.okP_len (M.lastPos_ok _ _ ho.1 (M.runs_ok g.moves _ ho.1))
 have hrl := M.runs_len g.rules g.moves g.start
 have hhl := M.hist_length g.start (M.runs g.rules g.start g.moves)
 refine Js.skip <| Js.seq ?_
 refine zdr [] ?_
 refine JH.p 0 rfl (p_move rfl) ?_
 refine JH.p 1 rfl (p_nilCheck rfl) ?_
 refine JH.p 2 rfl (p_fieldAddr fld_56_0.h rfl) ?_
 refine JH.p 3 rfl (p_move rfl) ?_
 refine JH.p 4 rfl (p_nilCheck rfl) ?_
 refine JH.p 5 rfl (p_fieldAddr fld_56_1.h rfl) ?_
 refine JH.p 6 rfl (p_move rfl) ?_
 refine JH.p 7 rfl (p_nilCheck rfl) ?_
 refine JH.p 8 rfl (p_fieldAddr fld_56_2.h rfl) ?_
 refine JH.w 9 rfl (fun os' u' hv => q_load1 ty_27.h rfl (Mem.pub ((hr6.vis hv) 12 _ rfl))) ?_
 refine y1 10 ?_
 refine yp rfl rfl (fun w hw => c_spec_l08Run g.rules g.start g.moves (ok_ hw) (ok_ hw) (ok_ hw)) ?_
 intro u8 x8 A9 c9 h9 bl9 bh9 A10 c10 h10 bl10 bh10
 refine JH.p 11 rfl (p_move rfl) ?_
 refine JH.p 12 rfl (p_extract rfl rfl) ?_
 refine JH.p 13 rfl (p_extract rfl rfl) ?_
 refine JH.p 14 rfl (p_assign rfl) ?_
 refine JH.p 15 rfl (p_assign rfl) ?_
 refine yd ?_
 refine Js.seq ?_
 refine zdr [] ?_
 refine JH.p 0 rfl (p_move rfl) ?_
 refine JH.p 1 rfl (p_len el_27 rfl) ?_
 refine JH.p 2 rfl (p_move rfl) ?_
 refine JH.p 3 rfl (p_nilCheck rfl) ?_
 refine JH.p 4 rfl (p_fieldAddr fld_56_2.h rfl) ?_
 refine JH.w 5 rfl (fun os' u' hv => q_load1 ty_27.h rfl (Mem.pub ((hr6.vis (x8.vis.trans hv)) 12 _ rfl))) ?_
 refine JH.p 6 rfl (p_len el_27 rfl) ?_
 refine JH.p 7 rfl (p_eql rfl rfl) ?_
 refine JH.p 8 rfl (p_move rfl) ?_
 refine JH.pg 9 rfl (Gd.t1 rfl rfl rfl) (fun hc => p_move rfl) ?_
 refine JH.pg 10 rfl (Gd.t1 rfl rfl rfl) (fun hc => p_move rfl) ?_
 refine JH.pg 11 rfl (Gd.t1 rfl rfl rfl) (fun hc => p_len el_126 (gvt rfl hc)) ?_
 refine JH.pg 12 rfl (Gd.t1 rfl rfl rfl) (fun hc => p_sub (gvt rfl hc) rfl (IntWalk.i64_in _ (by have hc9 := hc; (try simp only [decide_eq_true_eq] at hc9); omega))) ?_
 obtain ⟨y11, hy11⟩ : ∃ x, (M.hist g.start (M.runs g.rules g.start g.moves))[((((M.hist g.start (M.runs g.rules g.start g.moves)).length) : Int) - 1).toNat]? = some x := ⟨_, List.getElem?_eq_getElem (by omega)⟩
 obtain ⟨b11, o11, A11_0, c11_0, A11_1, c11_1, he11, hr11, h11_0, h11_1, bl11_0, bh11_0, bl11_1, bh11_1⟩ := elem_Position h9 hy11
 refine JH.pg 13 rfl (Gd.t1 rfl rfl rfl) (fun hc => p_indexAddr el_126 (gvt rfl hc) (gvt rfl hc) (by have hc9 := hc; (try simp only [decide_eq_true_eq] at hc9); omega) (by have hc9 := hc; (try simp only [decide_eq_true_eq] at hc9); omega) he11) ?_
 refine JH.pg 14 rfl (Gd.t1 rfl rfl rfl) (fun hc => p_move rfl) ?_
 refine JH.pg 15 rfl (Gd.t1 rfl rfl rfl) (fun hc => p_nilCheck (gvt rfl hc)) ?_
 refine JH.pg 16 rfl (Gd.t1 rfl rfl rfl) (fun hc => p_fieldAddr fld_56_3.h (gvt rfl hc)) ?_
 refine y1 17 ?_
 refine JHo.ge rfl (Gd.t1 rfl rfl rfl) (fun hc => e_callV fn_137.h (opds_2 (gvt rfl hc) (gvt rfl hc)) (fun w hw => c_spec_l04Same y11 g.now (ok_ hw) (ok_ hw) (r0 := (M.last_len (M.hist_last g.start (M.runs g.rules g.start g.moves)) hy11 (by omega) hl3).1) (r1 := (M.last_len (M.hist_last g.start (M.runs g.rules g.start g.moves)) hy11 (by omega) hl3).2) (r2 := (by have hc9 := hc; (try simp only [decide_eq_true_eq] at hc9); omega)) (r3 := (by have hc9 := hc; (try simp only [decide_eq_true_eq] at hc9); omega)))) ?_
 refine JH.p 18 rfl (p_pickAnd rfl rfl rfl) ?_
 refine JH.p 19 rfl (p_assign rfl) ?_
 refine yd ?_
 refine zR x8 ?_
 simp only [outV, M.gains_length]; rw [M.okG_spec ho.1 ho.2.1 ho.2.2 (by assumption) (by omega)]

set_option maxHeartbeats 1000000 in
theorem c_spec_l08Repeats (g : M.Gam) {v_g : Value} {w : World} (h_g : (Ty.ref (cGame g)).ok w v_g) (r0 : g.start.pits.length ≤ 4194304 := by exact om_) (r1 : g.start.stores.length ≤ 4194304 := by exact om_) (r2 : g.moves.length ≤ 4194304 := by exact om_) (r3 : g.now.pits.length ≤ 4194304 := by exact om_) (r4 : g.now.stores.length ≤ 4194304 := by exact om_) (r5 : M.okG g = true := by exact om_) : RetV Tryz.prog 192 [v_g] w (.int .i64 (M.count g.now (M.hist g.start (M.runs g.rules g.start g.moves)))) := by
 obtain ⟨k1, k2, k3, k4, k5, k6, k7, k8, k9⟩ := M.okG_parts r5
 have hhl := M.hist_length g.start (M.runs g.rules g.start g.moves)
 revert v_g; apply opn
 intro b6 o6 A1 c1 h1 bl1 bh1 A2 c2 h2 bl2 bh2 A3 c3 h3 bl3 bh3 A4 c4 h4 bl4 bh4 A5 c5 h5 bl5 bh5 hr6
 refine enter @Tryz.func192 @Tryz.ntmps192 rfl rfl ?_
 refine zent ?_
 refine zS <| Qa rfl <| zJ ?_
 refine zdr [] ?_
 refine JH.p 0 rfl (p_move rfl) ?_
 refine JH.p 1 rfl (p_nilCheck rfl) ?_
 refine JH.p 2 rfl (p_fieldAddr fld_56_0.h rfl) ?_
 refine JH.p 3 rfl (p_move rfl) ?_
 refine JH.p 4 rfl (p_nilCheck rfl) ?_
 refine JH.p 5 rfl (p_fieldAddr fld_56_1.h rfl) ?_
 refine JH.p 6 rfl (p_move rfl) ?_
 refine JH.p 7 rfl (p_nilCheck rfl) ?_
 refine JH.p 8 rfl (p_fieldAddr fld_56_2.h rfl) ?_
 refine JH.w 9 rfl (fun os' u' hv => q_load1 ty_27.h rfl (Mem.pub ((hr6.vis hv) 12 _ rfl))) ?_
 refine y1 10 ?_
 refine yp rfl rfl (fun w hw => c_spec_l08Run g.rules g.start g.moves (ok_ hw) (ok_ hw) (ok_ hw)) ?_
 intro u7 x7 A8 c8 h8 bl8 bh8 A9 c9 h9 bl9 bh9
 refine JH.p 11 rfl (p_move rfl) ?_
 refine JH.p 12 rfl (p_extract rfl rfl) ?_
 refine JH.p 13 rfl (p_extract rfl rfl) ?_
 refine JH.p 14 rfl (p_assign rfl) ?_
 refine JH.p 15 rfl (p_assign rfl) ?_
 refine yd ?_
 refine zS <| Qa rfl <| zJ <| zS <| Qa rfl <| JL.nil <| Js.block ?_
 refine zl [0, 3] (fun F U l os u m => ∃ (k : Nat) (n : Int), l = F [(5, .int .i64 n), (6, .int .i64 (k : Int))] ∧ os = U [] ∧ (n = M.count g.now ((M.hist g.start (M.runs g.rules g.start g.moves)).take k)) ∧ (k ≤ (M.runs g.rules g.start g.moves).length + 1) ∧ (0 ≤ n) ∧ (n ≤ k) ∧ m = (M.runs g.rules g.start g.moves).length + 1 - k) ⟨0, 0, rfl, rfl, by rfl, zt, zt, zt, rfl⟩ ?_
 rintro _ _ u10 _ ⟨k, n, rfl, rfl, hn, hk, n0, n1, rfl⟩ x10
 refine zn ?_
 refine Js.seq <| zS <| Qm rfl <| Qm rfl <| Qz rfl <| Ql rfl rfl <| JL.nil ?_
 refine zi (fun h11 h11' => ?_) fun h11 h11' => ?_
 ·
  refine Js.skip <| Js.seq <| Js.block <| Js.seq ?_
  refine zdr [] ?_
  refine JH.p 0 rfl (p_move rfl) ?_
  refine JH.p 1 rfl (p_move rfl) ?_
  obtain ⟨y12, hy12⟩ : ∃ x, (M.hist g.start (M.runs g.rules g.start g.moves))[k]? = some x := ⟨_, List.getElem?_eq_getElem (by omega)⟩
  obtain ⟨b12, o12, A12_0, c12_0, A12_1, c12_1, he12, hr12, h12_0, h12_1, bl12_0, bh12_0, bl12_1, bh12_1⟩ := elem_Position (Ty.mono _ h8 x10.vis) hy12
  refine JH.p 2 rfl (p_indexAddr el_126 rfl rfl (by omega) (by omega) he12) ?_
  refine JH.p 3 rfl (p_move rfl) ?_
  refine JH.p 4 rfl (p_nilCheck rfl) ?_
  refine JH.p 5 rfl (p_fieldAddr fld_56_3.h rfl) ?_
  refine y1 6 ?_
  refine yv rfl rfl (fun w hw => c_spec_l04Same y12 g.now (ok_ hw) (ok_ hw) (r0 := (M.okP_len (M.hist_ok r5 hy12)).1) (r1 := (M.okP_len (M.hist_ok r5 hy12)).2)) ?_
  refine yd ?_
  refine zi (fun h13 h13' => ?_) fun h13 h13' => ?_
  ·
   have hs : M.sameP _ _ = true := h13
   refine Js.region <| Qm rfl <| Qp rfl rfl <| Qa rfl <| JL.nil <| Js.blockEnd <| Js.region <| Qm rfl <| Qp rfl rfl <| Qa rfl <| JL.nil ?_
   exact zag ⟨k + 1, n + 1, rfl, rfl, by rw [M.count_step (by assumption)]; simp [hs, hn], zt, zt, zt, rfl⟩ x10
  have hs : M.sameP _ _ = false := h13
  refine Js.skip <| Js.blockEnd <| Js.region <| Qm rfl <| Qp rfl rfl <| Qa rfl <| JL.nil ?_
  exact zag ⟨k + 1, n, rfl, rfl, by rw [M.count_step (by assumption)]; simp [hs, hn], zt, zt, zt, rfl⟩ x10
 have hE : M.count g.now (M.hist g.start (M.runs g.rules g.start g.moves)) = n := by rw [hn, List.take_of_length_le (by have := h11'; omega)]
 refine zx ?_
 refine zS <| Qm rfl <| Qa rfl <| JL.nil ?_
 refine zR (x7.trans x10) ?_
 rw [hE]; rfl

end Go.Proofs.YtcmfnlleikcpnaaGreat

namespace Go.Proofs.YtcmfnlleikcpnaaGreat
open Go.RowKit

set_option maxHeartbeats 1000000 in
theorem c_spec_l04Lists (a : List Int) {v_a : Value} (b : List Int) {v_b : Value} {w : World} (h_a : (Ty.ints 2 a).ok w v_a) (h_b : (Ty.ints 2 b).ok w v_b) (r0 : a.length ≤ 4194304 := by exact om_) (r1 : b.length ≤ 4194304 := by exact om_) : RetV Tryz.prog 114 [v_a, v_b] w (.int .i64 (M.cmpL a b)) := by
 revert v_a; apply opn
 intro A1 c1 h1 bl1 bh1
 have h_a := h1
 revert v_b; apply opn
 intro A2 c2 h2 bl2 bh2
 have h_b := h2
 refine enter @Tryz.func114 @Tryz.ntmps114 rfl rfl ?_
 refine zent ?_
 refine zS <| Qa rfl <| zJ <| zS <| Qa rfl <| JL.nil <| Js.block ?_
 refine zl [0, 1] (fun F U l os u m => ∃ (k : Nat), l = F [(5, .int .i64 (k : Int))] ∧ os = U [] ∧ (M.cmpL (a.drop k) (b.drop k) = M.cmpL a b) ∧ (k ≤ a.length) ∧ (k ≤ b.length) ∧ m = a.length - k) ⟨0, rfl, rfl, by rfl, zt, zt, rfl⟩ ?_
 rintro _ _ u3 _ ⟨k, rfl, rfl, hC, hka, hkb, rfl⟩ x3
 refine zn ?_
 refine Js.seq <| zS <| Qm rfl <| Qm rfl <| Qz rfl <| Ql rfl rfl <| Qm rfl <| zg (Gd.t1 rfl rfl rfl) (fun hc => p_move rfl) <| zg (Gd.t1 rfl rfl rfl) (fun hc => p_move rfl) <| zg (Gd.t1 rfl rfl rfl) (fun hc => p_len el_27 (gh hc rfl)) <| zg (Gd.t1 rfl rfl rfl) (fun hc => p_lss (gh hc rfl) (gh hc rfl)) <| Qq (p_pickAnd rfl rfl rfl) <| JL.nil ?_
 refine zi (fun h4 h4' => ?_) fun h4 h4' => ?_
 ·
  have hab : k < a.length ∧ k < b.length := by have := h4'; omega
  refine Js.skip <| Js.seq <| Js.block <| Js.seq <| Js.seq ?_
  refine zdr [] ?_
  refine JH.p 0 rfl (p_move rfl) ?_
  refine JH.p 1 rfl (p_move rfl) ?_
  obtain ⟨b5, o5, he5, hc5⟩ := ints_elem (Ty.mono _ h1 x3.vis) (i := k) (by omega)
  refine JH.p 2 rfl (p_indexAddr el_27 rfl rfl (by omega) (by omega) he5) ?_
  refine JH.w 3 rfl (fun os' u' hv => q_load1 ty_2.h rfl (Mem.pub (hc5.vis hv))) ?_
  refine JH.p 4 rfl (p_move rfl) ?_
  refine JH.p 5 rfl (p_move rfl) ?_
  obtain ⟨b6, o6, he6, hc6⟩ := ints_elem (Ty.mono _ h2 x3.vis) (i := k) (by omega)
  refine JH.p 6 rfl (p_indexAddr el_27 rfl rfl (by omega) (by omega) he6) ?_
  refine JH.w 7 rfl (fun os' u' hv => q_load1 ty_2.h rfl (Mem.pub (hc6.vis hv))) ?_
  refine JH.p 8 rfl (p_lss rfl rfl) ?_
  refine yd ?_
  refine zi (fun h7 h7' => ?_) fun h7 h7' => ?_
  ·
   have hE := M.cmpL_lt hC hab.1 hab.2 (by have := h7'; omega)
   refine zS <| Qa rfl <| JL.nil ?_
   refine zR x3 ?_
   first | (rw [hE]; done) | (rw [hE]; rfl)
  have h1_ : ¬ M.nth a k < M.nth b k := by have := h7'; omega
  refine Js.skip <| Js.seq ?_
  refine zdr [] ?_
  refine JH.p 0 rfl (p_move rfl) ?_
  refine JH.p 1 rfl (p_move rfl) ?_
  obtain ⟨b8, o8, he8, hc8⟩ := ints_elem (Ty.mono _ h1 x3.vis) (i := k) (by omega)
  refine JH.p 2 rfl (p_indexAddr el_27 rfl rfl (by omega) (by omega) he8) ?_
  refine JH.w 3 rfl (fun os' u' hv => q_load1 ty_2.h rfl (Mem.pub (hc8.vis hv))) ?_
  refine JH.p 4 rfl (p_move rfl) ?_
  refine JH.p 5 rfl (p_move rfl) ?_
  obtain ⟨b9, o9, he9, hc9⟩ := ints_elem (Ty.mono _ h2 x3.vis) (i := k) (by omega)
  refine JH.p 6 rfl (p_indexAddr el_27 rfl rfl (by omega) (by omega) he9) ?_
  refine JH.w 7 rfl (fun os' u' hv => q_load1 ty_2.h rfl (Mem.pub (hc9.vis hv))) ?_
  refine JH.p 8 rfl (p_gtr rfl rfl) ?_
  refine yd ?_
  refine zi (fun h10 h10' => ?_) fun h10 h10' => ?_
  ·
   have hE := M.cmpL_gt hC hab.1 hab.2 (by have := h10'; omega)
   refine zS <| Qa rfl <| JL.nil ?_
   refine zR x3 ?_
   first | (rw [hE]; done) | (rw [hE]; rfl)
  have hC2 := M.cmpL_step hC hab.1 hab.2 h1_ (by have := h10'; omega)
  refine Js.skip <| Js.blockEnd <| Js.region <| Qm rfl <| Qp rfl rfl <| Qa rfl <| JL.nil ?_
  exact zag ⟨k + 1, rfl, rfl, by exact hC2, zt, zt, rfl⟩ x3
 have hE := M.cmpL_end hC (by have := h4'; omega) hka hkb
 refine zx ?_
 refine Js.seq <| zS <| Qm rfl <| Qz rfl <| Qm rfl <| Qz rfl <| Ql rfl rfl <| JL.nil ?_
 refine zi (fun h11 h11' => ?_) fun h11 h11' => ?_
 ·
  rw [if_pos (by have := h11'; omega)] at hE
  refine zS <| Qa rfl <| JL.nil ?_
  refine zR x3 ?_
  first | (rw [hE]; done) | (rw [hE]; rfl)
 rw [if_neg (by have := h11'; omega)] at hE
 refine Js.skip <| Js.seq <| zS <| Qm rfl <| Qz rfl <| Qm rfl <| Qz rfl <| Qg rfl rfl <| JL.nil ?_
 refine zi (fun h12 h12' => ?_) fun h12 h12' => ?_
 ·
  rw [if_pos (by have := h12'; omega)] at hE
  refine zS <| Qa rfl <| JL.nil ?_
  refine zR x3 ?_
  first | (rw [hE]; done) | (rw [hE]; rfl)
 rw [if_neg (by have := h12'; omega)] at hE
 refine Js.skip <| zS <| Qa rfl <| JL.nil ?_
 refine zR x3 ?_
 first | (rw [hE]; done) | (rw [hE]; rfl)

set_option maxHeartbeats 1000000 in
theorem c_spec_l20Pos (p : List Int) {Ap_0 : Option Addr} {cp_0 : Nat} {w : World}  : Ret Tryz.prog 143 [.slice Ap_0 p.length cp_0] w (Ty.agg [Ty.val (.slice Ap_0 p.length cp_0), Ty.ints 2 [0, 0], Ty.int 0]) := by
 refine enter @Tryz.func143 @Tryz.ntmps143 rfl rfl ?_
 refine zent ?_
 refine zS <| za zeh fun b1 => zN <| Qm rfl <| zbs fun b2 => ?_
 refine Qb ?_
 refine zw 1 rfl rfl rfl ?_
 refine JL.nil ?_
 exact zro (Up.refl _ _)

set_option maxHeartbeats 1000000 in
theorem c_spec_MoveFault (r : M.Rul) {v_r : Value} (p : M.Pos) {v_p : Value} (move : Int) {w : World} (h_r : (Ty.agg (cRules r)).ok w v_r) (h_p : (Ty.agg (cPosition p)).ok w v_p) (r0 : p.pits.length ≤ 4194304 := by exact om_) (r1 : p.stores.length ≤ 4194304 := by exact om_) : RetV Tryz.prog 71 [v_r, v_p, .int .i64 move] w (.int .i64 ((M.make r p move).2)) := by
 revert v_r; apply opn
 revert v_p; apply opn
 intro A1 c1 h1 bl1 bh1 A2 c2 h2 bl2 bh2
 refine enter @Tryz.func71 @Tryz.ntmps71 rfl rfl ?_
 refine zent ?_
 refine zS <| zb rfl fun b3 => zb rfl fun b4 => Qa rfl <| zN <| Qm rfl <| zp rfl (fun w hw => c_spec_l07Make r p move (ok_ hw) (ok_ hw)) ?_
 intro u5 x5 A6 c6 h6 bl6 bh6 A7 c7 h7 bl7 bh7
 refine Qm rfl <| Qx rfl rfl <| Qx rfl rfl <| za zeh fun b8 => zw 0 rfl rfl rfl ?_
 refine Qa rfl <| zN <| Qm rfl <| Qa rfl <| JL.nil ?_
 exact zr x5

set_option maxHeartbeats 4000000 in
theorem c_spec_l20Entry (r : M.Rul) {v_r : Value} (e : M.Ent) {v_e : Value} {w : World} (h_r : (Ty.ref (cRules r)).ok w v_r) (h_e : (Ty.ref (cBookEntry e)).ok w v_e) (r0 : e.pits.length ≤ 4194304 := by exact om_) (r1 : e.choices.length ≤ 4194304 := by exact om_) : RetV Tryz.prog 113 [v_r, v_e] w (.bool (M.okE r e)) := by
 have p5 : (M.posE e.pits).stores.length ≤ 4194304 := (by decide : ([0, 0] : List Int).length ≤ 4194304)
 have p6 : (M.posE e.pits).pits.length ≤ 4194304 := r0
 revert v_r; apply opn
 intro b1 o1 hr1
 revert v_e; apply opn
 intro b4 o4 A2 c2 h2 bl2 bh2 A3 c3 h3 bl3 bh3 hr4
 refine enter @Tryz.func113 @Tryz.ntmps113 rfl rfl ?_
 refine zent ?_
 refine zS <| Qa rfl <| zN <| Qm rfl <| Qc rfl <| Qf fh rfl <| QC (hr4 0 _ rfl) rfl <| zc rfl (fun w hw => c_spec_l20Pos e.pits) ?_
 intro A5 c5 bl5 bh5
 refine za zeh fun b6 => zw 0 rfl rfl rfl ?_
 refine zJ <| zS <| Qm rfl <| zv rfl (fun w hw => c_spec_l04Ok r (M.Pos.mk e.pits [0, 0] 0) (ok_ hw) (ok_ hw)) <| Qt rfl <| Qm rfl <| zg (Gd.f1 rfl rfl rfl) (fun hc => p_move rfl) <| zg (Gd.f1 rfl rfl rfl) (fun hc => p_nilCheck (gh hc rfl)) <| zg (Gd.f1 rfl rfl rfl) (fun hc => p_fieldAddr fld_89_1.h (gh hc rfl)) <| zgq (Gd.f1 rfl rfl rfl) (fun hc => q_load1 ty_67.h (gh hc rfl) (Mem.pub (hr4 1 _ rfl))) <| zg (Gd.f1 rfl rfl rfl) (fun hc => p_len el_67 (gh hc rfl)) <| zg (Gd.f1 rfl rfl rfl) (fun hc => p_eql (gh hc rfl) rfl) <| Qq (p_pickOr rfl rfl rfl) <| JL.nil ?_
 refine zi (fun h7 h7' => ?_) fun h7 h7' => ?_
 ·
  have hE := M.okE_p (r := r) (e := e) (by have h9 := h7; simp only [Bool.or_eq_true, Bool.not_eq_true', decide_eq_true_eq] at h9; exact h9.imp id (fun h => by omega))
  refine zS <| Qa rfl <| JL.nil ?_
  refine zR (Up.refl _ _) ?_
  first | (rw [hE, hE2]; rfl) | (rw [hE]; rfl)
 have h9 := h7
 simp at h9
 have hE := M.okE_cs h9.1 (by omega)
 refine Js.skip <| Js.seq <| zS <| Qa rfl <| JL.nil <| Js.block ?_
 refine zl [0, 1, 5] (fun F U l os u m => ∃ (k : Nat), l = F [(6, .int .i64 (k : Int))] ∧ os = U [] ∧ (M.AllB (M.chAt r (M.posE e.pits) e.choices) k) ∧ (k ≤ e.choices.length) ∧ m = e.choices.length - k) ⟨0, rfl, rfl, by exact M.AllB.zero _, zt, rfl⟩ ?_
 rintro _ _ u8 _ ⟨k, rfl, rfl, hA, hk, rfl⟩ x8
 refine zn ?_
 refine Js.seq <| zS <| Qm rfl <| Qm rfl <| Qc rfl <| Qf fh rfl <| QC ((hr4.vis x8.vis) 1 _ rfl) rfl <| Qz rfl <| Ql rfl rfl <| JL.nil ?_
 refine zi (fun h9 h9' => ?_) fun h9 h9' => ?_
 ·
  have hy10 : e.choices[k]? = some (M.cho e.choices k) := M.cho_get (by omega)
  obtain ⟨b10, o10, he10, hr10⟩ := elem_Choice (Ty.mono _ h3 x8.vis) hy10
  refine Js.skip <| Js.seq <| Js.block <| zS <| Qm rfl <| Qc rfl <| Qf fh rfl <| QC ((hr4.vis x8.vis) 1 _ rfl) rfl <| Qm rfl <| Qq (p_indexAddr el_67 rfl rfl (by omega) (by omega) he10) <| Qa rfl <| zJ <| Js.seq ?_
  refine zdr [] ?_
  refine JH.p 0 rfl (p_move rfl) ?_
  refine JH.p 1 rfl (p_gtr rfl rfl) ?_
  refine JH.p 2 rfl (p_move rfl) ?_
  refine JH.pg 3 rfl (Gd.t1 rfl rfl rfl) (fun hc => p_move rfl) ?_
  refine JH.pg 4 rfl (Gd.t1 rfl rfl rfl) (fun hc => p_nilCheck (gvt rfl hc)) ?_
  refine JH.pg 5 rfl (Gd.t1 rfl rfl rfl) (fun hc => p_fieldAddr fld_81_0.h (gvt rfl hc)) ?_
  refine JH.wg 6 rfl (Gd.t1 rfl rfl rfl) (fun hc os' u' hv => q_load1 ty_2.h (gvt rfl hc) (Mem.pub ((hr10.vis hv) 0 _ rfl))) ?_
  refine JH.pg 7 rfl (Gd.t1 rfl rfl rfl) (fun hc => p_move rfl) ?_
  refine JH.pg 8 rfl (Gd.t1 rfl rfl rfl) (fun hc => p_nilCheck (gvt rfl hc)) ?_
  refine JH.pg 9 rfl (Gd.t1 rfl rfl rfl) (fun hc => p_fieldAddr fld_89_1.h (gvt rfl hc)) ?_
  refine JH.wg 10 rfl (Gd.t1 rfl rfl rfl) (fun hc os' u' hv => q_load1 ty_67.h (gvt rfl hc) (Mem.pub ((hr4.vis (x8.vis.trans hv)) 1 _ rfl))) ?_
  refine JH.pg 11 rfl (Gd.t1 rfl rfl rfl) (fun hc => p_move rfl) ?_
  refine JH.pg 12 rfl (Gd.t1 rfl rfl rfl) (fun hc => p_sub (gvt rfl hc) rfl (IntWalk.i64_in _ (by have hc9 := hc; (try simp only [decide_eq_true_eq] at hc9); omega))) ?_
  have hy11 : e.choices[((k : Int) - 1).toNat]? = some (M.cho e.choices (((k : Int) - 1).toNat)) := M.cho_get (by omega)
  obtain ⟨b11, o11, he11, hr11⟩ := elem_Choice (Ty.mono _ h3 x8.vis) hy11
  refine JH.pg 13 rfl (Gd.t1 rfl rfl rfl) (fun hc => p_indexAddr el_67 (gvt rfl hc) (gvt rfl hc) (by have hc9 := hc; (try simp only [decide_eq_true_eq] at hc9); omega) (by have hc9 := hc; (try simp only [decide_eq_true_eq] at hc9); omega) he11) ?_
  refine JH.pg 14 rfl (Gd.t1 rfl rfl rfl) (fun hc => p_fieldAddr fld_81_0.h (gvt rfl hc)) ?_
  refine JH.wg 15 rfl (Gd.t1 rfl rfl rfl) (fun hc os' u' hv => q_load1 ty_2.h (gvt rfl hc) (Mem.pub ((hr11.vis hv) 0 _ rfl))) ?_
  refine JH.pg 16 rfl (Gd.t1 rfl rfl rfl) (fun hc => p_leq (gvt rfl hc) (gvt rfl hc)) ?_
  refine JH.p 17 rfl (p_pickAnd rfl rfl rfl) ?_
  refine JH.p 18 rfl (p_move rfl) ?_
  refine JH.pg 19 rfl (Gd.f1 rfl rfl rfl) (fun hc => p_move rfl) ?_
  refine JH.pg 20 rfl (Gd.f1 rfl rfl rfl) (fun hc => p_nilCheck (gvt rfl hc)) ?_
  refine JH.pg 21 rfl (Gd.f1 rfl rfl rfl) (fun hc => p_fieldAddr fld_81_1.h (gvt rfl hc)) ?_
  refine JH.wg 22 rfl (Gd.f1 rfl rfl rfl) (fun hc os' u' hv => q_load1 ty_2.h (gvt rfl hc) (Mem.pub ((hr10.vis hv) 1 _ rfl))) ?_
  refine y1 23 ?_
  refine JHo.ge rfl (Gd.f1 rfl rfl rfl) (fun hc => e_callV fn_56.h (opds_3 (gvt rfl hc) rfl rfl) (fun w hw => c_spec_l00In ((M.cho e.choices k).games) 1 1000000)) ?_
  refine JH.pg 24 rfl (Gd.f1 rfl rfl rfl) (fun hc => p_not (gvt rfl hc)) ?_
  refine JH.p 25 rfl (p_pickOr rfl rfl rfl) ?_
  refine JH.p 26 rfl (p_move rfl) ?_
  refine JH.pg 27 rfl (Gd.f1 rfl rfl rfl) (fun hc => p_move rfl) ?_
  refine JH.pg 28 rfl (Gd.f1 rfl rfl rfl) (fun hc => p_nilCheck (gvt rfl hc)) ?_
  refine JH.pg 29 rfl (Gd.f1 rfl rfl rfl) (fun hc => p_fieldAddr fld_81_2.h (gvt rfl hc)) ?_
  refine JH.wg 30 rfl (Gd.f1 rfl rfl rfl) (fun hc os' u' hv => q_load1 ty_2.h (gvt rfl hc) (Mem.pub ((hr10.vis hv) 2 _ rfl))) ?_
  refine JH.pg 31 rfl (Gd.f1 rfl rfl rfl) (fun hc => p_move rfl) ?_
  refine JH.pg 32 rfl (Gd.f1 rfl rfl rfl) (fun hc => p_nilCheck (gvt rfl hc)) ?_
  refine JH.pg 33 rfl (Gd.f1 rfl rfl rfl) (fun hc => p_fieldAddr fld_81_1.h (gvt rfl hc)) ?_
  refine JH.wg 34 rfl (Gd.f1 rfl rfl rfl) (fun hc os' u' hv => q_load1 ty_2.h (gvt rfl hc) (Mem.pub ((hr10.vis hv) 1 _ rfl))) ?_
  refine JH.pg 35 rfl (Gd.f1 rfl rfl rfl) (fun hc => p_mul rfl (gvt rfl hc) (IntWalk.i64_in _ (by have hc9 := hc; simp only [Bool.not_eq_true', Bool.or_eq_false_iff, Bool.not_eq_false'] at hc9; have h8 := M.betw_iff.1 hc9.2; omega))) ?_
  refine y1 36 ?_
  refine JHo.ge rfl (Gd.f1 rfl rfl rfl) (fun hc => e_callV fn_56.h (opds_3 (gvt rfl hc) rfl (gvt rfl hc)) (fun w hw => c_spec_l00In ((M.cho e.choices k).score) 0 (2 * ((M.cho e.choices k).games)))) ?_
  refine JH.pg 37 rfl (Gd.f1 rfl rfl rfl) (fun hc => p_not (gvt rfl hc)) ?_
  refine JH.p 38 rfl (p_pickOr rfl rfl rfl) ?_
  refine yd ?_
  refine zi (fun h12 h12' => ?_) fun h12 h12' => ?_
  ·
   have hN : M.chAt r (M.posE e.pits) e.choices k = false := M.chAt_18 (by exact h12)
   have hE2 : M.okCs r (M.posE e.pits) e.choices = false := M.all_no (by omega) hN
   refine zS <| Qa rfl <| JL.nil ?_
   refine zR x8 ?_
   first | (rw [hE, hE2]; rfl) | (rw [hE]; rfl)
  have h18 : M.ch18 e.choices k = false := h12
  refine Js.skip <| Js.seq ?_
  refine zdr [] ?_
  refine JH.p 0 rfl (p_move rfl) ?_
  refine JH.p 1 rfl (p_nilCheck rfl) ?_
  refine JH.w 2 rfl (fun os' u' hv => LS 0 (hr1.vis (x8.vis.trans hv)) rfl) ?_
  refine JH.q 3 rfl (L9 0 rfl rfl) ?_
  refine JH.p 4 rfl (p_move rfl) ?_
  refine JH.p 5 rfl (p_nilCheck rfl) ?_
  refine JH.p 6 rfl (p_fieldAddr fld_81_0.h rfl) ?_
  refine JH.w 7 rfl (fun os' u' hv => q_load1 ty_2.h rfl (Mem.pub ((hr10.vis hv) 0 _ rfl))) ?_
  refine y1 8 ?_
  refine yv rfl rfl (fun w hw => c_spec_MoveFault r (M.Pos.mk e.pits [0, 0] 0) ((M.cho e.choices k).move) (ok_ hw) (ok_ hw)) ?_
  refine JH.p 9 rfl (p_neq rfl rfl) ?_
  refine yd ?_
  refine zi (fun h13 h13' => ?_) fun h13 h13' => ?_
  ·
   have hN : M.chAt r (M.posE e.pits) e.choices k = false := M.chAt_21 (by simpa using h13)
   have hE2 : M.okCs r (M.posE e.pits) e.choices = false := M.all_no (by omega) hN
   refine zS <| Qa rfl <| JL.nil ?_
   refine zR x8 ?_
   first | (rw [hE, hE2]; rfl) | (rw [hE]; rfl)
  have hN : M.chAt r (M.posE e.pits) e.choices k = true := M.chAt_all h18 (by simpa using h13)
  refine Js.skip <| Js.blockEnd <| Js.region <| Qm rfl <| Qp rfl rfl <| Qa rfl <| JL.nil ?_
  exact zag ⟨k + 1, rfl, rfl, by exact hA.step hN, zt, rfl⟩ x8
 have hE2 : M.okCs r (M.posE e.pits) e.choices = true := M.all_yes hA (by have := h9'; omega)
 refine zx ?_
 refine zS <| Qa rfl <| JL.nil ?_
 refine zR x8 ?_
 first | (rw [hE, hE2]; rfl) | (rw [hE]; rfl)

set_option maxHeartbeats 4000000 in
theorem c_spec_l20Ok (b : M.Boo) {v_b : Value} {w : World} (h_b : (Ty.ref (cBook b)).ok w v_b) (r0 : b.entries.length ≤ 4194304 := by exact om_) (r1 : ∀ x ∈ b.entries, x.pits.length ≤ 4194304 ∧ x.choices.length ≤ 4194304 := by exact om_) : RetV Tryz.prog 54 [v_b] w (.bool (M.okB b)) := by
 revert v_b; apply opn
 intro b2 o2 A1 c1 h1 bl1 bh1 hr2
 refine enter @Tryz.func54 @Tryz.ntmps54 rfl rfl ?_
 refine zent ?_
 refine zS <| Qa rfl <| zJ <| zS <| Qm rfl <| Qc rfl <| Qf fh rfl <| zv rfl (fun w hw => c_spec_l02Ok b.rules (ok_ hw)) <| Qt rfl <| Qm rfl <| zg (Gd.f1 rfl rfl rfl) (fun hc => p_move rfl) <| zg (Gd.f1 rfl rfl rfl) (fun hc => p_nilCheck (gh hc rfl)) <| zg (Gd.f1 rfl rfl rfl) (fun hc => p_fieldAddr fld_37_1.h (gh hc rfl)) <| zgq (Gd.f1 rfl rfl rfl) (fun hc => q_load1 ty_35.h (gh hc rfl) (Mem.pub (hr2 9 _ rfl))) ?_
 refine zg (Gd.f1 rfl rfl rfl) (fun hc => p_len el_35 (gh hc rfl)) <| zg (Gd.f1 rfl rfl rfl) (fun hc => p_gtr (gh hc rfl) rfl) <| Qq (p_pickOr rfl rfl rfl) <| JL.nil ?_
 refine zi (fun h3 h3' => ?_) fun h3 h3' => ?_
 ·
  have hE := M.okB_r (b := b) (by have h9 := h3; simp only [Bool.or_eq_true, Bool.not_eq_true', decide_eq_true_eq] at h9; exact h9.imp id (fun h => by omega))
  refine zS <| Qa rfl <| JL.nil ?_
  refine zR (Up.refl _ _) ?_
  first | (rw [hE, hE2]; rfl) | (rw [hE]; rfl)
 have h9 := h3
 simp only [Bool.or_eq_false_iff, Bool.not_eq_false', decide_eq_false_iff_not] at h9
 have hE := M.okB_es h9.1 (by omega)
 refine Js.skip <| Js.seq <| zS <| Qa rfl <| JL.nil <| Js.block ?_
 refine zl [0] (fun F U l os u m => ∃ (k : Nat), l = F [(3, .int .i64 (k : Int))] ∧ os = U [] ∧ (M.AllB (M.entAt b.rules b.entries) k) ∧ (k ≤ b.entries.length) ∧ m = b.entries.length - k) ⟨0, rfl, rfl, by exact M.AllB.zero _, zt, rfl⟩ ?_
 rintro _ _ u4 _ ⟨k, rfl, rfl, hA, hk, rfl⟩ x4
 refine zn ?_
 refine Js.seq <| zS <| Qm rfl <| Qm rfl <| Qc rfl <| Qf fh rfl <| QC ((hr2.vis x4.vis) 9 _ rfl) rfl <| Qz rfl <| Ql rfl rfl <| JL.nil ?_
 refine zi (fun h5 h5' => ?_) fun h5 h5' => ?_
 ·
  have hkk : k < b.entries.length := by have := h5'; omega
  obtain ⟨e1_, e2_⟩ := r1 _ (M.ent_mem (es := b.entries) (k := k) (by omega))
  obtain ⟨e3_, e4_⟩ := r1 _ (M.ent_mem (es := b.entries) (k := (((k : Int) - 1).toNat)) (by omega))
  refine Js.skip <| Js.seq <| Js.block <| Js.seq ?_
  refine zdr [] ?_
  refine JH.p 0 rfl (p_move rfl) ?_
  refine JH.p 1 rfl (p_nilCheck rfl) ?_
  refine JH.p 2 rfl (p_fieldAddr fld_37_0.h rfl) ?_
  refine JH.p 3 rfl (p_move rfl) ?_
  refine JH.p 4 rfl (p_nilCheck rfl) ?_
  refine JH.p 5 rfl (p_fieldAddr fld_37_1.h rfl) ?_
  refine JH.w 6 rfl (fun os' u' hv => q_load1 ty_35.h rfl (Mem.pub ((hr2.vis (x4.vis.trans hv)) 9 _ rfl))) ?_
  refine JH.p 7 rfl (p_move rfl) ?_
  have hy6 : b.entries[k]? = some (M.ent b.entries k) := M.ent_get (by omega)
  obtain ⟨b6, o6, A6_0, c6_0, A6_1, c6_1, he6, hr6, h6_0, h6_1, bl6_0, bh6_0, bl6_1, bh6_1⟩ := elem_BookEntry (Ty.mono _ h1 x4.vis) hy6
  refine JH.p 8 rfl (p_indexAddr el_35 rfl rfl (by omega) (by omega) he6) ?_
  refine y1 9 ?_
  refine yv rfl rfl (fun w hw => c_spec_l20Entry b.rules (M.ent b.entries k) (ok_ hw) (ok_ hw)) ?_
  refine JH.p 10 rfl (p_not rfl) ?_
  refine JH.p 11 rfl (p_move rfl) ?_
  refine JH.pg 12 rfl (Gd.f1 rfl rfl rfl) (fun hc => p_move rfl) ?_
  refine JH.pg 13 rfl (Gd.f1 rfl rfl rfl) (fun hc => p_gtr (gvt rfl hc) rfl) ?_
  refine JH.pg 14 rfl (Gd.f1 rfl rfl rfl) (fun hc => p_move (gvt rfl hc)) ?_
  refine JH.pg 15 rfl (Gd.t2 rfl rfl rfl) (fun hc => p_move rfl) ?_
  refine JH.pg 16 rfl (Gd.t2 rfl rfl rfl) (fun hc => p_nilCheck (gvt rfl hc)) ?_
  refine JH.pg 17 rfl (Gd.t2 rfl rfl rfl) (fun hc => p_fieldAddr fld_37_1.h (gvt rfl hc)) ?_
  refine JH.wg 18 rfl (Gd.t2 rfl rfl rfl) (fun hc os' u' hv => q_load1 ty_35.h (gvt rfl hc) (Mem.pub ((hr2.vis (x4.vis.trans hv)) 9 _ rfl))) ?_
  refine JH.pg 19 rfl (Gd.t2 rfl rfl rfl) (fun hc => p_move rfl) ?_
  refine JH.pg 20 rfl (Gd.t2 rfl rfl rfl) (fun hc => p_sub (gvt rfl hc) rfl (IntWalk.i64_in _ (by have hc9 := hc; (try simp only [Bool.and_eq_true, Bool.not_eq_true', Bool.not_eq_false', decide_eq_true_eq] at hc9); omega))) ?_
  have hy7 : b.entries[((k : Int) - 1).toNat]? = some (M.ent b.entries (((k : Int) - 1).toNat)) := M.ent_get (by omega)
  obtain ⟨b7, o7, A7_0, c7_0, A7_1, c7_1, he7, hr7, h7_0, h7_1, bl7_0, bh7_0, bl7_1, bh7_1⟩ := elem_BookEntry (Ty.mono _ h1 x4.vis) hy7
  refine JH.pg 21 rfl (Gd.t2 rfl rfl rfl) (fun hc => p_indexAddr el_35 (gvt rfl hc) (gvt rfl hc) (by have hc9 := hc; (try simp only [Bool.and_eq_true, Bool.not_eq_true', Bool.not_eq_false', decide_eq_true_eq] at hc9); omega) (by have hc9 := hc; (try simp only [Bool.and_eq_true, Bool.not_eq_true', Bool.not_eq_false', decide_eq_true_eq] at hc9); omega) he7) ?_
  refine JH.pg 22 rfl (Gd.t2 rfl rfl rfl) (fun hc => p_fieldAddr fld_89_0.h (gvt rfl hc)) ?_
  refine JH.wg 23 rfl (Gd.t2 rfl rfl rfl) (fun hc os' u' hv => q_load1 ty_27.h (gvt rfl hc) (Mem.pub ((hr7.vis hv) 0 _ rfl))) ?_
  refine JH.pg 24 rfl (Gd.t2 rfl rfl rfl) (fun hc => p_move rfl) ?_
  refine JH.pg 25 rfl (Gd.t2 rfl rfl rfl) (fun hc => p_nilCheck (gvt rfl hc)) ?_
  refine JH.pg 26 rfl (Gd.t2 rfl rfl rfl) (fun hc => p_fieldAddr fld_37_1.h (gvt rfl hc)) ?_
  refine JH.wg 27 rfl (Gd.t2 rfl rfl rfl) (fun hc os' u' hv => q_load1 ty_35.h (gvt rfl hc) (Mem.pub ((hr2.vis (x4.vis.trans hv)) 9 _ rfl))) ?_
  refine JH.pg 28 rfl (Gd.t2 rfl rfl rfl) (fun hc => p_move rfl) ?_
  have hy8 : b.entries[k]? = some (M.ent b.entries k) := M.ent_get (by omega)
  obtain ⟨b8, o8, A8_0, c8_0, A8_1, c8_1, he8, hr8, h8_0, h8_1, bl8_0, bh8_0, bl8_1, bh8_1⟩ := elem_BookEntry (Ty.mono _ h1 x4.vis) hy8
  refine JH.pg 29 rfl (Gd.t2 rfl rfl rfl) (fun hc => p_indexAddr el_35 (gvt rfl hc) (gvt rfl hc) (by have hc9 := hc; (try simp only [Bool.and_eq_true, Bool.not_eq_true', Bool.not_eq_false', decide_eq_true_eq] at hc9); omega) (by have hc9 := hc; (try simp only [Bool.and_eq_true, Bool.not_eq_true', Bool.not_eq_false', decide_eq_true_eq] at hc9); omega) he8) ?_
  refine JH.pg 30 rfl (Gd.t2 rfl rfl rfl) (fun hc => p_fieldAddr fld_89_0.h (gvt rfl hc)) ?_
  refine JH.wg 31 rfl (Gd.t2 rfl rfl rfl) (fun hc os' u' hv => q_load1 ty_27.h (gvt rfl hc) (Mem.pub ((hr8.vis hv) 0 _ rfl))) ?_
  refine y1 32 ?_
  refine JHo.ge rfl (Gd.t2 rfl rfl rfl) (fun hc => e_callV fn_114.h (opds_2 (gvt rfl hc) (gvt rfl hc)) (fun w hw => c_spec_l04Lists ((M.ent b.entries (((k : Int) - 1).toNat)).pits) ((M.ent b.entries k).pits) (ok_ hw) (ok_ hw) (r0 := (by have hc9 := hc; (try simp only [Bool.and_eq_true, Bool.not_eq_true', Bool.not_eq_false', decide_eq_true_eq] at hc9); omega)) (r1 := (by have hc9 := hc; (try simp only [Bool.and_eq_true, Bool.not_eq_true', Bool.not_eq_false', decide_eq_true_eq] at hc9); omega)))) ?_
  refine JH.pg 33 rfl (Gd.t2 rfl rfl rfl) (fun hc => p_geq (gvt rfl hc) rfl) ?_
  refine JH.pg 34 rfl (Gd.f1 rfl rfl rfl) (fun hc => p_pickAnd (gvt rfl hc) (gvl rfl hc) rfl) ?_
  refine JH.p 35 rfl (p_pickOr rfl rfl rfl) ?_
  refine yd ?_
  refine zi (fun h9 h9' => ?_) fun h9 h9' => ?_
  ·
   have hN : M.entAt b.rules b.entries k = false := M.entAt_no' (by exact h9)
   have hE2 : (List.range b.entries.length).all (M.entAt b.rules b.entries) = false := M.all_no (by omega) hN
   refine zS <| Qa rfl <| JL.nil ?_
   refine zR x4 ?_
   first | (rw [hE, hE2]; rfl) | (rw [hE]; rfl)
  have hN : M.entAt b.rules b.entries k = true := M.entAt_yes' (by exact h9)
  refine Js.skip <| Js.blockEnd <| Js.region <| Qm rfl <| Qp rfl rfl <| Qa rfl <| JL.nil ?_
  exact zag ⟨k + 1, rfl, rfl, by exact hA.step hN, zt, rfl⟩ x4
 have hE2 : (List.range b.entries.length).all (M.entAt b.rules b.entries) = true := M.all_yes hA (by have := h5'; omega)
 refine zx ?_
 refine zS <| Qa rfl <| JL.nil ?_
 refine zR x4 ?_
 first | (rw [hE, hE2]; rfl) | (rw [hE]; rfl)

end Go.Proofs.YtcmfnlleikcpnaaGreat

namespace Go.Proofs.YtcmfnlleikcpnaaGreat
open Go.RowKit

set_option maxHeartbeats 12000000 in
theorem c_spec_l04Turn (r : M.Rul) {v_r : Value} (p : M.Pos) {v_p : Value} {w : World} (h_r : (Ty.ref (cRules r)).ok w v_r) (h_p : (Ty.ref (cPosition p)).ok w v_p) (r0 : M.okP r p = true := by exact om_) : Ret Tryz.prog 132 [v_r, v_p] w (Ty.agg (cPosition (M.turnP r p))) := by
 obtain ⟨g1, g2, g3, g4, g5, g6, g7⟩ := M.okP_bd r0
 revert v_r; apply opn
 intro b1 o1 hr1
 revert v_p; apply opn
 intro b4 o4 A2 c2 h2 bl2 bh2 A3 c3 h3 bl3 bh3 hr4
 refine enter @Tryz.func132 @Tryz.ntmps132 rfl rfl ?_
 refine zent ?_
 refine zS <| za zeh fun b5 => zJ ?_
 refine zdr [] ?_
 refine JH.p 0 rfl (p_move rfl) ?_
 refine JH.p 1 rfl (p_nilCheck rfl) ?_
 refine JH.p 2 rfl (p_fieldAddr fld_39_0.h rfl) ?_
 refine JH.w 3 rfl (fun os' u' hv => q_load1 ty_27.h rfl (Mem.pub ((hr4.vis hv) 0 _ rfl))) ?_
 refine JH.p 4 rfl (p_move rfl) ?_
 refine JH.p 5 rfl (p_nilCheck rfl) ?_
 refine JH.p 6 rfl (p_fieldAddr fld_34_0.h rfl) ?_
 refine JH.w 7 rfl (fun os' u' hv => q_load1 ty_2.h rfl (Mem.pub ((hr1.vis hv) 0 _ rfl))) ?_
 have hs6 := ints_cut (a := r.pits.toNat) (b := p.pits.length) (m := c2) h2 (by omega) (by omega) (by omega) (by omega)
 have hl6 : ((p.pits.drop r.pits.toNat).take (p.pits.length - r.pits.toNat)).length = p.pits.length - r.pits.toNat := by rw [List.length_take, List.length_drop]; omega
 refine JH.p 8 rfl (p_slice (lo' := r.pits.toNat) (hi' := p.pits.length) (mx' := c2) el_27 rfl rfl ⟨rfl, rfl⟩ ⟨_, by rw [Int.toNat_of_nonneg (by omega)]; exact rfl, by omega⟩) ?_
 refine y1 9 ?_
 refine ycs rfl rfl (fun w hw => c_spec_l00Own ((p.pits.drop r.pits.toNat).take (p.pits.length - r.pits.toNat)) (ok_ hw)) ?_
 intro A7 c7 bl7 bh7
 refine JH.p 10 rfl (p_assign rfl) ?_
 refine yd ?_
 refine Js.seq ?_
 refine zk [4] (fun F U l os u => ∃ (b14 : Nat) (A13 : Option Addr) (c13 : Nat) (g12 : List Nat), l = F [] ∧ os = [rowO 2 1 (.slice (some ⟨b14, 0, none⟩) 2 2) 2 [.int .i64 (M.nth p.stores 1), .int .i64 (M.nth p.stores 0)] []] ++ U [some (rowO 2 1 (.slice A13 ((((p.pits.drop r.pits.toNat).take (p.pits.length - r.pits.toNat)) ++ ((p.pits.drop 0).take (r.pits.toNat - 0))).length) c13) ((((p.pits.drop r.pits.toNat).take (p.pits.length - r.pits.toNat)) ++ ((p.pits.drop 0).take (r.pits.toNat - 0))).length) (ints_ (((p.pits.drop r.pits.toNat).take (p.pits.length - r.pits.toNat)) ++ ((p.pits.drop 0).take (r.pits.toNat - 0)))) g12), some (boxO b5 [.slice A13 ((((p.pits.drop r.pits.toNat).take (p.pits.length - r.pits.toNat)) ++ ((p.pits.drop 0).take (r.pits.toNat - 0))).length) c13, .slice (some ⟨b14, 0, none⟩) 2 2, .int .i64 (1 - p.player)] 39)] ∧ ((((p.pits.drop r.pits.toNat).take (p.pits.length - r.pits.toNat)) ++ ((p.pits.drop 0).take (r.pits.toNat - 0))).length ≤ c13) ∧ (c13 ≤ 9223372036854775807)) ?_ ?_
 ·
  refine zdr [10, 30] ?_
  refine JH.p 0 rfl (p_move rfl) ?_
  refine JH.p 1 rfl (p_move rfl) ?_
  refine JH.p 2 rfl (p_nilCheck rfl) ?_
  refine JH.p 3 rfl (p_fieldAddr fld_39_0.h rfl) ?_
  refine JH.w 4 rfl (fun os' u' hv => q_load1 ty_27.h rfl (Mem.pub ((hr4.vis hv) 0 _ rfl))) ?_
  refine JH.p 5 rfl (p_move rfl) ?_
  refine JH.p 6 rfl (p_nilCheck rfl) ?_
  refine JH.p 7 rfl (p_fieldAddr fld_34_0.h rfl) ?_
  refine JH.w 8 rfl (fun os' u' hv => q_load1 ty_2.h rfl (Mem.pub ((hr1.vis hv) 0 _ rfl))) ?_
  have hs22 := ints_cut (a := 0) (b := r.pits.toNat) (m := c2) h2 (by omega) (by omega) (by omega) (by omega)
  have hl22 : ((p.pits.drop 0).take (r.pits.toNat - 0)).length = r.pits.toNat - 0 := by rw [List.length_take, List.length_drop]; omega
  refine JH.p 9 rfl (p_slice (lo' := 0) (hi' := r.pits.toNat) (mx' := c2) el_27 rfl rfl ⟨_, by rw [Int.toNat_of_nonneg (by omega)]; exact rfl, by omega⟩ rfl) ?_
  refine JH.p 11 rfl (p_move rfl) ?_
  refine JH.p 12 rfl (p_nilCheck rfl) ?_
  refine JH.p 13 rfl (p_fieldAddr fld_39_1.h rfl) ?_
  refine JH.w 14 rfl (fun os' u' hv => q_load1 ty_27.h rfl (Mem.pub ((hr4.vis hv) 1 _ rfl))) ?_
  obtain ⟨b23, o23, he23, hc23⟩ := ints_elem h3 (i := 1) (by omega)
  refine JH.p 15 rfl (p_indexAddr el_27 rfl rfl (by omega) (by omega) he23) ?_
  refine JH.w 16 rfl (fun os' u' hv => q_load1 ty_2.h rfl (Mem.pub (hc23.vis hv))) ?_
  refine JH.p 17 rfl (p_move rfl) ?_
  refine JH.p 18 rfl (p_nilCheck rfl) ?_
  refine JH.p 19 rfl (p_fieldAddr fld_39_1.h rfl) ?_
  refine JH.w 20 rfl (fun os' u' hv => q_load1 ty_27.h rfl (Mem.pub ((hr4.vis hv) 1 _ rfl))) ?_
  obtain ⟨b24, o24, he24, hc24⟩ := ints_elem h3 (i := 0) (by omega)
  refine JH.p 21 rfl (p_indexAddr el_27 rfl rfl (by omega) (by omega) he24) ?_
  refine JH.w 22 rfl (fun os' u' hv => q_load1 ty_2.h rfl (Mem.pub (hc24.vis hv))) ?_
  refine JH.p 24 rfl (p_move rfl) ?_
  refine JH.p 25 rfl (p_nilCheck rfl) ?_
  refine JH.p 26 rfl (p_fieldAddr fld_39_2.h rfl) ?_
  refine JH.w 27 rfl (fun os' u' hv => q_load1 ty_2.h rfl (Mem.pub ((hr4.vis hv) 2 _ rfl))) ?_
  refine JH.p 28 rfl (p_sub rfl rfl (IntWalk.i64_in _ (by omega))) ?_
  refine y2 10 23 ?_ ?_
  ·
   refine JHo.e rfl (e_append (i := 0) (n' := (((p.pits.drop r.pits.toNat).take (p.pits.length - r.pits.toNat)) ++ ((p.pits.drop 0).take (r.pits.toNat - 0))).length) (vs' := ints_ (((p.pits.drop r.pits.toNat).take (p.pits.length - r.pits.toNat)) ++ ((p.pits.drop 0).take (r.pits.toNat - 0)))) el_27 rfl rfl rfl rfl (src_intsN und_27 hl22 hs22) (by omega) (by omega) (by first | omega | (simp only [List.length_append, List.length_cons, List.length_nil, List.length_take, List.length_drop] <;> omega)) (by simp [ints_])) (.inr rfl) ?_
   rintro v25 _ _ ⟨⟨g26, rfl⟩, rfl⟩ _
   refine JH.fact (row_form' (i := 0) rfl) (fun hf27 => ?_)
   obtain ⟨A27, c27, rfl, bl27, bh27⟩ := hf27
   refine znh ?_
   refine y1 23 ?_
   refine ybs rfl fun b28 => ?_
   refine JH.p 29 rfl (q_bld) ?_
   refine y1 30 ?_
   refine yst rfl rfl rfl ?_
   refine yd ?_
   exact zm ⟨_, _, _, _, rfl, rfl, zt, zt⟩ (Up.refl _ _)
  refine ybs rfl fun b30 => ?_
  refine y1 10 ?_
  refine JHo.e rfl (e_append (i := 1) (n' := (((p.pits.drop r.pits.toNat).take (p.pits.length - r.pits.toNat)) ++ ((p.pits.drop 0).take (r.pits.toNat - 0))).length) (vs' := ints_ (((p.pits.drop r.pits.toNat).take (p.pits.length - r.pits.toNat)) ++ ((p.pits.drop 0).take (r.pits.toNat - 0)))) el_27 rfl rfl rfl rfl (src_intsN und_27 hl22 hs22) (by omega) (by omega) (by first | omega | (simp only [List.length_append, List.length_cons, List.length_nil, List.length_take, List.length_drop] <;> omega)) (by simp [ints_])) (.inr rfl) ?_
  rintro v32 _ _ ⟨⟨g33, rfl⟩, rfl⟩ _
  refine JH.fact (row_form' (i := 1) rfl) (fun hf34 => ?_)
  obtain ⟨A34, c34, rfl, bl34, bh34⟩ := hf34
  refine znh ?_
  refine JH.p 29 rfl (q_bld) ?_
  refine y1 30 ?_
  refine yst rfl rfl rfl ?_
  refine yd ?_
  exact zm ⟨_, _, _, _, rfl, rfl, zt, zt⟩ (Up.refl _ _)
 rintro _ _ u21 ⟨b14, A13, c13, g12, rfl, rfl, f21_0, f21_1⟩ x21
 refine zn ?_
 have hq0 : (((p.pits.drop r.pits.toNat).take (p.pits.length - r.pits.toNat)) ++ ((p.pits.drop 0).take (r.pits.toNat - 0))) = (M.turnP r p).pits := by first | rfl | (simp [M.turnP, List.take_of_length_le]; done) | (unfold M.turnP; simp; omega)
 have hq1 : [(M.nth p.stores 1), (M.nth p.stores 0)] = (M.turnP r p).stores := by first | rfl | (simp [M.turnP, List.take_of_length_le]; done) | (unfold M.turnP; simp; omega)
 have hq2 : (1 - p.player) = (M.turnP r p).player := by first | rfl | (simp [M.turnP, List.take_of_length_le]; done) | (unfold M.turnP; simp; omega)
 exact zro x21

set_option maxHeartbeats 1000000 in
theorem c_spec_l04View (r : M.Rul) {v_r : Value} (p : M.Pos) {v_p : Value} {w : World} (h_r : (Ty.ref (cRules r)).ok w v_r) (h_p : (Ty.ref (cPosition p)).ok w v_p) (r0 : M.okV r p := by exact om_) : Ret Tryz.prog 74 [v_r, v_p] w (Ty.agg (cPosition (M.viewP r p))) := by
 have hl := M.okV_len r0
 have hpl := M.okV_pl r0
 revert v_r; apply opn
 intro b1 o1 hr1
 revert v_p; apply opn
 intro b4 o4 A2 c2 h2 bl2 bh2 A3 c3 h3 bl3 bh3 hr4
 refine enter @Tryz.func74 @Tryz.ntmps74 rfl rfl ?_
 refine zent ?_
 refine zS <| za zeh fun b5 => zJ <| zS <| Qm rfl <| Qc rfl <| Qf fh rfl <| QC (hr4 2 _ rfl) rfl <| Qe rfl rfl <| JL.nil ?_
 refine zi (fun h6 h6' => ?_) fun h6 h6' => ?_
 ·
  have hn0 : ¬ p.player = 0 := by have := h6'; omega
  have hK := M.okV_turn r0 hn0
  have hE := M.viewP_1 (r := r) hn0
  refine zS <| Qm rfl <| Qm rfl <| zc rfl (fun w hw => c_spec_l04Turn r p (ok_ hw) (ok_ hw) (r0 := hK)) ?_
  intro A8 c8 bl8 bh8 A9 c9 bl9 bh9
  have hq0 : ((M.turnP r p).pits) = (M.viewP r p).pits := by rw [hE]
  have hq1 : ((M.turnP r p).stores) = (M.viewP r p).stores := by rw [hE]
  have hq2 : ((M.turnP r p).player) = (M.viewP r p).player := by rw [hE]
  refine zw 2 rfl rfl rfl ?_
  refine JL.nil ?_
  exact zro (Up.refl _ _)
 have hE := M.viewP_0 (r := r) (p := p) (by have := h6'; omega)
 refine Js.skip <| zS <| Qm rfl <| zc rfl (fun w hw => c_spec_l04Own p (ok_ hw)) ?_
 intro A11 c11 bl11 bh11 A12 c12 bl12 bh12
 have hq0 : p.pits = (M.viewP r p).pits := by rw [hE]
 have hq1 : p.stores = (M.viewP r p).stores := by rw [hE]
 have hq2 : p.player = (M.viewP r p).player := by rw [hE]
 refine zw 2 rfl rfl rfl ?_
 refine JL.nil ?_
 exact zro (Up.refl _ _)

set_option maxHeartbeats 1000000 in
theorem c_spec_l20Find (b : M.Boo) {v_b : Value} (q : List Int) {v_q : Value} {w : World} (h_b : (Ty.ref (cBook b)).ok w v_b) (h_q : (Ty.ints 2 q).ok w v_q) (r0 : b.entries.length ≤ 4194304 := by exact om_) (r1 : ∀ x ∈ b.entries, x.pits.length ≤ 4194304 ∧ x.choices.length ≤ 4194304 := by exact om_) (r2 : q.length ≤ 4194304 := by exact om_) : RetV Tryz.prog 130 [v_b, v_q] w (.tuple #[.int .i64 (M.findE b.entries q : Int), .bool (M.hasE b.entries q)]) := by
 revert v_b; apply opn
 intro b2 o2 A1 c1 h1 bl1 bh1 hr2
 revert v_q; apply opn
 intro A3 c3 h3 bl3 bh3
 have h_q := h3
 refine enter @Tryz.func130 @Tryz.ntmps130 rfl rfl ?_
 refine zent ?_
 refine zS <| Qa rfl <| Qa rfl <| zJ <| zS <| Qa rfl <| JL.nil <| Js.block ?_
 refine zl [0, 1] (fun F U l os u m => ∃ (k : Nat), l = F [(6, .int .i64 (k : Int))] ∧ os = U [] ∧ (k + M.findE (b.entries.drop k) q = M.findE b.entries q) ∧ (k ≤ b.entries.length) ∧ m = b.entries.length - k) ⟨0, rfl, rfl, by simp, zt, rfl⟩ ?_
 rintro _ _ u4 _ ⟨k, rfl, rfl, hL, hk, rfl⟩ x4
 refine zn ?_
 refine Js.seq <| zS <| Qm rfl <| Qm rfl <| Qc rfl <| Qf fh rfl <| QC ((hr2.vis x4.vis) 9 _ rfl) rfl <| Qz rfl <| Ql rfl rfl <| JL.nil ?_
 refine zi (fun h5 h5' => ?_) fun h5 h5' => ?_
 ·
  have hkk : k < b.entries.length := by have := h5'; omega
  obtain ⟨e1_, e2_⟩ := r1 _ (M.ent_mem (es := b.entries) (k := k) hkk)
  have hy6 : b.entries[k]? = some (M.ent b.entries k) := M.ent_get (by omega)
  obtain ⟨b6, o6, A6_0, c6_0, A6_1, c6_1, he6, hr6, h6_0, h6_1, bl6_0, bh6_0, bl6_1, bh6_1⟩ := elem_BookEntry (Ty.mono _ h1 x4.vis) hy6
  refine Js.skip <| Js.seq <| Js.block <| zS <| Qm rfl <| Qc rfl <| Qf fh rfl <| QC ((hr2.vis x4.vis) 9 _ rfl) rfl <| Qm rfl <| Qq (p_indexAddr el_35 rfl rfl (by omega) (by omega) he6) <| Qf fh rfl <| QC (hr6 0 _ rfl) rfl <| Qm rfl <| zv rfl (fun w hw => c_spec_l04Lists ((M.ent b.entries k).pits) q (ok_ hw) (ok_ hw)) ?_
  refine Qa rfl <| zN <| Qm rfl <| Qh rfl rfl <| JL.nil ?_
  refine zi (fun h7 h7' => ?_) fun h7 h7' => ?_
  ·
   have hE := M.findE_hit hL hkk (by have := h7'; omega)
   have hE2 := M.hasE_hit hE hkk
   refine zS <| Qm rfl <| Qm rfl <| Qe rfl rfl <| Qa rfl <| Qa rfl <| JL.nil ?_
   refine zR x4 ?_
   rw [hE, hE2]; rfl
  have hL2 := M.findE_step hL hkk (by have := h7'; omega)
  refine Js.skip <| Js.blockEnd <| Js.region <| Qm rfl <| Qp rfl rfl <| Qa rfl <| JL.nil ?_
  exact zag ⟨k + 1, rfl, rfl, by exact hL2, zt, rfl⟩ x4
 have hE := M.findE_end hL (by have := h5'; omega) hk
 have hE2 := M.hasE_end hE
 refine zx ?_
 refine zS <| Qm rfl <| Qc rfl <| Qf fh rfl <| QC ((hr2.vis x4.vis) 9 _ rfl) rfl <| Qz rfl <| Qa rfl <| Qa rfl <| JL.nil ?_
 refine zR x4 ?_
 rw [hE, hE2]; rfl

end Go.Proofs.YtcmfnlleikcpnaaGreat


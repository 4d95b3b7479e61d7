/- Walks: G4. -/
import Derived.Test.YtcmfnlleikcpnaaGreatZvA3
import Derived.Test.YtcmfnlleikcpnaaGreatZvA9
import Derived.Test.YtcmfnlleikcpnaaGreatZvA2
import Derived.Test.YtcmfnlleikcpnaaGreatZvA6
import Derived.Test.YtcmfnlleikcpnaaGreatZvA4
import Derived.Test.YtcmfnlleikcpnaaGreatZvA1
import Derived.Test.YtcmfnlleikcpnaaGreatZvA0
import Derived.Test.YtcmfnlleikcpnaaGreatZvA7
import Derived.Test.YtcmfnlleikcpnaaGreatZvA8
set_option linter.unusedSimpArgs false
set_option linter.unusedVariables false
set_option maxRecDepth 100000
attribute [local irreducible] Go.Proofs.YtcmfnlleikcpnaaGreat.gv
namespace Go.Proofs.YtcmfnlleikcpnaaGreat
open Go.RowKit

set_option maxHeartbeats 1000000 in
theorem c_impl_Rules_results (r : M.Rul) {v_r : Value} (p : M.Pos) {v_p : Value} {w : World} (h_r : (Ty.agg (cRules r)).ok w v_r) (h_p : (Ty.agg (cPosition p)).ok w v_p) (r0 : M.okP r p = true := by exact om_) : Ret Tryz.prog 126 [v_r, v_p] w (Ty.sl 101 6 (M.results r p).length (lResult (M.results r p))) := by
 obtain ⟨g1, g2, g3, g4, g5, g6, g7⟩ := M.okP_bd r0
 revert v_r; apply opn
 revert v_p; apply opn
 intro A1 c1 h1 bl1 bh1 A2 c2 h2 bl2 bh2
 refine enter @Tryz.func126 @Tryz.ntmps126 rfl rfl ?_
 refine zent ?_
 obtain ⟨b3, o3, rfl⟩ := ints_some h2 (by omega)
 refine zS <| zb rfl fun b4 => zb rfl fun b5 => Qa rfl <| zN <| zbs fun b6 => ?_
 refine Qa rfl <| zJ <| zS <| Qf fh rfl <| Q0 2 rfl rfl rfl <| Qm rfl <| JL.nil <| Js.block ?_
 refine Js.vals (Ts := lResult []) (vs := []) (fun w => rfl) ?_
 refine zl [2, 3, 13] (fun F U l os u m => ∃ (k : Nat) (acc : List M.Res) (A8_5 : Option Addr) (c8_5 : Nat) (g8_5 : List Nat) (vs8_5 : List Value) (fl8_5 : List Nat), l = F [(5, .slice A8_5 acc.length c8_5), (14, .int .i64 (k : Int))] ∧ os = U [some (ownC (lResult acc) vs8_5 fl8_5), some (rowO 101 6 (.slice A8_5 acc.length c8_5) acc.length vs8_5 g8_5)] ∧ (acc = M.resultsTo r p k) ∧ (k ≤ r.pits) ∧ (acc.length ≤ c8_5) ∧ (c8_5 ≤ 9223372036854775807) ∧ m = (r.pits - k).toNat) ⟨0, [], _, _, _, _, _, rfl, rfl, by rfl, zt, zu, zu, rfl⟩ ?_
 rintro _ _ u8 _ ⟨k, acc, A8_5, c8_5, g8_5, vs8_5, fl8_5, rfl, rfl, hacc, hk, f8_2, f8_3, rfl⟩ x8
 refine zn ?_
 have hlen := M.resultsTo_len (r := r) (p := p) k
 have hlacc : acc.length ≤ k := by rw [hacc]; exact hlen
 refine zS <| Ql rfl rfl <| zJ ?_
 refine zi (fun h9 h9' => ?_) fun h9 h9' => ?_
 ·
  refine Js.skip <| Js.seq <| Js.block <| zS <| Qm rfl <| Qa rfl <| zN <| Q9 3 rfl rfl ?_
  refine Q9 2 rfl rfl ?_
  refine Qm rfl <| zc rfl (fun w hw => c_impl_Rules_done r p (k : Int) (ok_ hw) (ok_ hw)) ?_
  intro A12 c12 bl12 bh12 A13 c13 bl13 bh13
  refine Qm rfl <| Qx rfl rfl <| Qx rfl rfl <| za zeh fun b14 => zw 0 rfl rfl rfl ?_
  refine Qa rfl <| zJ <| zS <| Qm rfl <| Qd rfl rfl <| JL.nil ?_
  refine zi (fun h15 h15' => ?_) fun h15 h15' => ?_
  ·
   have hacc2 := (M.resultsTo_no (r := r) (p := p) (k := k) (by simpa using h15)).symm
   refine zx ?_
   refine Js.region <| Qp rfl rfl <| Qm rfl <| JL.nil ?_
   refine zd [3, 3, 3, 3] rfl fun u16 x16 => ?_
   exact zag ⟨k + 1, acc, _, _, _, _, _, rfl, rfl, by rw [hacc]; exact hacc2, zt, zu, zu, rfl⟩ (x8.trans x16)
  have hz : (M.done r p k).2 = 0 := by simpa using h15
  obtain ⟨_, _, _, hG⟩ := M.done_good hz
  have l3 := hG.ls
  have hs1 := hG.store p.player
  have hs2 := (M.Good.of_ok r0).store p.player
  refine Js.fact (row_some (i := 1) rfl (by omega)) (fun hf17 => ?_)
  obtain ⟨b17, rfl⟩ := hf17
  refine Js.skip <| zS <| Qf fh rfl <| Q0 6 rfl rfl rfl <| Qm rfl <| zg (Gd.t1 rfl rfl rfl) (fun hc => p_fieldAddr fld_162_2.h rfl) <| zgq (Gd.t1 rfl rfl rfl) (fun hc => q_load1 ty_2.h (gh hc rfl) (Mem.box (i := 0) rfl rfl)) <| zg (Gd.t1 rfl rfl rfl) (fun hc => p_eql (gh hc rfl) rfl) <| Qq (p_pickAnd rfl rfl rfl) <| Qa rfl <| zN <| Qf fh rfl <| Q0 0 rfl rfl rfl <| Qf fh rfl ?_
  refine Q0 0 rfl rfl rfl <| Qf fh rfl <| Q0 5 rfl rfl rfl <| Qs rfl rfl <| Qb ?_
  refine za zeh fun b18 => zw 0 rfl rfl rfl ?_
  refine zJ <| zS <| Qm rfl <| JL.nil ?_
  refine zi (fun h19 h19' => ?_) fun h19 h19' => ?_
  ·
   have hacc2 := (M.resultsTo_yes hz).symm
   unfold M.resOf at hacc2
   rw [if_pos h19] at hacc2
   refine Js.region <| Qf fh rfl <| Q0 6 rfl rfl rfl <| Qf fh rfl <| zw 0 rfl rfl rfl ?_
   refine JL.nil ?_
   refine zdr [19] ?_
   refine JH.p 0 rfl (p_move rfl) ?_
   refine JH.p 1 rfl (p_move rfl) ?_
   refine JH.p 2 rfl (p_fieldAddr fld_162_1.h rfl) ?_
   refine JH.q 3 rfl (q_load1 ty_27.h rfl (Mem.box (i := 1) rfl rfl)) ?_
   refine JH.p 4 rfl (p_fieldAddr fld_39_2.h rfl) ?_
   refine JH.q 5 rfl (q_load1 ty_2.h rfl (Mem.box (i := 6) rfl rfl)) ?_
   refine JH.p 6 rfl (p_indexAddr el_27 rfl rfl (by omega) (by omega) rfl) ?_
   refine JH.q 7 rfl (q_load1 ty_2.h rfl (Mem.row (i := 2) rfl (ints_getI (i := p.player) (by omega)))) ?_
   refine JH.p 8 rfl (p_fieldAddr fld_39_1.h rfl) ?_
   refine JH.q 9 rfl (q_load1 ty_27.h rfl (Mem.box (i := 6) rfl rfl)) ?_
   refine JH.p 10 rfl (p_fieldAddr fld_39_2.h rfl) ?_
   refine JH.q 11 rfl (q_load1 ty_2.h rfl (Mem.box (i := 6) rfl rfl)) ?_
   refine JH.p 12 rfl (p_indexAddr el_27 rfl rfl (by omega) (by omega) rfl) ?_
   refine JH.w 13 rfl (fun os' u' hv => q_load1 ty_2.h rfl (Mem.pub (ints_cellI (i := p.player) (Ty.mono _ h2 (x8.vis.trans hv)) (by omega)))) ?_
   refine JH.p 14 rfl (p_sub rfl rfl (IntWalk.i64_in _ (by omega))) ?_
   refine JH.p 15 rfl (p_move rfl) ?_
   refine JH.q 16 rfl (L9 0 rfl rfl) ?_
   refine JH.p 17 rfl (q_bld) ?_
   refine y1 18 ?_
   refine ybs rfl fun b22 => ?_
   refine y1 19 ?_
   refine JHo.e rfl (e_append (i := 6) (n' := (acc ++ [(M.Res.mk (k : Int) ((M.getI (((M.done r p (k : Int)).1).stores) p.player) - (M.getI p.stores p.player)) (r.again && (decide (((M.done r p (k : Int)).1).last = (-1)))) (M.Pos.mk (((M.done r p (k : Int)).1).pits) (((M.done r p (k : Int)).1).stores) p.player))]).length) (vs' := vs8_5 ++ [.int .i64 (k : Int), .int .i64 ((M.getI (((M.done r p (k : Int)).1).stores) p.player) - (M.getI p.stores p.player)), .bool (r.again && (decide (((M.done r p (k : Int)).1).last = (-1)))), .slice A12 ((((M.done r p (k : Int)).1).pits).length) c12, .slice (some ⟨b17, 0, none⟩) ((((M.done r p (k : Int)).1).stores).length) c13, .int .i64 p.player]) el_131 rfl rfl rfl rfl (src_row (i := 0) und_131 rfl rfl) (by omega) (by omega) (by first | omega | (simp only [List.length_append, List.length_cons, List.length_nil, List.length_take, List.length_drop] <;> omega)) (rfl)) (.inr rfl) ?_
   rintro v24 _ _ ⟨⟨g25, rfl⟩, rfl⟩ _
   refine JH.fact (row_form' (i := 6) rfl) (fun hf26 => ?_)
   obtain ⟨A26, c26, rfl, bl26, bh26⟩ := hf26
   refine znh ?_
   refine JH.p 20 rfl (p_assign rfl) ?_
   refine yd ?_
   refine Js.pack2 (i := 4) (j := 3) (cResult (M.Res.mk (k : Int) ((M.getI (((M.done r p (k : Int)).1).stores) p.player) - (M.getI p.stores p.player)) (r.again && (decide (((M.done r p (k : Int)).1).last = (-1)))) (M.Pos.mk (((M.done r p (k : Int)).1).pits) (((M.done r p (k : Int)).1).stores) p.player))) [.int .i64 (k : Int), .int .i64 ((M.getI (((M.done r p (k : Int)).1).stores) p.player) - (M.getI p.stores p.player)), .bool (r.again && (decide (((M.done r p (k : Int)).1).last = (-1)))), .slice A12 ((((M.done r p (k : Int)).1).pits).length) c12, .slice (some ⟨b17, 0, none⟩) ((((M.done r p (k : Int)).1).stores).length) c13, .int .i64 p.player] rfl rfl (fun w h1 h2 => pack_Result (ints_row h1 rfl) (ints_row h2 rfl)) (fun f27 => ?_)
   refine Js.joinL (i := 4) (j := 0) (Vs := lResult (acc ++ [(M.Res.mk (k : Int) ((M.getI (((M.done r p (k : Int)).1).stores) p.player) - (M.getI p.stores p.player)) (r.again && (decide (((M.done r p (k : Int)).1).last = (-1)))) (M.Pos.mk (((M.done r p (k : Int)).1).pits) (((M.done r p (k : Int)).1).stores) p.player))])) rfl rfl (lResult_snoc _ _) (fun f28 => ?_)
   refine zn ?_
   refine Js.blockEnd <| Js.region <| Qp rfl rfl <| Qm rfl <| JL.nil ?_
   refine zd [0, 3, 3, 3] rfl fun u29 x29 => ?_
   exact zag ⟨k + 1, acc ++ [(M.Res.mk (k : Int) ((M.getI (((M.done r p (k : Int)).1).stores) p.player) - (M.getI p.stores p.player)) (r.again && (decide (((M.done r p (k : Int)).1).last = (-1)))) (M.Pos.mk (((M.done r p (k : Int)).1).pits) (((M.done r p (k : Int)).1).stores) p.player))], _, _, _, _, _, rfl, rfl, by rw [hacc]; exact hacc2, zt, zu, zu, rfl⟩ (x8.trans x29)
  have hacc2 := (M.resultsTo_yes hz).symm
  unfold M.resOf at hacc2
  rw [if_neg (by simpa using h19)] at hacc2
  refine Js.skip ?_
  refine zdr [19] ?_
  refine JH.p 0 rfl (p_move rfl) ?_
  refine JH.p 1 rfl (p_move rfl) ?_
  refine JH.p 2 rfl (p_fieldAddr fld_162_1.h rfl) ?_
  refine JH.q 3 rfl (q_load1 ty_27.h rfl (Mem.box (i := 1) rfl rfl)) ?_
  refine JH.p 4 rfl (p_fieldAddr fld_39_2.h rfl) ?_
  refine JH.q 5 rfl (q_load1 ty_2.h rfl (Mem.box (i := 6) rfl rfl)) ?_
  refine JH.p 6 rfl (p_indexAddr el_27 rfl rfl (by omega) (by omega) rfl) ?_
  refine JH.q 7 rfl (q_load1 ty_2.h rfl (Mem.row (i := 2) rfl (ints_getI (i := p.player) (by omega)))) ?_
  refine JH.p 8 rfl (p_fieldAddr fld_39_1.h rfl) ?_
  refine JH.q 9 rfl (q_load1 ty_27.h rfl (Mem.box (i := 6) rfl rfl)) ?_
  refine JH.p 10 rfl (p_fieldAddr fld_39_2.h rfl) ?_
  refine JH.q 11 rfl (q_load1 ty_2.h rfl (Mem.box (i := 6) rfl rfl)) ?_
  refine JH.p 12 rfl (p_indexAddr el_27 rfl rfl (by omega) (by omega) rfl) ?_
  refine JH.w 13 rfl (fun os' u' hv => q_load1 ty_2.h rfl (Mem.pub (ints_cellI (i := p.player) (Ty.mono _ h2 (x8.vis.trans hv)) (by omega)))) ?_
  refine JH.p 14 rfl (p_sub rfl rfl (IntWalk.i64_in _ (by omega))) ?_
  refine JH.p 15 rfl (p_move rfl) ?_
  refine JH.q 16 rfl (L9 0 rfl rfl) ?_
  refine JH.p 17 rfl (q_bld) ?_
  refine y1 18 ?_
  refine ybs rfl fun b32 => ?_
  refine y1 19 ?_
  refine JHo.e rfl (e_append (i := 6) (n' := (acc ++ [(M.Res.mk (k : Int) ((M.getI (((M.done r p (k : Int)).1).stores) p.player) - (M.getI p.stores p.player)) (r.again && (decide (((M.done r p (k : Int)).1).last = (-1)))) (M.Pos.mk (((M.done r p (k : Int)).1).pits) (((M.done r p (k : Int)).1).stores) (1 - p.player)))]).length) (vs' := vs8_5 ++ [.int .i64 (k : Int), .int .i64 ((M.getI (((M.done r p (k : Int)).1).stores) p.player) - (M.getI p.stores p.player)), .bool (r.again && (decide (((M.done r p (k : Int)).1).last = (-1)))), .slice A12 ((((M.done r p (k : Int)).1).pits).length) c12, .slice (some ⟨b17, 0, none⟩) ((((M.done r p (k : Int)).1).stores).length) c13, .int .i64 (1 - p.player)]) el_131 rfl rfl rfl rfl (src_row (i := 0) und_131 rfl rfl) (by omega) (by omega) (by first | omega | (simp only [List.length_append, List.length_cons, List.length_nil, List.length_take, List.length_drop] <;> omega)) (rfl)) (.inr rfl) ?_
  rintro v34 _ _ ⟨⟨g35, rfl⟩, rfl⟩ _
  refine JH.fact (row_form' (i := 6) rfl) (fun hf36 => ?_)
  obtain ⟨A36, c36, rfl, bl36, bh36⟩ := hf36
  refine znh ?_
  refine JH.p 20 rfl (p_assign rfl) ?_
  refine yd ?_
  refine Js.pack2 (i := 4) (j := 3) (cResult (M.Res.mk (k : Int) ((M.getI (((M.done r p (k : Int)).1).stores) p.player) - (M.getI p.stores p.player)) (r.again && (decide (((M.done r p (k : Int)).1).last = (-1)))) (M.Pos.mk (((M.done r p (k : Int)).1).pits) (((M.done r p (k : Int)).1).stores) (1 - p.player)))) [.int .i64 (k : Int), .int .i64 ((M.getI (((M.done r p (k : Int)).1).stores) p.player) - (M.getI p.stores p.player)), .bool (r.again && (decide (((M.done r p (k : Int)).1).last = (-1)))), .slice A12 ((((M.done r p (k : Int)).1).pits).length) c12, .slice (some ⟨b17, 0, none⟩) ((((M.done r p (k : Int)).1).stores).length) c13, .int .i64 (1 - p.player)] rfl rfl (fun w h1 h2 => pack_Result (ints_row h1 rfl) (ints_row h2 rfl)) (fun f37 => ?_)
  refine Js.joinL (i := 4) (j := 0) (Vs := lResult (acc ++ [(M.Res.mk (k : Int) ((M.getI (((M.done r p (k : Int)).1).stores) p.player) - (M.getI p.stores p.player)) (r.again && (decide (((M.done r p (k : Int)).1).last = (-1)))) (M.Pos.mk (((M.done r p (k : Int)).1).pits) (((M.done r p (k : Int)).1).stores) (1 - p.player)))])) rfl rfl (lResult_snoc _ _) (fun f38 => ?_)
  refine zn ?_
  refine Js.blockEnd <| Js.region <| Qp rfl rfl <| Qm rfl <| JL.nil ?_
  refine zd [0, 3, 3, 3] rfl fun u39 x39 => ?_
  exact zag ⟨k + 1, acc ++ [(M.Res.mk (k : Int) ((M.getI (((M.done r p (k : Int)).1).stores) p.player) - (M.getI p.stores p.player)) (r.again && (decide (((M.done r p (k : Int)).1).last = (-1)))) (M.Pos.mk (((M.done r p (k : Int)).1).pits) (((M.done r p (k : Int)).1).stores) (1 - p.player)))], _, _, _, _, _, rfl, rfl, by rw [hacc]; exact hacc2, zt, zu, zu, rfl⟩ (x8.trans x39)
 have hR : acc = M.results r p := by rw [hacc]; unfold M.results; rw [show k = r.pits.toNat by omega]
 refine zx ?_
 have hq0 : acc = M.results r p := by exact hR
 refine zS <| Qm rfl <| Qa rfl <| JL.nil ?_
 exact zro x8

set_option maxHeartbeats 1000000 in
theorem c_impl_Rules_resultOf (r : M.Rul) {v_r : Value} (p : M.Pos) {v_p : Value} (move : Int) {w : World} (h_r : (Ty.agg (cRules r)).ok w v_r) (h_p : (Ty.agg (cPosition p)).ok w v_p) (r0 : p.pits.length ≤ 4194304 := by exact om_) (r1 : p.stores.length ≤ 4194304 := by exact om_) : Ret Tryz.prog 67 [v_r, v_p, .int .i64 move] w (Ty.tup [Ty.agg (cResult ((M.make r p move).1)), Ty.int ((M.make r p move).2)]) := by
 revert v_r; apply opn
 revert v_p; apply opn
 intro A1 c1 h1 bl1 bh1 A2 c2 h2 bl2 bh2
 refine enter @Tryz.func67 @Tryz.ntmps67 rfl rfl ?_
 refine zent ?_
 refine zS <| zb rfl fun b3 => zb rfl fun b4 => za zeh fun b5 => Qa rfl <| zJ <| zS <| Q9 2 rfl rfl ?_
 refine Q9 1 rfl rfl ?_
 refine Qm rfl <| zv rfl (fun w hw => c_impl_MoveFault r p move (ok_ hw) (ok_ hw)) <| Qa rfl <| zN <| Qm rfl <| Qd rfl rfl <| JL.nil ?_
 refine zi (fun h6 h6' => ?_) fun h6 h6' => ?_
 ·
  have hD := M.make_no (r := r) (p := p) (move := move) (by simpa using h6)
  have hq0 : 0 = ((M.make r p move).1).move := by first | exact hE | (rw [hm]; done) | (rw [hD]; done) | (rw [hD]; rfl)
  have hq1 : 0 = ((M.make r p move).1).gain := by first | exact hE | (rw [hm]; done) | (rw [hD]; done) | (rw [hD]; rfl)
  have hq2 : false = ((M.make r p move).1).again := by first | exact hE | (rw [hm]; done) | (rw [hD]; done) | (rw [hD]; rfl)
  have hq3 : [] = (((M.make r p move).1).next).pits := by first | exact hE | (rw [hm]; done) | (rw [hD]; done) | (rw [hD]; rfl)
  have hq4 : [] = (((M.make r p move).1).next).stores := by first | exact hE | (rw [hm]; done) | (rw [hD]; done) | (rw [hD]; rfl)
  have hq5 : 0 = (((M.make r p move).1).next).player := by first | exact hE | (rw [hm]; done) | (rw [hD]; done) | (rw [hD]; rfl)
  have hq6 : ((M.done r p move).2) = (M.make r p move).2 := by first | exact hE | (rw [hm]; done) | (rw [hD]; done) | (rw [hD]; rfl)
  refine zS <| Qb ?_
  refine Qm rfl <| zw 0 rfl rfl rfl ?_
  refine Qa rfl <| JL.nil ?_
  exact zro (Up.refl _ _)
 have hz : (M.done r p move).2 = 0 := by simpa using h6
 have hm : (M.make r p move).2 = 0 := by rw [M.make_code]; exact hz
 have hok := (M.make_ok hm).1
 refine Js.skip <| Js.seq <| zS <| Q9 2 rfl rfl ?_
 refine Q9 1 rfl rfl ?_
 refine zcs rfl (fun w hw => c_impl_Rules_results r p (ok_ hw) (ok_ hw) (r0 := hok)) ?_
 intro A7 c7 vs7 f7 bl7 bh7
 refine Qz rfl <| Qm rfl <| JL.nil <| Js.block ?_
 refine zl [2, 6, 21, 22] (fun F U l os u m => ∃ (k : Nat), l = F [(23, .int .i64 (k : Int))] ∧ os = U [] ∧ (k ≤ (M.results r p).length) ∧ (∀ (j : Nat) (x : M.Res), j < k → (M.results r p)[j]? = some x → x.move ≠ move) ∧ m = (M.results r p).length - k) ⟨0, rfl, rfl, zt, by exact fun j x hj => absurd hj (by omega), rfl⟩ ?_
 rintro _ _ u8 _ ⟨k, rfl, rfl, hk, hn, rfl⟩ x8
 refine zn ?_
 refine zS <| Ql rfl rfl <| zJ ?_
 refine zi (fun h9 h9' => ?_) fun h9 h9' => ?_
 ·
  refine Js.skip <| Js.seq <| Js.block <| zS ?_
  refine JL.fact (row_some (i := 0) rfl (by omega)) (fun hf11 => ?_)
  obtain ⟨b11, rfl⟩ := hf11
  obtain ⟨y10, hy10⟩ : ∃ x, (M.results r p)[k]? = some x := ⟨_, List.getElem?_eq_getElem (by omega)⟩
  refine JL.fact (fun w hw => elemv_Result (Mem.ownC (i := 1) rfl w hw) hy10) (fun hf10 => ?_)
  obtain ⟨A10_3, c10_3, A10_4, c10_4, he10, bl10_3, bh10_3, bl10_4, bh10_4⟩ := hf10
  refine Qq (p_indexAddr el_131 rfl rfl (by omega) (by omega) rfl) <| Qw (q_loadN ty_101.h rfl (Mem.rowR' (i := 0) rfl he10) rfl rfl) <| za zeh fun b12 => zw 0 rfl rfl rfl ?_
  refine zN <| Qf fh rfl <| Q0 0 rfl rfl rfl <| Qm rfl <| Qe rfl rfl <| JL.nil ?_
  refine zi (fun h13 h13' => ?_) fun h13 h13' => ?_
  ·
   have hE := M.results_get hy10 (by simpa using h13)
   have hm2 := hm.symm
   refine zS <| Q9 0 rfl rfl ?_
   refine zw 3 rfl rfl rfl ?_
   refine Qa rfl <| JL.nil ?_
   refine Js.elemO cResult (i := 2) (xs := (M.results r p)) (fun _ => rfl) rfl hy10 he10 (fun f14 f14a f14b => ?_)
   refine zn ?_
   have hq0 : y10 = (M.make r p move).1 := by first | exact hE | (rw [hm]; done) | (rw [hD]; done) | (rw [hD]; rfl)
   have hq1 : 0 = (M.make r p move).2 := by first | exact hE | (rw [hm]; done) | (rw [hD]; done) | (rw [hD]; rfl)
   exact zro x8
  have hn2 := M.none_step hn hy10 (by simpa using h13)
  refine Js.skip <| Js.blockEnd <| Js.region <| Qp rfl rfl <| Qm rfl <| JL.nil ?_
  refine zd [1, 1, 1, 1, 1] rfl fun u15 x15 => ?_
  exact zag ⟨k + 1, rfl, rfl, zt, by exact hn2, rfl⟩ (x8.trans x15)
 obtain ⟨j, hj, hx, hmv⟩ := M.results_has hm; have h9 := h9; simp at h9; exact absurd hmv (hn j _ (by omega) hx)

end Go.Proofs.YtcmfnlleikcpnaaGreat

namespace Go.Proofs.YtcmfnlleikcpnaaGreat
open Go.RowKit

set_option maxHeartbeats 1000000 in
theorem c_impl_compareNumbers (a : List Int) {v_a : Value} (b : List Int) {v_b : Value} {w : World} (h_a : (Ty.ints 2 a).ok w v_a) (h_b : (Ty.ints 2 b).ok w v_b) (r0 : a.length ≤ 4194304 := by exact om_) (r1 : b.length ≤ 4194304 := by exact om_) : RetV Tryz.prog 110 [v_a, v_b] w (.int .i64 (M.cmpL a b)) := by
 revert v_a; apply opn
 intro A1 c1 h1 bl1 bh1
 have h_a := h1
 revert v_b; apply opn
 intro A2 c2 h2 bl2 bh2
 have h_b := h2
 refine enter @Tryz.func110 @Tryz.ntmps110 rfl rfl ?_
 refine zent ?_
 refine zS <| Qa rfl <| zJ <| zS <| Qm rfl <| Qz rfl <| Qm rfl <| Qz rfl <| Qq (p_min rfl rfl) <| Qm rfl <| JL.nil <| Js.block ?_
 refine zl [0, 1, 10] (fun F U l os u m => ∃ (k : Nat), l = F [(11, .int .i64 (k : Int))] ∧ os = U [] ∧ (M.cmpL (a.drop k) (b.drop k) = M.cmpL a b) ∧ (k ≤ a.length) ∧ (k ≤ b.length) ∧ m = a.length - k) ⟨0, rfl, rfl, by rfl, zt, zt, rfl⟩ ?_
 rintro _ _ u3 _ ⟨k, rfl, rfl, hC, hka, hkb, rfl⟩ x3
 refine zn ?_
 refine zS <| Ql rfl rfl <| zJ ?_
 refine zi (fun h4 h4' => ?_) fun h4 h4' => ?_
 ·
  have hab : k < a.length ∧ k < b.length := by have := h4'; omega
  refine Js.skip <| Js.seq <| Js.block <| zS <| Qm rfl <| Qa rfl <| JL.nil <| Js.block <| Js.seq ?_
  refine zdr [] ?_
  refine JH.p 0 rfl (p_move rfl) ?_
  refine JH.p 1 rfl (p_move rfl) ?_
  obtain ⟨b5, o5, he5, hc5⟩ := ints_elem (Ty.mono _ h1 x3.vis) (i := k) (by omega)
  refine JH.p 2 rfl (p_indexAddr el_27 rfl rfl (by omega) (by omega) he5) ?_
  refine JH.w 3 rfl (fun os' u' hv => q_load1 ty_2.h rfl (Mem.pub (hc5.vis hv))) ?_
  refine JH.p 4 rfl (p_move rfl) ?_
  refine JH.p 5 rfl (p_move rfl) ?_
  obtain ⟨b6, o6, he6, hc6⟩ := ints_elem (Ty.mono _ h2 x3.vis) (i := k) (by omega)
  refine JH.p 6 rfl (p_indexAddr el_27 rfl rfl (by omega) (by omega) he6) ?_
  refine JH.w 7 rfl (fun os' u' hv => q_load1 ty_2.h rfl (Mem.pub (hc6.vis hv))) ?_
  refine JH.p 8 rfl (p_lss rfl rfl) ?_
  refine JH.p 9 rfl (p_assign rfl) ?_
  refine yd ?_
  refine zi (fun h7 h7' => ?_) fun h7 h7' => ?_
  ·
   have hE := M.cmpL_lt hC hab.1 hab.2 (by have := h7'; omega)
   refine zS <| Qa rfl <| JL.nil ?_
   refine zR x3 ?_
   first | (rw [hE]; done) | (rw [hE]; rfl)
  have h1_ : ¬ M.nth a k < M.nth b k := by have := h7'; omega
  refine Js.seq ?_
  refine zdr [] ?_
  refine JH.p 0 rfl (p_move rfl) ?_
  refine JH.p 1 rfl (p_move rfl) ?_
  obtain ⟨b8, o8, he8, hc8⟩ := ints_elem (Ty.mono _ h1 x3.vis) (i := k) (by omega)
  refine JH.p 2 rfl (p_indexAddr el_27 rfl rfl (by omega) (by omega) he8) ?_
  refine JH.w 3 rfl (fun os' u' hv => q_load1 ty_2.h rfl (Mem.pub (hc8.vis hv))) ?_
  refine JH.p 4 rfl (p_move rfl) ?_
  refine JH.p 5 rfl (p_move rfl) ?_
  obtain ⟨b9, o9, he9, hc9⟩ := ints_elem (Ty.mono _ h2 x3.vis) (i := k) (by omega)
  refine JH.p 6 rfl (p_indexAddr el_27 rfl rfl (by omega) (by omega) he9) ?_
  refine JH.w 7 rfl (fun os' u' hv => q_load1 ty_2.h rfl (Mem.pub (hc9.vis hv))) ?_
  refine JH.p 8 rfl (p_gtr rfl rfl) ?_
  refine JH.p 9 rfl (p_assign rfl) ?_
  refine yd ?_
  refine zi (fun h10 h10' => ?_) fun h10 h10' => ?_
  ·
   have hE := M.cmpL_gt hC hab.1 hab.2 (by have := h10'; omega)
   refine zS <| Qa rfl <| JL.nil ?_
   refine zR x3 ?_
   first | (rw [hE]; done) | (rw [hE]; rfl)
  have hC2 := M.cmpL_step hC hab.1 hab.2 h1_ (by have := h10'; omega)
  refine Js.skip <| Js.blockEnd <| Js.blockEnd <| Js.region <| Qp rfl rfl <| Qm rfl <| JL.nil ?_
  exact zag ⟨k + 1, rfl, rfl, by exact hC2, zt, zt, rfl⟩ x3
 have hE := M.cmpL_end hC (by have := h4'; omega) hka hkb
 refine zx ?_
 refine Js.seq <| Js.block <| zS <| Qm rfl <| Qz rfl <| Qm rfl <| Qz rfl <| Ql rfl rfl <| Qa rfl <| JL.nil ?_
 refine zi (fun h11 h11' => ?_) fun h11 h11' => ?_
 ·
  rw [if_pos (by have := h11'; omega)] at hE
  refine zS <| Qa rfl <| JL.nil ?_
  refine zR x3 ?_
  first | (rw [hE]; done) | (rw [hE]; rfl)
 rw [if_neg (by have := h11'; omega)] at hE
 refine zS <| Qm rfl <| Qz rfl <| Qm rfl <| Qz rfl <| Qg rfl rfl <| Qa rfl <| JL.nil ?_
 refine zi (fun h12 h12' => ?_) fun h12 h12' => ?_
 ·
  rw [if_pos (by have := h12'; omega)] at hE
  refine zS <| Qa rfl <| JL.nil ?_
  refine zR x3 ?_
  first | (rw [hE]; done) | (rw [hE]; rfl)
 rw [if_neg (by have := h12'; omega)] at hE
 refine Js.skip <| Js.blockEnd <| zS <| Qa rfl <| JL.nil ?_
 refine zR x3 ?_
 first | (rw [hE]; done) | (rw [hE]; rfl)

set_option maxHeartbeats 1000000 in
theorem c_impl_BookEntry_position (e : M.Ent) {Ae_0 : Option Addr} {ce_0 : Nat} {Ae_1 : Option Addr} {ce_1 : Nat} {w : World}  : Ret Tryz.prog 156 [.agg #[.slice Ae_0 e.pits.length ce_0, .slice Ae_1 e.choices.length ce_1]] w (Ty.agg [Ty.val (.slice Ae_0 e.pits.length ce_0), Ty.ints 2 [0, 0], Ty.int 0]) := by
 refine enter @Tryz.func156 @Tryz.ntmps156 rfl rfl ?_
 refine zent ?_
 refine zS <| zb rfl fun b1 => za zeh fun b2 => zN <| Qf fh rfl <| Q0 1 rfl rfl rfl <| zbs fun b3 => ?_
 refine Qb ?_
 refine zw 1 rfl rfl rfl ?_
 refine JL.nil ?_
 exact zro (Up.refl _ _)

set_option maxHeartbeats 4000000 in
theorem c_impl_Rules_validEntry (r : M.Rul) {v_r : Value} (e : M.Ent) {v_e : Value} {w : World} (h_r : (Ty.agg (cRules r)).ok w v_r) (h_e : (Ty.agg (cBookEntry e)).ok w v_e) (r0 : e.pits.length ≤ 4194304 := by exact om_) (r1 : e.choices.length ≤ 4194304 := by exact om_) : RetV Tryz.prog 111 [v_r, v_e] w (.bool (M.okE r e)) := by
 have p5 : (M.posE e.pits).stores.length ≤ 4194304 := (by decide : ([0, 0] : List Int).length ≤ 4194304)
 have p6 : (M.posE e.pits).pits.length ≤ 4194304 := r0
 revert v_r; apply opn
 revert v_e; apply opn
 intro A1 c1 h1 bl1 bh1 A2 c2 h2 bl2 bh2
 refine enter @Tryz.func111 @Tryz.ntmps111 rfl rfl ?_
 refine zent ?_
 refine zS <| zb rfl fun b3 => zb rfl fun b4 => Qa rfl <| zJ <| Js.seq ?_
 refine zdr [] ?_
 refine JH.q 0 rfl (L9 1 rfl rfl) ?_
 refine JH.q 1 rfl (L9 0 rfl rfl) ?_
 refine y1 2 ?_
 refine yc rfl rfl (fun w hw => c_impl_BookEntry_position e) ?_
 intro A5 c5 bl5 bh5
 refine y1 3 ?_
 refine yv rfl rfl (fun w hw => c_impl_ValidPosition r (M.posE e.pits) (ok_ hw) (ok_ hw)) ?_
 refine JH.p 4 rfl (p_not rfl) ?_
 refine JH.p 5 rfl (p_move rfl) ?_
 refine JH.pg 6 rfl (Gd.f1 rfl rfl rfl) (fun hc => p_fieldAddr fld_89_1.h rfl) ?_
 refine JH.qg 7 rfl (Gd.f1 rfl rfl rfl) (fun hc => q_load1 ty_67.h (gvt rfl hc) (Mem.box (i := 0) rfl rfl)) ?_
 refine JH.pg 8 rfl (Gd.f1 rfl rfl rfl) (fun hc => p_len el_67 (gvt rfl hc)) ?_
 refine JH.pg 9 rfl (Gd.f1 rfl rfl rfl) (fun hc => p_eql (gvt rfl hc) rfl) ?_
 refine JH.p 10 rfl (p_pickOr rfl rfl rfl) ?_
 refine yd ?_
 refine zi (fun h6 h6' => ?_) fun h6 h6' => ?_
 ·
  have hE := M.okE_p (r := r) (e := e) (by have h9 := h6; simp only [Bool.or_eq_true, Bool.not_eq_true', decide_eq_true_eq] at h9; exact h9.imp id (fun h => by omega))
  refine zS <| Qa rfl <| JL.nil ?_
  refine zR (Up.refl _ _) ?_
  first | (rw [hE, hE2]; rfl) | (rw [hE]; rfl)
 have h9 := h6
 simp at h9
 have hE := M.okE_cs h9.1 (by omega)
 refine Js.skip <| Js.seq <| zS <| Qf fh rfl <| Q0 1 rfl rfl rfl <| Qz rfl <| Qm rfl <| JL.nil <| Js.block ?_
 refine zl [2, 3, 19, 20] (fun F U l os u m => ∃ (k : Nat), l = F [(21, .int .i64 (k : Int))] ∧ os = U [] ∧ (M.AllB (M.chAt r (M.posE e.pits) e.choices) k) ∧ (k ≤ e.choices.length) ∧ m = e.choices.length - k) ⟨0, rfl, rfl, by exact M.AllB.zero _, zt, rfl⟩ ?_
 rintro _ _ u7 _ ⟨k, rfl, rfl, hA, hk, rfl⟩ x7
 refine zn ?_
 refine zS <| Ql rfl rfl <| zJ ?_
 refine zi (fun h8 h8' => ?_) fun h8 h8' => ?_
 ·
  have hy9 : e.choices[k]? = some (M.cho e.choices k) := M.cho_get (by omega)
  obtain ⟨b9, o9, he9, hr9⟩ := elem_Choice (Ty.mono _ h2 x7.vis) hy9
  refine Js.skip <| Js.seq <| Js.block <| zS <| Qm rfl <| Qq (p_indexAddr el_67 rfl rfl (by omega) (by omega) he9) <| QS 0 hr9 rfl ?_
  refine za zeh fun b10 => Qa rfl <| zw 0 rfl rfl rfl ?_
  refine zJ ?_
  rcases Bool.eq_false_or_eq_true ((decide (0 < (k : Int))) && (decide ((M.cho e.choices k).move ≤ (M.cho e.choices (((k : Int) - 1).toNat)).move))) with h11 | h11
  ·
   refine zdr [] ?_
   refine JH.p 0 rfl (p_move rfl) ?_
   refine JH.p 1 rfl (p_gtr rfl rfl) ?_
   refine JH.p 2 rfl (p_move rfl) ?_
   refine JH.pg 3 rfl (Gd.t1 rfl rfl rfl) (fun hc => p_fieldAddr fld_81_0.h rfl) ?_
   refine JH.qg 4 rfl (Gd.t1 rfl rfl rfl) (fun hc => q_load1 ty_2.h (gvt rfl hc) (Mem.box (i := 0) rfl rfl)) ?_
   refine JH.pg 5 rfl (Gd.t1 rfl rfl rfl) (fun hc => p_fieldAddr fld_89_1.h rfl) ?_
   refine JH.qg 6 rfl (Gd.t1 rfl rfl rfl) (fun hc => q_load1 ty_67.h (gvt rfl hc) (Mem.box (i := 2) rfl rfl)) ?_
   refine JH.pg 7 rfl (Gd.t1 rfl rfl rfl) (fun hc => p_move rfl) ?_
   refine JH.pg 8 rfl (Gd.t1 rfl rfl rfl) (fun hc => p_sub (gvt rfl hc) rfl (IntWalk.i64_in _ (by have hc9 := hc; (try simp only [decide_eq_true_eq] at hc9); omega))) ?_
   have hy12 : e.choices[((k : Int) - 1).toNat]? = some (M.cho e.choices (((k : Int) - 1).toNat)) := M.cho_get (by omega)
   obtain ⟨b12, o12, he12, hr12⟩ := elem_Choice (Ty.mono _ h2 x7.vis) hy12
   refine JH.pg 9 rfl (Gd.t1 rfl rfl rfl) (fun hc => p_indexAddr el_67 (gvt rfl hc) (gvt rfl hc) (by have hc9 := hc; (try simp only [decide_eq_true_eq] at hc9); omega) (by have hc9 := hc; (try simp only [decide_eq_true_eq] at hc9); omega) he12) ?_
   refine JH.pg 10 rfl (Gd.t1 rfl rfl rfl) (fun hc => p_fieldAddr fld_81_0.h (gvt rfl hc)) ?_
   refine JH.wg 11 rfl (Gd.t1 rfl rfl rfl) (fun hc os' u' hv => q_load1 ty_2.h (gvt rfl hc) (Mem.pub ((hr12.vis hv) 0 _ rfl))) ?_
   refine JH.pg 12 rfl (Gd.t1 rfl rfl rfl) (fun hc => p_leq (gvt rfl hc) (gvt rfl hc)) ?_
   refine JH.p 13 rfl (p_pickAnd rfl rfl rfl) ?_
   refine JH.p 14 rfl (p_move rfl) ?_
   refine JH.pg (v := undef) 15 rfl (Gd.f1 rfl rfl rfl) (fun hc => absurd hc (by first | (rw [h11]; simp; done) | simp [h11])) ?_
   refine JH.pg (v := undef) 16 rfl (Gd.f1 rfl rfl rfl) (fun hc => absurd hc (by first | (rw [h11]; simp; done) | simp [h11])) ?_
   refine JH.pg (v := undef) 18 rfl (Gd.f1 rfl rfl rfl) (fun hc => absurd hc (by first | (rw [h11]; simp; done) | simp [h11])) ?_
   refine JH.pg (v := undef) 19 rfl (Gd.f1 rfl rfl rfl) (fun hc => absurd hc (by first | (rw [h11]; simp; done) | simp [h11])) ?_
   refine y1 17 ?_
   refine JHo.qg (v := undef) rfl (Gd.f1 rfl rfl rfl) (fun hc => absurd hc (by first | (rw [h11]; simp; done) | simp [h11])) ?_
   refine y1 20 ?_
   refine JHo.qg (v := undef) rfl (Gd.f1 rfl rfl rfl) (fun hc => absurd hc (by first | (rw [h11]; simp; done) | simp [h11])) ?_
   refine JH.pg (v := .bool false) 21 rfl (Gd.f1 rfl rfl rfl) (fun hc => absurd hc (by first | (rw [h11]; simp; done) | simp [h11])) ?_
   refine JH.p 22 rfl (p_pickOr rfl rfl rfl) ?_
   refine JH.p 23 rfl (p_move rfl) ?_
   refine JH.pg 24 rfl (Gd.f1 rfl rfl rfl) (fun hc => p_fieldAddr fld_81_1.h rfl) ?_
   refine JH.qg 25 rfl (Gd.f1 rfl rfl rfl) (fun hc => q_load1 ty_2.h (gvt rfl hc) (Mem.box (i := 0) rfl rfl)) ?_
   refine y1 26 ?_
   refine JHo.ge rfl (Gd.f1 rfl rfl rfl) (fun hc => e_callV fn_64.h (opds_3 (gvt rfl hc) rfl rfl) (fun w hw => c_impl_between ((M.cho e.choices k).games) 1 1000000)) ?_
   refine JH.pg 27 rfl (Gd.f1 rfl rfl rfl) (fun hc => p_not (gvt rfl hc)) ?_
   refine JH.p 28 rfl (p_pickOr rfl rfl rfl) ?_
   refine JH.p 29 rfl (p_move rfl) ?_
   refine JH.pg 30 rfl (Gd.f1 rfl rfl rfl) (fun hc => p_fieldAddr fld_81_2.h rfl) ?_
   refine JH.qg 31 rfl (Gd.f1 rfl rfl rfl) (fun hc => q_load1 ty_2.h (gvt rfl hc) (Mem.box (i := 0) rfl rfl)) ?_
   refine JH.pg 32 rfl (Gd.f1 rfl rfl rfl) (fun hc => p_fieldAddr fld_81_1.h rfl) ?_
   refine JH.qg 33 rfl (Gd.f1 rfl rfl rfl) (fun hc => q_load1 ty_2.h (gvt rfl hc) (Mem.box (i := 0) rfl rfl)) ?_
   refine JH.pg 34 rfl (Gd.f1 rfl rfl rfl) (fun hc => p_mul rfl (gvt rfl hc) (IntWalk.i64_in _ (by have hc9 := hc; simp only [Bool.not_eq_true', Bool.or_eq_false_iff, Bool.not_eq_false'] at hc9; have h8 := M.betw_iff.1 hc9.2; omega))) ?_
   refine y1 35 ?_
   refine JHo.ge rfl (Gd.f1 rfl rfl rfl) (fun hc => e_callV fn_64.h (opds_3 (gvt rfl hc) rfl (gvt rfl hc)) (fun w hw => c_impl_between ((M.cho e.choices k).score) 0 (2 * ((M.cho e.choices k).games)))) ?_
   refine JH.pg 36 rfl (Gd.f1 rfl rfl rfl) (fun hc => p_not (gvt rfl hc)) ?_
   refine JH.p 37 rfl (p_pickOr rfl rfl rfl) ?_
   refine yd ?_
   refine zi (fun h13 h13' => ?_) fun h13 h13' => ?_
   ·
    have hN : M.chAt r (M.posE e.pits) e.choices k = false := M.chAt_prev h11
    have hE2 : M.okCs r (M.posE e.pits) e.choices = false := M.all_no (by omega) hN
    refine zS <| Qa rfl <| JL.nil ?_
    refine zR x7 ?_
    first | (rw [hE, hE2]; rfl) | (rw [hE]; rfl)
   exact absurd h13 (by rw [h11]; simp)
  refine zdr [] ?_
  refine JH.p 0 rfl (p_move rfl) ?_
  refine JH.p 1 rfl (p_gtr rfl rfl) ?_
  refine JH.p 2 rfl (p_move rfl) ?_
  refine JH.pg 3 rfl (Gd.t1 rfl rfl rfl) (fun hc => p_fieldAddr fld_81_0.h rfl) ?_
  refine JH.qg 4 rfl (Gd.t1 rfl rfl rfl) (fun hc => q_load1 ty_2.h (gvt rfl hc) (Mem.box (i := 0) rfl rfl)) ?_
  refine JH.pg 5 rfl (Gd.t1 rfl rfl rfl) (fun hc => p_fieldAddr fld_89_1.h rfl) ?_
  refine JH.qg 6 rfl (Gd.t1 rfl rfl rfl) (fun hc => q_load1 ty_67.h (gvt rfl hc) (Mem.box (i := 2) rfl rfl)) ?_
  refine JH.pg 7 rfl (Gd.t1 rfl rfl rfl) (fun hc => p_move rfl) ?_
  refine JH.pg 8 rfl (Gd.t1 rfl rfl rfl) (fun hc => p_sub (gvt rfl hc) rfl (IntWalk.i64_in _ (by have hc9 := hc; (try simp only [decide_eq_true_eq] at hc9); omega))) ?_
  have hy14 : e.choices[((k : Int) - 1).toNat]? = some (M.cho e.choices (((k : Int) - 1).toNat)) := M.cho_get (by omega)
  obtain ⟨b14, o14, he14, hr14⟩ := elem_Choice (Ty.mono _ h2 x7.vis) hy14
  refine JH.pg 9 rfl (Gd.t1 rfl rfl rfl) (fun hc => p_indexAddr el_67 (gvt rfl hc) (gvt rfl hc) (by have hc9 := hc; (try simp only [decide_eq_true_eq] at hc9); omega) (by have hc9 := hc; (try simp only [decide_eq_true_eq] at hc9); omega) he14) ?_
  refine JH.pg 10 rfl (Gd.t1 rfl rfl rfl) (fun hc => p_fieldAddr fld_81_0.h (gvt rfl hc)) ?_
  refine JH.wg 11 rfl (Gd.t1 rfl rfl rfl) (fun hc os' u' hv => q_load1 ty_2.h (gvt rfl hc) (Mem.pub ((hr14.vis hv) 0 _ rfl))) ?_
  refine JH.pg 12 rfl (Gd.t1 rfl rfl rfl) (fun hc => p_leq (gvt rfl hc) (gvt rfl hc)) ?_
  refine JH.p 13 rfl (p_pickAnd rfl rfl rfl) ?_
  refine JH.p 14 rfl (p_move rfl) ?_
  refine JH.qgT 15 rfl (Gd.f1 rfl rfl rfl) (show (!((decide (0 < (k : Int))) && (decide ((M.cho e.choices k).move ≤ (M.cho e.choices (((k : Int) - 1).toNat)).move)))) = true by first | exact h11 | (rw [h11]; rfl) | simp [h11]) (L9 3 rfl rfl) ?_
  refine JH.qgT 16 rfl (Gd.f1 rfl rfl rfl) (show (!((decide (0 < (k : Int))) && (decide ((M.cho e.choices k).move ≤ (M.cho e.choices (((k : Int) - 1).toNat)).move)))) = true by first | exact h11 | (rw [h11]; rfl) | simp [h11]) (L9 2 rfl rfl) ?_
  refine JH.pgT 18 rfl (Gd.f1 rfl rfl rfl) (show (!((decide (0 < (k : Int))) && (decide ((M.cho e.choices k).move ≤ (M.cho e.choices (((k : Int) - 1).toNat)).move)))) = true by first | exact h11 | (rw [h11]; rfl) | simp [h11]) (p_fieldAddr fld_81_0.h rfl) ?_
  refine JH.qgT 19 rfl (Gd.f1 rfl rfl rfl) (show (!((decide (0 < (k : Int))) && (decide ((M.cho e.choices k).move ≤ (M.cho e.choices (((k : Int) - 1).toNat)).move)))) = true by first | exact h11 | (rw [h11]; rfl) | simp [h11]) (q_load1 ty_2.h rfl (Mem.box (i := 0) rfl rfl)) ?_
  refine y1 17 ?_
  refine ycT rfl (Gd.f1 rfl rfl rfl) (show (!((decide (0 < (k : Int))) && (decide ((M.cho e.choices k).move ≤ (M.cho e.choices (((k : Int) - 1).toNat)).move)))) = true by first | exact h11 | (rw [h11]; rfl) | simp [h11]) rfl (fun w hw => c_impl_BookEntry_position e) ?_
  intro A15 c15 bl15 bh15
  refine y1 20 ?_
  refine yvT rfl (Gd.f1 rfl rfl rfl) (show (!((decide (0 < (k : Int))) && (decide ((M.cho e.choices k).move ≤ (M.cho e.choices (((k : Int) - 1).toNat)).move)))) = true by first | exact h11 | (rw [h11]; rfl) | simp [h11]) rfl (fun w hw => c_impl_MoveFault r (M.posE e.pits) ((M.cho e.choices k).move) (ok_ hw) (ok_ hw)) ?_
  refine JH.pgT 21 rfl (Gd.f1 rfl rfl rfl) (show (!((decide (0 < (k : Int))) && (decide ((M.cho e.choices k).move ≤ (M.cho e.choices (((k : Int) - 1).toNat)).move)))) = true by first | exact h11 | (rw [h11]; rfl) | simp [h11]) (p_neq rfl rfl) ?_
  refine JH.p 22 rfl (p_pickOr2 rfl rfl rfl) ?_
  refine JH.p 23 rfl (p_move rfl) ?_
  refine JH.pg 24 rfl (Gd.f1 rfl rfl rfl) (fun hc => p_fieldAddr fld_81_1.h rfl) ?_
  refine JH.qg 25 rfl (Gd.f1 rfl rfl rfl) (fun hc => q_load1 ty_2.h (gvt rfl hc) (Mem.box (i := 0) rfl rfl)) ?_
  refine y1 26 ?_
  refine JHo.ge rfl (Gd.f1 rfl rfl rfl) (fun hc => e_callV fn_64.h (opds_3 (gvt rfl hc) rfl rfl) (fun w hw => c_impl_between ((M.cho e.choices k).games) 1 1000000)) ?_
  refine JH.pg 27 rfl (Gd.f1 rfl rfl rfl) (fun hc => p_not (gvt rfl hc)) ?_
  refine JH.p 28 rfl (p_pickOr rfl rfl rfl) ?_
  refine JH.p 29 rfl (p_move rfl) ?_
  refine JH.pg 30 rfl (Gd.f1 rfl rfl rfl) (fun hc => p_fieldAddr fld_81_2.h rfl) ?_
  refine JH.qg 31 rfl (Gd.f1 rfl rfl rfl) (fun hc => q_load1 ty_2.h (gvt rfl hc) (Mem.box (i := 0) rfl rfl)) ?_
  refine JH.pg 32 rfl (Gd.f1 rfl rfl rfl) (fun hc => p_fieldAddr fld_81_1.h rfl) ?_
  refine JH.qg 33 rfl (Gd.f1 rfl rfl rfl) (fun hc => q_load1 ty_2.h (gvt rfl hc) (Mem.box (i := 0) rfl rfl)) ?_
  refine JH.pg 34 rfl (Gd.f1 rfl rfl rfl) (fun hc => p_mul rfl (gvt rfl hc) (IntWalk.i64_in _ (by have hc9 := hc; simp only [Bool.not_eq_true', Bool.or_eq_false_iff, Bool.not_eq_false'] at hc9; have h8 := M.betw_iff.1 hc9.2; omega))) ?_
  refine y1 35 ?_
  refine JHo.ge rfl (Gd.f1 rfl rfl rfl) (fun hc => e_callV fn_64.h (opds_3 (gvt rfl hc) rfl (gvt rfl hc)) (fun w hw => c_impl_between ((M.cho e.choices k).score) 0 (2 * ((M.cho e.choices k).games)))) ?_
  refine JH.pg 36 rfl (Gd.f1 rfl rfl rfl) (fun hc => p_not (gvt rfl hc)) ?_
  refine JH.p 37 rfl (p_pickOr rfl rfl rfl) ?_
  refine yd ?_
  refine zi (fun h16 h16' => ?_) fun h16 h16' => ?_
  ·
   have hN : M.chAt r (M.posE e.pits) e.choices k = false := M.chAt_no (by rw [M.make_code]; exact h16)
   have hE2 : M.okCs r (M.posE e.pits) e.choices = false := M.all_no (by omega) hN
   refine zS <| Qa rfl <| JL.nil ?_
   refine zR x7 ?_
   first | (rw [hE, hE2]; rfl) | (rw [hE]; rfl)
  have hN : M.chAt r (M.posE e.pits) e.choices k = true := M.chAt_yes (by rw [M.make_code]; exact h16)
  refine Js.skip <| Js.blockEnd <| Js.region <| Qp rfl rfl <| Qm rfl <| JL.nil ?_
  refine zd [2, 2, 2] rfl fun u17 x17 => ?_
  exact zag ⟨k + 1, rfl, rfl, by exact hA.step hN, zt, rfl⟩ (x7.trans x17)
 have hE2 : M.okCs r (M.posE e.pits) e.choices = true := M.all_yes hA (by have := h8'; omega)
 refine zx ?_
 refine zS <| Qa rfl <| JL.nil ?_
 refine zR x7 ?_
 first | (rw [hE, hE2]; rfl) | (rw [hE]; rfl)

set_option maxHeartbeats 4000000 in
theorem c_impl_ValidBook (b : M.Boo) {v_b : Value} {w : World} (h_b : (Ty.agg (cBook b)).ok w v_b) (r0 : b.entries.length ≤ 4194304 := by exact om_) (r1 : ∀ x ∈ b.entries, x.pits.length ≤ 4194304 ∧ x.choices.length ≤ 4194304 := by exact om_) : RetV Tryz.prog 50 [v_b] w (.bool (M.okB b)) := by
 revert v_b; apply opn
 intro A1 c1 h1 bl1 bh1
 refine enter @Tryz.func50 @Tryz.ntmps50 rfl rfl ?_
 refine zent ?_
 refine zS <| zb rfl fun b2 => Qa rfl <| zJ <| zS <| Qf fh rfl <| Q9 0 rfl rfl ?_
 refine zv rfl (fun w hw => c_impl_ValidRules b.rules (ok_ hw)) <| Qt rfl <| Qm rfl <| zg (Gd.f1 rfl rfl rfl) (fun hc => p_fieldAddr fld_37_1.h rfl) <| zgq (Gd.f1 rfl rfl rfl) (fun hc => q_load1 ty_35.h (gh hc rfl) (Mem.box (i := 0) rfl rfl)) <| zg (Gd.f1 rfl rfl rfl) (fun hc => p_len el_35 (gh hc rfl)) <| zg (Gd.f1 rfl rfl rfl) (fun hc => p_gtr (gh hc rfl) rfl) <| Qq (p_pickOr rfl rfl rfl) <| JL.nil ?_
 refine zi (fun h3 h3' => ?_) fun h3 h3' => ?_
 ·
  have hE := M.okB_r (b := b) (by have h9 := h3; simp only [Bool.or_eq_true, Bool.not_eq_true', decide_eq_true_eq] at h9; exact h9.imp id (fun h => by omega))
  refine zS <| Qa rfl <| JL.nil ?_
  refine zR (Up.refl _ _) ?_
  first | (rw [hE, hE2]; rfl) | (rw [hE]; rfl)
 have h9 := h3
 simp only [Bool.or_eq_false_iff, Bool.not_eq_false', decide_eq_false_iff_not] at h9
 have hE := M.okB_es h9.1 (by omega)
 refine Js.skip <| Js.seq <| zS <| Qf fh rfl <| Q0 0 rfl rfl rfl <| Qz rfl <| Qm rfl <| JL.nil <| Js.block ?_
 refine zl [1, 16, 17] (fun F U l os u m => ∃ (k : Nat), l = F [(18, .int .i64 (k : Int))] ∧ os = U [] ∧ (M.AllB (M.entAt b.rules b.entries) k) ∧ (k ≤ b.entries.length) ∧ m = b.entries.length - k) ⟨0, rfl, rfl, by exact M.AllB.zero _, zt, rfl⟩ ?_
 rintro _ _ u4 _ ⟨k, rfl, rfl, hA, hk, rfl⟩ x4
 refine zn ?_
 refine zS <| Ql rfl rfl <| zJ ?_
 refine zi (fun h5 h5' => ?_) fun h5 h5' => ?_
 ·
  have hkk : k < b.entries.length := by have := h5'; omega
  obtain ⟨e1_, e2_⟩ := r1 _ (M.ent_mem (es := b.entries) (k := k) (by omega))
  obtain ⟨e3_, e4_⟩ := r1 _ (M.ent_mem (es := b.entries) (k := (((k : Int) - 1).toNat)) (by omega))
  have hy6 : b.entries[k]? = some (M.ent b.entries k) := M.ent_get (by omega)
  obtain ⟨b6, o6, A6_0, c6_0, A6_1, c6_1, he6, hr6, h6_0, h6_1, bl6_0, bh6_0, bl6_1, bh6_1⟩ := elem_BookEntry (Ty.mono _ h1 x4.vis) hy6
  refine Js.skip <| Js.seq <| Js.block <| zS <| Qm rfl <| Qq (p_indexAddr el_35 rfl rfl (by omega) (by omega) he6) <| QS 0 hr6 rfl ?_
  refine za zeh fun b7 => Qa rfl <| zw 0 rfl rfl rfl ?_
  refine zJ ?_
  refine zdr [] ?_
  refine JH.p 0 rfl (p_move rfl) ?_
  refine JH.p 1 rfl (p_gtr rfl rfl) ?_
  refine JH.p 2 rfl (p_move rfl) ?_
  refine JH.pg 3 rfl (Gd.t1 rfl rfl rfl) (fun hc => p_fieldAddr fld_37_1.h rfl) ?_
  refine JH.qg 4 rfl (Gd.t1 rfl rfl rfl) (fun hc => q_load1 ty_35.h (gvt rfl hc) (Mem.box (i := 1) rfl rfl)) ?_
  refine JH.pg 5 rfl (Gd.t1 rfl rfl rfl) (fun hc => p_move rfl) ?_
  refine JH.pg 6 rfl (Gd.t1 rfl rfl rfl) (fun hc => p_sub (gvt rfl hc) rfl (IntWalk.i64_in _ (by have hc9 := hc; (try simp only [decide_eq_true_eq] at hc9); omega))) ?_
  have hy8 : b.entries[((k : Int) - 1).toNat]? = some (M.ent b.entries (((k : Int) - 1).toNat)) := M.ent_get (by omega)
  obtain ⟨b8, o8, A8_0, c8_0, A8_1, c8_1, he8, hr8, h8_0, h8_1, bl8_0, bh8_0, bl8_1, bh8_1⟩ := elem_BookEntry (Ty.mono _ h1 x4.vis) hy8
  refine JH.pg 7 rfl (Gd.t1 rfl rfl rfl) (fun hc => p_indexAddr el_35 (gvt rfl hc) (gvt rfl hc) (by have hc9 := hc; (try simp only [decide_eq_true_eq] at hc9); omega) (by have hc9 := hc; (try simp only [decide_eq_true_eq] at hc9); omega) he8) ?_
  refine JH.pg 8 rfl (Gd.t1 rfl rfl rfl) (fun hc => p_fieldAddr fld_89_0.h (gvt rfl hc)) ?_
  refine JH.wg 9 rfl (Gd.t1 rfl rfl rfl) (fun hc os' u' hv => q_load1 ty_27.h (gvt rfl hc) (Mem.pub ((hr8.vis hv) 0 _ rfl))) ?_
  refine JH.pg 10 rfl (Gd.t1 rfl rfl rfl) (fun hc => p_fieldAddr fld_89_0.h rfl) ?_
  refine JH.qg 11 rfl (Gd.t1 rfl rfl rfl) (fun hc => q_load1 ty_27.h (gvt rfl hc) (Mem.box (i := 0) rfl rfl)) ?_
  refine y1 12 ?_
  refine JHo.ge rfl (Gd.t1 rfl rfl rfl) (fun hc => e_callV fn_110.h (opds_2 (gvt rfl hc) (gvt rfl hc)) (fun w hw => c_impl_compareNumbers ((M.ent b.entries (((k : Int) - 1).toNat)).pits) ((M.ent b.entries k).pits) (ok_ hw) (ok_ hw) (r0 := (by have hc9 := hc; (try simp only [decide_eq_true_eq] at hc9); omega)) (r1 := (by have hc9 := hc; (try simp only [decide_eq_true_eq] at hc9); omega)))) ?_
  refine JH.pg 13 rfl (Gd.t1 rfl rfl rfl) (fun hc => p_geq (gvt rfl hc) rfl) ?_
  refine JH.p 14 rfl (p_pickAnd rfl rfl rfl) ?_
  refine JH.p 15 rfl (p_move rfl) ?_
  refine JH.pg 16 rfl (Gd.f1 rfl rfl rfl) (fun hc => p_fieldAddr fld_37_0.h rfl) ?_
  refine JH.qg 17 rfl (Gd.f1 rfl rfl rfl) (fun hc => L9 1 (gvt rfl hc) rfl) ?_
  refine JH.qg 18 rfl (Gd.f1 rfl rfl rfl) (fun hc => L9 0 rfl rfl) ?_
  refine y1 19 ?_
  refine JHo.ge rfl (Gd.f1 rfl rfl rfl) (fun hc => e_callV fn_111.h (opds_2 (gvt rfl hc) (gvt rfl hc)) (fun w hw => c_impl_Rules_validEntry b.rules (M.ent b.entries k) (ok_ hw) (ok_ hw) (r0 := (by have hc9 := hc; (try simp only [Bool.not_eq_true', Bool.and_eq_false_iff, decide_eq_false_iff_not, Int.not_lt, Int.not_le] at hc9); omega)) (r1 := (by have hc9 := hc; (try simp only [Bool.not_eq_true', Bool.and_eq_false_iff, decide_eq_false_iff_not, Int.not_lt, Int.not_le] at hc9); omega)))) ?_
  refine JH.pg 20 rfl (Gd.f1 rfl rfl rfl) (fun hc => p_not (gvt rfl hc)) ?_
  refine JH.p 21 rfl (p_pickOr rfl rfl rfl) ?_
  refine yd ?_
  refine zi (fun h9 h9' => ?_) fun h9 h9' => ?_
  ·
   have hN : M.entAt b.rules b.entries k = false := M.entAt_no (by exact h9)
   have hE2 : (List.range b.entries.length).all (M.entAt b.rules b.entries) = false := M.all_no (by omega) hN
   refine zS <| Qa rfl <| JL.nil ?_
   refine zR x4 ?_
   first | (rw [hE, hE2]; rfl) | (rw [hE]; rfl)
  have hN : M.entAt b.rules b.entries k = true := M.entAt_yes (by exact h9)
  refine Js.skip <| Js.blockEnd <| Js.region <| Qp rfl rfl <| Qm rfl <| JL.nil ?_
  refine zd [1] rfl fun u10 x10 => ?_
  exact zag ⟨k + 1, rfl, rfl, by exact hA.step hN, zt, rfl⟩ (x4.trans x10)
 have hE2 : (List.range b.entries.length).all (M.entAt b.rules b.entries) = true := M.all_yes hA (by have := h5'; omega)
 refine zx ?_
 refine zS <| Qa rfl <| JL.nil ?_
 refine zR x4 ?_
 first | (rw [hE, hE2]; rfl) | (rw [hE]; rfl)

end Go.Proofs.YtcmfnlleikcpnaaGreat

namespace Go.Proofs.YtcmfnlleikcpnaaGreat
open Go.RowKit

set_option maxHeartbeats 12000000 in
theorem c_impl_Rules_turned (r : M.Rul) {v_r : Value} (p : M.Pos) {v_p : Value} {w : World} (h_r : (Ty.agg (cRules r)).ok w v_r) (h_p : (Ty.agg (cPosition p)).ok w v_p) (r0 : M.okP r p = true := by exact om_) : Ret Tryz.prog 135 [v_r, v_p] w (Ty.agg (cPosition (M.turnP r p))) := by
 obtain ⟨g1, g2, g3, g4, g5, g6, g7⟩ := M.okP_bd r0
 revert v_r; apply opn
 revert v_p; apply opn
 intro A1 c1 h1 bl1 bh1 A2 c2 h2 bl2 bh2
 refine enter @Tryz.func135 @Tryz.ntmps135 rfl rfl ?_
 refine zent ?_
 refine zS <| zb rfl fun b3 => zb rfl fun b4 => za zeh fun b5 => zJ ?_
 refine zdr [11] ?_
 refine JH.p 0 rfl (p_fieldAddr fld_39_0.h rfl) ?_
 refine JH.q 1 rfl (q_load1 ty_27.h rfl (Mem.box (i := 1) rfl rfl)) ?_
 refine JH.p 2 rfl (p_fieldAddr fld_34_0.h rfl) ?_
 refine JH.q 3 rfl (q_load1 ty_2.h rfl (Mem.box (i := 2) rfl rfl)) ?_
 have hs6 := ints_cut (a := r.pits.toNat) (b := p.pits.length) (m := c1) h1 (by omega) (by omega) (by omega) (by omega)
 have hl6 : ((p.pits.drop r.pits.toNat).take (p.pits.length - r.pits.toNat)).length = p.pits.length - r.pits.toNat := by rw [List.length_take, List.length_drop]; omega
 refine JH.p 4 rfl (p_slice (lo' := r.pits.toNat) (hi' := p.pits.length) (mx' := c1) el_27 rfl rfl ⟨rfl, rfl⟩ ⟨_, by rw [Int.toNat_of_nonneg (by omega)]; exact rfl, by omega⟩) ?_
 refine JH.p 6 rfl (p_fieldAddr fld_39_0.h rfl) ?_
 refine JH.q 7 rfl (q_load1 ty_27.h rfl (Mem.box (i := 1) rfl rfl)) ?_
 refine JH.p 8 rfl (p_fieldAddr fld_34_0.h rfl) ?_
 refine JH.q 9 rfl (q_load1 ty_2.h rfl (Mem.box (i := 2) rfl rfl)) ?_
 have hs7 := ints_cut (a := 0) (b := r.pits.toNat) (m := c1) h1 (by omega) (by omega) (by omega) (by omega)
 have hl7 : ((p.pits.drop 0).take (r.pits.toNat - 0)).length = r.pits.toNat - 0 := by rw [List.length_take, List.length_drop]; omega
 refine JH.p 10 rfl (p_slice (lo' := 0) (hi' := r.pits.toNat) (mx' := c1) el_27 rfl rfl ⟨_, by rw [Int.toNat_of_nonneg (by omega)]; exact rfl, by omega⟩ rfl) ?_
 refine y1 5 ?_
 refine ycs rfl rfl (fun w hw => c_impl_copyNumbers ((p.pits.drop r.pits.toNat).take (p.pits.length - r.pits.toNat)) (ok_ hw)) ?_
 intro A8 c8 bl8 bh8
 refine y1 11 ?_
 refine JHo.e rfl (e_append (i := 0) (n' := (((p.pits.drop r.pits.toNat).take (p.pits.length - r.pits.toNat)) ++ ((p.pits.drop 0).take (r.pits.toNat - 0))).length) (vs' := ints_ (((p.pits.drop r.pits.toNat).take (p.pits.length - r.pits.toNat)) ++ ((p.pits.drop 0).take (r.pits.toNat - 0)))) el_27 rfl rfl rfl rfl (src_intsN und_27 hl7 hs7) (by omega) (by omega) (by first | omega | (simp only [List.length_append, List.length_cons, List.length_nil, List.length_take, List.length_drop] <;> omega)) (by simp [ints_])) (.inr rfl) ?_
 rintro v9 _ _ ⟨⟨g10, rfl⟩, rfl⟩ _
 refine JH.fact (row_form' (i := 0) rfl) (fun hf11 => ?_)
 obtain ⟨A11, c11, rfl, bl11, bh11⟩ := hf11
 refine znh ?_
 refine JH.p 12 rfl (p_assign rfl) ?_
 refine yd ?_
 refine Js.seq ?_
 refine zdr [14] ?_
 refine JH.p 0 rfl (p_move rfl) ?_
 refine JH.p 1 rfl (p_fieldAddr fld_39_1.h rfl) ?_
 refine JH.q 2 rfl (q_load1 ty_27.h rfl (Mem.box (i := 2) rfl rfl)) ?_
 obtain ⟨b12, o12, he12, hc12⟩ := ints_elem h2 (i := 1) (by omega)
 refine JH.p 3 rfl (p_indexAddr el_27 rfl rfl (by omega) (by omega) he12) ?_
 refine JH.w 4 rfl (fun os' u' hv => q_load1 ty_2.h rfl (Mem.pub (hc12.vis hv))) ?_
 refine JH.p 5 rfl (p_fieldAddr fld_39_1.h rfl) ?_
 refine JH.q 6 rfl (q_load1 ty_27.h rfl (Mem.box (i := 2) rfl rfl)) ?_
 obtain ⟨b13, o13, he13, hc13⟩ := ints_elem h2 (i := 0) (by omega)
 refine JH.p 7 rfl (p_indexAddr el_27 rfl rfl (by omega) (by omega) he13) ?_
 refine JH.w 8 rfl (fun os' u' hv => q_load1 ty_2.h rfl (Mem.pub (hc13.vis hv))) ?_
 refine JH.p 10 rfl (p_fieldAddr fld_39_2.h rfl) ?_
 refine JH.q 11 rfl (q_load1 ty_2.h rfl (Mem.box (i := 2) rfl rfl)) ?_
 refine JH.p 12 rfl (p_sub rfl rfl (IntWalk.i64_in _ (by omega))) ?_
 refine y1 9 ?_
 refine ybs rfl fun b14 => ?_
 refine JH.p 13 rfl (q_bld) ?_
 refine y1 14 ?_
 refine yst rfl rfl rfl ?_
 refine yd ?_
 have hq0 : (((p.pits.drop r.pits.toNat).take (p.pits.length - r.pits.toNat)) ++ ((p.pits.drop 0).take (r.pits.toNat - 0))) = (M.turnP r p).pits := by first | rfl | (simp [M.turnP, List.take_of_length_le]; done) | (unfold M.turnP; simp; omega)
 have hq1 : [(M.nth p.stores 1), (M.nth p.stores 0)] = (M.turnP r p).stores := by first | rfl | (simp [M.turnP, List.take_of_length_le]; done) | (unfold M.turnP; simp; omega)
 have hq2 : (1 - p.player) = (M.turnP r p).player := by first | rfl | (simp [M.turnP, List.take_of_length_le]; done) | (unfold M.turnP; simp; omega)
 exact zro (Up.refl _ _)

set_option maxHeartbeats 1000000 in
theorem c_impl_Rules_view (r : M.Rul) {v_r : Value} (p : M.Pos) {v_p : Value} {w : World} (h_r : (Ty.agg (cRules r)).ok w v_r) (h_p : (Ty.agg (cPosition p)).ok w v_p) (r0 : M.okV r p := by exact om_) : Ret Tryz.prog 79 [v_r, v_p] w (Ty.agg (cPosition (M.viewP r p))) := by
 have hl := M.okV_len r0
 revert v_r; apply opn
 revert v_p; apply opn
 intro A1 c1 h1 bl1 bh1 A2 c2 h2 bl2 bh2
 refine enter @Tryz.func79 @Tryz.ntmps79 rfl rfl ?_
 refine zent ?_
 refine zS <| zb rfl fun b3 => zb rfl fun b4 => za zeh fun b5 => zJ <| zS <| Qf fh rfl <| Q0 1 rfl rfl rfl <| Qe rfl rfl <| JL.nil ?_
 refine zi (fun h6 h6' => ?_) fun h6 h6' => ?_
 ·
  have hE := M.viewP_0 (r := r) (p := p) (by simpa using h6)
  refine zS <| Q9 1 rfl rfl ?_
  refine zc rfl (fun w hw => c_impl_Position_copied p (ok_ hw)) ?_
  intro A8 c8 bl8 bh8 A9 c9 bl9 bh9
  have hq0 : p.pits = (M.viewP r p).pits := by rw [hE]
  have hq1 : p.stores = (M.viewP r p).stores := by rw [hE]
  have hq2 : p.player = (M.viewP r p).player := by rw [hE]
  refine zw 2 rfl rfl rfl ?_
  refine JL.nil ?_
  exact zro (Up.refl _ _)
 have hn0 : ¬ p.player = 0 := by simpa using h6
 have hK := M.okV_turn r0 hn0
 have hE := M.viewP_1 (r := r) hn0
 refine Js.skip <| zS <| Q9 2 rfl rfl ?_
 refine Q9 1 rfl rfl ?_
 refine zc rfl (fun w hw => c_impl_Rules_turned r p (ok_ hw) (ok_ hw) (r0 := hK)) ?_
 intro A11 c11 bl11 bh11 A12 c12 bl12 bh12
 have hq0 : ((M.turnP r p).pits) = (M.viewP r p).pits := by rw [hE]
 have hq1 : ((M.turnP r p).stores) = (M.viewP r p).stores := by rw [hE]
 have hq2 : ((M.turnP r p).player) = (M.viewP r p).player := by rw [hE]
 refine zw 2 rfl rfl rfl ?_
 refine JL.nil ?_
 exact zro (Up.refl _ _)

set_option maxHeartbeats 1000000 in
theorem c_impl_Book_lookUp (b : M.Boo) {v_b : Value} (p : M.Pos) {v_p : Value} {w : World} (h_b : (Ty.agg (cBook b)).ok w v_b) (h_p : (Ty.agg (cPosition p)).ok w v_p) (r0 : b.entries.length ≤ 4194304 := by exact om_) (r1 : ∀ x ∈ b.entries, x.pits.length ≤ 4194304 ∧ x.choices.length ≤ 4194304 := by exact om_) (r2 : M.okV b.rules p := by exact om_) : Ret Tryz.prog 65 [v_b, v_p] w (Ty.sl 81 3 (M.lookE b.entries (M.viewP b.rules p).pits).length (lChoice (M.lookE b.entries (M.viewP b.rules p).pits))) := by
 have hv := M.viewP_lenV r2
 revert v_b; apply opn
 intro A1 c1 h1 bl1 bh1
 revert v_p; apply opn
 intro A2 c2 h2 bl2 bh2 A3 c3 h3 bl3 bh3
 refine enter @Tryz.func65 @Tryz.ntmps65 rfl rfl ?_
 refine zent ?_
 refine zS <| zb rfl fun b4 => zb rfl fun b5 => Qa rfl <| zN <| Qf fh rfl <| Q9 1 rfl rfl ?_
 refine Q9 0 rfl rfl ?_
 refine zp rfl (fun w hw => c_impl_Rules_view b.rules p (ok_ hw) (ok_ hw) (r0 := r2)) ?_
 intro u6 x6 A7 c7 h7 bl7 bh7 A8 c8 h8 bl8 bh8
 refine Qi fh rfl rfl <| Qa rfl <| zJ <| zS <| Qf fh rfl <| Q0 1 rfl rfl rfl <| Qz rfl <| Qm rfl <| JL.nil <| Js.block ?_
 refine zl [5, 14, 15] (fun F U l os u m => ∃ (k : Nat), l = F [(16, .int .i64 (k : Int))] ∧ os = U [] ∧ (M.lookE (b.entries.drop k) (M.viewP b.rules p).pits = M.lookE b.entries (M.viewP b.rules p).pits) ∧ (k ≤ b.entries.length) ∧ m = b.entries.length - k) ⟨0, rfl, rfl, by rfl, zt, rfl⟩ ?_
 rintro _ _ u9 _ ⟨k, rfl, rfl, hL, hk, rfl⟩ x9
 refine zn ?_
 refine zS <| Ql rfl rfl <| zJ ?_
 refine zi (fun h10 h10' => ?_) fun h10 h10' => ?_
 ·
  have hkk : k < b.entries.length := by have := h10'; omega
  obtain ⟨e1_, e2_⟩ := r1 _ (M.ent_mem (es := b.entries) (k := k) hkk)
  have hy11 : b.entries[k]? = some (M.ent b.entries k) := M.ent_get (by omega)
  obtain ⟨b11, o11, A11_0, c11_0, A11_1, c11_1, he11, hr11, h11_0, h11_1, bl11_0, bh11_0, bl11_1, bh11_1⟩ := elem_BookEntry (Ty.mono _ h1 (x6.vis.trans x9.vis)) hy11
  refine Js.skip <| Js.seq <| Js.block <| zS <| Qq (p_indexAddr el_35 rfl rfl (by omega) (by omega) he11) <| QS 0 hr11 rfl ?_
  refine za zeh fun b12 => zw 0 rfl rfl rfl ?_
  refine zN <| Qf fh rfl <| Q0 0 rfl rfl rfl <| Qm rfl <| zv rfl (fun w hw => c_impl_sameNumbers ((M.ent b.entries k).pits) ((M.viewP b.rules p).pits) (ok_ hw) (ok_ hw)) <| JL.nil ?_
  refine zi (fun h13 h13' => ?_) fun h13 h13' => ?_
  ·
   have hE := M.lookE_hit hL hkk (by simpa using h13)
   refine zS <| zbs fun b14 => ?_
   refine Qf fh rfl <| Q0 1 rfl rfl rfl ?_
   refine JL.e (e_append (i := 0) (n' := ((M.ent b.entries k).choices).length) (vs' := fltV vcChoice ((M.ent b.entries k).choices)) el_67 rfl rfl rfl rfl (src_flat lChoice und_67 rfl h11_1) (by omega) (by omega) (by first | omega | (simp only [List.length_append, List.length_cons, List.length_nil, List.length_take, List.length_drop] <;> omega)) (by first | rfl | exact fltV_app _ _ _ | exact fltV_snoc _ _ _ | (simp [fltV]; done))) ?_
   rintro v16 _ _ ⟨⟨g17, rfl⟩, rfl⟩ _
   refine JL.fact (row_form' (i := 0) rfl) (fun hf18 => ?_)
   obtain ⟨A18, c18, rfl, bl18, bh18⟩ := hf18
   refine znl ?_
   have hq0 : ((M.ent b.entries k).choices) = M.lookE b.entries (M.viewP b.rules p).pits := by rw [hE]
   refine Qa rfl <| JL.nil ?_
   exact zro (x6.trans x9) (g := by exact (gv_flat lChoice (xs := ((M.ent b.entries k).choices)) po_ (by first | rfl | (simp [fltV]; done)) (by first | with_reducible rfl | assumption | rfl)))
  have hL2 := M.lookE_step hL hkk (by simpa using h13)
  refine Js.skip <| Js.blockEnd <| Js.region <| Qp rfl rfl <| Qm rfl <| JL.nil ?_
  refine zd [1, 1] rfl fun u19 x19 => ?_
  exact zag ⟨k + 1, rfl, rfl, by exact hL2, zt, rfl⟩ (x9.trans x19)
 have hE := M.lookE_end hL (by have := h10'; omega)
 refine zx ?_
 have hq0 : [] = M.lookE b.entries (M.viewP b.rules p).pits := by rw [hE]
 refine zS <| Qa rfl <| JL.nil ?_
 exact zro (x6.trans x9)

set_option maxHeartbeats 1000000 in
theorem c_impl_LookUp (b : M.Boo) {v_b : Value} (p : M.Pos) {v_p : Value} {w : World} (h_b : (Ty.agg (cBook b)).ok w v_b) (h_p : (Ty.agg (cPosition p)).ok w v_p) (r0 : b.entries.length ≤ 4194304 := by exact om_) (r1 : ∀ x ∈ b.entries, x.pits.length ≤ 4194304 ∧ x.choices.length ≤ 4194304 := by exact om_) (r2 : p.pits.length ≤ 4194304 := by exact om_) (r3 : p.stores.length ≤ 4194304 := by exact om_) : Ret Tryz.prog 34 [v_b, v_p] w (Ty.tup [Ty.sl 81 3 (M.lookR b p).length (lChoice (M.lookR b p)), Ty.int (M.lookC b p)]) := by
 revert v_b; apply opn
 intro A1 c1 h1 bl1 bh1
 revert v_p; apply opn
 intro A2 c2 h2 bl2 bh2 A3 c3 h3 bl3 bh3
 refine enter @Tryz.func34 @Tryz.ntmps34 rfl rfl ?_
 refine zent ?_
 refine zS <| zb rfl fun b4 => zb rfl fun b5 => Qa rfl <| Qa rfl <| zJ <| zS <| Q9 1 rfl rfl ?_
 refine zv rfl (fun w hw => c_impl_ValidBook b (ok_ hw) (r1 := r1)) <| Qt rfl <| Qm rfl <| zg (Gd.f1 rfl rfl rfl) (fun hc => p_fieldAddr fld_37_0.h rfl) <| zgq (Gd.f1 rfl rfl rfl) (fun hc => L9 1 (gh hc rfl) rfl) <| zgq (Gd.f1 rfl rfl rfl) (fun hc => L9 0 rfl rfl) <| zgv (Gd.f1 rfl rfl rfl) (fun hc => (opds_2 (gh hc rfl) (gh hc rfl))) (fun hc => (fun w hw => c_impl_ValidPosition b.rules p (ok_ hw) (ok_ hw) (r0 := (by have hc9 := hc; (try simp only [Bool.not_eq_true', Bool.not_eq_false'] at hc9); omega)) (r1 := (by have hc9 := hc; (try simp only [Bool.not_eq_true', Bool.not_eq_false'] at hc9); omega)))) ?_
 refine zg (Gd.f1 rfl rfl rfl) (fun hc => p_not (gh hc rfl)) <| Qq (p_pickOr rfl rfl rfl) <| JL.nil ?_
 refine zi (fun h6 h6' => ?_) fun h6 h6' => ?_
 ·
  have hno : ¬ (M.okB b = true ∧ M.okP b.rules p = true) := by have h9 := h6; rintro ⟨a1, a2⟩; rw [a1, a2] at h9; simp at h9
  have hE := M.lookR_no hno
  have hC := M.lookC_no hno
  have hq0 : [] = M.lookR b p := by first | (rw [hE]; done) | (rw [hC]; done) | exact hE2
  have hq1 : 1 = M.lookC b p := by first | (rw [hE]; done) | (rw [hC]; done) | exact hE2
  refine zS <| Qa rfl <| Qa rfl <| JL.nil ?_
  exact zro (Up.refl _ _)
 have hok : M.okB b = true ∧ M.okP b.rules p = true := by have h9 := h6; simpa using h9
 have hE := M.lookR_yes hok
 have hel := M.lookE_mem (pits := (M.viewP b.rules p).pits) (n := 4194304) (fun x hx => (r1 x hx).2)
 refine Js.skip <| zS <| Q9 1 rfl rfl ?_
 refine Q9 0 rfl rfl ?_
 refine zcs rfl (fun w hw => c_impl_Book_lookUp b p (ok_ hw) (ok_ hw) (r1 := r1) (r2 := Or.inl hok.2)) ?_
 intro A7 c7 bl7 bh7
 refine Qa rfl <| zJ <| zS <| Qm rfl <| Qz rfl <| Qe rfl rfl <| JL.nil ?_
 refine zi (fun h8 h8' => ?_) fun h8 h8' => ?_
 ·
  have h0 : (M.lookE b.entries (M.viewP b.rules p).pits).length = 0 := by have := h8'; omega
  have hC := M.lookC_3 hok h0
  have hE2 : [] = M.lookR b p := by rw [hE]; exact (List.eq_nil_of_length_eq_zero h0).symm
  have hq0 : [] = M.lookR b p := by first | (rw [hE]; done) | (rw [hC]; done) | exact hE2
  have hq1 : 3 = M.lookC b p := by first | (rw [hE]; done) | (rw [hC]; done) | exact hE2
  refine zS <| Qa rfl <| Qa rfl <| JL.nil ?_
  exact zro (Up.refl _ _)
 have h0 : ¬ (M.lookE b.entries (M.viewP b.rules p).pits).length = 0 := by have := h8'; omega
 have hC := M.lookC_0 hok h0
 have hq0 : (M.lookE b.entries (M.viewP b.rules p).pits) = M.lookR b p := by first | (rw [hE]; done) | (rw [hC]; done) | exact hE2
 have hq1 : 0 = M.lookC b p := by first | (rw [hE]; done) | (rw [hC]; done) | exact hE2
 refine Js.skip <| zS <| Qm rfl <| Qa rfl <| Qa rfl <| JL.nil ?_
 exact zro (Up.refl _ _) (g := by exact (gv_tup (gvc (gv_flat lChoice (xs := (M.lookE b.entries (M.viewP b.rules p).pits)) po_ (by first | rfl | (simp [fltV]; done)) (by first | with_reducible rfl | assumption | rfl)) (gvc gv_ gvn))))

set_option maxHeartbeats 1000000 in
theorem c_impl_Choice_better (c : M.Cho) {v_c : Value} (t : M.Cho) {v_t : Value} {w : World} (h_c : (Ty.agg (cChoice c)).ok w v_c) (h_t : (Ty.agg (cChoice t)).ok w v_t) (r0 : 0 ≤ c.score := by exact om_) (r1 : c.score ≤ 2000000 := by exact om_) (r2 : 1 ≤ c.games := by exact om_) (r3 : c.games ≤ 1000000 := by exact om_) (r4 : 0 ≤ t.score := by exact om_) (r5 : t.score ≤ 2000000 := by exact om_) (r6 : 1 ≤ t.games := by exact om_) (r7 : t.games ≤ 1000000 := by exact om_) : RetV Tryz.prog 125 [v_c, v_t] w (.bool (M.better c t)) := by
 have m1 := M.mulC_bd r0 r1 r6 r7
 have m2 := M.mulC_bd r4 r5 r2 r3
 revert v_c; apply opn
 revert v_t; apply opn
 refine enter @Tryz.func125 @Tryz.ntmps125 rfl rfl ?_
 refine zent ?_
 refine zS <| zb rfl fun b1 => zb rfl fun b2 => Qa rfl <| zJ ?_
 refine zdr [] ?_
 refine JH.p 0 rfl (p_fieldAddr fld_81_2.h rfl) ?_
 refine JH.q 1 rfl (q_load1 ty_2.h rfl (Mem.box (i := 1) rfl rfl)) ?_
 refine JH.p 2 rfl (p_fieldAddr fld_81_1.h rfl) ?_
 refine JH.q 3 rfl (q_load1 ty_2.h rfl (Mem.box (i := 0) rfl rfl)) ?_
 refine JH.p 4 rfl (p_mul rfl rfl (IntWalk.i64_in _ (by omega))) ?_
 refine JH.p 5 rfl (p_fieldAddr fld_81_2.h rfl) ?_
 refine JH.q 6 rfl (q_load1 ty_2.h rfl (Mem.box (i := 0) rfl rfl)) ?_
 refine JH.p 7 rfl (p_fieldAddr fld_81_1.h rfl) ?_
 refine JH.q 8 rfl (q_load1 ty_2.h rfl (Mem.box (i := 1) rfl rfl)) ?_
 refine JH.p 9 rfl (p_mul rfl rfl (IntWalk.i64_in _ (by omega))) ?_
 refine JH.p 10 rfl (p_assign rfl) ?_
 refine JH.p 11 rfl (p_assign rfl) ?_
 refine yd ?_
 refine zS <| Qm rfl <| Qm rfl <| Qg rfl rfl <| Qm rfl <| zg (Gd.f1 rfl rfl rfl) (fun hc => p_move rfl) <| zg (Gd.f1 rfl rfl rfl) (fun hc => p_move rfl) <| zg (Gd.f1 rfl rfl rfl) (fun hc => p_eql (gh hc rfl) (gh hc rfl)) <| zg (Gd.f1 rfl rfl rfl) (fun hc => p_move (gh hc rfl)) <| zg (Gd.t2 rfl rfl rfl) (fun hc => p_fieldAddr fld_81_1.h rfl) <| zgq (Gd.t2 rfl rfl rfl) (fun hc => q_load1 ty_2.h (gh hc rfl) (Mem.box (i := 1) rfl rfl)) <| zg (Gd.t2 rfl rfl rfl) (fun hc => p_fieldAddr fld_81_1.h rfl) <| zgq (Gd.t2 rfl rfl rfl) (fun hc => q_load1 ty_2.h (gh hc rfl) (Mem.box (i := 0) rfl rfl)) <| zg (Gd.t2 rfl rfl rfl) (fun hc => p_gtr (gh hc rfl) (gh hc rfl)) ?_
 refine zg (Gd.f1 rfl rfl rfl) (fun hc => p_pickAnd (gh hc rfl) (gvl rfl hc) rfl) <| Qq (p_pickOr rfl rfl rfl) <| Qa rfl <| JL.nil ?_
 refine zR (Up.refl _ _) ?_
 rfl

set_option maxHeartbeats 1000000 in
theorem c_impl_bestChoice (cl : List M.Cho) {v_cl : Value} {w : World} (h_cl : (Ty.sl 81 3 cl.length (lChoice cl)).ok w v_cl) (r0 : 0 < cl.length := by exact om_) (r1 : cl.length ≤ 4194304 := by exact om_) (r2 : M.ChoB cl := by exact om_) : Ret Tryz.prog 66 [v_cl] w (Ty.agg (cChoice (M.cbest cl))) := by
 obtain ⟨b1_, b2_, b3_, b4_⟩ := r2 _ (M.cho_mem r0)
 revert v_cl; apply opn
 intro A1 c1 h1 bl1 bh1
 have h_cl := h1
 refine enter @Tryz.func66 @Tryz.ntmps66 rfl rfl ?_
 refine zent ?_
 have hy3 : cl[0]? = some (M.cho cl 0) := M.cho_get (by omega)
 obtain ⟨b3, o3, he3, hr3⟩ := elem_Choice h1 hy3
 refine zS <| za zeh fun b2 => zN <| Qm rfl <| Qq (p_indexAddr el_67 rfl rfl (by omega) (by omega) he3) <| QS 0 hr3 rfl ?_
 refine za zeh fun b4 => zw 0 rfl rfl rfl ?_
 refine zJ <| zS <| Qm rfl <| Qz rfl <| Qm rfl <| JL.nil <| Js.block ?_
 refine zl [2, 3, 9, 10] (fun F U l os u m => ∃ (k : Nat) (x : M.Cho), l = F [(11, .int .i64 (k : Int))] ∧ os = U [some (boxO b4 [.int .i64 x.move, .int .i64 x.games, .int .i64 x.score] 81)] ∧ (M.cbF x (cl.drop k) = M.cbest cl) ∧ (k ≤ cl.length) ∧ (1 ≤ x.games) ∧ (x.games ≤ 1000000) ∧ (0 ≤ x.score) ∧ (x.score ≤ 2000000) ∧ m = cl.length - k) ⟨0, (M.cho cl 0), rfl, rfl, by rfl, zt, zt, zt, zt, zt, rfl⟩ ?_
 rintro _ _ u5 _ ⟨k, x, rfl, rfl, hB, hk, x1_, x2_, x3_, x4_, rfl⟩ x5
 refine zn ?_
 refine zS <| Ql rfl rfl <| zJ ?_
 refine zi (fun h6 h6' => ?_) fun h6 h6' => ?_
 ·
  have hkk : k < cl.length := by have := h6'; omega
  obtain ⟨c1_, c2_, c3_, c4_⟩ := r2 _ (M.cho_mem hkk)
  have hy7 : cl[k]? = some (M.cho cl k) := M.cho_get (by omega)
  obtain ⟨b7, o7, he7, hr7⟩ := elem_Choice (Ty.mono _ h1 x5.vis) hy7
  refine Js.skip <| Js.seq <| Js.block <| zS <| Qq (p_indexAddr el_67 rfl rfl (by omega) (by omega) he7) <| QS 0 hr7 rfl ?_
  refine za zeh fun b8 => zw 0 rfl rfl rfl ?_
  refine zN <| Q9 0 rfl rfl ?_
  refine Q9 1 rfl rfl ?_
  refine zv rfl (fun w hw => c_impl_Choice_better (M.cho cl k) x (ok_ hw) (ok_ hw)) <| JL.nil ?_
  refine zi (fun h9 h9' => ?_) fun h9 h9' => ?_
  ·
   have hB2 := M.cbF_yes hB hkk h9
   refine Js.region <| Q9 0 rfl rfl ?_
   refine zw 1 rfl rfl rfl ?_
   refine JL.nil <| Js.blockEnd <| Js.region <| Qp rfl rfl <| Qm rfl <| JL.nil ?_
   refine zd [1, 1] rfl fun u10 x10 => ?_
   exact zag ⟨k + 1, (M.cho cl k), rfl, rfl, by exact hB2, zt, zt, zt, zt, zt, rfl⟩ (x5.trans x10)
  have hB2 := M.cbF_no hB hkk h9
  refine Js.skip <| Js.blockEnd <| Js.region <| Qp rfl rfl <| Qm rfl <| JL.nil ?_
  refine zd [1, 1] rfl fun u11 x11 => ?_
  exact zag ⟨k + 1, x, rfl, rfl, by exact hB2, zt, zt, zt, zt, zt, rfl⟩ (x5.trans x11)
 have hE := M.cbF_end hB (by have := h6'; omega)
 refine zx ?_
 have hq0 : x.move = (M.cbest cl).move := by first | (rw [hE]; done) | rfl
 have hq1 : x.games = (M.cbest cl).games := by first | (rw [hE]; done) | rfl
 have hq2 : x.score = (M.cbest cl).score := by first | (rw [hE]; done) | rfl
 refine zS <| Q9 0 rfl rfl ?_
 refine zw 1 rfl rfl rfl ?_
 refine JL.nil ?_
 exact zro x5

set_option maxHeartbeats 1000000 in
theorem c_impl_ChooseMove (b : M.Boo) {v_b : Value} (p : M.Pos) {v_p : Value} {w : World} (h_b : (Ty.agg (cBook b)).ok w v_b) (h_p : (Ty.agg (cPosition p)).ok w v_p) (r0 : b.entries.length ≤ 4194304 := by exact om_) (r1 : ∀ x ∈ b.entries, x.pits.length ≤ 4194304 ∧ x.choices.length ≤ 4194304 := by exact om_) (r2 : p.pits.length ≤ 4194304 := by exact om_) (r3 : p.stores.length ≤ 4194304 := by exact om_) : RetV Tryz.prog 32 [v_b, v_p] w (.tuple #[.int .i64 (M.chooseR b p), .int .i64 (M.lookC b p)]) := by
 revert v_b; apply opn
 intro A1 c1 h1 bl1 bh1
 revert v_p; apply opn
 intro A2 c2 h2 bl2 bh2 A3 c3 h3 bl3 bh3
 refine enter @Tryz.func32 @Tryz.ntmps32 rfl rfl ?_
 refine zent ?_
 refine zS <| zb rfl fun b4 => zb rfl fun b5 => Qa rfl <| Qa rfl <| zN <| Q9 1 rfl rfl ?_
 refine Q9 0 rfl rfl ?_
 refine zp rfl (fun w hw => c_impl_LookUp b p (ok_ hw) (ok_ hw) (r1 := r1)) ?_
 intro u6 x6 A7 c7 h7 bl7 bh7
 refine Qm rfl <| Qx rfl rfl <| Qx rfl rfl <| Qa rfl <| Qa rfl <| zJ <| zS <| Qm rfl <| Qd rfl rfl <| JL.nil ?_
 refine zi (fun h8 h8' => ?_) fun h8 h8' => ?_
 ·
  have hE := M.chooseR_n (b := b) (p := p) (by simpa using h8)
  refine zS <| Qm rfl <| Qa rfl <| Qa rfl <| JL.nil ?_
  refine zR x6 ?_
  first | (rw [hE]; rfl) | (rw [hE, hz]; rfl)
 have hz : M.lookC b p = 0 := by simpa using h8
 obtain ⟨hok, h0⟩ := M.lookC_ok hz
 have hE := M.chooseR_0 hz
 have hR := M.lookR_yes hok
 have hcb : M.ChoB (M.lookR b p) := by rw [hR]; exact M.lookE_b hok.1 _
 have hlp : 0 < (M.lookR b p).length := by rw [hR]; omega
 have hlb : (M.lookR b p).length ≤ 4194304 := by rw [hR]; exact M.lookE_mem (fun x hx => (r1 x hx).2)
 rw [← hR] at hE
 refine Js.skip <| zS <| Qm rfl <| zp rfl (fun w hw => c_impl_bestChoice (M.lookR b p) (ok_ hw) (r2 := hcb)) ?_
 intro u9 x9
 refine Qi fh rfl rfl <| Qa rfl <| Qa rfl <| JL.nil ?_
 refine zR (x6.trans x9) ?_
 first | (rw [hE]; rfl) | (rw [hE, hz]; rfl)

end Go.Proofs.YtcmfnlleikcpnaaGreat

namespace Go.Proofs.YtcmfnlleikcpnaaGreat
open Go.RowKit

set_option maxHeartbeats 1000000 in
theorem c_impl_BookLine (b : M.Boo) {v_b : Value} (p : M.Pos) {v_p : Value} (n : Int) {w : World} (h_b : (Ty.agg (cBook b)).ok w v_b) (h_p : (Ty.agg (cPosition p)).ok w v_p) (r0 : b.entries.length ≤ 4194304 := by exact om_) (r1 : ∀ x ∈ b.entries, x.pits.length ≤ 4194304 ∧ x.choices.length ≤ 4194304 := by exact om_) (r2 : p.pits.length ≤ 4194304 := by exact om_) (r3 : p.stores.length ≤ 4194304 := by exact om_) : Ret Tryz.prog 13 [v_b, v_p, .int .i64 n] w (Ty.tup [Ty.ints 2 (M.blR b p n), Ty.int (M.blC b p n)]) := by
 revert v_b; apply opn
 intro A1 c1 h1 bl1 bh1
 revert v_p; apply opn
 intro A2 c2 h2 bl2 bh2 A3 c3 h3 bl3 bh3
 refine enter @Tryz.func13 @Tryz.ntmps13 rfl rfl ?_
 refine zent ?_
 refine zS <| zb rfl fun b4 => zb rfl fun b5 => Qa rfl <| Qa rfl <| zJ <| zS <| Q9 1 rfl rfl ?_
 refine zv rfl (fun w hw => c_impl_ValidBook b (ok_ hw) (r1 := r1)) <| Qt rfl <| Qm rfl <| zg (Gd.f1 rfl rfl rfl) (fun hc => p_fieldAddr fld_37_0.h rfl) <| zgq (Gd.f1 rfl rfl rfl) (fun hc => L9 1 (gh hc rfl) rfl) <| zgq (Gd.f1 rfl rfl rfl) (fun hc => L9 0 rfl rfl) <| zgv (Gd.f1 rfl rfl rfl) (fun hc => (opds_2 (gh hc rfl) (gh hc rfl))) (fun hc => (fun w hw => c_impl_ValidPosition b.rules p (ok_ hw) (ok_ hw) (r0 := (by have hc9 := hc; (try simp only [Bool.not_eq_true', Bool.not_eq_false'] at hc9); omega)) (r1 := (by have hc9 := hc; (try simp only [Bool.not_eq_true', Bool.not_eq_false'] at hc9); omega)))) ?_
 refine zg (Gd.f1 rfl rfl rfl) (fun hc => p_not (gh hc rfl)) <| Qq (p_pickOr rfl rfl rfl) <| JL.nil ?_
 refine zi (fun h6 h6' => ?_) fun h6 h6' => ?_
 ·
  have hno : ¬ (M.okB b = true ∧ M.okP b.rules p = true) := by have h9 := h6; rintro ⟨a1, a2⟩; rw [a1, a2] at h9; simp at h9
  obtain ⟨hE, hC⟩ := M.bl_no (n := n) hno
  have hq0 : [] = M.blR b p n := by first | (rw [hE]; done) | (rw [hC]; done)
  have hq1 : 1 = M.blC b p n := by first | (rw [hE]; done) | (rw [hC]; done)
  refine zS <| Qa rfl <| Qa rfl <| JL.nil ?_
  exact zro (Up.refl _ _)
 have hok : M.okB b = true ∧ M.okP b.rules p = true := by have h9 := h6; simpa using h9
 refine Js.skip <| Js.seq <| zS <| Qm rfl <| zv rfl (fun w hw => c_impl_between n 0 20) <| Qt rfl <| JL.nil ?_
 refine zi (fun h7 h7' => ?_) fun h7 h7' => ?_
 ·
  obtain ⟨hE, hC⟩ := M.bl_2 (n := n) hok (by simpa using h7)
  have hq0 : [] = M.blR b p n := by first | (rw [hE]; done) | (rw [hC]; done)
  have hq1 : 2 = M.blC b p n := by first | (rw [hE]; done) | (rw [hC]; done)
  refine zS <| Qa rfl <| Qa rfl <| JL.nil ?_
  exact zro (Up.refl _ _)
 have hbt : M.betw n 0 20 = true := by simpa using h7
 obtain ⟨hE, hC⟩ := M.bl_0 hok hbt
 have hn9 : 0 ≤ n ∧ n ≤ 20 := by simpa [M.betw] using hbt
 refine Js.skip <| zS <| zbs fun b8 => ?_
 refine Qa rfl <| zJ <| Js.block ?_
 refine zl [2, 3, 4] (fun F U l os u m => ∃ (out : List Int) (q : M.Pos) (A10_8 : Option Addr) (c10_8 : Nat) (g10_8 : List Nat) (A10_4_0 : Option Addr) (c10_4_0 : Nat) (A10_4_1 : Option Addr) (c10_4_1 : Nat), l = F [(8, .slice A10_8 out.length c10_8)] ∧ os = U [some (rowO 2 1 (.slice A10_8 out.length c10_8) out.length (ints_ out) g10_8), some (boxO b5 [.slice A10_4_0 q.pits.length c10_4_0, .slice A10_4_1 q.stores.length c10_4_1, .int .i64 q.player] 39)] ∧ (out ++ M.bookL b (n.toNat - out.length) q = M.bookL b n.toNat p) ∧ (M.okV b.rules q) ∧ (out.length ≤ n.toNat) ∧ (out.length ≤ c10_8) ∧ (c10_8 ≤ 9223372036854775807) ∧ ((Ty.ints 2 q.pits).ok u (.slice A10_4_0 q.pits.length c10_4_0)) ∧ (q.pits.length ≤ c10_4_0) ∧ (c10_4_0 ≤ 9223372036854775807) ∧ ((Ty.ints 2 q.stores).ok u (.slice A10_4_1 q.stores.length c10_4_1)) ∧ (q.stores.length ≤ c10_4_1) ∧ (c10_4_1 ≤ 9223372036854775807) ∧ m = n.toNat - out.length) ⟨[], p, _, _, _, _, _, _, _, rfl, rfl, by rfl, by exact Or.inl hok.2, by simp, zu, zu, h2, zu, zu, h3, zu, zu, rfl⟩ ?_
 rintro _ _ u10 _ ⟨out, q, A10_8, c10_8, g10_8, A10_4_0, c10_4_0, A10_4_1, c10_4_1, rfl, rfl, hL, hv, hk, f10_3, f10_4, f10_5, f10_6, f10_7, f10_8, f10_9, f10_10, rfl⟩ x10
 refine zn ?_
 have hvl := M.okV_len hv
 refine Js.seq <| zS <| Qm rfl <| Qz rfl <| Qm rfl <| Ql rfl rfl <| JL.nil ?_
 refine zi (fun h11 h11' => ?_) fun h11 h11' => ?_
 ·
  refine Js.skip <| Js.block <| zS <| Q9 2 rfl rfl ?_
  refine Q9 1 rfl rfl ?_
  refine zp rfl (fun w hw => c_impl_Book_lookUp b q (ok_ hw) (ok_ hw) (r1 := r1) (r2 := hv)) ?_
  intro u12 x12 A13 c13 h13 bl13 bh13
  refine Qa rfl <| zJ <| zS <| Qm rfl <| Qz rfl <| Qe rfl rfl <| JL.nil ?_
  refine zi (fun h14 h14' => ?_) fun h14 h14' => ?_
  ·
   have h0 : (M.lookE b.entries (M.viewP b.rules q).pits).length = 0 := by have := h14'; omega
   have hX := M.bookL_stop hL h0
   rw [hX] at hE
   refine zx ?_
   have hq0 : out = M.blR b p n := by first | (rw [hE]; done) | (rw [hC]; done)
   have hq1 : 0 = M.blC b p n := by first | (rw [hE]; done) | (rw [hC]; done)
   refine zS <| Qm rfl <| Qa rfl <| Qa rfl <| JL.nil ?_
   exact zro (x10.trans x12)
  have h0 : ¬ (M.lookE b.entries (M.viewP b.rules q).pits).length = 0 := by have := h14'; omega
  have hcb : M.ChoB (M.lookE b.entries (M.viewP b.rules q).pits) := M.lookE_b hok.1 _
  have hel := M.lookE_mem (pits := (M.viewP b.rules q).pits) (n := 4194304) (fun x hx => (r1 x hx).2)
  have hL2 := M.bookL_step hL (by omega) h0
  have hL3 : (out ++ [(M.cbest (M.lookE b.entries (M.viewP b.rules q).pits)).move]).length = out.length + 1 := by simp
  refine Js.skip <| zS <| Qm rfl <| zp rfl (fun w hw => c_impl_bestChoice (M.lookE b.entries (M.viewP b.rules q).pits) (ok_ hw) (r2 := hcb)) ?_
  intro u15 x15
  refine Qi fh rfl rfl <| Qa rfl <| zN <| Qf fh rfl <| Q9 2 rfl rfl ?_
  refine Q9 1 rfl rfl ?_
  refine Qm rfl <| zp rfl (fun w hw => c_impl_Rules_resultOf b.rules q ((M.cbest (M.lookE b.entries (M.viewP b.rules q).pits)).move) (ok_ hw) (ok_ hw)) ?_
  intro u16 x16 A17 c17 h17 bl17 bh17 A18 c18 h18 bl18 bh18
  refine Qm rfl <| Qx rfl rfl <| Qx rfl rfl <| za zeh fun b19 => zw 0 rfl rfl rfl ?_
  refine Qa rfl <| JL.nil ?_
  refine zk [2, 3, 4] (fun F U l os u => ∃ (A24 : Option Addr) (c24 b20 : Nat) (g23 : List Nat), l = F [(8, .slice A24 ((out ++ [((M.cbest (M.lookE b.entries (M.viewP b.rules q).pits)).move)]).length) c24)] ∧ os = [rowO 2 1 (.slice (some ⟨b20, 0, none⟩) 1 1) 1 [.int .i64 ((M.cbest (M.lookE b.entries (M.viewP b.rules q).pits)).move)] []] ++ U [nO, some (rowO 2 1 (.slice A24 ((out ++ [((M.cbest (M.lookE b.entries (M.viewP b.rules q).pits)).move)]).length) c24) ((out ++ [((M.cbest (M.lookE b.entries (M.viewP b.rules q).pits)).move)]).length) (ints_ (out ++ [((M.cbest (M.lookE b.entries (M.viewP b.rules q).pits)).move)])) g23), some (boxO b5 [.slice A17 (((((M.make b.rules q ((M.cbest (M.lookE b.entries (M.viewP b.rules q).pits)).move)).1).next).pits).length) c17, .slice A18 (((((M.make b.rules q ((M.cbest (M.lookE b.entries (M.viewP b.rules q).pits)).move)).1).next).stores).length) c18, .int .i64 ((((M.make b.rules q ((M.cbest (M.lookE b.entries (M.viewP b.rules q).pits)).move)).1).next).player)] 39)] ∧ ((out ++ [((M.cbest (M.lookE b.entries (M.viewP b.rules q).pits)).move)]).length ≤ c24) ∧ (c24 ≤ 9223372036854775807)) ?_ ?_
  ·
   refine zdr [3, 7] ?_
   refine JH.p 0 rfl (p_move rfl) ?_
   refine JH.p 1 rfl (p_move rfl) ?_
   refine JH.p 4 rfl (p_fieldAddr fld_101_3.h rfl) ?_
   refine y2 2 5 ?_ ?_
   ·
    refine ybs rfl fun b34 => ?_
    refine y2 3 5 ?_ ?_
    ·
     refine JHo.e rfl (e_append (i := 2) (n' := (out ++ [((M.cbest (M.lookE b.entries (M.viewP b.rules q).pits)).move)]).length) (vs' := ints_ (out ++ [((M.cbest (M.lookE b.entries (M.viewP b.rules q).pits)).move)])) el_27 rfl rfl rfl rfl (src_row (i := 0) und_27 rfl rfl) (by omega) (by omega) (by first | omega | (simp only [List.length_append, List.length_cons, List.length_nil, List.length_take, List.length_drop] <;> omega)) (by simp [ints_])) (.inr rfl) ?_
     rintro v36 _ _ ⟨⟨g37, rfl⟩, rfl⟩ _
     refine JH.fact (row_form' (i := 2) rfl) (fun hf38 => ?_)
     obtain ⟨A38, c38, rfl, bl38, bh38⟩ := hf38
     refine znh ?_
     refine JH.p 6 rfl (p_assign rfl) ?_
     refine y1 5 ?_
     refine JHo.q rfl (L9 1 rfl rfl) ?_
     refine y1 7 ?_
     refine yst rfl rfl rfl ?_
     refine yd ?_
     exact zm ⟨_, _, _, _, rfl, rfl, zt, zt⟩ (Up.refl _ _)
    refine JHo.q rfl (L9 1 rfl rfl) ?_
    refine y1 3 ?_
    refine JHo.e rfl (e_append (i := 2) (n' := (out ++ [((M.cbest (M.lookE b.entries (M.viewP b.rules q).pits)).move)]).length) (vs' := ints_ (out ++ [((M.cbest (M.lookE b.entries (M.viewP b.rules q).pits)).move)])) el_27 rfl rfl rfl rfl (src_row (i := 0) und_27 rfl rfl) (by omega) (by omega) (by first | omega | (simp only [List.length_append, List.length_cons, List.length_nil, List.length_take, List.length_drop] <;> omega)) (by simp [ints_])) (.inr rfl) ?_
    rintro v39 _ _ ⟨⟨g40, rfl⟩, rfl⟩ _
    refine JH.fact (row_form' (i := 2) rfl) (fun hf41 => ?_)
    obtain ⟨A41, c41, rfl, bl41, bh41⟩ := hf41
    refine znh ?_
    refine JH.p 6 rfl (p_assign rfl) ?_
    refine y1 7 ?_
    refine yst rfl rfl rfl ?_
    refine yd ?_
    exact zm ⟨_, _, _, _, rfl, rfl, zt, zt⟩ (Up.refl _ _)
   refine JHo.q rfl (L9 0 rfl rfl) ?_
   refine y1 2 ?_
   refine ybs rfl fun b42 => ?_
   refine y1 3 ?_
   refine JHo.e rfl (e_append (i := 2) (n' := (out ++ [((M.cbest (M.lookE b.entries (M.viewP b.rules q).pits)).move)]).length) (vs' := ints_ (out ++ [((M.cbest (M.lookE b.entries (M.viewP b.rules q).pits)).move)])) el_27 rfl rfl rfl rfl (src_row (i := 0) und_27 rfl rfl) (by omega) (by omega) (by first | omega | (simp only [List.length_append, List.length_cons, List.length_nil, List.length_take, List.length_drop] <;> omega)) (by simp [ints_])) (.inr rfl) ?_
   rintro v44 _ _ ⟨⟨g45, rfl⟩, rfl⟩ _
   refine JH.fact (row_form' (i := 2) rfl) (fun hf46 => ?_)
   obtain ⟨A46, c46, rfl, bl46, bh46⟩ := hf46
   refine znh ?_
   refine JH.p 6 rfl (p_assign rfl) ?_
   refine y1 7 ?_
   refine yst rfl rfl rfl ?_
   refine yd ?_
   exact zm ⟨_, _, _, _, rfl, rfl, zt, zt⟩ (Up.refl _ _)
  rintro _ _ u33 ⟨A24, c24, b20, g23, rfl, rfl, f33_0, f33_1⟩ x33
  refine zn ?_
  refine Js.blockEnd ?_
  refine zd [2, 2, 2] rfl fun u47 x47 => ?_
  exact zag ⟨out ++ [((M.cbest (M.lookE b.entries (M.viewP b.rules q).pits)).move)], (((M.make b.rules q ((M.cbest (M.lookE b.entries (M.viewP b.rules q).pits)).move)).1).next), _, _, _, _, _, _, _, rfl, rfl, by exact hL2, by exact M.okV_next _ _ _, by simp; omega, zu, zu, (Ty.mono _ h17 (x33.vis.trans x47.vis)), zu, zu, (Ty.mono _ h18 (x33.vis.trans x47.vis)), zu, zu, rfl⟩ (((((x10.trans x12).trans x15).trans x16).trans x33).trans x47)
 have hX := M.bookL_end hL (by have := h11'; omega)
 rw [hX] at hE
 refine zx ?_
 have hq0 : out = M.blR b p n := by first | (rw [hE]; done) | (rw [hC]; done)
 have hq1 : 0 = M.blC b p n := by first | (rw [hE]; done) | (rw [hC]; done)
 refine zS <| Qm rfl <| Qa rfl <| Qa rfl <| JL.nil ?_
 exact zro x10

end Go.Proofs.YtcmfnlleikcpnaaGreat

namespace Go.Proofs.YtcmfnlleikcpnaaGreat
open Go.RowKit

set_option maxHeartbeats 1000000 in
theorem c_impl_NewBook (r : M.Rul) {v_r : Value} {w : World} (h_r : (Ty.agg (cRules r)).ok w v_r) : Ret Tryz.prog 38 [v_r] w (Ty.tup [Ty.agg (cBook ((M.newB r).1)), Ty.int ((M.newB r).2)]) := by
 revert v_r; apply opn
 refine enter @Tryz.func38 @Tryz.ntmps38 rfl rfl ?_
 refine zent ?_
 refine zS <| zb rfl fun b1 => za zeh fun b2 => Qa rfl <| zJ <| zS <| Q9 1 rfl rfl ?_
 refine zv rfl (fun w hw => c_impl_ValidRules r (ok_ hw)) <| Qt rfl <| JL.nil ?_
 refine zi (fun h3 h3' => ?_) fun h3 h3' => ?_
 ·
  have hE := M.newB_1 (by simpa using h3)
  have hq0 : 0 = (((M.newB r).1).rules).pits := by first | (rw [hE]; done) | (rw [hE]; rfl)
  have hq1 : 0 = (((M.newB r).1).rules).seeds := by first | (rw [hE]; done) | (rw [hE]; rfl)
  have hq2 : false = (((M.newB r).1).rules).stores := by first | (rw [hE]; done) | (rw [hE]; rfl)
  have hq3 : false = (((M.newB r).1).rules).skip := by first | (rw [hE]; done) | (rw [hE]; rfl)
  have hq4 : false = (((M.newB r).1).rules).relay := by first | (rw [hE]; done) | (rw [hE]; rfl)
  have hq5 : false = (((M.newB r).1).rules).feed := by first | (rw [hE]; done) | (rw [hE]; rfl)
  have hq6 : false = (((M.newB r).1).rules).again := by first | (rw [hE]; done) | (rw [hE]; rfl)
  have hq7 : 0 = (((M.newB r).1).rules).capture := by first | (rw [hE]; done) | (rw [hE]; rfl)
  have hq8 : 0 = (((M.newB r).1).rules).slam := by first | (rw [hE]; done) | (rw [hE]; rfl)
  have hq9 : [] = ((M.newB r).1).entries := by first | (rw [hE]; done) | (rw [hE]; rfl)
  have hq10 : 1 = (M.newB r).2 := by first | (rw [hE]; done) | (rw [hE]; rfl)
  refine zS <| Qb ?_
  refine zw 0 rfl rfl rfl ?_
  refine Qa rfl <| JL.nil ?_
  exact zro (Up.refl _ _)
 have hE := M.newB_0 (by simpa using h3)
 have hq0 : r.pits = (((M.newB r).1).rules).pits := by first | (rw [hE]; done) | (rw [hE]; rfl)
 have hq1 : r.seeds = (((M.newB r).1).rules).seeds := by first | (rw [hE]; done) | (rw [hE]; rfl)
 have hq2 : r.stores = (((M.newB r).1).rules).stores := by first | (rw [hE]; done) | (rw [hE]; rfl)
 have hq3 : r.skip = (((M.newB r).1).rules).skip := by first | (rw [hE]; done) | (rw [hE]; rfl)
 have hq4 : r.relay = (((M.newB r).1).rules).relay := by first | (rw [hE]; done) | (rw [hE]; rfl)
 have hq5 : r.feed = (((M.newB r).1).rules).feed := by first | (rw [hE]; done) | (rw [hE]; rfl)
 have hq6 : r.again = (((M.newB r).1).rules).again := by first | (rw [hE]; done) | (rw [hE]; rfl)
 have hq7 : r.capture = (((M.newB r).1).rules).capture := by first | (rw [hE]; done) | (rw [hE]; rfl)
 have hq8 : r.slam = (((M.newB r).1).rules).slam := by first | (rw [hE]; done) | (rw [hE]; rfl)
 have hq9 : [] = ((M.newB r).1).entries := by first | (rw [hE]; done) | (rw [hE]; rfl)
 have hq10 : 0 = (M.newB r).2 := by first | (rw [hE]; done) | (rw [hE]; rfl)
 refine Js.skip <| zS <| Q9 1 rfl rfl ?_
 refine Qb ?_
 refine zw 0 rfl rfl rfl ?_
 refine Qa rfl <| JL.nil ?_
 exact zro (Up.refl _ _)

set_option maxHeartbeats 1000000 in
theorem c_impl_sameChoices (a : List M.Cho) {v_a : Value} (b : List M.Cho) {v_b : Value} {w : World} (h_a : (Ty.sl 81 3 a.length (lChoice a)).ok w v_a) (h_b : (Ty.sl 81 3 b.length (lChoice b)).ok w v_b) (r0 : a.length ≤ 4194304 := by exact om_) (r1 : b.length ≤ 4194304 := by exact om_) : RetV Tryz.prog 102 [v_a, v_b] w (.bool (decide (a = b))) := by
 revert v_a; apply opn
 intro A1 c1 h1 bl1 bh1
 have h_a := h1
 revert v_b; apply opn
 intro A2 c2 h2 bl2 bh2
 have h_b := h2
 refine enter @Tryz.func102 @Tryz.ntmps102 rfl rfl ?_
 refine zent ?_
 refine zS <| Qa rfl <| zJ <| zS <| Qm rfl <| Qz rfl <| Qm rfl <| Qz rfl <| Qd rfl rfl <| JL.nil ?_
 refine zi (fun h3 h3' => ?_) fun h3 h3' => ?_
 ·
  have e1 : decide (a = b) = false := decide_eq_false (by rintro rfl; simp at h3)
  refine zS <| Qa rfl <| JL.nil ?_
  refine zR (Up.refl _ _) ?_
  simp [outV, e1]
 have hlen : a.length = b.length := by have := h3'; omega
 refine Js.skip <| Js.seq <| zS <| Qm rfl <| Qz rfl <| Qm rfl <| JL.nil <| Js.block ?_
 refine zl [0, 1, 12] (fun F U l os u m => ∃ (k : Nat), l = F [(13, .int .i64 (k : Int))] ∧ os = U [] ∧ (k ≤ a.length) ∧ (a.take k = b.take k) ∧ m = a.length - k) ⟨0, rfl, rfl, zt, by rfl, rfl⟩ ?_
 rintro _ _ u4 _ ⟨k, rfl, rfl, hk, hU, rfl⟩ x4
 refine zn ?_
 refine zS <| Ql rfl rfl <| zJ ?_
 refine zi (fun h5 h5' => ?_) fun h5 h5' => ?_
 ·
  have hkk : k < a.length := by have := h5'; omega
  refine Js.skip <| Js.seq <| Js.block <| zS <| Qm rfl <| Qa rfl <| zJ ?_
  refine zdr [] ?_
  refine JH.p 0 rfl (p_move rfl) ?_
  refine JH.p 1 rfl (p_move rfl) ?_
  have hy6 : a[k]? = some (M.cho a k) := M.cho_get (by omega)
  obtain ⟨b6, o6, he6, hr6⟩ := elem_Choice (Ty.mono _ h1 x4.vis) hy6
  refine JH.p 2 rfl (p_indexAddr el_67 rfl rfl (by omega) (by omega) he6) ?_
  refine JH.w 3 rfl (fun os' u' hv => LS 0 (hr6.vis hv) rfl) ?_
  refine JH.p 4 rfl (p_move rfl) ?_
  refine JH.p 5 rfl (p_move rfl) ?_
  have hy7 : b[k]? = some (M.cho b k) := M.cho_get (by omega)
  obtain ⟨b7, o7, he7, hr7⟩ := elem_Choice (Ty.mono _ h2 x4.vis) hy7
  refine JH.p 6 rfl (p_indexAddr el_67 rfl rfl (by omega) (by omega) he7) ?_
  refine JH.w 7 rfl (fun os' u' hv => LS 0 (hr7.vis hv) rfl) ?_
  refine JH.p 8 rfl (p_neqS (by kernel_rfl) (fun w => eqs_Choice (M.cho a k) (M.cho b k) w) rfl rfl) ?_
  refine yd ?_
  refine zi (fun h8 h8' => ?_) fun h8 h8' => ?_
  ·
   have e1 : decide (a = b) = false := decide_eq_false (M.upto_ne (M.cho_get hkk) (M.cho_get (by omega)) (by simpa using h8))
   refine zS <| Qa rfl <| JL.nil ?_
   refine zR x4 ?_
   simp [outV, e1]
  have hab : M.cho a k = M.cho b k := by simpa using h8
  have hU2 := M.upto_step hU (M.cho_get hkk) (by rw [hab]; exact M.cho_get (by omega))
  refine Js.skip <| Js.blockEnd <| Js.region <| Qp rfl rfl <| Qm rfl <| JL.nil ?_
  exact zag ⟨k + 1, rfl, rfl, zt, by exact hU2, rfl⟩ x4
 have e1 : a = b := M.upto_done hU (by have := h5'; omega) (by have := h5'; omega)
 refine zx ?_
 refine zS <| Qa rfl <| JL.nil ?_
 refine zR x4 ?_
 simp [outV, e1]

set_option maxHeartbeats 4000000 in
theorem c_impl_SameBook (a : M.Boo) {v_a : Value} (b : M.Boo) {v_b : Value} {w : World} (h_a : (Ty.agg (cBook a)).ok w v_a) (h_b : (Ty.agg (cBook b)).ok w v_b) (r0 : a.entries.length ≤ 4194304 := by exact om_) (r1 : ∀ x ∈ a.entries, x.pits.length ≤ 4194304 ∧ x.choices.length ≤ 4194304 := by exact om_) (r2 : b.entries.length ≤ 4194304 := by exact om_) (r3 : ∀ x ∈ b.entries, x.pits.length ≤ 4194304 ∧ x.choices.length ≤ 4194304 := by exact om_) : RetV Tryz.prog 43 [v_a, v_b] w (.bool (decide (a = b))) := by
 revert v_a; apply opn
 intro A1 c1 h1 bl1 bh1
 revert v_b; apply opn
 intro A2 c2 h2 bl2 bh2
 refine enter @Tryz.func43 @Tryz.ntmps43 rfl rfl ?_
 refine zent ?_
 refine zS <| zb rfl fun b3 => zb rfl fun b4 => Qa rfl <| zJ <| zS <| Qf fh rfl <| Q9 1 rfl rfl ?_
 refine Qf fh rfl <| Q9 0 rfl rfl ?_
 refine Qq (p_neqS (by kernel_rfl) (fun w => eqs_Rules a.rules b.rules w) rfl rfl) <| Qm rfl <| zg (Gd.f1 rfl rfl rfl) (fun hc => p_fieldAddr fld_37_1.h rfl) <| zgq (Gd.f1 rfl rfl rfl) (fun hc => q_load1 ty_35.h (gh hc rfl) (Mem.box (i := 1) rfl rfl)) <| zg (Gd.f1 rfl rfl rfl) (fun hc => p_len el_35 (gh hc rfl)) <| zg (Gd.f1 rfl rfl rfl) (fun hc => p_fieldAddr fld_37_1.h rfl) <| zgq (Gd.f1 rfl rfl rfl) (fun hc => q_load1 ty_35.h (gh hc rfl) (Mem.box (i := 0) rfl rfl)) <| zg (Gd.f1 rfl rfl rfl) (fun hc => p_len el_35 (gh hc rfl)) <| zg (Gd.f1 rfl rfl rfl) (fun hc => p_neq (gh hc rfl) (gh hc rfl)) <| Qq (p_pickOr rfl rfl rfl) <| JL.nil ?_
 refine zi (fun h5 h5' => ?_) fun h5 h5' => ?_
 ·
  have e1 : decide (a = b) = false := decide_eq_false (by rintro rfl; simp at h5)
  refine zS <| Qa rfl <| JL.nil ?_
  refine zR (Up.refl _ _) ?_
  simp [outV, e1]
 have h9 := h5
 simp at h9
 have hru := h9.1
 have hlen : a.entries.length = b.entries.length := by omega
 refine Js.skip <| Js.seq <| zS <| Qf fh rfl <| Q0 1 rfl rfl rfl <| Qz rfl <| Qm rfl <| JL.nil <| Js.block ?_
 refine zl [3, 22, 23] (fun F U l os u m => ∃ (k : Nat), l = F [(24, .int .i64 (k : Int))] ∧ os = U [] ∧ (k ≤ a.entries.length) ∧ (a.entries.take k = b.entries.take k) ∧ m = a.entries.length - k) ⟨0, rfl, rfl, zt, by rfl, rfl⟩ ?_
 rintro _ _ u6 _ ⟨k, rfl, rfl, hk, hU, rfl⟩ x6
 refine zn ?_
 refine zS <| Ql rfl rfl <| zJ ?_
 refine zi (fun h7 h7' => ?_) fun h7 h7' => ?_
 ·
  have hkk : k < a.entries.length := by have := h7'; omega
  obtain ⟨e1a_, e2a_⟩ := r1 _ (M.ent_mem (es := a.entries) (k := k) (by omega))
  obtain ⟨e1b_, e2b_⟩ := r3 _ (M.ent_mem (es := b.entries) (k := k) (by omega))
  have hy8 : a.entries[k]? = some (M.ent a.entries k) := M.ent_get (by omega)
  obtain ⟨b8, o8, A8_0, c8_0, A8_1, c8_1, he8, hr8, h8_0, h8_1, bl8_0, bh8_0, bl8_1, bh8_1⟩ := elem_BookEntry (Ty.mono _ h1 x6.vis) hy8
  refine Js.skip <| Js.seq <| Js.block <| zS <| Qm rfl <| Qq (p_indexAddr el_35 rfl rfl (by omega) (by omega) he8) <| QS 0 hr8 rfl ?_
  refine za zeh fun b9 => Qa rfl <| zw 0 rfl rfl rfl ?_
  refine zJ ?_
  refine zdr [] ?_
  refine JH.p 0 rfl (p_fieldAddr fld_89_0.h rfl) ?_
  refine JH.q 1 rfl (q_load1 ty_27.h rfl (Mem.box (i := 0) rfl rfl)) ?_
  refine JH.p 2 rfl (p_fieldAddr fld_37_1.h rfl) ?_
  refine JH.q 3 rfl (q_load1 ty_35.h rfl (Mem.box (i := 1) rfl rfl)) ?_
  refine JH.p 4 rfl (p_move rfl) ?_
  have hy10 : b.entries[k]? = some (M.ent b.entries k) := M.ent_get (by omega)
  obtain ⟨b10, o10, A10_0, c10_0, A10_1, c10_1, he10, hr10, h10_0, h10_1, bl10_0, bh10_0, bl10_1, bh10_1⟩ := elem_BookEntry (Ty.mono _ h2 x6.vis) hy10
  refine JH.p 5 rfl (p_indexAddr el_35 rfl rfl (by omega) (by omega) he10) ?_
  refine JH.p 6 rfl (p_fieldAddr fld_89_0.h rfl) ?_
  refine JH.w 7 rfl (fun os' u' hv => q_load1 ty_27.h rfl (Mem.pub ((hr10.vis hv) 0 _ rfl))) ?_
  refine y1 8 ?_
  refine yv rfl rfl (fun w hw => c_impl_sameNumbers ((M.ent a.entries k).pits) ((M.ent b.entries k).pits) (ok_ hw) (ok_ hw)) ?_
  refine JH.p 9 rfl (p_not rfl) ?_
  refine JH.p 10 rfl (p_move rfl) ?_
  refine JH.pg 11 rfl (Gd.f1 rfl rfl rfl) (fun hc => p_fieldAddr fld_89_1.h rfl) ?_
  refine JH.qg 12 rfl (Gd.f1 rfl rfl rfl) (fun hc => q_load1 ty_67.h (gvt rfl hc) (Mem.box (i := 0) rfl rfl)) ?_
  refine JH.pg 13 rfl (Gd.f1 rfl rfl rfl) (fun hc => p_fieldAddr fld_37_1.h rfl) ?_
  refine JH.qg 14 rfl (Gd.f1 rfl rfl rfl) (fun hc => q_load1 ty_35.h (gvt rfl hc) (Mem.box (i := 1) rfl rfl)) ?_
  refine JH.pg 15 rfl (Gd.f1 rfl rfl rfl) (fun hc => p_move rfl) ?_
  have hy11 : b.entries[k]? = some (M.ent b.entries k) := M.ent_get (by omega)
  obtain ⟨b11, o11, A11_0, c11_0, A11_1, c11_1, he11, hr11, h11_0, h11_1, bl11_0, bh11_0, bl11_1, bh11_1⟩ := elem_BookEntry (Ty.mono _ h2 x6.vis) hy11
  refine JH.pg 16 rfl (Gd.f1 rfl rfl rfl) (fun hc => p_indexAddr el_35 (gvt rfl hc) (gvt rfl hc) (by have hc9 := hc; (try simp only [Bool.not_eq_true', Bool.not_eq_false', decide_eq_true_eq] at hc9); omega) (by have hc9 := hc; (try simp only [Bool.not_eq_true', Bool.not_eq_false', decide_eq_true_eq] at hc9); omega) he11) ?_
  refine JH.pg 17 rfl (Gd.f1 rfl rfl rfl) (fun hc => p_fieldAddr fld_89_1.h (gvt rfl hc)) ?_
  refine JH.wg 18 rfl (Gd.f1 rfl rfl rfl) (fun hc os' u' hv => q_load1 ty_67.h (gvt rfl hc) (Mem.pub ((hr11.vis hv) 1 _ rfl))) ?_
  refine y1 19 ?_
  refine JHo.ge rfl (Gd.f1 rfl rfl rfl) (fun hc => e_callV fn_102.h (opds_2 (gvt rfl hc) (gvt rfl hc)) (fun w hw => c_impl_sameChoices ((M.ent a.entries k).choices) ((M.ent b.entries k).choices) (ok_ hw) (ok_ hw) (r0 := (by have hc9 := hc; (try simp only [Bool.not_eq_true', Bool.not_eq_false', decide_eq_true_eq] at hc9); omega)) (r1 := (by have hc9 := hc; (try simp only [Bool.not_eq_true', Bool.not_eq_false', decide_eq_true_eq] at hc9); omega)))) ?_
  refine JH.pg 20 rfl (Gd.f1 rfl rfl rfl) (fun hc => p_not (gvt rfl hc)) ?_
  refine JH.p 21 rfl (p_pickOr rfl rfl rfl) ?_
  refine yd ?_
  refine zi (fun h12 h12' => ?_) fun h12 h12' => ?_
  ·
   have e1 : decide (a = b) = false := decide_eq_false (fun q => by have hq : M.ent a.entries k = M.ent b.entries k := (by rw [q]); rw [hq] at h12; simp at h12)
   refine zS <| Qa rfl <| JL.nil ?_
   refine zR x6 ?_
   simp [outV, e1]
  have hq := h12
  simp at hq
  have hab : M.ent a.entries k = M.ent b.entries k := M.ent_ext hq.1 hq.2
  have hU2 := M.upto_step hU (M.ent_get hkk) (by rw [hab]; exact M.ent_get (by omega))
  refine Js.skip <| Js.blockEnd <| Js.region <| Qp rfl rfl <| Qm rfl <| JL.nil ?_
  refine zd [1, 1] rfl fun u13 x13 => ?_
  exact zag ⟨k + 1, rfl, rfl, zt, by exact hU2, rfl⟩ (x6.trans x13)
 have e2 : a.entries = b.entries := M.upto_done hU (by have := h7'; omega) (by have := h7'; omega)
 have e1 : a = b := M.boo_ext hru e2
 refine zx ?_
 refine zS <| Qa rfl <| JL.nil ?_
 refine zR x6 ?_
 simp [outV, e1]

end Go.Proofs.YtcmfnlleikcpnaaGreat

namespace Go.Proofs.YtcmfnlleikcpnaaGreat
open Go.RowKit

set_option maxHeartbeats 1000000 in
theorem c_spec_GameFrom (r : M.Rul) {v_r : Value} (p : M.Pos) {v_p : Value} {w : World} (h_r : (Ty.agg (cRules r)).ok w v_r) (h_p : (Ty.agg (cPosition p)).ok w v_p) (r0 : p.pits.length ≤ 4194304 := by exact om_) (r1 : p.stores.length ≤ 4194304 := by exact om_) : Ret Tryz.prog 44 [v_r, v_p] w (Ty.tup [Ty.agg (cGame ((M.fromG r p).1)), Ty.int ((M.fromG r p).2)]) := by
 revert v_r; apply opn
 revert v_p; apply opn
 intro A1 c1 h1 bl1 bh1 A2 c2 h2 bl2 bh2
 refine enter @Tryz.func44 @Tryz.ntmps44 rfl rfl ?_
 refine zent ?_
 refine zS <| zb rfl fun b3 => zb rfl fun b4 => za zeh fun b5 => Qa rfl <| zJ <| zS <| zv rfl (fun w hw => c_spec_l04Ok r p (ok_ hw) (ok_ hw)) <| Qt rfl <| JL.nil ?_
 refine zi (fun h6 h6' => ?_) fun h6 h6' => ?_
 ·
  have hE := M.fromG_1 (r := r) (p := p) (by simpa using h6)
  have hq0 : 0 = (((M.fromG r p).1).rules).pits := by first | (rw [hE]; done) | (rw [hE]; rfl)
  have hq1 : 0 = (((M.fromG r p).1).rules).seeds := by first | (rw [hE]; done) | (rw [hE]; rfl)
  have hq2 : false = (((M.fromG r p).1).rules).stores := by first | (rw [hE]; done) | (rw [hE]; rfl)
  have hq3 : false = (((M.fromG r p).1).rules).skip := by first | (rw [hE]; done) | (rw [hE]; rfl)
  have hq4 : false = (((M.fromG r p).1).rules).relay := by first | (rw [hE]; done) | (rw [hE]; rfl)
  have hq5 : false = (((M.fromG r p).1).rules).feed := by first | (rw [hE]; done) | (rw [hE]; rfl)
  have hq6 : false = (((M.fromG r p).1).rules).again := by first | (rw [hE]; done) | (rw [hE]; rfl)
  have hq7 : 0 = (((M.fromG r p).1).rules).capture := by first | (rw [hE]; done) | (rw [hE]; rfl)
  have hq8 : 0 = (((M.fromG r p).1).rules).slam := by first | (rw [hE]; done) | (rw [hE]; rfl)
  have hq9 : [] = (((M.fromG r p).1).start).pits := by first | (rw [hE]; done) | (rw [hE]; rfl)
  have hq10 : [] = (((M.fromG r p).1).start).stores := by first | (rw [hE]; done) | (rw [hE]; rfl)
  have hq11 : 0 = (((M.fromG r p).1).start).player := by first | (rw [hE]; done) | (rw [hE]; rfl)
  have hq12 : [] = ((M.fromG r p).1).moves := by first | (rw [hE]; done) | (rw [hE]; rfl)
  have hq13 : [] = (((M.fromG r p).1).now).pits := by first | (rw [hE]; done) | (rw [hE]; rfl)
  have hq14 : [] = (((M.fromG r p).1).now).stores := by first | (rw [hE]; done) | (rw [hE]; rfl)
  have hq15 : 0 = (((M.fromG r p).1).now).player := by first | (rw [hE]; done) | (rw [hE]; rfl)
  have hq16 : 0 = ((M.fromG r p).1).resigned := by first | (rw [hE]; done) | (rw [hE]; rfl)
  have hq17 : 1 = (M.fromG r p).2 := by first | (rw [hE]; done) | (rw [hE]; rfl)
  refine zS <| Qb ?_
  refine zw 0 rfl rfl rfl ?_
  refine Qa rfl <| JL.nil ?_
  exact zro (Up.refl _ _)
 have hE := M.fromG_0 (r := r) (p := p) (by simpa using h6)
 refine Js.skip <| zS <| zcs rfl (fun w hw => c_spec_l08New r p (ok_ hw) (ok_ hw)) ?_
 intro A7_9 c7_9 bl7_9 bh7_9 A7_10 c7_10 bl7_10 bh7_10 A7_12 c7_12 bl7_12 bh7_12 A7_13 c7_13 bl7_13 bh7_13 A7_14 c7_14 bl7_14 bh7_14 f7
 have hq0 : (M.Gam.mk r p [] p (-1)) = (M.fromG r p).1 := by first | (rw [hE]; done) | (rw [hE]; rfl)
 have hq1 : 0 = (M.fromG r p).2 := by first | (rw [hE]; done) | (rw [hE]; rfl)
 refine zw 1 rfl rfl rfl ?_
 refine Qa rfl <| JL.nil ?_
 exact zro (Up.refl _ _)

end Go.Proofs.YtcmfnlleikcpnaaGreat

namespace Go.Proofs.YtcmfnlleikcpnaaGreat
open Go.RowKit

set_option maxHeartbeats 2000000 in
theorem c_spec_PlayMoves (g : M.Gam) {v_g : Value} (moves : List Int) {v_moves : Value} {w : World} (h_g : (Ty.agg (cGame g)).ok w v_g) (h_moves : (Ty.ints 2 moves).ok w v_moves) (r0 : g.start.pits.length ≤ 4194304 := by exact om_) (r1 : g.start.stores.length ≤ 4194304 := by exact om_) (r2 : g.moves.length ≤ 4194304 := by exact om_) (r3 : g.now.pits.length ≤ 4194304 := by exact om_) (r4 : g.now.stores.length ≤ 4194304 := by exact om_) (r5 : moves.length ≤ 4194304 := by exact om_) : Ret Tryz.prog 45 [v_g, v_moves] w (Ty.tup [Ty.agg (cGame ((M.playsR g moves).1)), Ty.int ((M.playsR g moves).2.1 : Int), Ty.int ((M.playsR g moves).2.2)]) := by
 revert v_g; apply opn
 intro A1 c1 h1 bl1 bh1 A2 c2 h2 bl2 bh2 A3 c3 h3 bl3 bh3 A4 c4 h4 bl4 bh4 A5 c5 h5 bl5 bh5
 revert v_moves; apply opn
 intro A6 c6 h6 bl6 bh6
 have h_moves := h6
 refine enter @Tryz.func45 @Tryz.ntmps45 rfl rfl ?_
 refine zent ?_
 refine zS <| zb rfl fun b7 => za zeh fun b8 => Qa rfl <| Qa rfl <| zJ <| zS <| zv rfl (fun w hw => c_spec_l08Ok g (ok_ hw)) <| Qt rfl <| JL.nil ?_
 refine zi (fun h9 h9' => ?_) fun h9 h9' => ?_
 ·
  have hno : M.okG g = false := by simpa using h9
  have hE := M.playsR_no (moves := moves) hno
  have hq0 : 0 = (((M.playsR g moves).1).rules).pits := by first | (rw [hE]; done) | (rw [hE]; rfl)
  have hq1 : 0 = (((M.playsR g moves).1).rules).seeds := by first | (rw [hE]; done) | (rw [hE]; rfl)
  have hq2 : false = (((M.playsR g moves).1).rules).stores := by first | (rw [hE]; done) | (rw [hE]; rfl)
  have hq3 : false = (((M.playsR g moves).1).rules).skip := by first | (rw [hE]; done) | (rw [hE]; rfl)
  have hq4 : false = (((M.playsR g moves).1).rules).relay := by first | (rw [hE]; done) | (rw [hE]; rfl)
  have hq5 : false = (((M.playsR g moves).1).rules).feed := by first | (rw [hE]; done) | (rw [hE]; rfl)
  have hq6 : false = (((M.playsR g moves).1).rules).again := by first | (rw [hE]; done) | (rw [hE]; rfl)
  have hq7 : 0 = (((M.playsR g moves).1).rules).capture := by first | (rw [hE]; done) | (rw [hE]; rfl)
  have hq8 : 0 = (((M.playsR g moves).1).rules).slam := by first | (rw [hE]; done) | (rw [hE]; rfl)
  have hq9 : [] = (((M.playsR g moves).1).start).pits := by first | (rw [hE]; done) | (rw [hE]; rfl)
  have hq10 : [] = (((M.playsR g moves).1).start).stores := by first | (rw [hE]; done) | (rw [hE]; rfl)
  have hq11 : 0 = (((M.playsR g moves).1).start).player := by first | (rw [hE]; done) | (rw [hE]; rfl)
  have hq12 : [] = ((M.playsR g moves).1).moves := by first | (rw [hE]; done) | (rw [hE]; rfl)
  have hq13 : [] = (((M.playsR g moves).1).now).pits := by first | (rw [hE]; done) | (rw [hE]; rfl)
  have hq14 : [] = (((M.playsR g moves).1).now).stores := by first | (rw [hE]; done) | (rw [hE]; rfl)
  have hq15 : 0 = (((M.playsR g moves).1).now).player := by first | (rw [hE]; done) | (rw [hE]; rfl)
  have hq16 : 0 = ((M.playsR g moves).1).resigned := by first | (rw [hE]; done) | (rw [hE]; rfl)
  have hq17 : 0 = ((M.playsR g moves).2.1 : Int) := by first | (rw [hE]; done) | (rw [hE]; rfl)
  have hq18 : 1 = (M.playsR g moves).2.2 := by first | (rw [hE]; done) | (rw [hE]; rfl)
  refine zS <| Qb ?_
  refine zw 0 rfl rfl rfl ?_
  refine Qa rfl <| Qa rfl <| JL.nil ?_
  exact zro (Up.refl _ _)
 have hok : M.okG g = true := by simpa using h9
 obtain ⟨k1, k2, k3, k4, k5, k6, k7, k8, k9⟩ := M.okG_parts hok
 refine Js.skip <| zS <| zc rfl (fun w hw => c_spec_l08Own g (ok_ hw)) ?_
 intro A11 c11 bl11 bh11 A12 c12 bl12 bh12 A13 c13 bl13 bh13 A14 c14 bl14 bh14 A15 c15 bl15 bh15
 refine za zeh fun b16 => zw 0 rfl rfl rfl ?_
 refine zN <| Qa rfl <| zJ <| zS <| Qa rfl <| JL.nil <| Js.block ?_
 refine zl [1, 4, 7] (fun F U l os u m => ∃ (k : Nat) (gk : M.Gam) (A17_7_9 : Option Addr) (c17_7_9 : Nat) (g17_7_9 : List Nat) (A17_7_10 : Option Addr) (c17_7_10 : Nat) (g17_7_10 : List Nat) (A17_7_12 : Option Addr) (c17_7_12 : Nat) (g17_7_12 : List Nat) (A17_7_13 : Option Addr) (c17_7_13 : Nat) (g17_7_13 : List Nat) (A17_7_14 : Option Addr) (c17_7_14 : Nat) (g17_7_14 : List Nat), l = F [(8, .int .i64 (k : Int)), (9, .int .i64 (k : Int))] ∧ os = U [some (boxO b16 [.int .i64 gk.rules.pits, .int .i64 gk.rules.seeds, .bool gk.rules.stores, .bool gk.rules.skip, .bool gk.rules.relay, .bool gk.rules.feed, .bool gk.rules.again, .int .i64 gk.rules.capture, .int .i64 gk.rules.slam, .slice A17_7_9 gk.start.pits.length c17_7_9, .slice A17_7_10 gk.start.stores.length c17_7_10, .int .i64 gk.start.player, .slice A17_7_12 gk.moves.length c17_7_12, .slice A17_7_13 gk.now.pits.length c17_7_13, .slice A17_7_14 gk.now.stores.length c17_7_14, .int .i64 gk.now.player, .int .i64 gk.resigned] 56), some (rowO 2 1 (.slice A17_7_14 gk.now.stores.length c17_7_14) gk.now.stores.length (ints_ gk.now.stores) g17_7_14), some (rowO 2 1 (.slice A17_7_13 gk.now.pits.length c17_7_13) gk.now.pits.length (ints_ gk.now.pits) g17_7_13), some (rowO 2 1 (.slice A17_7_12 gk.moves.length c17_7_12) gk.moves.length (ints_ gk.moves) g17_7_12), some (rowO 2 1 (.slice A17_7_10 gk.start.stores.length c17_7_10) gk.start.stores.length (ints_ gk.start.stores) g17_7_10), some (rowO 2 1 (.slice A17_7_9 gk.start.pits.length c17_7_9) gk.start.pits.length (ints_ gk.start.pits) g17_7_9)] ∧ (M.Plays g moves k gk) ∧ (M.Small gk) ∧ (k ≤ moves.length) ∧ (gk.moves.length ≤ 120) ∧ (gk.start.pits.length ≤ c17_7_9) ∧ (c17_7_9 ≤ 9223372036854775807) ∧ (gk.start.stores.length ≤ c17_7_10) ∧ (c17_7_10 ≤ 9223372036854775807) ∧ (gk.moves.length ≤ c17_7_12) ∧ (c17_7_12 ≤ 9223372036854775807) ∧ (gk.now.pits.length ≤ c17_7_13) ∧ (c17_7_13 ≤ 9223372036854775807) ∧ (gk.now.stores.length ≤ c17_7_14) ∧ (c17_7_14 ≤ 9223372036854775807) ∧ m = moves.length - k) ⟨0, g, _, _, _, _, _, _, _, _, _, _, _, _, _, _, _, rfl, rfl, by exact M.Plays.zero g moves, by exact M.Small.ok hok, zt, by exact k2, zu, zu, zu, zu, zu, zu, zu, zu, zu, zu, rfl⟩ ?_
 rintro _ _ u17 _ ⟨k, gk, A17_7_9, c17_7_9, g17_7_9, A17_7_10, c17_7_10, g17_7_10, A17_7_12, c17_7_12, g17_7_12, A17_7_13, c17_7_13, g17_7_13, A17_7_14, c17_7_14, g17_7_14, rfl, rfl, hP, hs, hk, hm, f17_4, f17_5, f17_6, f17_7, f17_8, f17_9, f17_10, f17_11, f17_12, f17_13, rfl⟩ x17
 refine zn ?_
 have s1 := hs.sp
 have s2 := hs.ss
 have s3 := hs.m
 have s4 := hs.np
 have s5 := hs.ns
 refine Js.seq <| zS <| Qm rfl <| Qm rfl <| Qz rfl <| Ql rfl rfl <| JL.nil ?_
 refine zi (fun h18 h18' => ?_) fun h18 h18' => ?_
 ·
  obtain ⟨b19, o19, he19, hc19⟩ := ints_elem (Ty.mono _ h6 x17.vis) (i := k) (by omega)
  refine Js.skip <| Js.seq <| Js.block <| zS <| Qm rfl <| Qm rfl <| Qq (p_indexAddr el_27 rfl rfl (by omega) (by omega) he19) <| QC hc19 rfl <| zc rfl (fun w hw => c_spec_l08Play gk (M.nth moves k) (ok_ hw)) ?_
  intro A22 c22 bl22 bh22 A23 c23 bl23 bh23 A24 c24 bl24 bh24 A25 c25 bl25 bh25 A26 c26 bl26 bh26
  refine Qm rfl <| Qx rfl rfl <| Qx rfl rfl <| za zeh fun b27 => zw 0 rfl rfl rfl ?_
  refine Qa rfl <| zJ <| zS <| Qm rfl <| Qd rfl rfl <| JL.nil ?_
  refine zi (fun h28 h28' => ?_) fun h28 h28' => ?_
  ·
   have hE : M.playsR g moves = (gk, k, 0) := by rw [M.playsR_yes hok, hP.stop (by omega) (by simpa using h28)]
   refine zx ?_
   have hq0 : gk.rules.pits = (((M.playsR g moves).1).rules).pits := by first | (rw [hE]; done) | (rw [hE]; rfl)
   have hq1 : gk.rules.seeds = (((M.playsR g moves).1).rules).seeds := by first | (rw [hE]; done) | (rw [hE]; rfl)
   have hq2 : gk.rules.stores = (((M.playsR g moves).1).rules).stores := by first | (rw [hE]; done) | (rw [hE]; rfl)
   have hq3 : gk.rules.skip = (((M.playsR g moves).1).rules).skip := by first | (rw [hE]; done) | (rw [hE]; rfl)
   have hq4 : gk.rules.relay = (((M.playsR g moves).1).rules).relay := by first | (rw [hE]; done) | (rw [hE]; rfl)
   have hq5 : gk.rules.feed = (((M.playsR g moves).1).rules).feed := by first | (rw [hE]; done) | (rw [hE]; rfl)
   have hq6 : gk.rules.again = (((M.playsR g moves).1).rules).again := by first | (rw [hE]; done) | (rw [hE]; rfl)
   have hq7 : gk.rules.capture = (((M.playsR g moves).1).rules).capture := by first | (rw [hE]; done) | (rw [hE]; rfl)
   have hq8 : gk.rules.slam = (((M.playsR g moves).1).rules).slam := by first | (rw [hE]; done) | (rw [hE]; rfl)
   have hq9 : gk.start.pits = (((M.playsR g moves).1).start).pits := by first | (rw [hE]; done) | (rw [hE]; rfl)
   have hq10 : gk.start.stores = (((M.playsR g moves).1).start).stores := by first | (rw [hE]; done) | (rw [hE]; rfl)
   have hq11 : gk.start.player = (((M.playsR g moves).1).start).player := by first | (rw [hE]; done) | (rw [hE]; rfl)
   have hq12 : gk.moves = ((M.playsR g moves).1).moves := by first | (rw [hE]; done) | (rw [hE]; rfl)
   have hq13 : gk.now.pits = (((M.playsR g moves).1).now).pits := by first | (rw [hE]; done) | (rw [hE]; rfl)
   have hq14 : gk.now.stores = (((M.playsR g moves).1).now).stores := by first | (rw [hE]; done) | (rw [hE]; rfl)
   have hq15 : gk.now.player = (((M.playsR g moves).1).now).player := by first | (rw [hE]; done) | (rw [hE]; rfl)
   have hq16 : gk.resigned = ((M.playsR g moves).1).resigned := by first | (rw [hE]; done) | (rw [hE]; rfl)
   have hq17 : (k : Int) = ((M.playsR g moves).2.1 : Int) := by first | (rw [hE]; done) | (rw [hE]; rfl)
   have hq18 : 0 = (M.playsR g moves).2.2 := by first | (rw [hE]; done) | (rw [hE]; rfl)
   refine zS <| Q9 6 rfl rfl ?_
   refine Qm rfl <| zw 12 rfl rfl rfl ?_
   refine Qa rfl <| Qa rfl <| JL.nil ?_
   exact zro x17
  have hz : (M.play gk (M.nth moves k)).2 = 0 := by simpa using h28
  have hP2 := hP.step (by omega) hz
  refine Js.skip <| zS <| Q9 0 rfl rfl ?_
  refine zw 6 rfl rfl rfl ?_
  refine zG <| Qm rfl <| Qp rfl rfl <| Qa rfl <| JL.nil <| Js.blockEnd <| Js.region <| Qm rfl <| Qp rfl rfl <| Qa rfl <| JL.nil ?_
  refine zd [6, 1, 1, 1, 1, 1, 6, 6] rfl fun u29 x29 => ?_
  exact zag ⟨k + 1, (M.play gk (M.nth moves k)).1, _, _, _, _, _, _, _, _, _, _, _, _, _, _, _, rfl, rfl, by exact hP2, by exact hs.play hz, zt, by exact M.play_120 hm hz, zu, zu, zu, zu, zu, zu, zu, zu, zu, zu, rfl⟩ (x17.trans x29)
 have hE : M.playsR g moves = (gk, k, 0) := by rw [M.playsR_yes hok, hP.end_ (by have := h18'; omega)]
 refine zx ?_
 have hq0 : gk.rules.pits = (((M.playsR g moves).1).rules).pits := by first | (rw [hE]; done) | (rw [hE]; rfl)
 have hq1 : gk.rules.seeds = (((M.playsR g moves).1).rules).seeds := by first | (rw [hE]; done) | (rw [hE]; rfl)
 have hq2 : gk.rules.stores = (((M.playsR g moves).1).rules).stores := by first | (rw [hE]; done) | (rw [hE]; rfl)
 have hq3 : gk.rules.skip = (((M.playsR g moves).1).rules).skip := by first | (rw [hE]; done) | (rw [hE]; rfl)
 have hq4 : gk.rules.relay = (((M.playsR g moves).1).rules).relay := by first | (rw [hE]; done) | (rw [hE]; rfl)
 have hq5 : gk.rules.feed = (((M.playsR g moves).1).rules).feed := by first | (rw [hE]; done) | (rw [hE]; rfl)
 have hq6 : gk.rules.again = (((M.playsR g moves).1).rules).again := by first | (rw [hE]; done) | (rw [hE]; rfl)
 have hq7 : gk.rules.capture = (((M.playsR g moves).1).rules).capture := by first | (rw [hE]; done) | (rw [hE]; rfl)
 have hq8 : gk.rules.slam = (((M.playsR g moves).1).rules).slam := by first | (rw [hE]; done) | (rw [hE]; rfl)
 have hq9 : gk.start.pits = (((M.playsR g moves).1).start).pits := by first | (rw [hE]; done) | (rw [hE]; rfl)
 have hq10 : gk.start.stores = (((M.playsR g moves).1).start).stores := by first | (rw [hE]; done) | (rw [hE]; rfl)
 have hq11 : gk.start.player = (((M.playsR g moves).1).start).player := by first | (rw [hE]; done) | (rw [hE]; rfl)
 have hq12 : gk.moves = ((M.playsR g moves).1).moves := by first | (rw [hE]; done) | (rw [hE]; rfl)
 have hq13 : gk.now.pits = (((M.playsR g moves).1).now).pits := by first | (rw [hE]; done) | (rw [hE]; rfl)
 have hq14 : gk.now.stores = (((M.playsR g moves).1).now).stores := by first | (rw [hE]; done) | (rw [hE]; rfl)
 have hq15 : gk.now.player = (((M.playsR g moves).1).now).player := by first | (rw [hE]; done) | (rw [hE]; rfl)
 have hq16 : gk.resigned = ((M.playsR g moves).1).resigned := by first | (rw [hE]; done) | (rw [hE]; rfl)
 have hq17 : (k : Int) = ((M.playsR g moves).2.1 : Int) := by first | (rw [hE]; done) | (rw [hE]; rfl)
 have hq18 : 0 = (M.playsR g moves).2.2 := by first | (rw [hE]; done) | (rw [hE]; rfl)
 refine zS <| Q9 0 rfl rfl ?_
 refine Qm rfl <| zw 6 rfl rfl rfl ?_
 refine Qa rfl <| Qa rfl <| JL.nil ?_
 exact zro x17

end Go.Proofs.YtcmfnlleikcpnaaGreat

namespace Go.Proofs.YtcmfnlleikcpnaaGreat
open Go.RowKit

set_option maxHeartbeats 1000000 in
theorem c_laws_f6big (code : Nat) {v_code : Value} {w : World} (h_code : (Ty.bytes 5 code).ok w v_code) : RetV Tryz.prog 30 [v_code] w (.bool (decide (4096 < (code : Int)))) := by
 revert v_code; apply opn
 intro A1 c1 h1 bl1 bh1
 have h_code := h1
 refine enter @Tryz.func30 @Tryz.ntmps30 rfl rfl ?_
 refine zent ?_
 refine zS <| Qa rfl <| zN <| Qm rfl <| Qz rfl <| Qg rfl rfl <| Qa rfl <| JL.nil ?_
 exact zr (Up.refl _ _)

end Go.Proofs.YtcmfnlleikcpnaaGreat

namespace Go.Proofs.YtcmfnlleikcpnaaGreat
open Go.RowKit

set_option maxHeartbeats 1000000 in
theorem c_laws_f6ints (a : List Int) {v_a : Value} (b : List Int) {v_b : Value} {w : World} (h_a : (Ty.ints 2 a).ok w v_a) (h_b : (Ty.ints 2 b).ok w v_b) (r0 : a.length ≤ 4194304 := by exact om_) (r1 : b.length ≤ 4194304 := by exact om_) : RetV Tryz.prog 41 [v_a, v_b] w (.bool (decide (a = b))) := by
 revert v_a; apply opn
 intro A1 c1 h1 bl1 bh1
 have h_a := h1
 revert v_b; apply opn
 intro A2 c2 h2 bl2 bh2
 have h_b := h2
 refine enter @Tryz.func41 @Tryz.ntmps41 rfl rfl ?_
 refine zent ?_
 refine zS <| Qa rfl <| zJ <| zS <| Qm rfl <| Qz rfl <| Qm rfl <| Qz rfl <| Qd rfl rfl <| JL.nil ?_
 refine zi (fun h3 h3' => ?_) fun h3 h3' => ?_
 ·
  have e1 : decide (a = b) = false := by simp; rintro rfl; simp at h3
  refine zS <| Qa rfl <| JL.nil ?_
  refine zR (Up.refl _ _) ?_
  simp [outV, e1]
 have hlen : a.length = b.length := by have := h3'; omega
 refine Js.skip <| Js.seq <| zS <| Qa rfl <| JL.nil <| Js.block ?_
 refine zl [0, 1] (fun F U l os u m => ∃ (k : Nat), l = F [(5, .int .i64 (k : Int))] ∧ os = U [] ∧ (k ≤ a.length) ∧ (M.Upto a b k) ∧ m = a.length - k) ⟨0, rfl, rfl, zt, by exact M.Upto.zero _ _, rfl⟩ ?_
 rintro _ _ u4 _ ⟨k, rfl, rfl, hk, hU, rfl⟩ x4
 refine zn ?_
 refine Js.seq <| zS <| Qm rfl <| Qm rfl <| Qz rfl <| Ql rfl rfl <| JL.nil ?_
 refine zi (fun h5 h5' => ?_) fun h5 h5' => ?_
 ·
  refine Js.skip <| Js.seq <| Js.block <| Js.seq ?_
  refine zdr [] ?_
  refine JH.p 0 rfl (p_move rfl) ?_
  refine JH.p 1 rfl (p_move rfl) ?_
  obtain ⟨b6, o6, he6, hc6⟩ := ints_elem (Ty.mono _ h1 x4.vis) (i := k) (by omega)
  refine JH.p 2 rfl (p_indexAddr el_27 rfl rfl (by omega) (by omega) he6) ?_
  refine JH.w 3 rfl (fun os' u' hv => q_load1 ty_2.h rfl (Mem.pub (hc6.vis hv))) ?_
  refine JH.p 4 rfl (p_move rfl) ?_
  refine JH.p 5 rfl (p_move rfl) ?_
  obtain ⟨b7, o7, he7, hc7⟩ := ints_elem (Ty.mono _ h2 x4.vis) (i := k) (by omega)
  refine JH.p 6 rfl (p_indexAddr el_27 rfl rfl (by omega) (by omega) he7) ?_
  refine JH.w 7 rfl (fun os' u' hv => q_load1 ty_2.h rfl (Mem.pub (hc7.vis hv))) ?_
  refine JH.p 8 rfl (p_neq rfl rfl) ?_
  refine yd ?_
  refine zi (fun h8 h8' => ?_) fun h8 h8' => ?_
  ·
   have e1 : decide (a = b) = false := by simpa using M.ne_of_nth (a := a) (b := b) (k := k) (by simpa using h8)
   refine zS <| Qa rfl <| JL.nil ?_
   refine zR x4 ?_
   simp [outV, e1]
  have hab : M.nth a k = M.nth b k := by simpa using h8
  refine Js.skip <| Js.blockEnd <| Js.region <| Qm rfl <| Qp rfl rfl <| Qa rfl <| JL.nil ?_
  exact zag ⟨k + 1, rfl, rfl, zt, by exact hU.step (by omega) (by omega) hab, rfl⟩ x4
 have e1 : a = b := hU.done (by omega) (by omega)
 refine zx ?_
 refine zS <| Qa rfl <| JL.nil ?_
 refine zR x4 ?_
 simp [outV, e1]

end Go.Proofs.YtcmfnlleikcpnaaGreat

namespace Go.Proofs.YtcmfnlleikcpnaaGreat
open Go.RowKit

set_option maxHeartbeats 16000000 in
theorem c_laws_FnBookLines (code : Nat) {v_code : Value} {w : World} (h_code : (Ty.bytes 5 code).ok w v_code) : RetV Tryz.prog 6 [v_code] w (.bool true) := by
 revert v_code; apply opn
 intro A1 c1 h1 bl1 bh1
 have h_code := h1
 refine enter @Tryz.func6 @Tryz.ntmps6 rfl rfl ?_
 refine zent ?_
 refine zS <| Qa rfl <| zJ <| zS <| Qm rfl <| zv rfl (fun w hw => c_laws_f6big code (ok_ hw)) <| JL.nil ?_
 refine zi (fun h2 h2' => ?_) fun h2 h2' => ?_
 ·
  refine zS <| Qa rfl <| JL.nil ?_
  refine zR (Up.refl _ _) ?_
  first | rfl | (simp [outV]; done)
 refine Js.skip <| zS <| Qm rfl <| zp rfl (fun w hw => c_spec_DrawChooseMove code (ok_ hw)) ?_
 intro u3 x3 X4 hX4 A5 c5 h5 bl5 bh5 X6 hX6 A7 c7 h7 bl7 bh7 A8 c8 h8 bl8 bh8
 have hts3 := M.totE_small (es := X4.entries) (n := 4194304) (by omega)
 refine Qm rfl <| Qx rfl rfl <| Qx rfl rfl <| za zeh fun b9 => za zeh fun b10 => zw 1 rfl rfl rfl ?_
 refine zw 0 rfl rfl rfl ?_
 refine zN <| Q9 1 rfl rfl ?_
 refine Q9 0 rfl rfl ?_
 refine zv rfl (fun w hw => c_impl_ChooseMove X4 X6 (ok_ hw) (ok_ hw) (r1 := (by assumption))) <| Qm rfl <| Qx rfl rfl <| Qx rfl rfl <| Qa rfl <| Qa rfl <| zN <| Q9 1 rfl rfl ?_
 refine Q9 0 rfl rfl ?_
 refine zv rfl (fun w hw => c_spec_ChooseMove X4 X6 (ok_ hw) (ok_ hw) (r1 := (by assumption))) <| Qm rfl <| Qx rfl rfl <| Qx rfl rfl <| Qa rfl <| Qa rfl <| zN <| Q9 1 rfl rfl ?_
 refine Q9 0 rfl rfl ?_
 refine zp rfl (fun w hw => c_impl_LookUp X4 X6 (ok_ hw) (ok_ hw) (r1 := (by assumption))) ?_
 intro u11 x11 A12 c12 h12 bl12 bh12
 refine Qm rfl <| Qx rfl rfl <| Qx rfl rfl <| Qa rfl <| Qa rfl <| zN <| Q9 1 rfl rfl ?_
 refine Q9 0 rfl rfl ?_
 refine zp rfl (fun w hw => c_spec_LookUp X4 X6 (ok_ hw) (ok_ hw) (r1 := (by assumption))) ?_
 intro u13 x13 A14 c14 h14 bl14 bh14
 refine Qm rfl <| Qx rfl rfl <| Qx rfl rfl <| Qa rfl <| Qa rfl <| zN <| Qm rfl <| zp rfl (fun w hw => c_spec_DrawBookLine code (ok_ hw)) ?_
 intro u15 x15 X16 hX16 A17 c17 h17 bl17 bh17 X18 hX18 A19 c19 h19 bl19 bh19 A20 c20 h20 bl20 bh20 X21 hX21
 have hts13 := M.totE_small (es := X16.entries) (n := 4194304) (by omega)
 refine Qm rfl <| Qx rfl rfl <| Qx rfl rfl <| Qx rfl rfl <| za zeh fun b22 => za zeh fun b23 => zw 1 rfl rfl rfl ?_
 refine zw 0 rfl rfl rfl ?_
 refine Qa rfl <| zN <| Q9 1 rfl rfl ?_
 refine Q9 0 rfl rfl ?_
 refine Qm rfl <| zp rfl (fun w hw => c_impl_BookLine X16 X18 X21 (ok_ hw) (ok_ hw) (r1 := (by assumption))) ?_
 intro u24 x24 A25 c25 h25 bl25 bh25
 refine Qm rfl <| Qx rfl rfl <| Qx rfl rfl <| Qa rfl <| Qa rfl <| zN <| Q9 1 rfl rfl ?_
 refine Q9 0 rfl rfl ?_
 refine Qm rfl <| zp rfl (fun w hw => c_spec_BookLine X16 X18 X21 (ok_ hw) (ok_ hw) (r1 := (by assumption))) ?_
 intro u26 x26 A27 c27 h27 bl27 bh27
 refine Qm rfl <| Qx rfl rfl <| Qx rfl rfl <| Qa rfl <| Qa rfl <| zN <| Qm rfl <| zp rfl (fun w hw => c_spec_DrawNewBook code (ok_ hw)) ?_
 intro u28 x28 X29 hX29
 refine za zeh fun b30 => zw 0 rfl rfl rfl ?_
 refine zN <| Q9 0 rfl rfl ?_
 refine zp rfl (fun w hw => c_impl_NewBook X29 (ok_ hw)) ?_
 intro u31 x31 A32 c32 h32 bl32 bh32
 refine Qm rfl <| Qx rfl rfl <| Qx rfl rfl <| za zeh fun b33 => zw 0 rfl rfl rfl ?_
 refine Qa rfl <| zN <| Q9 1 rfl rfl ?_
 refine zp rfl (fun w hw => c_spec_NewBook X29 (ok_ hw)) ?_
 intro u34 x34 A35 c35 h35 bl35 bh35
 refine Qm rfl <| Qx rfl rfl <| Qx rfl rfl <| za zeh fun b36 => zw 0 rfl rfl rfl ?_
 refine Qa rfl <| zN <| Qm rfl <| zp rfl (fun w hw => c_spec_DrawSameBook code (ok_ hw)) ?_
 intro u37 x37 X38 hX38 A39 c39 h39 bl39 bh39 X40 hX40 A41 c41 h41 bl41 bh41
 have hts25 := M.totE_small (es := X38.entries) (n := 4194304) (by omega)
 have hts26 := M.totE_small (es := X40.entries) (n := 4194304) (by omega)
 have hbl9 := M.blR_len X16 X18 X21
 refine Qm rfl <| Qx rfl rfl <| Qx rfl rfl <| za zeh fun b42 => za zeh fun b43 => zw 1 rfl rfl rfl ?_
 refine zw 0 rfl rfl rfl ?_
 refine zJ <| Js.seq ?_
 refine zdr [] ?_
 refine JH.p 0 rfl (p_move rfl) ?_
 refine JH.p 1 rfl (p_move rfl) ?_
 refine JH.p 2 rfl (p_neq rfl rfl) ?_
 refine JH.p 3 rfl (p_move rfl) ?_
 refine JH.pg 4 rfl (Gd.f1 rfl rfl rfl) (fun hc => p_move rfl) ?_
 refine JH.pg 5 rfl (Gd.f1 rfl rfl rfl) (fun hc => p_move rfl) ?_
 refine JH.pg 6 rfl (Gd.f1 rfl rfl rfl) (fun hc => p_neq (gvt rfl hc) (gvt rfl hc)) ?_
 refine JH.p 7 rfl (p_pickOr rfl rfl rfl) ?_
 refine JH.p 8 rfl (p_move rfl) ?_
 refine JH.pg 9 rfl (Gd.f1 rfl rfl rfl) (fun hc => p_move rfl) ?_
 refine JH.pg 10 rfl (Gd.f1 rfl rfl rfl) (fun hc => p_move rfl) ?_
 refine JH.pg 11 rfl (Gd.f1 rfl rfl rfl) (fun hc => p_neq (gvt rfl hc) (gvt rfl hc)) ?_
 refine JH.p 12 rfl (p_pickOr rfl rfl rfl) ?_
 refine JH.p 13 rfl (p_move rfl) ?_
 refine JH.pg 14 rfl (Gd.f1 rfl rfl rfl) (fun hc => p_move rfl) ?_
 refine JH.pg 15 rfl (Gd.f1 rfl rfl rfl) (fun hc => p_len el_67 (gvt rfl hc)) ?_
 refine JH.pg 16 rfl (Gd.f1 rfl rfl rfl) (fun hc => p_move rfl) ?_
 refine JH.pg 17 rfl (Gd.f1 rfl rfl rfl) (fun hc => p_len el_67 (gvt rfl hc)) ?_
 refine JH.pg 18 rfl (Gd.f1 rfl rfl rfl) (fun hc => p_neq (gvt rfl hc) (gvt rfl hc)) ?_
 refine JH.p 19 rfl (p_pickOr rfl rfl rfl) ?_
 refine JH.p 20 rfl (p_move rfl) ?_
 refine JH.pg 21 rfl (Gd.f1 rfl rfl rfl) (fun hc => p_move rfl) ?_
 refine JH.pg 22 rfl (Gd.f1 rfl rfl rfl) (fun hc => p_move rfl) ?_
 refine JH.pg 23 rfl (Gd.f1 rfl rfl rfl) (fun hc => p_neq (gvt rfl hc) (gvt rfl hc)) ?_
 refine JH.p 24 rfl (p_pickOr rfl rfl rfl) ?_
 refine JH.p 25 rfl (p_move rfl) ?_
 refine JH.pg 26 rfl (Gd.f1 rfl rfl rfl) (fun hc => p_move rfl) ?_
 refine JH.pg 27 rfl (Gd.f1 rfl rfl rfl) (fun hc => p_move rfl) ?_
 refine y1 28 ?_
 refine JHo.ge rfl (Gd.f1 rfl rfl rfl) (fun hc => e_callV fn_41.h (opds_2 (gvt rfl hc) (gvt rfl hc)) (fun w hw => c_laws_f6ints (M.blR X16 X18 X21) (M.blR X16 X18 X21) (ok_ hw) (ok_ hw) (r0 := (by have hc9 := hc; (try simp only [Bool.not_eq_true', Bool.or_eq_false_iff, Bool.not_eq_false', decide_eq_true_eq] at hc9); omega)) (r1 := (by have hc9 := hc; (try simp only [Bool.not_eq_true', Bool.or_eq_false_iff, Bool.not_eq_false', decide_eq_true_eq] at hc9); omega)))) ?_
 refine JH.pg 29 rfl (Gd.f1 rfl rfl rfl) (fun hc => p_not (gvt rfl hc)) ?_
 refine JH.p 30 rfl (p_pickOr rfl rfl rfl) ?_
 refine JH.p 31 rfl (p_move rfl) ?_
 refine JH.pg 32 rfl (Gd.f1 rfl rfl rfl) (fun hc => p_move rfl) ?_
 refine JH.pg 33 rfl (Gd.f1 rfl rfl rfl) (fun hc => p_move rfl) ?_
 refine JH.pg 34 rfl (Gd.f1 rfl rfl rfl) (fun hc => p_neq (gvt rfl hc) (gvt rfl hc)) ?_
 refine JH.p 35 rfl (p_pickOr rfl rfl rfl) ?_
 refine JH.p 36 rfl (p_move rfl) ?_
 refine JH.qg 37 rfl (Gd.f1 rfl rfl rfl) (fun hc => L9 3 rfl rfl) ?_
 refine JH.qg 38 rfl (Gd.f1 rfl rfl rfl) (fun hc => L9 2 rfl rfl) ?_
 refine y1 39 ?_
 refine JHo.ge rfl (Gd.f1 rfl rfl rfl) (fun hc => e_callV fn_42.h (opds_2 (gvt rfl hc) (gvt rfl hc)) (fun w hw => c_spec_SameBook ((M.newB X29).1) ((M.newB X29).1) (ok_ hw) (ok_ hw) (r0 := (by first | omega | (rw [M.newB_len]; omega))) (r1 := (by first | assumption | exact M.newB_sz _)) (r2 := (by first | omega | (rw [M.newB_len]; omega))) (r3 := (by first | assumption | exact M.newB_sz _)))) ?_
 refine JH.pg 40 rfl (Gd.f1 rfl rfl rfl) (fun hc => p_not (gvt rfl hc)) ?_
 refine JH.p 41 rfl (p_pickOr rfl rfl rfl) ?_
 refine JH.p 42 rfl (p_move rfl) ?_
 refine JH.qg 43 rfl (Gd.f1 rfl rfl rfl) (fun hc => L9 1 rfl rfl) ?_
 refine JH.qg 44 rfl (Gd.f1 rfl rfl rfl) (fun hc => L9 0 rfl rfl) ?_
 refine JH.qg 46 rfl (Gd.f1 rfl rfl rfl) (fun hc => L9 1 rfl rfl) ?_
 refine JH.qg 47 rfl (Gd.f1 rfl rfl rfl) (fun hc => L9 0 rfl rfl) ?_
 refine y1 45 ?_
 refine JHo.ge rfl (Gd.f1 rfl rfl rfl) (fun hc => e_callV fn_43.h (opds_2 (gvt rfl hc) (gvt rfl hc)) (fun w hw => c_impl_SameBook X38 X40 (ok_ hw) (ok_ hw) (r0 := (by have hc9 := hc; (try simp only [Bool.not_eq_true', Bool.or_eq_false_iff, Bool.not_eq_false', decide_eq_true_eq] at hc9); omega)) (r1 := (by assumption)) (r2 := (by have hc9 := hc; (try simp only [Bool.not_eq_true', Bool.or_eq_false_iff, Bool.not_eq_false', decide_eq_true_eq] at hc9); omega)) (r3 := (by assumption)))) ?_
 refine y1 48 ?_
 refine JHo.ge rfl (Gd.f1 rfl rfl rfl) (fun hc => e_callV fn_42.h (opds_2 (gvt rfl hc) (gvt rfl hc)) (fun w hw => c_spec_SameBook X38 X40 (ok_ hw) (ok_ hw) (r0 := (by first | omega | (rw [M.newB_len]; omega))) (r1 := (by first | assumption | exact M.newB_sz _)) (r2 := (by first | omega | (rw [M.newB_len]; omega))) (r3 := (by first | assumption | exact M.newB_sz _)))) ?_
 refine JH.pg 49 rfl (Gd.f1 rfl rfl rfl) (fun hc => p_neqB und_4 (gvt rfl hc) (gvt rfl hc)) ?_
 refine JH.p 50 rfl (p_pickOr rfl rfl rfl) ?_
 refine yd ?_
 refine zi (fun h44 h44' => ?_) fun h44 h44' => ?_
 · exact absurd h44 (by simp)
 refine Js.skip <| Js.seq <| zS <| Qm rfl <| Qe rfl rfl <| JL.nil ?_
 refine zi (fun h45 h45' => ?_) fun h45 h45' => ?_
 ·
  have hbl := h45'
  obtain ⟨hl1, hl2, hl3, hl4⟩ := M.line_plays (b := X16) (q := X18) (n := X21) (by simpa using hbl)
  obtain ⟨w1_0, w1_1, w1_2, w1_3, w1_4⟩ := M.fromG_small X16.rules X18
  refine zS <| Qf fh rfl <| Q9 6 rfl rfl ?_
  refine Q9 5 rfl rfl ?_
  refine zp rfl (fun w hw => c_spec_GameFrom X16.rules X18 (ok_ hw) (ok_ hw)) ?_
  intro u46 x46 A47 c47 h47 bl47 bh47 A48 c48 h48 bl48 bh48 A49 c49 h49 bl49 bh49 A50 c50 h50 bl50 bh50 A51 c51 h51 bl51 bh51
  refine Qm rfl <| Qx rfl rfl <| Qx rfl rfl <| za zeh fun b52 => zw 0 rfl rfl rfl ?_
  refine Qa rfl <| zN <| Q9 0 rfl rfl ?_
  refine Qm rfl <| zp rfl (fun w hw => c_spec_PlayMoves ((M.fromG X16.rules X18).1) (M.blR X16 X18 X21) (ok_ hw) (ok_ hw)) ?_
  intro u53 x53 A54 c54 h54 bl54 bh54 A55 c55 h55 bl55 bh55 A56 c56 h56 bl56 bh56 A57 c57 h57 bl57 bh57 A58 c58 h58 bl58 bh58
  refine Qm rfl <| Qx rfl rfl <| Qx rfl rfl <| Qx rfl rfl <| za zeh fun b59 => zw 0 rfl rfl rfl ?_
  refine Qa rfl <| Qa rfl <| zN <| Qm rfl <| Qd rfl rfl <| Qm rfl <| zg (Gd.f1 rfl rfl rfl) (fun hc => p_move rfl) <| zg (Gd.f1 rfl rfl rfl) (fun hc => p_neq (gh hc rfl) rfl) <| Qq (p_pickOr rfl rfl rfl) <| Qm rfl <| zg (Gd.f1 rfl rfl rfl) (fun hc => p_move rfl) <| zg (Gd.f1 rfl rfl rfl) (fun hc => p_move rfl) <| zg (Gd.f1 rfl rfl rfl) (fun hc => p_len el_27 (gh hc rfl)) <| zg (Gd.f1 rfl rfl rfl) (fun hc => p_neq (gh hc rfl) (gh hc rfl)) ?_
  refine Qq (p_pickOr rfl rfl rfl) <| Qm rfl <| zg (Gd.f1 rfl rfl rfl) (fun hc => p_move rfl) <| zg (Gd.f1 rfl rfl rfl) (fun hc => p_len el_27 (gh hc rfl)) <| zg (Gd.f1 rfl rfl rfl) (fun hc => p_move rfl) <| zg (Gd.f1 rfl rfl rfl) (fun hc => p_gtr (gh hc rfl) (gh hc rfl)) <| Qq (p_pickOr rfl rfl rfl) <| JL.nil ?_
  refine zi (fun h60 h60' => ?_) fun h60 h60' => ?_
  · exact absurd h60 (by simp [hl1, hl2, hl3]; omega)
  refine Js.skip <| Js.seq <| zS <| Qm rfl <| Qd rfl rfl <| JL.nil ?_
  refine zi (fun h61 h61' => ?_) fun h61 h61' => ?_
  ·
   refine zS <| Qa rfl <| JL.nil ?_
   refine zR (((((((((((x3.trans x11).trans x13).trans x15).trans x24).trans x26).trans x28).trans x31).trans x34).trans x37).trans x46).trans x53) ?_
   first | rfl | (simp [outV]; done)
  have hz : M.lookC X4 X6 = 0 := by simpa using h61
  obtain ⟨_, rfl, hpos, hri, hcb, hch, hla, hle⟩ := M.look_facts hz
  have hcg := hcb _ (M.cbest_mem hpos)
  refine Js.skip <| zS <| Qb ?_
  refine za zeh fun b62 => zw 0 rfl rfl rfl ?_
  refine zJ <| zS <| Qa rfl <| JL.nil <| Js.block ?_
  refine zl [5, 9, 11, 32] (fun F U l os u m => ∃ (k : Nat) (best : M.Cho), l = F [(33, .int .i64 (k : Int))] ∧ os = U [some (boxO b62 [.int .i64 best.move, .int .i64 best.games, .int .i64 best.score] 81)] ∧ (best = M.lastC (M.lookR X4 X6) (M.chooseR X4 X6) k) ∧ (k ≤ (M.lookR X4 X6).length) ∧ m = (M.lookR X4 X6).length - k) ⟨0, (M.Cho.mk 0 0 0), rfl, rfl, by rfl, zt, rfl⟩ ?_
  rintro _ _ u63 _ ⟨k, best, rfl, rfl, hb, hk, rfl⟩ x63
  refine zn ?_
  refine Js.seq <| zS <| Qm rfl <| Qm rfl <| Qz rfl <| Ql rfl rfl <| JL.nil ?_
  refine zi (fun h64 h64' => ?_) fun h64 h64' => ?_
  ·
   have hkk : k < (M.lookR X4 X6).length := by have := h64'; omega
   refine Js.skip <| Js.seq <| Js.block <| Js.seq <| Js.seq ?_
   refine zdr [] ?_
   refine JH.p 0 rfl (p_move rfl) ?_
   refine JH.p 1 rfl (p_move rfl) ?_
   have hy65 : (M.lookR X4 X6)[k]? = some (M.cho (M.lookR X4 X6) k) := M.cho_get (by omega)
   obtain ⟨b65, o65, he65, hr65⟩ := elem_Choice (Ty.mono _ h12 ((((((((((x13.vis.trans x15.vis).trans x24.vis).trans x26.vis).trans x28.vis).trans x31.vis).trans x34.vis).trans x37.vis).trans x46.vis).trans x53.vis).trans x63.vis)) hy65
   refine JH.p 2 rfl (p_indexAddr el_67 rfl rfl (by omega) (by omega) he65) ?_
   refine JH.w 3 rfl (fun os' u' hv => LS 0 (hr65.vis hv) rfl) ?_
   refine JH.p 4 rfl (p_move rfl) ?_
   refine JH.p 5 rfl (p_move rfl) ?_
   have hy66 : (M.lookR X4 X6)[k]? = some (M.cho (M.lookR X4 X6) k) := M.cho_get (by omega)
   obtain ⟨b66, o66, he66, hr66⟩ := elem_Choice (Ty.mono _ h14 (((((((((x15.vis.trans x24.vis).trans x26.vis).trans x28.vis).trans x31.vis).trans x34.vis).trans x37.vis).trans x46.vis).trans x53.vis).trans x63.vis)) hy66
   refine JH.p 6 rfl (p_indexAddr el_67 rfl rfl (by omega) (by omega) he66) ?_
   refine JH.w 7 rfl (fun os' u' hv => LS 0 (hr66.vis hv) rfl) ?_
   refine JH.p 8 rfl (p_neqS (by kernel_rfl) (fun w => eqs_Choice (M.cho (M.lookR X4 X6) k) (M.cho (M.lookR X4 X6) k) w) rfl rfl) ?_
   refine yd ?_
   refine zi (fun h67 h67' => ?_) fun h67 h67' => ?_
   · exact absurd h67 (by simp)
   have hy68 : (M.lookR X4 X6)[k]? = some (M.cho (M.lookR X4 X6) k) := M.cho_get (by omega)
   obtain ⟨b68, o68, he68, hr68⟩ := elem_Choice (Ty.mono _ h12 ((((((((((x13.vis.trans x15.vis).trans x24.vis).trans x26.vis).trans x28.vis).trans x31.vis).trans x34.vis).trans x37.vis).trans x46.vis).trans x53.vis).trans x63.vis)) hy68
   refine Js.skip <| zS <| Qm rfl <| Qm rfl <| Qq (p_indexAddr el_67 rfl rfl (by omega) (by omega) he68) <| Qf fh rfl <| QC (hr68 0 _ rfl) rfl <| Qm rfl <| Qe rfl rfl <| JL.nil ?_
   refine zi (fun h69 h69' => ?_) fun h69 h69' => ?_
   ·
    have hb2 : M.cho (M.lookR X4 X6) k = M.lastC (M.lookR X4 X6) (M.chooseR X4 X6) (k + 1) := by rw [M.lastC, if_pos (by simpa using h69)]
    have hy70 : (M.lookR X4 X6)[k]? = some (M.cho (M.lookR X4 X6) k) := M.cho_get (by omega)
    obtain ⟨b70, o70, he70, hr70⟩ := elem_Choice (Ty.mono _ h12 ((((((((((x13.vis.trans x15.vis).trans x24.vis).trans x26.vis).trans x28.vis).trans x31.vis).trans x34.vis).trans x37.vis).trans x46.vis).trans x53.vis).trans x63.vis)) hy70
    refine Js.region <| Qm rfl <| Qm rfl <| Qq (p_indexAddr el_67 rfl rfl (by omega) (by omega) he70) <| QS 0 hr70 rfl ?_
    refine zw 0 rfl rfl rfl ?_
    refine JL.nil <| Js.blockEnd <| Js.region <| Qm rfl <| Qp rfl rfl <| Qa rfl <| JL.nil ?_
    exact zag ⟨k + 1, (M.cho (M.lookR X4 X6) k), rfl, rfl, by exact hb2, zt, rfl⟩ x63
   have hb2 : best = M.lastC (M.lookR X4 X6) (M.chooseR X4 X6) (k + 1) := by rw [M.lastC, if_neg (by simpa using h69)]; exact hb
   refine Js.skip <| Js.blockEnd <| Js.region <| Qm rfl <| Qp rfl rfl <| Qa rfl <| JL.nil ?_
   exact zag ⟨k + 1, best, rfl, rfl, by exact hb2, zt, rfl⟩ x63
  have hbE : best = M.cbest (M.lookR X4 X6) := by rw [hb, show k = (M.lookR X4 X6).length by have := h64'; omega, hch]; exact hla
  rw [← hbE] at hcg
  refine zx ?_
  refine Js.seq <| zS <| Qf fh rfl <| Q0 0 rfl rfl rfl <| Ql rfl rfl <| JL.nil ?_
  refine zi (fun h71 h71' => ?_) fun h71 h71' => ?_
  · exact absurd h71' (by omega)
  refine Js.skip <| Js.seq <| zS <| Qa rfl <| JL.nil <| Js.block ?_
  refine zl [9, 32] (fun F U l os u m => ∃ (j : Nat), l = F [(34, .int .i64 (j : Int))] ∧ os = U [] ∧ (j ≤ (M.lookR X4 X6).length) ∧ m = (M.lookR X4 X6).length - j) ⟨0, rfl, rfl, zt, rfl⟩ ?_
  rintro _ _ u72 _ ⟨j, rfl, rfl, hj, rfl⟩ x72
  refine zn ?_
  refine Js.seq <| zS <| Qm rfl <| Qm rfl <| Qz rfl <| Ql rfl rfl <| JL.nil ?_
  refine zi (fun h73 h73' => ?_) fun h73 h73' => ?_
  ·
   have hjj : j < (M.lookR X4 X6).length := by have := h73'; omega
   have hc1 := hcb _ (M.cho_mem hjj)
   have m1 := M.mulC_bd hc1.2.2.1 hc1.2.2.2 hcg.1 hcg.2.1
   have m2 := M.mulC_bd hcg.2.2.1 hcg.2.2.2 hc1.1 hc1.2.1
   have hle1 := hle _ (M.cho_mem hjj)
   rw [← hbE] at hle1
   unfold M.leC at hle1
   refine Js.skip <| Js.seq <| Js.block <| Js.seq ?_
   refine zdr [] ?_
   refine JH.p 0 rfl (p_move rfl) ?_
   refine JH.p 1 rfl (p_move rfl) ?_
   have hy74 : (M.lookR X4 X6)[j]? = some (M.cho (M.lookR X4 X6) j) := M.cho_get (by omega)
   obtain ⟨b74, o74, he74, hr74⟩ := elem_Choice (Ty.mono _ h12 (((((((((((x13.vis.trans x15.vis).trans x24.vis).trans x26.vis).trans x28.vis).trans x31.vis).trans x34.vis).trans x37.vis).trans x46.vis).trans x53.vis).trans x63.vis).trans x72.vis)) hy74
   refine JH.p 2 rfl (p_indexAddr el_67 rfl rfl (by omega) (by omega) he74) ?_
   refine JH.p 3 rfl (p_fieldAddr fld_81_2.h rfl) ?_
   refine JH.w 4 rfl (fun os' u' hv => q_load1 ty_2.h rfl (Mem.pub ((hr74.vis hv) 2 _ rfl))) ?_
   refine JH.p 5 rfl (p_fieldAddr fld_81_1.h rfl) ?_
   refine JH.q 6 rfl (q_load1 ty_2.h rfl (Mem.box (i := 0) rfl rfl)) ?_
   refine JH.p 7 rfl (p_mul rfl rfl (IntWalk.i64_in _ (by omega))) ?_
   refine JH.p 8 rfl (p_fieldAddr fld_81_2.h rfl) ?_
   refine JH.q 9 rfl (q_load1 ty_2.h rfl (Mem.box (i := 0) rfl rfl)) ?_
   refine JH.p 10 rfl (p_move rfl) ?_
   refine JH.p 11 rfl (p_move rfl) ?_
   have hy75 : (M.lookR X4 X6)[j]? = some (M.cho (M.lookR X4 X6) j) := M.cho_get (by omega)
   obtain ⟨b75, o75, he75, hr75⟩ := elem_Choice (Ty.mono _ h12 (((((((((((x13.vis.trans x15.vis).trans x24.vis).trans x26.vis).trans x28.vis).trans x31.vis).trans x34.vis).trans x37.vis).trans x46.vis).trans x53.vis).trans x63.vis).trans x72.vis)) hy75
   refine JH.p 12 rfl (p_indexAddr el_67 rfl rfl (by omega) (by omega) he75) ?_
   refine JH.p 13 rfl (p_fieldAddr fld_81_1.h rfl) ?_
   refine JH.w 14 rfl (fun os' u' hv => q_load1 ty_2.h rfl (Mem.pub ((hr75.vis hv) 1 _ rfl))) ?_
   refine JH.p 15 rfl (p_mul rfl rfl (IntWalk.i64_in _ (by omega))) ?_
   refine JH.p 16 rfl (p_gtr rfl rfl) ?_
   refine yd ?_
   refine zi (fun h76 h76' => ?_) fun h76 h76' => ?_
   · exact absurd h76' (by omega)
   refine Js.skip <| Js.blockEnd <| Js.region <| Qm rfl <| Qp rfl rfl <| Qa rfl <| JL.nil ?_
   exact zag ⟨j + 1, rfl, rfl, zt, rfl⟩ x72
  refine zx ?_
  refine zS <| Qa rfl <| JL.nil ?_
  refine zR (((((((((((((x3.trans x11).trans x13).trans x15).trans x24).trans x26).trans x28).trans x31).trans x34).trans x37).trans x46).trans x53).trans x63).trans x72) ?_
  first | rfl | (simp [outV]; done)
 refine Js.skip <| Js.seq <| zS <| Qm rfl <| Qd rfl rfl <| JL.nil ?_
 refine zi (fun h77 h77' => ?_) fun h77 h77' => ?_
 ·
  refine zS <| Qa rfl <| JL.nil ?_
  refine zR (((((((((x3.trans x11).trans x13).trans x15).trans x24).trans x26).trans x28).trans x31).trans x34).trans x37) ?_
  first | rfl | (simp [outV]; done)
 have hz : M.lookC X4 X6 = 0 := by simpa using h77
 obtain ⟨_, rfl, hpos, hri, hcb, hch, hla, hle⟩ := M.look_facts hz
 have hcg := hcb _ (M.cbest_mem hpos)
 refine Js.skip <| zS <| Qb ?_
 refine za zeh fun b78 => zw 0 rfl rfl rfl ?_
 refine zJ <| zS <| Qa rfl <| JL.nil <| Js.block ?_
 refine zl [5, 9, 11, 32] (fun F U l os u m => ∃ (k : Nat) (best : M.Cho), l = F [(33, .int .i64 (k : Int))] ∧ os = U [some (boxO b78 [.int .i64 best.move, .int .i64 best.games, .int .i64 best.score] 81)] ∧ (best = M.lastC (M.lookR X4 X6) (M.chooseR X4 X6) k) ∧ (k ≤ (M.lookR X4 X6).length) ∧ m = (M.lookR X4 X6).length - k) ⟨0, (M.Cho.mk 0 0 0), rfl, rfl, by rfl, zt, rfl⟩ ?_
 rintro _ _ u79 _ ⟨k, best, rfl, rfl, hb, hk, rfl⟩ x79
 refine zn ?_
 refine Js.seq <| zS <| Qm rfl <| Qm rfl <| Qz rfl <| Ql rfl rfl <| JL.nil ?_
 refine zi (fun h80 h80' => ?_) fun h80 h80' => ?_
 ·
  have hkk : k < (M.lookR X4 X6).length := by have := h80'; omega
  refine Js.skip <| Js.seq <| Js.block <| Js.seq <| Js.seq ?_
  refine zdr [] ?_
  refine JH.p 0 rfl (p_move rfl) ?_
  refine JH.p 1 rfl (p_move rfl) ?_
  have hy81 : (M.lookR X4 X6)[k]? = some (M.cho (M.lookR X4 X6) k) := M.cho_get (by omega)
  obtain ⟨b81, o81, he81, hr81⟩ := elem_Choice (Ty.mono _ h12 ((((((((x13.vis.trans x15.vis).trans x24.vis).trans x26.vis).trans x28.vis).trans x31.vis).trans x34.vis).trans x37.vis).trans x79.vis)) hy81
  refine JH.p 2 rfl (p_indexAddr el_67 rfl rfl (by omega) (by omega) he81) ?_
  refine JH.w 3 rfl (fun os' u' hv => LS 0 (hr81.vis hv) rfl) ?_
  refine JH.p 4 rfl (p_move rfl) ?_
  refine JH.p 5 rfl (p_move rfl) ?_
  have hy82 : (M.lookR X4 X6)[k]? = some (M.cho (M.lookR X4 X6) k) := M.cho_get (by omega)
  obtain ⟨b82, o82, he82, hr82⟩ := elem_Choice (Ty.mono _ h14 (((((((x15.vis.trans x24.vis).trans x26.vis).trans x28.vis).trans x31.vis).trans x34.vis).trans x37.vis).trans x79.vis)) hy82
  refine JH.p 6 rfl (p_indexAddr el_67 rfl rfl (by omega) (by omega) he82) ?_
  refine JH.w 7 rfl (fun os' u' hv => LS 0 (hr82.vis hv) rfl) ?_
  refine JH.p 8 rfl (p_neqS (by kernel_rfl) (fun w => eqs_Choice (M.cho (M.lookR X4 X6) k) (M.cho (M.lookR X4 X6) k) w) rfl rfl) ?_
  refine yd ?_
  refine zi (fun h83 h83' => ?_) fun h83 h83' => ?_
  · exact absurd h83 (by simp)
  have hy84 : (M.lookR X4 X6)[k]? = some (M.cho (M.lookR X4 X6) k) := M.cho_get (by omega)
  obtain ⟨b84, o84, he84, hr84⟩ := elem_Choice (Ty.mono _ h12 ((((((((x13.vis.trans x15.vis).trans x24.vis).trans x26.vis).trans x28.vis).trans x31.vis).trans x34.vis).trans x37.vis).trans x79.vis)) hy84
  refine Js.skip <| zS <| Qm rfl <| Qm rfl <| Qq (p_indexAddr el_67 rfl rfl (by omega) (by omega) he84) <| Qf fh rfl <| QC (hr84 0 _ rfl) rfl <| Qm rfl <| Qe rfl rfl <| JL.nil ?_
  refine zi (fun h85 h85' => ?_) fun h85 h85' => ?_
  ·
   have hb2 : M.cho (M.lookR X4 X6) k = M.lastC (M.lookR X4 X6) (M.chooseR X4 X6) (k + 1) := by rw [M.lastC, if_pos (by simpa using h85)]
   have hy86 : (M.lookR X4 X6)[k]? = some (M.cho (M.lookR X4 X6) k) := M.cho_get (by omega)
   obtain ⟨b86, o86, he86, hr86⟩ := elem_Choice (Ty.mono _ h12 ((((((((x13.vis.trans x15.vis).trans x24.vis).trans x26.vis).trans x28.vis).trans x31.vis).trans x34.vis).trans x37.vis).trans x79.vis)) hy86
   refine Js.region <| Qm rfl <| Qm rfl <| Qq (p_indexAddr el_67 rfl rfl (by omega) (by omega) he86) <| QS 0 hr86 rfl ?_
   refine zw 0 rfl rfl rfl ?_
   refine JL.nil <| Js.blockEnd <| Js.region <| Qm rfl <| Qp rfl rfl <| Qa rfl <| JL.nil ?_
   exact zag ⟨k + 1, (M.cho (M.lookR X4 X6) k), rfl, rfl, by exact hb2, zt, rfl⟩ x79
  have hb2 : best = M.lastC (M.lookR X4 X6) (M.chooseR X4 X6) (k + 1) := by rw [M.lastC, if_neg (by simpa using h85)]; exact hb
  refine Js.skip <| Js.blockEnd <| Js.region <| Qm rfl <| Qp rfl rfl <| Qa rfl <| JL.nil ?_
  exact zag ⟨k + 1, best, rfl, rfl, by exact hb2, zt, rfl⟩ x79
 have hbE : best = M.cbest (M.lookR X4 X6) := by rw [hb, show k = (M.lookR X4 X6).length by have := h80'; omega, hch]; exact hla
 rw [← hbE] at hcg
 refine zx ?_
 refine Js.seq <| zS <| Qf fh rfl <| Q0 0 rfl rfl rfl <| Ql rfl rfl <| JL.nil ?_
 refine zi (fun h87 h87' => ?_) fun h87 h87' => ?_
 · exact absurd h87' (by omega)
 refine Js.skip <| Js.seq <| zS <| Qa rfl <| JL.nil <| Js.block ?_
 refine zl [9, 32] (fun F U l os u m => ∃ (j : Nat), l = F [(34, .int .i64 (j : Int))] ∧ os = U [] ∧ (j ≤ (M.lookR X4 X6).length) ∧ m = (M.lookR X4 X6).length - j) ⟨0, rfl, rfl, zt, rfl⟩ ?_
 rintro _ _ u88 _ ⟨j, rfl, rfl, hj, rfl⟩ x88
 refine zn ?_
 refine Js.seq <| zS <| Qm rfl <| Qm rfl <| Qz rfl <| Ql rfl rfl <| JL.nil ?_
 refine zi (fun h89 h89' => ?_) fun h89 h89' => ?_
 ·
  have hjj : j < (M.lookR X4 X6).length := by have := h89'; omega
  have hc1 := hcb _ (M.cho_mem hjj)
  have m1 := M.mulC_bd hc1.2.2.1 hc1.2.2.2 hcg.1 hcg.2.1
  have m2 := M.mulC_bd hcg.2.2.1 hcg.2.2.2 hc1.1 hc1.2.1
  have hle1 := hle _ (M.cho_mem hjj)
  rw [← hbE] at hle1
  unfold M.leC at hle1
  refine Js.skip <| Js.seq <| Js.block <| Js.seq ?_
  refine zdr [] ?_
  refine JH.p 0 rfl (p_move rfl) ?_
  refine JH.p 1 rfl (p_move rfl) ?_
  have hy90 : (M.lookR X4 X6)[j]? = some (M.cho (M.lookR X4 X6) j) := M.cho_get (by omega)
  obtain ⟨b90, o90, he90, hr90⟩ := elem_Choice (Ty.mono _ h12 (((((((((x13.vis.trans x15.vis).trans x24.vis).trans x26.vis).trans x28.vis).trans x31.vis).trans x34.vis).trans x37.vis).trans x79.vis).trans x88.vis)) hy90
  refine JH.p 2 rfl (p_indexAddr el_67 rfl rfl (by omega) (by omega) he90) ?_
  refine JH.p 3 rfl (p_fieldAddr fld_81_2.h rfl) ?_
  refine JH.w 4 rfl (fun os' u' hv => q_load1 ty_2.h rfl (Mem.pub ((hr90.vis hv) 2 _ rfl))) ?_
  refine JH.p 5 rfl (p_fieldAddr fld_81_1.h rfl) ?_
  refine JH.q 6 rfl (q_load1 ty_2.h rfl (Mem.box (i := 0) rfl rfl)) ?_
  refine JH.p 7 rfl (p_mul rfl rfl (IntWalk.i64_in _ (by omega))) ?_
  refine JH.p 8 rfl (p_fieldAddr fld_81_2.h rfl) ?_
  refine JH.q 9 rfl (q_load1 ty_2.h rfl (Mem.box (i := 0) rfl rfl)) ?_
  refine JH.p 10 rfl (p_move rfl) ?_
  refine JH.p 11 rfl (p_move rfl) ?_
  have hy91 : (M.lookR X4 X6)[j]? = some (M.cho (M.lookR X4 X6) j) := M.cho_get (by omega)
  obtain ⟨b91, o91, he91, hr91⟩ := elem_Choice (Ty.mono _ h12 (((((((((x13.vis.trans x15.vis).trans x24.vis).trans x26.vis).trans x28.vis).trans x31.vis).trans x34.vis).trans x37.vis).trans x79.vis).trans x88.vis)) hy91
  refine JH.p 12 rfl (p_indexAddr el_67 rfl rfl (by omega) (by omega) he91) ?_
  refine JH.p 13 rfl (p_fieldAddr fld_81_1.h rfl) ?_
  refine JH.w 14 rfl (fun os' u' hv => q_load1 ty_2.h rfl (Mem.pub ((hr91.vis hv) 1 _ rfl))) ?_
  refine JH.p 15 rfl (p_mul rfl rfl (IntWalk.i64_in _ (by omega))) ?_
  refine JH.p 16 rfl (p_gtr rfl rfl) ?_
  refine yd ?_
  refine zi (fun h92 h92' => ?_) fun h92 h92' => ?_
  · exact absurd h92' (by omega)
  refine Js.skip <| Js.blockEnd <| Js.region <| Qm rfl <| Qp rfl rfl <| Qa rfl <| JL.nil ?_
  exact zag ⟨j + 1, rfl, rfl, zt, rfl⟩ x88
 refine zx ?_
 refine zS <| Qa rfl <| JL.nil ?_
 refine zR (((((((((((x3.trans x11).trans x13).trans x15).trans x24).trans x26).trans x28).trans x31).trans x34).trans x37).trans x79).trans x88) ?_
 first | rfl | (simp [outV]; done)

end Go.Proofs.YtcmfnlleikcpnaaGreat


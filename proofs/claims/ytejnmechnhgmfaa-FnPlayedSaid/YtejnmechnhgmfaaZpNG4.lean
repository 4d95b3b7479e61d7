/- Walks: G4. -/
import Derived.Test.YtejnmechnhgmfaaZpTn
import Derived.Test.YtejnmechnhgmfaaZpNG3
set_option linter.unusedSimpArgs false
set_option linter.unusedVariables false
set_option maxRecDepth 100000
attribute [local irreducible] Go.Proofs.Ytejnmechnhgmfaa.gv
namespace Go.Proofs.Ytejnmechnhgmfaa
open Go.RowKit

set_option maxHeartbeats 1000000 in
theorem c_impl_Rules_results (r : M.Rul) {v_r : Value} (p : M.Pos) {v_p : Value} {w : World} (h_r : (Ty.agg (cRules r)).ok w v_r) (h_p : (Ty.agg (cPosition p)).ok w v_p) (r0 : M.okP r p = true := by exact om_) : Ret Try.prog 110 [v_r, v_p] w (Ty.sl 84 6 (M.results r p).length (lResult (M.results r p))) := by
 obtain ⟨g1, g2, g3, g4, g5, g6, g7⟩ := M.okP_bd r0
 revert v_r; apply opn
 revert v_p; apply opn
 intro A1 c1 h1 bl1 bh1 A2 c2 h2 bl2 bh2
 refine enter @Try.func110 @Try.ntmps110 rfl rfl ?_
 refine zent ?_
 obtain ⟨b3, o3, rfl⟩ := ints_some h2 (by omega)
 refine zS <| zb rfl fun b4 => zb rfl fun b5 => Qa rfl <| zN <| zbs fun b6 => ?_
 refine Qa rfl <| zJ <| zS <| Qf fh rfl <| Q0 2 rfl rfl rfl <| Qm rfl <| JL.nil <| Js.block ?_
 refine Js.vals (Ts := lResult []) (vs := []) (fun w => rfl) ?_
 refine zl [2, 3, 13] (fun F U l os u m => ∃ (k : Nat) (acc : List M.Res) (A8_5 : Option Addr) (c8_5 : Nat) (g8_5 : List Nat) (vs8_5 : List Value) (fl8_5 : List Nat), l = F [(5, .slice A8_5 acc.length c8_5), (14, .int .i64 (k : Int))] ∧ os = U [some (ownC (lResult acc) vs8_5 fl8_5), some (rowO 84 6 (.slice A8_5 acc.length c8_5) acc.length vs8_5 g8_5)] ∧ (acc = M.resultsTo r p k) ∧ (k ≤ r.pits) ∧ (acc.length ≤ c8_5) ∧ (c8_5 ≤ 9223372036854775807) ∧ m = (r.pits - k).toNat) ⟨0, [], _, _, _, _, _, rfl, rfl, by rfl, zt, zu, zu, rfl⟩ ?_
 rintro _ _ u8 _ ⟨k, acc, A8_5, c8_5, g8_5, vs8_5, fl8_5, rfl, rfl, hacc, hk, f8_2, f8_3, rfl⟩ x8
 refine zn ?_
 have hlen := M.resultsTo_len (r := r) (p := p) k
 have hlacc : acc.length ≤ k := by rw [hacc]; exact hlen
 refine zS <| Ql rfl rfl <| zJ ?_
 refine zi (fun h9 h9' => ?_) fun h9 h9' => ?_
 ·
  refine Js.skip <| Js.seq <| Js.block <| zS <| Qm rfl <| Qa rfl <| zN <| Q9 3 rfl rfl ?_
  refine Q9 2 rfl rfl ?_
  refine Qm rfl <| zc rfl (fun w hw => c_impl_Rules_done r p (k : Int) (ok_ hw) (ok_ hw)) ?_
  intro A12 c12 bl12 bh12 A13 c13 bl13 bh13
  refine Qm rfl <| Qx rfl rfl <| Qx rfl rfl <| za zeh fun b14 => zw 0 rfl rfl rfl ?_
  refine Qa rfl <| zJ <| zS <| Qm rfl <| Qd rfl rfl <| JL.nil ?_
  refine zi (fun h15 h15' => ?_) fun h15 h15' => ?_
  ·
   have hacc2 := (M.resultsTo_no (r := r) (p := p) (k := k) (by simpa using h15)).symm
   refine zx ?_
   refine Js.region <| Qp rfl rfl <| Qm rfl <| JL.nil ?_
   refine zd [3, 3, 3, 3] rfl fun u16 x16 => ?_
   exact zag ⟨k + 1, acc, _, _, _, _, _, rfl, rfl, by rw [hacc]; exact hacc2, zt, zu, zu, rfl⟩ (x8.trans x16)
  have hz : (M.done r p k).2 = 0 := by simpa using h15
  obtain ⟨_, _, _, hG⟩ := M.done_good hz
  have l3 := hG.ls
  have hs1 := hG.store p.player
  have hs2 := (M.Good.of_ok r0).store p.player
  refine Js.fact (row_some (i := 1) rfl (by omega)) (fun hf17 => ?_)
  obtain ⟨b17, rfl⟩ := hf17
  refine Js.skip <| zS <| Qf fh rfl <| Q0 6 rfl rfl rfl <| Qm rfl <| zg (Gd.t1 rfl rfl rfl) (fun hc => p_fieldAddr fld_129_2.h rfl) <| zgq (Gd.t1 rfl rfl rfl) (fun hc => q_load1 ty_2.h (gh hc rfl) (Mem.box (i := 0) rfl rfl)) <| zg (Gd.t1 rfl rfl rfl) (fun hc => p_eql (gh hc rfl) rfl) <| Qq (p_pickAnd rfl rfl rfl) <| Qa rfl <| zN <| Qf fh rfl <| Q0 0 rfl rfl rfl <| Qf fh rfl ?_
  refine Q0 0 rfl rfl rfl <| Qf fh rfl <| Q0 5 rfl rfl rfl <| Qs rfl rfl <| Qb ?_
  refine za zeh fun b18 => zw 0 rfl rfl rfl ?_
  refine zJ <| zS <| Qm rfl <| JL.nil ?_
  refine zi (fun h19 h19' => ?_) fun h19 h19' => ?_
  ·
   have hacc2 := (M.resultsTo_yes hz).symm
   unfold M.resOf at hacc2
   rw [if_pos h19] at hacc2
   refine Js.region <| Qf fh rfl <| Q0 6 rfl rfl rfl <| Qf fh rfl <| zw 0 rfl rfl rfl ?_
   refine JL.nil ?_
   refine zdr [19] ?_
   refine JH.p 0 rfl (p_move rfl) ?_
   refine JH.p 1 rfl (p_move rfl) ?_
   refine JH.p 2 rfl (p_fieldAddr fld_129_1.h rfl) ?_
   refine JH.q 3 rfl (q_load1 ty_24.h rfl (Mem.box (i := 1) rfl rfl)) ?_
   refine JH.p 4 rfl (p_fieldAddr fld_33_2.h rfl) ?_
   refine JH.q 5 rfl (q_load1 ty_2.h rfl (Mem.box (i := 6) rfl rfl)) ?_
   refine JH.p 6 rfl (p_indexAddr el_24 rfl rfl (by omega) (by omega) rfl) ?_
   refine JH.q 7 rfl (q_load1 ty_2.h rfl (Mem.row (i := 2) rfl (ints_getI (i := p.player) (by omega)))) ?_
   refine JH.p 8 rfl (p_fieldAddr fld_33_1.h rfl) ?_
   refine JH.q 9 rfl (q_load1 ty_24.h rfl (Mem.box (i := 6) rfl rfl)) ?_
   refine JH.p 10 rfl (p_fieldAddr fld_33_2.h rfl) ?_
   refine JH.q 11 rfl (q_load1 ty_2.h rfl (Mem.box (i := 6) rfl rfl)) ?_
   refine JH.p 12 rfl (p_indexAddr el_24 rfl rfl (by omega) (by omega) rfl) ?_
   refine JH.w 13 rfl (fun os' u' hv => q_load1 ty_2.h rfl (Mem.pub (ints_cellI (i := p.player) (Ty.mono _ h2 (x8.vis.trans hv)) (by omega)))) ?_
   refine JH.p 14 rfl (p_sub rfl rfl (IntWalk.i64_in _ (by omega))) ?_
   refine JH.p 15 rfl (p_move rfl) ?_
   refine JH.q 16 rfl (L9 0 rfl rfl) ?_
   refine JH.p 17 rfl (q_bld) ?_
   refine y1 18 ?_
   refine ybs rfl fun b22 => ?_
   refine y1 19 ?_
   refine JHo.e rfl (e_append (i := 6) (n' := (acc ++ [(M.Res.mk (k : Int) ((M.getI (((M.done r p (k : Int)).1).stores) p.player) - (M.getI p.stores p.player)) (r.again && (decide (((M.done r p (k : Int)).1).last = (-1)))) (M.Pos.mk (((M.done r p (k : Int)).1).pits) (((M.done r p (k : Int)).1).stores) p.player))]).length) (vs' := vs8_5 ++ [.int .i64 (k : Int), .int .i64 ((M.getI (((M.done r p (k : Int)).1).stores) p.player) - (M.getI p.stores p.player)), .bool (r.again && (decide (((M.done r p (k : Int)).1).last = (-1)))), .slice A12 ((((M.done r p (k : Int)).1).pits).length) c12, .slice (some ⟨b17, 0, none⟩) ((((M.done r p (k : Int)).1).stores).length) c13, .int .i64 p.player]) el_74 rfl rfl rfl rfl (src_row (i := 0) und_74 rfl rfl) (by omega) (by omega) (by first | omega | (simp only [List.length_append, List.length_cons, List.length_nil] <;> omega)) (rfl)) (.inr rfl) ?_
   rintro v24 _ _ ⟨⟨g25, rfl⟩, rfl⟩ _
   refine JH.fact (row_form' (i := 6) rfl) (fun hf26 => ?_)
   obtain ⟨A26, c26, rfl, bl26, bh26⟩ := hf26
   refine znh ?_
   refine JH.p 20 rfl (p_assign rfl) ?_
   refine yd ?_
   refine Js.pack2 (i := 4) (j := 3) (cResult (M.Res.mk (k : Int) ((M.getI (((M.done r p (k : Int)).1).stores) p.player) - (M.getI p.stores p.player)) (r.again && (decide (((M.done r p (k : Int)).1).last = (-1)))) (M.Pos.mk (((M.done r p (k : Int)).1).pits) (((M.done r p (k : Int)).1).stores) p.player))) [.int .i64 (k : Int), .int .i64 ((M.getI (((M.done r p (k : Int)).1).stores) p.player) - (M.getI p.stores p.player)), .bool (r.again && (decide (((M.done r p (k : Int)).1).last = (-1)))), .slice A12 ((((M.done r p (k : Int)).1).pits).length) c12, .slice (some ⟨b17, 0, none⟩) ((((M.done r p (k : Int)).1).stores).length) c13, .int .i64 p.player] rfl rfl (fun w h1 h2 => pack_Result (ints_row h1 rfl) (ints_row h2 rfl)) (fun f27 => ?_)
   refine Js.joinL (i := 4) (j := 0) (Vs := lResult (acc ++ [(M.Res.mk (k : Int) ((M.getI (((M.done r p (k : Int)).1).stores) p.player) - (M.getI p.stores p.player)) (r.again && (decide (((M.done r p (k : Int)).1).last = (-1)))) (M.Pos.mk (((M.done r p (k : Int)).1).pits) (((M.done r p (k : Int)).1).stores) p.player))])) rfl rfl (lResult_snoc _ _) (fun f28 => ?_)
   refine zn ?_
   refine Js.blockEnd <| Js.region <| Qp rfl rfl <| Qm rfl <| JL.nil ?_
   refine zd [0, 3, 3, 3] rfl fun u29 x29 => ?_
   exact zag ⟨k + 1, acc ++ [(M.Res.mk (k : Int) ((M.getI (((M.done r p (k : Int)).1).stores) p.player) - (M.getI p.stores p.player)) (r.again && (decide (((M.done r p (k : Int)).1).last = (-1)))) (M.Pos.mk (((M.done r p (k : Int)).1).pits) (((M.done r p (k : Int)).1).stores) p.player))], _, _, _, _, _, rfl, rfl, by rw [hacc]; exact hacc2, zt, zu, zu, rfl⟩ (x8.trans x29)
  have hacc2 := (M.resultsTo_yes hz).symm
  unfold M.resOf at hacc2
  rw [if_neg (by simpa using h19)] at hacc2
  refine Js.skip ?_
  refine zdr [19] ?_
  refine JH.p 0 rfl (p_move rfl) ?_
  refine JH.p 1 rfl (p_move rfl) ?_
  refine JH.p 2 rfl (p_fieldAddr fld_129_1.h rfl) ?_
  refine JH.q 3 rfl (q_load1 ty_24.h rfl (Mem.box (i := 1) rfl rfl)) ?_
  refine JH.p 4 rfl (p_fieldAddr fld_33_2.h rfl) ?_
  refine JH.q 5 rfl (q_load1 ty_2.h rfl (Mem.box (i := 6) rfl rfl)) ?_
  refine JH.p 6 rfl (p_indexAddr el_24 rfl rfl (by omega) (by omega) rfl) ?_
  refine JH.q 7 rfl (q_load1 ty_2.h rfl (Mem.row (i := 2) rfl (ints_getI (i := p.player) (by omega)))) ?_
  refine JH.p 8 rfl (p_fieldAddr fld_33_1.h rfl) ?_
  refine JH.q 9 rfl (q_load1 ty_24.h rfl (Mem.box (i := 6) rfl rfl)) ?_
  refine JH.p 10 rfl (p_fieldAddr fld_33_2.h rfl) ?_
  refine JH.q 11 rfl (q_load1 ty_2.h rfl (Mem.box (i := 6) rfl rfl)) ?_
  refine JH.p 12 rfl (p_indexAddr el_24 rfl rfl (by omega) (by omega) rfl) ?_
  refine JH.w 13 rfl (fun os' u' hv => q_load1 ty_2.h rfl (Mem.pub (ints_cellI (i := p.player) (Ty.mono _ h2 (x8.vis.trans hv)) (by omega)))) ?_
  refine JH.p 14 rfl (p_sub rfl rfl (IntWalk.i64_in _ (by omega))) ?_
  refine JH.p 15 rfl (p_move rfl) ?_
  refine JH.q 16 rfl (L9 0 rfl rfl) ?_
  refine JH.p 17 rfl (q_bld) ?_
  refine y1 18 ?_
  refine ybs rfl fun b32 => ?_
  refine y1 19 ?_
  refine JHo.e rfl (e_append (i := 6) (n' := (acc ++ [(M.Res.mk (k : Int) ((M.getI (((M.done r p (k : Int)).1).stores) p.player) - (M.getI p.stores p.player)) (r.again && (decide (((M.done r p (k : Int)).1).last = (-1)))) (M.Pos.mk (((M.done r p (k : Int)).1).pits) (((M.done r p (k : Int)).1).stores) (1 - p.player)))]).length) (vs' := vs8_5 ++ [.int .i64 (k : Int), .int .i64 ((M.getI (((M.done r p (k : Int)).1).stores) p.player) - (M.getI p.stores p.player)), .bool (r.again && (decide (((M.done r p (k : Int)).1).last = (-1)))), .slice A12 ((((M.done r p (k : Int)).1).pits).length) c12, .slice (some ⟨b17, 0, none⟩) ((((M.done r p (k : Int)).1).stores).length) c13, .int .i64 (1 - p.player)]) el_74 rfl rfl rfl rfl (src_row (i := 0) und_74 rfl rfl) (by omega) (by omega) (by first | omega | (simp only [List.length_append, List.length_cons, List.length_nil] <;> omega)) (rfl)) (.inr rfl) ?_
  rintro v34 _ _ ⟨⟨g35, rfl⟩, rfl⟩ _
  refine JH.fact (row_form' (i := 6) rfl) (fun hf36 => ?_)
  obtain ⟨A36, c36, rfl, bl36, bh36⟩ := hf36
  refine znh ?_
  refine JH.p 20 rfl (p_assign rfl) ?_
  refine yd ?_
  refine Js.pack2 (i := 4) (j := 3) (cResult (M.Res.mk (k : Int) ((M.getI (((M.done r p (k : Int)).1).stores) p.player) - (M.getI p.stores p.player)) (r.again && (decide (((M.done r p (k : Int)).1).last = (-1)))) (M.Pos.mk (((M.done r p (k : Int)).1).pits) (((M.done r p (k : Int)).1).stores) (1 - p.player)))) [.int .i64 (k : Int), .int .i64 ((M.getI (((M.done r p (k : Int)).1).stores) p.player) - (M.getI p.stores p.player)), .bool (r.again && (decide (((M.done r p (k : Int)).1).last = (-1)))), .slice A12 ((((M.done r p (k : Int)).1).pits).length) c12, .slice (some ⟨b17, 0, none⟩) ((((M.done r p (k : Int)).1).stores).length) c13, .int .i64 (1 - p.player)] rfl rfl (fun w h1 h2 => pack_Result (ints_row h1 rfl) (ints_row h2 rfl)) (fun f37 => ?_)
  refine Js.joinL (i := 4) (j := 0) (Vs := lResult (acc ++ [(M.Res.mk (k : Int) ((M.getI (((M.done r p (k : Int)).1).stores) p.player) - (M.getI p.stores p.player)) (r.again && (decide (((M.done r p (k : Int)).1).last = (-1)))) (M.Pos.mk (((M.done r p (k : Int)).1).pits) (((M.done r p (k : Int)).1).stores) (1 - p.player)))])) rfl rfl (lResult_snoc _ _) (fun f38 => ?_)
  refine zn ?_
  refine Js.blockEnd <| Js.region <| Qp rfl rfl <| Qm rfl <| JL.nil ?_
  refine zd [0, 3, 3, 3] rfl fun u39 x39 => ?_
  exact zag ⟨k + 1, acc ++ [(M.Res.mk (k : Int) ((M.getI (((M.done r p (k : Int)).1).stores) p.player) - (M.getI p.stores p.player)) (r.again && (decide (((M.done r p (k : Int)).1).last = (-1)))) (M.Pos.mk (((M.done r p (k : Int)).1).pits) (((M.done r p (k : Int)).1).stores) (1 - p.player)))], _, _, _, _, _, rfl, rfl, by rw [hacc]; exact hacc2, zt, zu, zu, rfl⟩ (x8.trans x39)
 have hR : acc = M.results r p := by rw [hacc]; unfold M.results; rw [show k = r.pits.toNat by omega]
 refine zx ?_
 have hq0 : acc = M.results r p := by exact hR
 refine zS <| Qm rfl <| Qa rfl <| JL.nil ?_
 exact zro x8

set_option maxHeartbeats 1000000 in
theorem c_impl_Rules_resultOf (r : M.Rul) {v_r : Value} (p : M.Pos) {v_p : Value} (move : Int) {w : World} (h_r : (Ty.agg (cRules r)).ok w v_r) (h_p : (Ty.agg (cPosition p)).ok w v_p) (r0 : p.pits.length ≤ 4194304 := by exact om_) (r1 : p.stores.length ≤ 4194304 := by exact om_) : Ret Try.prog 102 [v_r, v_p, .int .i64 move] w (Ty.tup [Ty.agg (cResult ((M.make r p move).1)), Ty.int ((M.make r p move).2)]) := by
 revert v_r; apply opn
 revert v_p; apply opn
 intro A1 c1 h1 bl1 bh1 A2 c2 h2 bl2 bh2
 refine enter @Try.func102 @Try.ntmps102 rfl rfl ?_
 refine zent ?_
 refine zS <| zb rfl fun b3 => zb rfl fun b4 => za zeh fun b5 => Qa rfl <| zJ <| zS <| Q9 2 rfl rfl ?_
 refine Q9 1 rfl rfl ?_
 refine Qm rfl <| zv rfl (fun w hw => c_impl_MoveFault r p move (ok_ hw) (ok_ hw)) <| Qa rfl <| zN <| Qm rfl <| Qd rfl rfl <| JL.nil ?_
 refine zi (fun h6 h6' => ?_) fun h6 h6' => ?_
 ·
  have hD := M.make_no (r := r) (p := p) (move := move) (by simpa using h6)
  have hq0 : 0 = ((M.make r p move).1).move := by first | exact hE | (rw [hm]; done) | (rw [hD]; done) | (rw [hD]; rfl)
  have hq1 : 0 = ((M.make r p move).1).gain := by first | exact hE | (rw [hm]; done) | (rw [hD]; done) | (rw [hD]; rfl)
  have hq2 : false = ((M.make r p move).1).again := by first | exact hE | (rw [hm]; done) | (rw [hD]; done) | (rw [hD]; rfl)
  have hq3 : [] = (((M.make r p move).1).next).pits := by first | exact hE | (rw [hm]; done) | (rw [hD]; done) | (rw [hD]; rfl)
  have hq4 : [] = (((M.make r p move).1).next).stores := by first | exact hE | (rw [hm]; done) | (rw [hD]; done) | (rw [hD]; rfl)
  have hq5 : 0 = (((M.make r p move).1).next).player := by first | exact hE | (rw [hm]; done) | (rw [hD]; done) | (rw [hD]; rfl)
  have hq6 : ((M.done r p move).2) = (M.make r p move).2 := by first | exact hE | (rw [hm]; done) | (rw [hD]; done) | (rw [hD]; rfl)
  refine zS <| Qb ?_
  refine Qm rfl <| zw 0 rfl rfl rfl ?_
  refine Qa rfl <| JL.nil ?_
  exact zro (Up.refl _ _)
 have hz : (M.done r p move).2 = 0 := by simpa using h6
 have hm : (M.make r p move).2 = 0 := by rw [M.make_code]; exact hz
 have hok := (M.make_ok hm).1
 refine Js.skip <| Js.seq <| zS <| Q9 2 rfl rfl ?_
 refine Q9 1 rfl rfl ?_
 refine zcs rfl (fun w hw => c_impl_Rules_results r p (ok_ hw) (ok_ hw) (r0 := hok)) ?_
 intro A7 c7 vs7 f7 bl7 bh7
 refine Qz rfl <| Qm rfl <| JL.nil <| Js.block ?_
 refine zl [2, 6, 21, 22] (fun F U l os u m => ∃ (k : Nat), l = F [(23, .int .i64 (k : Int))] ∧ os = U [] ∧ (k ≤ (M.results r p).length) ∧ (∀ (j : Nat) (x : M.Res), j < k → (M.results r p)[j]? = some x → x.move ≠ move) ∧ m = (M.results r p).length - k) ⟨0, rfl, rfl, zt, by exact fun j x hj => absurd hj (by omega), rfl⟩ ?_
 rintro _ _ u8 _ ⟨k, rfl, rfl, hk, hn, rfl⟩ x8
 refine zn ?_
 refine zS <| Ql rfl rfl <| zJ ?_
 refine zi (fun h9 h9' => ?_) fun h9 h9' => ?_
 ·
  refine Js.skip <| Js.seq <| Js.block <| zS ?_
  refine JL.fact (row_some (i := 0) rfl (by omega)) (fun hf11 => ?_)
  obtain ⟨b11, rfl⟩ := hf11
  obtain ⟨y10, hy10⟩ : ∃ x, (M.results r p)[k]? = some x := ⟨_, List.getElem?_eq_getElem (by omega)⟩
  refine JL.fact (fun w hw => elemv_Result (Mem.ownC (i := 1) rfl w hw) hy10) (fun hf10 => ?_)
  obtain ⟨A10_3, c10_3, A10_4, c10_4, he10, bl10_3, bh10_3, bl10_4, bh10_4⟩ := hf10
  refine Qq (p_indexAddr el_74 rfl rfl (by omega) (by omega) rfl) <| Qw (q_loadN ty_84.h rfl (Mem.rowR' (i := 0) rfl he10) rfl rfl) <| za zeh fun b12 => zw 0 rfl rfl rfl ?_
  refine zN <| Qf fh rfl <| Q0 0 rfl rfl rfl <| Qm rfl <| Qe rfl rfl <| JL.nil ?_
  refine zi (fun h13 h13' => ?_) fun h13 h13' => ?_
  ·
   have hE := M.results_get hy10 (by simpa using h13)
   have hm2 := hm.symm
   refine zS <| Q9 0 rfl rfl ?_
   refine zw 3 rfl rfl rfl ?_
   refine Qa rfl <| JL.nil ?_
   refine Js.elemO cResult (i := 2) (xs := (M.results r p)) (fun _ => rfl) rfl hy10 he10 (fun f14 f14a f14b => ?_)
   refine zn ?_
   have hq0 : y10 = (M.make r p move).1 := by first | exact hE | (rw [hm]; done) | (rw [hD]; done) | (rw [hD]; rfl)
   have hq1 : 0 = (M.make r p move).2 := by first | exact hE | (rw [hm]; done) | (rw [hD]; done) | (rw [hD]; rfl)
   exact zro x8
  have hn2 := M.none_step hn hy10 (by simpa using h13)
  refine Js.skip <| Js.blockEnd <| Js.region <| Qp rfl rfl <| Qm rfl <| JL.nil ?_
  refine zd [1, 1, 1, 1, 1] rfl fun u15 x15 => ?_
  exact zag ⟨k + 1, rfl, rfl, zt, by exact hn2, rfl⟩ (x8.trans x15)
 obtain ⟨j, hj, hx, hmv⟩ := M.results_has hm; have h9 := h9; simp at h9; exact absurd hmv (hn j _ (by omega) hx)

set_option maxHeartbeats 1000000 in
theorem c_impl_MakeMove (r : M.Rul) {v_r : Value} (p : M.Pos) {v_p : Value} (move : Int) {w : World} (h_r : (Ty.agg (cRules r)).ok w v_r) (h_p : (Ty.agg (cPosition p)).ok w v_p) (r0 : p.pits.length ≤ 4194304 := by exact om_) (r1 : p.stores.length ≤ 4194304 := by exact om_) : Ret Try.prog 64 [v_r, v_p, .int .i64 move] w (Ty.tup [Ty.agg (cPosition ((M.make r p move).1.next)), Ty.int ((M.make r p move).1.gain), Ty.int ((M.make r p move).2)]) := by
 revert v_r; apply opn
 revert v_p; apply opn
 intro A1 c1 h1 bl1 bh1 A2 c2 h2 bl2 bh2
 refine enter @Try.func64 @Try.ntmps64 rfl rfl ?_
 refine zent ?_
 refine zS <| zb rfl fun b3 => zb rfl fun b4 => za zeh fun b5 => Qa rfl <| Qa rfl <| zN <| Q9 2 rfl rfl ?_
 refine Q9 1 rfl rfl ?_
 refine Qm rfl <| zc rfl (fun w hw => c_impl_Rules_resultOf r p move (ok_ hw) (ok_ hw)) ?_
 intro A8 c8 bl8 bh8 A9 c9 bl9 bh9
 refine Qm rfl <| Qx rfl rfl <| Qx rfl rfl <| za zeh fun b10 => zw 0 rfl rfl rfl ?_
 refine Qa rfl <| zJ <| zS <| Qm rfl <| Qd rfl rfl <| JL.nil ?_
 refine zi (fun h11 h11' => ?_) fun h11 h11' => ?_
 ·
  have hD := M.make_zero (r := r) (p := p) (move := move) (by simpa using h11)
  have hq0 : [] = ((M.make r p move).1.next).pits := by first | rfl | (rw [hm]; done) | (rw [hD]; rfl)
  have hq1 : [] = ((M.make r p move).1.next).stores := by first | rfl | (rw [hm]; done) | (rw [hD]; rfl)
  have hq2 : 0 = ((M.make r p move).1.next).player := by first | rfl | (rw [hm]; done) | (rw [hD]; rfl)
  have hq3 : 0 = (M.make r p move).1.gain := by first | rfl | (rw [hm]; done) | (rw [hD]; rfl)
  refine zS <| Qb ?_
  refine Qm rfl <| zw 3 rfl rfl rfl ?_
  refine Qa rfl <| Qa rfl <| JL.nil ?_
  exact zro (Up.refl _ _)
 have hm : (M.make r p move).2 = 0 := by simpa using h11
 refine Js.skip <| Js.seq ?_
 refine zk [6, 8] (fun F U l os u => l = F [(7, .int .i64 (((M.make r p move).1).gain))] ∧ os = U [nO, nO, nO, some (boxO b5 [.slice A8 (((((M.make r p move).1).next).pits).length) c8, .slice A9 (((((M.make r p move).1).next).stores).length) c9, .int .i64 ((((M.make r p move).1).next).player)] 33)]) ?_ ?_
 ·
  refine zdr [4] ?_
  refine JH.p 0 rfl (p_fieldAddr fld_84_3.h rfl) ?_
  refine JH.q 1 rfl (L9 0 rfl rfl) ?_
  refine JH.p 2 rfl (p_fieldAddr fld_84_1.h rfl) ?_
  refine y2 3 4 ?_ ?_
  ·
   refine JHo.q rfl (q_load1 ty_2.h rfl (Mem.box (i := 0) rfl rfl)) ?_
   refine y1 4 ?_
   refine yst rfl rfl rfl ?_
   refine JH.p 5 rfl (p_assign rfl) ?_
   refine JH.p 6 rfl (p_assign rfl) ?_
   refine yd ?_
   exact zm ⟨rfl, rfl⟩ (Up.refl _ _)
  refine yst rfl rfl rfl ?_
  refine y1 3 ?_
  refine JHo.q rfl (q_load1 ty_2.h rfl (Mem.box (i := 0) rfl rfl)) ?_
  refine JH.p 5 rfl (p_assign rfl) ?_
  refine JH.p 6 rfl (p_assign rfl) ?_
  refine yd ?_
  exact zm ⟨rfl, rfl⟩ (Up.refl _ _)
 rintro _ _ u12 ⟨rfl, rfl⟩ x12
 refine zn ?_
 have hq0 : ((((M.make r p move).1).next).pits) = ((M.make r p move).1.next).pits := by first | rfl | (rw [hm]; done) | (rw [hD]; rfl)
 have hq1 : ((((M.make r p move).1).next).stores) = ((M.make r p move).1.next).stores := by first | rfl | (rw [hm]; done) | (rw [hD]; rfl)
 have hq2 : ((((M.make r p move).1).next).player) = ((M.make r p move).1.next).player := by first | rfl | (rw [hm]; done) | (rw [hD]; rfl)
 have hq3 : (((M.make r p move).1).gain) = (M.make r p move).1.gain := by first | rfl | (rw [hm]; done) | (rw [hD]; rfl)
 have hq4 : 0 = (M.make r p move).2 := by first | rfl | (rw [hm]; done) | (rw [hD]; rfl)
 exact zro x12

end Go.Proofs.Ytejnmechnhgmfaa

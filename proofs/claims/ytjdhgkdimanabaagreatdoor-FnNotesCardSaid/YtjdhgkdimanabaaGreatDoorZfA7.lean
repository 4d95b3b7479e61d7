/- Walks: G4. -/
import Derived.Test.YtjdhgkdimanabaaGreatDoorZfA3
import Derived.Test.YtjdhgkdimanabaaGreatDoorZfA6
import Derived.Test.YtjdhgkdimanabaaGreatDoorZfA5
import Derived.Test.YtjdhgkdimanabaaGreatDoorZfA4
import Derived.Test.YtjdhgkdimanabaaGreatDoorZfA2
import Derived.Test.YtjdhgkdimanabaaGreatDoorZfA1
set_option linter.unusedSimpArgs false
set_option linter.unusedVariables false
set_option maxRecDepth 100000
attribute [local irreducible] Go.Proofs.YtjdhgkdimanabaaGreatDoor.gv
set_option maxHeartbeats 8000000
namespace Go.Proofs.YtjdhgkdimanabaaGreatDoor
open Go.RowKit
theorem c_impl_Rules_results (r : M.Rul) {v_r : Value} (p : M.Pos) {v_p : Value} {w : World} (h_r : (Ty.agg (cRules r)).ok w v_r) (h_p : (Ty.agg (cPosition p)).ok w v_p) (r0 : M.okP r p = true := by exact om_) : Ret Tryz.prog 57 [v_r, v_p] w (Ty.sl 87 6 (M.results r p).length (lResult (M.results r p))) := by
 obtain ⟨g1, g2, g3, g4, g5, g6, g7⟩ := M.okP_bd r0
 revert v_r; apply opn
 revert v_p; apply opn
 intro A1 c1 h1 bl1 bh1 A2 c2 h2 bl2 bh2
 refine enter @Tryz.func57 @Tryz.ntmps57 rfl rfl ?_
 refine zent ?_
 obtain ⟨b3, o3, rfl⟩ := ints_some h2 (by omega)
 refine zS <| zb rfl fun b4 => zb rfl fun b5 => Qa rfl <| zN <| zbs fun b6 => ?_
 refine Qa rfl <| zJ <| zS <| Qf fh rfl <| Q0 2 rfl rfl rfl <| Qm rfl <| JL.nil <| Js.block ?_
 refine Js.vals (Ts := lResult []) (vs := []) (fun w => rfl) ?_
 refine zl [2, 3, 13] (fun F U l os u m => ∃ (k : Nat) (acc : List M.Res) (A8_5 : Option Addr) (c8_5 : Nat) (g8_5 : List Nat) (vs8_5 : List Value) (fl8_5 : List Nat), l = F [(5, .slice A8_5 acc.length c8_5), (14, .int .i64 (k : Int))] ∧ os = U [some (ownC (lResult acc) vs8_5 fl8_5), some (rowO 87 6 (.slice A8_5 acc.length c8_5) acc.length vs8_5 g8_5)] ∧ (acc = M.resultsTo r p k) ∧ (k ≤ r.pits) ∧ (acc.length ≤ c8_5) ∧ (c8_5 ≤ 9223372036854775807) ∧ m = (r.pits - k).toNat) ⟨0, [], _, _, _, _, _, rfl, rfl, by rfl, zt, zu, zu, rfl⟩ ?_
 rintro _ _ u8 _ ⟨k, acc, A8_5, c8_5, g8_5, vs8_5, fl8_5, rfl, rfl, hacc, hk, f8_2, f8_3, rfl⟩ x8
 refine zn ?_
 have hlen := M.resultsTo_len (r := r) (p := p) k
 have hlacc : acc.length ≤ k := by rw [hacc]; exact hlen
 refine zS <| Ql rfl rfl <| zJ ?_
 refine zi (fun h9 h9' => ?_) fun h9 h9' => ?_
 ·
  refine Js.skip <| Js.seq <| Js.block <| zS <| Qm rfl <| Qa rfl <| zN <| Q9 3 rfl rfl ?_
  refine Q9 2 rfl rfl ?_
  refine Qm rfl <| zc rfl (fun w hw => c_impl_Rules_done r p (k : Int) (ok_ hw) (ok_ hw)) ?_
  intro A12 c12 bl12 bh12 A13 c13 bl13 bh13
  refine Qm rfl <| Qx rfl rfl <| Qx rfl rfl <| za zeh fun b14 => zw 0 rfl rfl rfl ?_
  refine Qa rfl <| zJ <| zS <| Qm rfl <| Qd rfl rfl <| JL.nil ?_
  refine zi (fun h15 h15' => ?_) fun h15 h15' => ?_
  ·
   have hacc2 := (M.resultsTo_no (r := r) (p := p) (k := k) (by simpa using h15)).symm
   refine zx ?_
   refine Js.region <| Qp rfl rfl <| Qm rfl <| JL.nil ?_
   refine zd [3, 3, 3, 3] rfl fun u16 x16 => ?_
   exact zag ⟨k + 1, acc, _, _, _, _, _, rfl, rfl, by rw [hacc]; exact hacc2, zt, zu, zu, rfl⟩ (x8.trans x16)
  have hz : (M.done r p k).2 = 0 := by simpa using h15
  obtain ⟨_, _, _, hG⟩ := M.done_good hz
  have l3 := hG.ls
  have hs1 := hG.store p.player
  have hs2 := (M.Good.of_ok r0).store p.player
  refine Js.fact (row_some (i := 1) rfl (by omega)) (fun hf17 => ?_)
  obtain ⟨b17, rfl⟩ := hf17
  refine Js.skip <| zS <| Qf fh rfl <| Q0 6 rfl rfl rfl <| Qm rfl <| zg (Gd.t1 rfl rfl rfl) (fun hc => p_fieldAddr fld_139_2.h rfl) <| zgq (Gd.t1 rfl rfl rfl) (fun hc => q_load1 ty_2.h (gh hc rfl) (Mem.box (i := 0) rfl rfl)) <| zg (Gd.t1 rfl rfl rfl) (fun hc => p_eql (gh hc rfl) rfl) <| Qq (p_pickAnd rfl rfl rfl) <| Qa rfl <| zN <| Qf fh rfl <| Q0 0 rfl rfl rfl <| Qf fh rfl ?_
  refine Q0 0 rfl rfl rfl <| Qf fh rfl <| Q0 5 rfl rfl rfl <| Qs rfl rfl <| Qb ?_
  refine za zeh fun b18 => zw 0 rfl rfl rfl ?_
  refine zJ <| zS <| Qm rfl <| JL.nil ?_
  refine zi (fun h19 h19' => ?_) fun h19 h19' => ?_
  ·
   have hacc2 := (M.resultsTo_yes hz).symm
   unfold M.resOf at hacc2
   rw [if_pos h19] at hacc2
   refine Js.region <| Qf fh rfl <| Q0 6 rfl rfl rfl <| Qf fh rfl <| zw 0 rfl rfl rfl ?_
   refine JL.nil ?_
   refine zdr [19] ?_
   refine jM 0 rfl rfl ?_
   refine jM 1 rfl rfl ?_
   refine jF 2 fld_139_1 rfl rfl ?_
   refine jB 3 1 ty_26 rfl rfl rfl rfl ?_
   refine jF 4 fld_28_2 rfl rfl ?_
   refine jB 5 6 ty_2 rfl rfl rfl rfl ?_
   refine jI 6 el_26 rfl rfl rfl rfl ?_
   refine JH.q 7 rfl (q_load1 ty_2.h rfl (Mem.row (i := 2) rfl (ints_getI (i := p.player) (by omega)))) ?_
   refine jF 8 fld_28_1 rfl rfl ?_
   refine jB 9 6 ty_26 rfl rfl rfl rfl ?_
   refine jF 10 fld_28_2 rfl rfl ?_
   refine jB 11 6 ty_2 rfl rfl rfl rfl ?_
   refine jI 12 el_26 rfl rfl rfl rfl ?_
   refine JH.w 13 rfl (fun os' u' hv => q_load1 ty_2.h rfl (Mem.pub (ints_cellI (i := p.player) (Ty.mono _ h2 (x8.vis.trans hv)) (by omega)))) ?_
   refine JH.p 14 rfl (p_sub rfl rfl (IntWalk.i64_in _ (by omega))) ?_
   refine jM 15 rfl rfl ?_
   refine JH.q 16 rfl (L9 0 rfl rfl) ?_
   refine JH.p 17 rfl (q_bld) ?_
   refine y1 18 ?_
   refine ybs rfl fun b22 => ?_
   refine y1 19 ?_
   refine JHo.e rfl (e_append (i := 6) (n' := (acc ++ [(M.Res.mk (k : Int) ((M.getI (((M.done r p (k : Int)).1).stores) p.player) - (M.getI p.stores p.player)) (r.again && (decide (((M.done r p (k : Int)).1).last = (-1)))) (M.Pos.mk (((M.done r p (k : Int)).1).pits) (((M.done r p (k : Int)).1).stores) p.player))]).length) (vs' := vs8_5 ++ [.int .i64 (k : Int), .int .i64 ((M.getI (((M.done r p (k : Int)).1).stores) p.player) - (M.getI p.stores p.player)), .bool (r.again && (decide (((M.done r p (k : Int)).1).last = (-1)))), .slice A12 ((((M.done r p (k : Int)).1).pits).length) c12, .slice (some ⟨b17, 0, none⟩) ((((M.done r p (k : Int)).1).stores).length) c13, .int .i64 p.player]) el_84 rfl rfl rfl rfl (src_row (i := 0) und_84 rfl rfl) (by omega) (by omega) ln2_ (rfl)) (.inr rfl) ?_
   rintro v24 _ _ ⟨⟨g25, rfl⟩, rfl⟩ _
   refine JH.fact (row_form' (i := 6) rfl) (fun hf26 => ?_)
   obtain ⟨A26, c26, rfl, bl26, bh26⟩ := hf26
   refine znh ?_
   refine jA 20 rfl rfl ?_
   refine yd ?_
   refine Js.pack2 (i := 4) (j := 3) (cResult (M.Res.mk (k : Int) ((M.getI (((M.done r p (k : Int)).1).stores) p.player) - (M.getI p.stores p.player)) (r.again && (decide (((M.done r p (k : Int)).1).last = (-1)))) (M.Pos.mk (((M.done r p (k : Int)).1).pits) (((M.done r p (k : Int)).1).stores) p.player))) [.int .i64 (k : Int), .int .i64 ((M.getI (((M.done r p (k : Int)).1).stores) p.player) - (M.getI p.stores p.player)), .bool (r.again && (decide (((M.done r p (k : Int)).1).last = (-1)))), .slice A12 ((((M.done r p (k : Int)).1).pits).length) c12, .slice (some ⟨b17, 0, none⟩) ((((M.done r p (k : Int)).1).stores).length) c13, .int .i64 p.player] rfl rfl (fun w h1 h2 => pack_Result (ints_row h1 rfl) (ints_row h2 rfl)) (fun f27 => ?_)
   refine Js.joinL (i := 4) (j := 0) (Vs := lResult (acc ++ [(M.Res.mk (k : Int) ((M.getI (((M.done r p (k : Int)).1).stores) p.player) - (M.getI p.stores p.player)) (r.again && (decide (((M.done r p (k : Int)).1).last = (-1)))) (M.Pos.mk (((M.done r p (k : Int)).1).pits) (((M.done r p (k : Int)).1).stores) p.player))])) rfl rfl (lResult_snoc _ _) (fun f28 => ?_)
   refine zn ?_
   refine Js.blockEnd <| Js.region <| Qp rfl rfl <| Qm rfl <| JL.nil ?_
   refine zd [0, 3, 3, 3] rfl fun u29 x29 => ?_
   exact zag ⟨k + 1, acc ++ [(M.Res.mk (k : Int) ((M.getI (((M.done r p (k : Int)).1).stores) p.player) - (M.getI p.stores p.player)) (r.again && (decide (((M.done r p (k : Int)).1).last = (-1)))) (M.Pos.mk (((M.done r p (k : Int)).1).pits) (((M.done r p (k : Int)).1).stores) p.player))], _, _, _, _, _, rfl, rfl, by rw [hacc]; exact hacc2, zt, zu, zu, rfl⟩ (x8.trans x29)
  have hacc2 := (M.resultsTo_yes hz).symm
  unfold M.resOf at hacc2
  rw [if_neg (by simpa using h19)] at hacc2
  refine Js.skip ?_
  refine zdr [19] ?_
  refine jM 0 rfl rfl ?_
  refine jM 1 rfl rfl ?_
  refine jF 2 fld_139_1 rfl rfl ?_
  refine jB 3 1 ty_26 rfl rfl rfl rfl ?_
  refine jF 4 fld_28_2 rfl rfl ?_
  refine jB 5 6 ty_2 rfl rfl rfl rfl ?_
  refine jI 6 el_26 rfl rfl rfl rfl ?_
  refine JH.q 7 rfl (q_load1 ty_2.h rfl (Mem.row (i := 2) rfl (ints_getI (i := p.player) (by omega)))) ?_
  refine jF 8 fld_28_1 rfl rfl ?_
  refine jB 9 6 ty_26 rfl rfl rfl rfl ?_
  refine jF 10 fld_28_2 rfl rfl ?_
  refine jB 11 6 ty_2 rfl rfl rfl rfl ?_
  refine jI 12 el_26 rfl rfl rfl rfl ?_
  refine JH.w 13 rfl (fun os' u' hv => q_load1 ty_2.h rfl (Mem.pub (ints_cellI (i := p.player) (Ty.mono _ h2 (x8.vis.trans hv)) (by omega)))) ?_
  refine JH.p 14 rfl (p_sub rfl rfl (IntWalk.i64_in _ (by omega))) ?_
  refine jM 15 rfl rfl ?_
  refine JH.q 16 rfl (L9 0 rfl rfl) ?_
  refine JH.p 17 rfl (q_bld) ?_
  refine y1 18 ?_
  refine ybs rfl fun b32 => ?_
  refine y1 19 ?_
  refine JHo.e rfl (e_append (i := 6) (n' := (acc ++ [(M.Res.mk (k : Int) ((M.getI (((M.done r p (k : Int)).1).stores) p.player) - (M.getI p.stores p.player)) (r.again && (decide (((M.done r p (k : Int)).1).last = (-1)))) (M.Pos.mk (((M.done r p (k : Int)).1).pits) (((M.done r p (k : Int)).1).stores) (1 - p.player)))]).length) (vs' := vs8_5 ++ [.int .i64 (k : Int), .int .i64 ((M.getI (((M.done r p (k : Int)).1).stores) p.player) - (M.getI p.stores p.player)), .bool (r.again && (decide (((M.done r p (k : Int)).1).last = (-1)))), .slice A12 ((((M.done r p (k : Int)).1).pits).length) c12, .slice (some ⟨b17, 0, none⟩) ((((M.done r p (k : Int)).1).stores).length) c13, .int .i64 (1 - p.player)]) el_84 rfl rfl rfl rfl (src_row (i := 0) und_84 rfl rfl) (by omega) (by omega) ln2_ (rfl)) (.inr rfl) ?_
  rintro v34 _ _ ⟨⟨g35, rfl⟩, rfl⟩ _
  refine JH.fact (row_form' (i := 6) rfl) (fun hf36 => ?_)
  obtain ⟨A36, c36, rfl, bl36, bh36⟩ := hf36
  refine znh ?_
  refine jA 20 rfl rfl ?_
  refine yd ?_
  refine Js.pack2 (i := 4) (j := 3) (cResult (M.Res.mk (k : Int) ((M.getI (((M.done r p (k : Int)).1).stores) p.player) - (M.getI p.stores p.player)) (r.again && (decide (((M.done r p (k : Int)).1).last = (-1)))) (M.Pos.mk (((M.done r p (k : Int)).1).pits) (((M.done r p (k : Int)).1).stores) (1 - p.player)))) [.int .i64 (k : Int), .int .i64 ((M.getI (((M.done r p (k : Int)).1).stores) p.player) - (M.getI p.stores p.player)), .bool (r.again && (decide (((M.done r p (k : Int)).1).last = (-1)))), .slice A12 ((((M.done r p (k : Int)).1).pits).length) c12, .slice (some ⟨b17, 0, none⟩) ((((M.done r p (k : Int)).1).stores).length) c13, .int .i64 (1 - p.player)] rfl rfl (fun w h1 h2 => pack_Result (ints_row h1 rfl) (ints_row h2 rfl)) (fun f37 => ?_)
  refine Js.joinL (i := 4) (j := 0) (Vs := lResult (acc ++ [(M.Res.mk (k : Int) ((M.getI (((M.done r p (k : Int)).1).stores) p.player) - (M.getI p.stores p.player)) (r.again && (decide (((M.done r p (k : Int)).1).last = (-1)))) (M.Pos.mk (((M.done r p (k : Int)).1).pits) (((M.done r p (k : Int)).1).stores) (1 - p.player)))])) rfl rfl (lResult_snoc _ _) (fun f38 => ?_)
  refine zn ?_
  refine Js.blockEnd <| Js.region <| Qp rfl rfl <| Qm rfl <| JL.nil ?_
  refine zd [0, 3, 3, 3] rfl fun u39 x39 => ?_
  exact zag ⟨k + 1, acc ++ [(M.Res.mk (k : Int) ((M.getI (((M.done r p (k : Int)).1).stores) p.player) - (M.getI p.stores p.player)) (r.again && (decide (((M.done r p (k : Int)).1).last = (-1)))) (M.Pos.mk (((M.done r p (k : Int)).1).pits) (((M.done r p (k : Int)).1).stores) (1 - p.player)))], _, _, _, _, _, rfl, rfl, by rw [hacc]; exact hacc2, zt, zu, zu, rfl⟩ (x8.trans x39)
 have hR : acc = M.results r p := by rw [hacc]; unfold M.results; rw [show k = r.pits.toNat by omega]
 refine zx ?_
 have hq0 : acc = M.results r p := by exact hR
 refine zS <| Qm rfl <| Qa rfl <| JL.nil ?_
 exact zro x8
theorem c_impl_Rules_resultOf (r : M.Rul) {v_r : Value} (p : M.Pos) {v_p : Value} (move : Int) {w : World} (h_r : (Ty.agg (cRules r)).ok w v_r) (h_p : (Ty.agg (cPosition p)).ok w v_p) (r0 : p.pits.length ≤ 4194304 := by exact om_) (r1 : p.stores.length ≤ 4194304 := by exact om_) : Ret Tryz.prog 58 [v_r, v_p, .int .i64 move] w (Ty.tup [Ty.agg (cResult ((M.make r p move).1)), Ty.int ((M.make r p move).2)]) := by
 revert v_r; apply opn
 revert v_p; apply opn
 intro A1 c1 h1 bl1 bh1 A2 c2 h2 bl2 bh2
 refine enter @Tryz.func58 @Tryz.ntmps58 rfl rfl ?_
 refine zent ?_
 refine zS <| zb rfl fun b3 => zb rfl fun b4 => za zeh fun b5 => Qa rfl <| zJ <| zS <| Q9 2 rfl rfl ?_
 refine Q9 1 rfl rfl ?_
 refine Qm rfl <| zv rfl (fun w hw => c_impl_MoveFault r p move (ok_ hw) (ok_ hw)) <| Qa rfl <| zN <| Qm rfl <| Qd rfl rfl <| JL.nil ?_
 refine zi (fun h6 h6' => ?_) fun h6 h6' => ?_
 ·
  have hD := M.make_no (r := r) (p := p) (move := move) (by simpa using h6)
  have hq0 : 0 = ((M.make r p move).1).move := by first | exact hE | (rw [hm]; done) | (rw [hD]; done) | (rw [hD]; rfl)
  have hq1 : 0 = ((M.make r p move).1).gain := by first | exact hE | (rw [hm]; done) | (rw [hD]; done) | (rw [hD]; rfl)
  have hq2 : false = ((M.make r p move).1).again := by first | exact hE | (rw [hm]; done) | (rw [hD]; done) | (rw [hD]; rfl)
  have hq3 : [] = (((M.make r p move).1).next).pits := by first | exact hE | (rw [hm]; done) | (rw [hD]; done) | (rw [hD]; rfl)
  have hq4 : [] = (((M.make r p move).1).next).stores := by first | exact hE | (rw [hm]; done) | (rw [hD]; done) | (rw [hD]; rfl)
  have hq5 : 0 = (((M.make r p move).1).next).player := by first | exact hE | (rw [hm]; done) | (rw [hD]; done) | (rw [hD]; rfl)
  have hq6 : ((M.done r p move).2) = (M.make r p move).2 := by first | exact hE | (rw [hm]; done) | (rw [hD]; done) | (rw [hD]; rfl)
  refine zS <| Qb ?_
  refine Qm rfl <| zw 0 rfl rfl rfl ?_
  refine Qa rfl <| JL.nil ?_
  exact zro (Up.refl _ _)
 have hz : (M.done r p move).2 = 0 := by simpa using h6
 have hm : (M.make r p move).2 = 0 := by rw [M.make_code]; exact hz
 have hok := (M.make_ok hm).1
 refine Js.skip <| Js.seq <| zS <| Q9 2 rfl rfl ?_
 refine Q9 1 rfl rfl ?_
 refine zcs rfl (fun w hw => c_impl_Rules_results r p (ok_ hw) (ok_ hw) (r0 := hok)) ?_
 intro A7 c7 vs7 f7 bl7 bh7
 refine Qz rfl <| Qm rfl <| JL.nil <| Js.block ?_
 refine zl [2, 6, 21, 22] (fun F U l os u m => ∃ (k : Nat), l = F [(23, .int .i64 (k : Int))] ∧ os = U [] ∧ (k ≤ (M.results r p).length) ∧ (∀ (j : Nat) (x : M.Res), j < k → (M.results r p)[j]? = some x → x.move ≠ move) ∧ m = (M.results r p).length - k) ⟨0, rfl, rfl, zt, by exact fun j x hj => absurd hj (by omega), rfl⟩ ?_
 rintro _ _ u8 _ ⟨k, rfl, rfl, hk, hn, rfl⟩ x8
 refine zn ?_
 refine zS <| Ql rfl rfl <| zJ ?_
 refine zi (fun h9 h9' => ?_) fun h9 h9' => ?_
 ·
  refine Js.skip <| Js.seq <| Js.block <| zS ?_
  refine JL.fact (row_some (i := 0) rfl (by omega)) (fun hf11 => ?_)
  obtain ⟨b11, rfl⟩ := hf11
  obtain ⟨y10, hy10⟩ : ∃ x, (M.results r p)[k]? = some x := ⟨_, List.getElem?_eq_getElem (by omega)⟩
  refine JL.fact (fun w hw => elemv_Result (Mem.ownC (i := 1) rfl w hw) hy10) (fun hf10 => ?_)
  obtain ⟨A10_3, c10_3, A10_4, c10_4, he10, bl10_3, bh10_3, bl10_4, bh10_4⟩ := hf10
  refine Qq (p_indexAddr el_84 rfl rfl (by omega) (by omega) rfl) <| Qw (q_loadN ty_87.h rfl (Mem.rowR' (i := 0) rfl he10) rfl rfl) <| za zeh fun b12 => zw 0 rfl rfl rfl ?_
  refine zN <| Qf fh rfl <| Q0 0 rfl rfl rfl <| Qm rfl <| Qe rfl rfl <| JL.nil ?_
  refine zi (fun h13 h13' => ?_) fun h13 h13' => ?_
  ·
   have hE := M.results_get hy10 (by simpa using h13)
   have hm2 := hm.symm
   refine zS <| Q9 0 rfl rfl ?_
   refine zw 3 rfl rfl rfl ?_
   refine Qa rfl <| JL.nil ?_
   refine Js.elemO cResult (i := 2) (xs := (M.results r p)) (fun _ => rfl) rfl hy10 he10 (fun f14 f14a f14b => ?_)
   refine zn ?_
   have hq0 : y10 = (M.make r p move).1 := by first | exact hE | (rw [hm]; done) | (rw [hD]; done) | (rw [hD]; rfl)
   have hq1 : 0 = (M.make r p move).2 := by first | exact hE | (rw [hm]; done) | (rw [hD]; done) | (rw [hD]; rfl)
   exact zro x8
  have hn2 := M.none_step hn hy10 (by simpa using h13)
  refine Js.skip <| Js.blockEnd <| Js.region <| Qp rfl rfl <| Qm rfl <| JL.nil ?_
  refine zd [1, 1, 1, 1, 1] rfl fun u15 x15 => ?_
  exact zag ⟨k + 1, rfl, rfl, zt, by exact hn2, rfl⟩ (x8.trans x15)
 obtain ⟨j, hj, hx, hmv⟩ := M.results_has hm; have h9 := h9; simp at h9; exact absurd hmv (hn j _ (by omega) hx)
theorem c_spec_l01Dec (n : Int) {w : World} (r0 : -9223372036854775808 ≤ n := by exact om_) (r1 : n ≤ 9223372036854775807 := by exact om_) : RetV Tryz.prog 60 [.int .i64 n] w (.string (sB (M.dec n))) := by
 refine enter @Tryz.func60 @Tryz.ntmps60 rfl rfl ?_
 refine zent ?_
 refine zS <| Qa rfl <| zN <| zbs fun b1 => ?_
 refine Qa rfl <| zJ <| zS <| Qm rfl <| Qa rfl <| JL.nil <| Js.block ?_
 refine zl [0] (fun F U l os u m => ∃ (k : Int) (out : List UInt8) (A3_3 : Option Addr) (c3_3 : Nat) (g3_3 : List Nat), l = F [(3, .slice A3_3 out.length c3_3), (4, .int .i64 k)] ∧ os = U [some (rowO 5 1 (.slice A3_3 out.length c3_3) out.length (byt_ out) g3_3)] ∧ (M.DecI n k out) ∧ (-9223372036854775808 ≤ k) ∧ (k ≤ 9223372036854775807) ∧ (out.length ≤ c3_3) ∧ (c3_3 ≤ 9223372036854775807) ∧ m = k.natAbs) ⟨n, ([] : List UInt8), _, _, _, rfl, rfl, by exact M.DecI.zero n, zt, zt, zu, zu, rfl⟩ ?_
 rintro _ _ u3 _ ⟨k, out, A3_3, c3_3, g3_3, rfl, rfl, hD, hk0, hk1, f3_3, f3_4, rfl⟩ x3
 refine zn ?_
 obtain ⟨t1, t2, t3, t4⟩ := M.tdiv10_bd hk0 hk1
 have hol := hD.len r0 r1
 obtain ⟨t5, t6⟩ := M.tdiv10 k
 refine Js.seq <| zS <| Qm rfl <| Qd rfl rfl <| JL.nil ?_
 refine zi (fun h4 h4' => ?_) fun h4 h4' => ?_
 ·
  have hkn : k ≠ 0 := by simpa using h4
  refine Js.skip <| Js.seq <| Js.block <| zS <| Qm rfl <| Qq (p_rem rfl rfl (by omega) rfl) <| Qa rfl <| zJ <| zS <| Qm rfl <| Ql rfl rfl <| JL.nil ?_
  refine zi (fun h5 h5' => ?_) fun h5 h5' => ?_
  ·
   have hd9 := h5'
   have hD2 := hD.step (d := -k.tmod 10) hkn (by omega)
   have hu8 : ((M.u8 (48 + (-(k.tmod 10)))).toNat : Int) = 48 + (-(k.tmod 10)) := M.u8_val (by omega) (by omega)
   refine Js.region <| Qm rfl <| Qq (p_neg (r := -(k.tmod 10)) rfl (by rw [Int.zero_sub]; exact IntWalk.i64_in _ (by omega))) <| Qa rfl <| zG <| Qm rfl <| Qp rfl rfl <| Qq (p_conv @Tryz.underlying2 @Tryz.underlying5 rfl (IntWalk.u8_in _ (by omega))) <| zbs fun b6 => ?_
   refine Qm rfl ?_
   refine JL.e (e_append (i := 0) (n' := (([M.u8 (48 + (-(k.tmod 10)))] : List UInt8) ++ out).length) (vs' := byt_ (([M.u8 (48 + (-(k.tmod 10)))] : List UInt8) ++ out)) el_22 rfl rfl rfl rfl (src_rowG (i := 1) und_22 rfl (byt_one _)) (by omega) (by omega) ln2_ (by first | rfl | (simp [byt_, hu8]; done))) ?_
   rintro v9 _ _ ⟨⟨g10, rfl⟩, rfl⟩ _
   refine JL.fact (row_form' (i := 0) rfl) (fun hf11 => ?_)
   obtain ⟨A11, c11, rfl, bl11, bh11⟩ := hf11
   refine znl ?_
   refine Qa rfl <| JL.nil <| Js.blockEnd <| Js.region <| Qm rfl <| Qq (p_quo rfl rfl (by omega) (IntWalk.i64_in _ (by omega))) <| Qa rfl <| JL.nil ?_
   refine zd [0] rfl fun u12 x12 => ?_
   exact zag ⟨k.tdiv 10, ([M.u8 (48 + (-(k.tmod 10)))] : List UInt8) ++ out, _, _, _, rfl, rfl, by exact hD2, zt, zt, zu, zu, rfl⟩ (x3.trans x12)
  have hd9 := h5'
  have hD2 := hD.step (d := k.tmod 10) hkn (by omega)
  have hu15 : ((M.u8 (48 + (k.tmod 10))).toNat : Int) = 48 + (k.tmod 10) := M.u8_val (by omega) (by omega)
  refine Js.skip <| Js.region <| Qm rfl <| Qp rfl rfl <| Qq (p_conv @Tryz.underlying2 @Tryz.underlying5 rfl (IntWalk.u8_in _ (by omega))) <| zbs fun b13 => ?_
  refine Qm rfl ?_
  refine JL.e (e_append (i := 0) (n' := (([M.u8 (48 + (k.tmod 10))] : List UInt8) ++ out).length) (vs' := byt_ (([M.u8 (48 + (k.tmod 10))] : List UInt8) ++ out)) el_22 rfl rfl rfl rfl (src_rowG (i := 1) und_22 rfl (byt_one _)) (by omega) (by omega) ln2_ (by first | rfl | (simp [byt_, hu15]; done))) ?_
  rintro v16 _ _ ⟨⟨g17, rfl⟩, rfl⟩ _
  refine JL.fact (row_form' (i := 0) rfl) (fun hf18 => ?_)
  obtain ⟨A18, c18, rfl, bl18, bh18⟩ := hf18
  refine znl ?_
  refine Qa rfl <| JL.nil <| Js.blockEnd <| Js.region <| Qm rfl <| Qq (p_quo rfl rfl (by omega) (IntWalk.i64_in _ (by omega))) <| Qa rfl <| JL.nil ?_
  refine zd [0] rfl fun u19 x19 => ?_
  exact zag ⟨k.tdiv 10, ([M.u8 (48 + (k.tmod 10))] : List UInt8) ++ out, _, _, _, rfl, rfl, by exact hD2, zt, zt, zu, zu, rfl⟩ (x3.trans x19)
 have hk9 : k = 0 := by simpa using h4
 subst hk9
 refine zx ?_
 refine Js.seq <| zS <| Qm rfl <| Qz rfl <| Qe rfl rfl <| JL.nil ?_
 refine zi (fun h20 h20' => ?_) fun h20 h20' => ?_
 ·
  have hE := hD.done0 (by have := h20'; omega) r0 r1
  refine zS <| Qa rfl <| JL.nil ?_
  refine zR x3 ?_
  rw [hE]; rfl
 have hl9 : out.length ≠ 0 := by have := h20'; omega
 have lb9 : LenB out 20 := ⟨hol⟩
 refine Js.skip <| Js.seq <| zS <| Qm rfl <| Ql rfl rfl <| JL.nil ?_
 refine zi (fun h21 h21' => ?_) fun h21 h21' => ?_
 ·
  have hE := hD.neg hl9 (by simpa using h21) r0 r1
  refine zS <| Qm rfl <| Qw (q_toStr (i := 0) und_22 @Tryz.underlying5 und_9 rfl rfl) <| Qq (q_cat rfl rfl) <| Qa rfl <| JL.nil ?_
  refine zR x3 ?_
  rw [hE]; rfl
 have hE := hD.pos hl9 (by simpa using h21) r0 r1
 refine Js.skip <| zS <| Qm rfl <| Qw (q_toStr (i := 0) und_22 @Tryz.underlying5 und_9 rfl rfl) <| Qa rfl <| JL.nil ?_
 refine zR x3 ?_
 rw [hE]; rfl
theorem c_spec_l00Src_textL (s_code : Nat) (s_at s_seed : Int) {As_0 : Option Addr} {cs_0 : Nat} (list : List (List UInt8)) {v_list : Value} {bs : Nat} {w : World} (hb : Bw w [boxO bs [.slice As_0 s_code cs_0, .int .i64 s_at, .int .u64 s_seed] 126]) (hps_0 : (Ty.bytes 5 s_code).ok (offW w (([boxO bs [.slice As_0 s_code cs_0, .int .i64 s_at, .int .u64 s_seed] 126] : List Own).flatMap (·.fp))) (.slice As_0 s_code cs_0)) (h_list : (Ty.strs 9 list).ok (offW w (([boxO bs [.slice As_0 s_code cs_0, .int .i64 s_at, .int .u64 s_seed] 126] : List Own).flatMap (·.fp))) v_list) (r0 : 0 ≤ s_at := by exact om_) (r1 : s_at ≤ 999999998 := by exact om_) (r2 : s_code ≤ 1048576 := by exact om_) (r3 : 1 ≤ list.length := by exact om_) (r4 : list.length ≤ 1000 := by exact om_) (r5 : ∀ x ∈ list, x.length ≤ 8 := by exact om_) : RetB Tryz.prog 99 [.pointer (some ⟨bs, 0, none⟩), v_list] w [boxO bs [.slice As_0 s_code cs_0, .int .i64 s_at, .int .u64 s_seed] 126] (fun v bs' => ∃ (TX : List UInt8) (AT SD : Int), v = .string (sB TX) ∧ bs' = [boxO bs [.slice As_0 s_code cs_0, .int .i64 AT, .int .u64 SD] 126] ∧ (LenB TX 8) ∧ (s_at ≤ AT) ∧ (AT ≤ s_at + 2)) := by
 revert v_list; apply opn
 intro A1 c1 h1 bl1 bh1
 have h_list := h1
 refine enterB hb @Tryz.func99 @Tryz.ntmps99 rfl rfl ?_
 refine zent ?_
 refine Js.trashE ?_
 refine zn ?_
 refine zS <| Qa rfl <| zN <| Qm rfl <| Qm rfl <| Qm rfl <| Qz rfl <| zBB 1 sp_ rfl (fun w hb _ hw => c_spec_l00Src_pick s_code s_at s_seed (list.length : Int) hb (ok_ hw)) ?_
 rintro _ _ G2 ⟨X2KX, X2AT, X2SD, rfl, rfl, hX2_0, hX2_1, hX2_2, hX2_3⟩
 refine znl ?_
 obtain ⟨y3, hy3⟩ : ∃ x, list[X2KX.toNat]? = some x := ⟨_, List.getElem?_eq_getElem (by omega)⟩
 obtain ⟨b3, o3, he3, hc3⟩ := strs_elem h1 hy3
 refine Qq (p_indexAddr el_50 rfl rfl (by omega) (by omega) he3) <| QC hc3 rfl <| Qa rfl <| JL.nil ?_
 refine zrb [0] hb (Up.refl _ _) ?_
 refine ⟨(y3), (X2AT), (X2SD), rfl, ?_, by first | trivial | omega | exact ⟨r5 _ (List.mem_of_getElem? (by assumption))⟩, by first | trivial | omega | exact ⟨r5 _ (List.mem_of_getElem? (by assumption))⟩, by first | trivial | omega | exact ⟨r5 _ (List.mem_of_getElem? (by assumption))⟩⟩
 · rfl
theorem c_spec_l01Spoil (s_code : Nat) (s_at s_seed : Int) {As_0 : Option Addr} {cs_0 : Nat} (t : List UInt8) {bs : Nat} {w : World} (hb : Bw w [boxO bs [.slice As_0 s_code cs_0, .int .i64 s_at, .int .u64 s_seed] 126]) (hps_0 : (Ty.bytes 5 s_code).ok (offW w (([boxO bs [.slice As_0 s_code cs_0, .int .i64 s_at, .int .u64 s_seed] 126] : List Own).flatMap (·.fp))) (.slice As_0 s_code cs_0)) (r0 : 0 ≤ s_at := by exact om_) (r1 : s_at ≤ 999999992 := by exact om_) (r2 : s_code ≤ 1048576 := by exact om_) (r3 : t.length ≤ 900000 := by exact om_) : RetB Tryz.prog 51 [.pointer (some ⟨bs, 0, none⟩), .string (sB t)] w [boxO bs [.slice As_0 s_code cs_0, .int .i64 s_at, .int .u64 s_seed] 126] (fun v bs' => ∃ (TX : List UInt8) (AT SD : Int), v = .string (sB TX) ∧ bs' = [boxO bs [.slice As_0 s_code cs_0, .int .i64 AT, .int .u64 SD] 126] ∧ (TX.length ≤ t.length + 8) ∧ (s_at ≤ AT) ∧ (AT ≤ s_at + 8)) := by
 have lbt : LenB t 900000 := ⟨by omega⟩
 refine enterB hb @Tryz.func51 @Tryz.ntmps51 rfl rfl ?_
 refine zent ?_
 refine Js.trashE ?_
 refine zn ?_
 refine zS <| Qa rfl <| zJ <| zS <| Qm rfl <| zBB 1 sp_ rfl (fun w hb _ hw => c_spec_l00Src_pick s_code s_at s_seed 5 hb (ok_ hw)) ?_
 rintro _ _ G1 ⟨X1KX, X1AT, X1SD, rfl, rfl, hX1_0, hX1_1, hX1_2, hX1_3⟩
 refine znl ?_
 refine JL.nil ?_
 refine zf [0] fun GG2 => ?_
 refine zn ?_
 refine Js.block <| zS <| Qe rfl rfl <| Qa rfl <| JL.nil ?_
 refine zi (fun h3 h3' => ?_) fun h3 h3' => ?_
 ·
  refine zS <| Qm rfl <| Qm rfl <| Qq (p_lenS und_9 rfl) <| Qp rfl rfl <| zBB 1 sp_ rfl (fun w hb _ hw => c_spec_l00Src_pick s_code X1AT X1SD ((t.length : Int) + 1) hb (ok_ hw)) ?_
  rintro _ _ G4 ⟨X4KX, X4AT, X4SD, rfl, rfl, hX4_0, hX4_1, hX4_2, hX4_3⟩
  refine znl ?_
  refine Qa rfl <| JL.nil ?_
  refine zf [0] fun GG5 => ?_
  refine zn ?_
  refine zdr [5] ?_
  refine jM 0 rfl rfl ?_
  refine jM 1 rfl rfl ?_
  refine JH.p 2 rfl (p_takeS (i := X4KX.toNat) und_9 rfl (by rw [Int.toNat_of_nonneg (by omega)]; exact rfl) (by omega)) ?_
  refine jM 3 rfl rfl ?_
  refine jM 7 rfl rfl ?_
  refine jM 8 rfl rfl ?_
  refine JH.p 9 rfl (p_dropS (i := X4KX.toNat) und_9 rfl (by rw [Int.toNat_of_nonneg (by omega)]; exact rfl) (by omega)) ?_
  refine y1 4 ?_
  refine ybs rfl fun b6 => ?_
  refine y1 5 ?_
  refine zhh [1] ?_
  refine yBB 1 sp_ rfl rfl (fun w hb _ hw => c_spec_l00Src_textL s_code X4AT X4SD ([([32] : List UInt8), ([48] : List UInt8), ([45] : List UInt8), ([120] : List UInt8), ([49] : List UInt8), ([57] : List UInt8), ([46] : List UInt8)]) hb (ok_ hw) (strs_rowok (xs := ([([32] : List UInt8), ([48] : List UInt8), ([45] : List UInt8), ([120] : List UInt8), ([49] : List UInt8), ([57] : List UInt8), ([46] : List UInt8)])) (hw.pr (i := 0) rfl)) (r3 := (by decide)) (r4 := (by decide)) (r5 := (by decide))) ?_
  rintro _ _ G8 ⟨X8TX, X8AT, X8SD, rfl, rfl, hX8_0, hX8_1, hX8_2⟩
  refine znh ?_
  refine JH.p 6 rfl (q_cat rfl rfl) ?_
  refine JH.p 10 rfl (q_cat rfl rfl) ?_
  refine jA 11 rfl rfl ?_
  refine yd ?_
  refine zf [0] fun GG9 => ?_
  refine zn ?_
  refine Js.blockEnd <| zS <| Qm rfl <| Qa rfl <| JL.nil ?_
  refine zrb [0] hb (Up.refl _ _) ?_
  refine ⟨(((t.take X4KX.toNat) ++ X8TX) ++ (t.drop X4KX.toNat)), (X8AT), (X8SD), rfl, ?_, by first | trivial | assumption | omega | (simp only [List.length_append, List.length_take, List.length_drop, List.length_cons, List.length_nil]; omega) | (simp only [List.length_append, List.length_take, List.length_drop]; have h9 := (by assumption : LenB _ 8).h; omega), by first | trivial | assumption | omega | (simp only [List.length_append, List.length_take, List.length_drop, List.length_cons, List.length_nil]; omega) | (simp only [List.length_append, List.length_take, List.length_drop]; have h9 := (by assumption : LenB _ 8).h; omega), by first | trivial | assumption | omega | (simp only [List.length_append, List.length_take, List.length_drop, List.length_cons, List.length_nil]; omega) | (simp only [List.length_append, List.length_take, List.length_drop]; have h9 := (by assumption : LenB _ 8).h; omega)⟩
  · rfl
 refine zS <| Qe rfl rfl <| Qa rfl <| JL.nil ?_
 refine zi (fun h10 h10' => ?_) fun h10 h10' => ?_
 ·
  refine zS <| Qm rfl <| Qq (p_neqT und_9 rfl rfl) <| JL.nil ?_
  refine zi (fun h11 h11' => ?_) fun h11 h11' => ?_
  ·
   have ht0 : 0 < t.length := List.length_pos_iff.2 (by simpa using h11)
   refine zS <| Qm rfl <| Qm rfl <| Qq (p_lenS und_9 rfl) <| zBB 1 sp_ rfl (fun w hb _ hw => c_spec_l00Src_pick s_code X1AT X1SD (t.length : Int) hb (ok_ hw)) ?_
   rintro _ _ G12 ⟨X12KX, X12AT, X12SD, rfl, rfl, hX12_0, hX12_1, hX12_2, hX12_3⟩
   refine znl ?_
   refine Qa rfl <| JL.nil ?_
   refine zf [0] fun GG13 => ?_
   refine zn ?_
   refine zdr [] ?_
   refine jM 0 rfl rfl ?_
   refine jM 1 rfl rfl ?_
   refine JH.p 2 rfl (p_takeS (i := X12KX.toNat) und_9 rfl (by rw [Int.toNat_of_nonneg (by omega)]; exact rfl) (by omega)) ?_
   refine jM 3 rfl rfl ?_
   refine jM 4 rfl rfl ?_
   refine JH.p 5 rfl (p_add rfl rfl (IntWalk.i64_in _ (by omega))) ?_
   refine JH.p 6 rfl (p_dropS (i := (X12KX + 1).toNat) und_9 rfl (by rw [Int.toNat_of_nonneg (by omega)]; exact rfl) (by omega)) ?_
   refine JH.p 7 rfl (q_cat rfl rfl) ?_
   refine jA 8 rfl rfl ?_
   refine yd ?_
   refine Js.blockEnd <| zS <| Qm rfl <| Qa rfl <| JL.nil ?_
   refine zrb [0] hb (Up.refl _ _) ?_
   refine ⟨((t.take X12KX.toNat) ++ (t.drop ((X12KX + 1).toNat))), (X12AT), (X12SD), rfl, ?_, by first | trivial | assumption | omega | (simp only [List.length_append, List.length_take, List.length_drop, List.length_cons, List.length_nil]; omega) | (simp only [List.length_append, List.length_take, List.length_drop]; have h9 := (by assumption : LenB _ 8).h; omega), by first | trivial | assumption | omega | (simp only [List.length_append, List.length_take, List.length_drop, List.length_cons, List.length_nil]; omega) | (simp only [List.length_append, List.length_take, List.length_drop]; have h9 := (by assumption : LenB _ 8).h; omega), by first | trivial | assumption | omega | (simp only [List.length_append, List.length_take, List.length_drop, List.length_cons, List.length_nil]; omega) | (simp only [List.length_append, List.length_take, List.length_drop]; have h9 := (by assumption : LenB _ 8).h; omega)⟩
   · rfl
  refine Js.skip <| Js.blockEnd <| zS <| Qm rfl <| Qa rfl <| JL.nil ?_
  refine zrb [0] hb (Up.refl _ _) ?_
  refine ⟨(t), (X1AT), (X1SD), rfl, ?_, by first | trivial | assumption | omega | (simp only [List.length_append, List.length_take, List.length_drop, List.length_cons, List.length_nil]; omega) | (simp only [List.length_append, List.length_take, List.length_drop]; have h9 := (by assumption : LenB _ 8).h; omega), by first | trivial | assumption | omega | (simp only [List.length_append, List.length_take, List.length_drop, List.length_cons, List.length_nil]; omega) | (simp only [List.length_append, List.length_take, List.length_drop]; have h9 := (by assumption : LenB _ 8).h; omega), by first | trivial | assumption | omega | (simp only [List.length_append, List.length_take, List.length_drop, List.length_cons, List.length_nil]; omega) | (simp only [List.length_append, List.length_take, List.length_drop]; have h9 := (by assumption : LenB _ 8).h; omega)⟩
  · rfl
 refine Js.skip <| Js.blockEnd <| zS <| Qm rfl <| Qa rfl <| JL.nil ?_
 refine zrb [0] hb (Up.refl _ _) ?_
 refine ⟨(t), (X1AT), (X1SD), rfl, ?_, by first | trivial | assumption | omega | (simp only [List.length_append, List.length_take, List.length_drop, List.length_cons, List.length_nil]; omega) | (simp only [List.length_append, List.length_take, List.length_drop]; have h9 := (by assumption : LenB _ 8).h; omega), by first | trivial | assumption | omega | (simp only [List.length_append, List.length_take, List.length_drop, List.length_cons, List.length_nil]; omega) | (simp only [List.length_append, List.length_take, List.length_drop]; have h9 := (by assumption : LenB _ 8).h; omega), by first | trivial | assumption | omega | (simp only [List.length_append, List.length_take, List.length_drop, List.length_cons, List.length_nil]; omega) | (simp only [List.length_append, List.length_take, List.length_drop]; have h9 := (by assumption : LenB _ 8).h; omega)⟩
 · rfl
theorem c_spec_l09Draw (s_code : Nat) (s_at s_seed : Int) {As_0 : Option Addr} {cs_0 bs : Nat} {w : World} (hb : Bw w [boxO bs [.slice As_0 s_code cs_0, .int .i64 s_at, .int .u64 s_seed] 126]) (hps_0 : (Ty.bytes 5 s_code).ok (offW w (([boxO bs [.slice As_0 s_code cs_0, .int .i64 s_at, .int .u64 s_seed] 126] : List Own).flatMap (·.fp))) (.slice As_0 s_code cs_0)) (r0 : 0 ≤ s_at := by exact om_) (r1 : s_at ≤ 999996900 := by exact om_) (r2 : s_code ≤ 1048576 := by exact om_) : RetB Tryz.prog 75 [.pointer (some ⟨bs, 0, none⟩)] w [boxO bs [.slice As_0 s_code cs_0, .int .i64 s_at, .int .u64 s_seed] 126] (fun v bs' => ∃ (GX : M.Gam) (AT SD : Int) (Axr_9 : Option Addr) (cxr_9 : Nat) (gxr_9 : List Nat) (Axr_10 : Option Addr) (cxr_10 : Nat) (gxr_10 : List Nat) (Axr_12 : Option Addr) (cxr_12 : Nat) (gxr_12 : List Nat) (Axr_13 : Option Addr) (cxr_13 : Nat) (gxr_13 : List Nat) (Axr_14 : Option Addr) (cxr_14 : Nat) (gxr_14 : List Nat), v = .agg #[.int .i64 GX.rules.pits, .int .i64 GX.rules.seeds, .bool GX.rules.stores, .bool GX.rules.skip, .bool GX.rules.relay, .bool GX.rules.feed, .bool GX.rules.again, .int .i64 GX.rules.capture, .int .i64 GX.rules.slam, .slice Axr_9 GX.start.pits.length cxr_9, .slice Axr_10 GX.start.stores.length cxr_10, .int .i64 GX.start.player, .slice Axr_12 GX.moves.length cxr_12, .slice Axr_13 GX.now.pits.length cxr_13, .slice Axr_14 GX.now.stores.length cxr_14, .int .i64 GX.now.player, .int .i64 GX.resigned] ∧ bs' = [boxO bs [.slice As_0 s_code cs_0, .int .i64 AT, .int .u64 SD] 126, rowO 2 1 (.slice Axr_9 GX.start.pits.length cxr_9) GX.start.pits.length (ints_ GX.start.pits) gxr_9, rowO 2 1 (.slice Axr_10 GX.start.stores.length cxr_10) GX.start.stores.length (ints_ GX.start.stores) gxr_10, rowO 2 1 (.slice Axr_12 GX.moves.length cxr_12) GX.moves.length (ints_ GX.moves) gxr_12, rowO 2 1 (.slice Axr_13 GX.now.pits.length cxr_13) GX.now.pits.length (ints_ GX.now.pits) gxr_13, rowO 2 1 (.slice Axr_14 GX.now.stores.length cxr_14) GX.now.stores.length (ints_ GX.now.stores) gxr_14] ∧ GX.start.pits.length ≤ cxr_9 ∧ cxr_9 ≤ 9223372036854775807 ∧ GX.start.stores.length ≤ cxr_10 ∧ cxr_10 ≤ 9223372036854775807 ∧ GX.moves.length ≤ cxr_12 ∧ cxr_12 ≤ 9223372036854775807 ∧ GX.now.pits.length ≤ cxr_13 ∧ cxr_13 ≤ 9223372036854775807 ∧ GX.now.stores.length ≤ cxr_14 ∧ cxr_14 ≤ 9223372036854775807 ∧ (GX.start.pits.length ≤ 4194304 ∧ GX.start.stores.length ≤ 4194304 ∧ GX.moves.length ≤ 4194304 ∧ GX.now.pits.length ≤ 4194304 ∧ GX.now.stores.length ≤ 4194304) ∧ (s_at ≤ AT) ∧ (AT ≤ s_at + 3100)) := by
 refine enterB hb @Tryz.func75 @Tryz.ntmps75 rfl rfl ?_
 refine zent ?_
 refine Js.trashE ?_
 refine zn ?_
 refine zS <| za zeh fun b1 => zJ <| zS <| Qm rfl ?_
 refine zhl [1] ?_
 refine zBB 1 sp_ rfl (fun w hb _ hw => c_spec_l00Src_one s_code s_at s_seed 3 hb (ok_ hw)) ?_
 rintro _ _ G2 ⟨X2BX, X2AT, X2SD, rfl, rfl, hX2_0, hX2_1⟩
 refine znl ?_
 refine JL.nil ?_
 refine zf [0, 1] fun GG3 => ?_
 refine zn ?_
 refine zi (fun h4 h4' => ?_) fun h4 h4' => ?_
 ·
  refine zS <| Qm rfl <| zBB 1 sp_ rfl (fun w hb _ hw => c_spec_l08Bent s_code X2AT X2SD hb (ok_ hw)) ?_
  rintro _ _ G5 ⟨X5GX, X5AT, X5SD, A5r_9, c5r_9, g5r_9, A5r_10, c5r_10, g5r_10, A5r_12, c5r_12, g5r_12, A5r_13, c5r_13, g5r_13, A5r_14, c5r_14, g5r_14, rfl, rfl, bl5_0, bl5_1, bl5_2, bl5_3, bl5_4, bl5_5, bl5_6, bl5_7, bl5_8, bl5_9, hX5_0, hX5_1, hX5_2⟩
  refine znl ?_
  refine zw 7 rfl rfl rfl ?_
  refine JL.nil ?_
  refine zf [0, 0, 0, 0, 0, 0, 1] fun GG6 => ?_
  refine zn ?_
  refine zrb [0, 0, 0, 0, 0, 0] hb (Up.refl _ _) ?_
  refine ⟨(X5GX), (X5AT), (X5SD), A5r_9, c5r_9, g5r_9, A5r_10, c5r_10, g5r_10, A5r_12, c5r_12, g5r_12, A5r_13, c5r_13, g5r_13, A5r_14, c5r_14, g5r_14, rfl, ?_, ?_, ?_, ?_, ?_, ?_, ?_, ?_, ?_, ?_, ?_, by first | trivial | omega | exact ⟨hs.sp, hs.ss, by have := hs.m; omega, hs.np, hs.ns⟩ | (refine ⟨?_, ?_, ?_, ?_, ?_⟩ <;> omega), by first | trivial | omega | exact ⟨hs.sp, hs.ss, by have := hs.m; omega, hs.np, hs.ns⟩ | (refine ⟨?_, ?_, ?_, ?_, ?_⟩ <;> omega), by first | trivial | omega | exact ⟨hs.sp, hs.ss, by have := hs.m; omega, hs.np, hs.ns⟩ | (refine ⟨?_, ?_, ?_, ?_, ?_⟩ <;> omega)⟩
  · rfl
  all_goals (try dsimp only)
  all_goals (first | (omega) | omega | (simp only [*]; omega) | (simp; done))
 refine Js.skip <| zS <| Qm rfl <| zBB 1 sp_ rfl (fun w hb _ hw => c_spec_l08Draw s_code X2AT X2SD 6 hb (ok_ hw)) ?_
 rintro _ _ G7 ⟨X7GX, X7AT, X7SD, A7r_9, c7r_9, g7r_9, A7r_10, c7r_10, g7r_10, A7r_12, c7r_12, g7r_12, A7r_13, c7r_13, g7r_13, A7r_14, c7r_14, g7r_14, rfl, rfl, bl7_0, bl7_1, bl7_2, bl7_3, bl7_4, bl7_5, bl7_6, bl7_7, bl7_8, bl7_9, hX7_0, hX7_1, hX7_2⟩
 refine znl ?_
 refine za zeh fun b8 => zw 0 rfl rfl rfl ?_
 refine JL.nil ?_
 refine zf [0, 0, 0, 0, 0, 0, 0, 1] fun GG9 => ?_
 refine zn ?_
 refine Js.seq <| zS <| Qm rfl ?_
 refine zhl [1] ?_
 refine zBB 1 sp_ rfl (fun w hb _ hw => c_spec_l00Src_one s_code X7AT X7SD 3 hb (ok_ hw)) ?_
 rintro _ _ G10 ⟨X10BX, X10AT, X10SD, rfl, rfl, hX10_0, hX10_1⟩
 refine znl ?_
 refine JL.nil ?_
 refine zf [0, 1, 1, 1, 1, 1, 1, 1] fun GG11 => ?_
 refine zn ?_
 refine zk [0, 2, 3] (fun F U l os u => ∃ (gk : M.Gam) (at1 sd1 : Int) (A12_3_9 : Option Addr) (c12_3_9 : Nat) (g12_3_9 : List Nat) (A12_3_10 : Option Addr) (c12_3_10 : Nat) (g12_3_10 : List Nat) (A12_3_12 : Option Addr) (c12_3_12 : Nat) (g12_3_12 : List Nat) (A12_3_13 : Option Addr) (c12_3_13 : Nat) (g12_3_13 : List Nat) (A12_3_14 : Option Addr) (c12_3_14 : Nat) (g12_3_14 : List Nat) (G12_8 : List Nat), l = F [] ∧ os = U [some (boxO bs [.slice As_0 s_code cs_0, .int .i64 at1, .int .u64 sd1] 126), some (boxO b8 [.int .i64 gk.rules.pits, .int .i64 gk.rules.seeds, .bool gk.rules.stores, .bool gk.rules.skip, .bool gk.rules.relay, .bool gk.rules.feed, .bool gk.rules.again, .int .i64 gk.rules.capture, .int .i64 gk.rules.slam, .slice A12_3_9 gk.start.pits.length c12_3_9, .slice A12_3_10 gk.start.stores.length c12_3_10, .int .i64 gk.start.player, .slice A12_3_12 gk.moves.length c12_3_12, .slice A12_3_13 gk.now.pits.length c12_3_13, .slice A12_3_14 gk.now.stores.length c12_3_14, .int .i64 gk.now.player, .int .i64 gk.resigned] 48), some (rowO 2 1 (.slice A12_3_9 gk.start.pits.length c12_3_9) gk.start.pits.length (ints_ gk.start.pits) g12_3_9), some (rowO 2 1 (.slice A12_3_10 gk.start.stores.length c12_3_10) gk.start.stores.length (ints_ gk.start.stores) g12_3_10), some (rowO 2 1 (.slice A12_3_12 gk.moves.length c12_3_12) gk.moves.length (ints_ gk.moves) g12_3_12), some (rowO 2 1 (.slice A12_3_13 gk.now.pits.length c12_3_13) gk.now.pits.length (ints_ gk.now.pits) g12_3_13), some (rowO 2 1 (.slice A12_3_14 gk.now.stores.length c12_3_14) gk.now.stores.length (ints_ gk.now.stores) g12_3_14), nO, some (anyO G12_8)] ∧ (M.Small gk) ∧ (s_at ≤ at1) ∧ (at1 ≤ s_at + 1010) ∧ (gk.start.pits.length ≤ c12_3_9) ∧ (c12_3_9 ≤ 9223372036854775807) ∧ (gk.start.stores.length ≤ c12_3_10) ∧ (c12_3_10 ≤ 9223372036854775807) ∧ (gk.moves.length ≤ c12_3_12) ∧ (c12_3_12 ≤ 9223372036854775807) ∧ (gk.now.pits.length ≤ c12_3_13) ∧ (c12_3_13 ≤ 9223372036854775807) ∧ (gk.now.stores.length ≤ c12_3_14) ∧ (c12_3_14 ≤ 9223372036854775807)) ?_ ?_
 ·
  refine zi (fun h13 h13' => ?_) fun h13 h13' => ?_
  ·
   refine zS <| Qm rfl <| zBB 1 sp_ rfl (fun w hb _ hw => c_spec_l00Src_pick s_code X10AT X10SD 2 hb (ok_ hw)) ?_
   rintro _ _ G14 ⟨X14KX, X14AT, X14SD, rfl, rfl, hX14_0, hX14_1, hX14_2, hX14_3⟩
   refine znl ?_
   refine Qp rfl rfl <| Qm rfl <| zBB 1 sp_ rfl (fun w hb _ hw => c_spec_l00Src_one s_code X14AT X14SD 2 hb (ok_ hw)) ?_
   rintro _ _ G15 ⟨X15BX, X15AT, X15SD, rfl, rfl, hX15_0, hX15_1⟩
   refine znl ?_
   refine Qb ?_
   refine za zeh fun b16 => zw 0 rfl rfl rfl ?_
   refine JL.nil ?_
   refine zf [0, 0, 2, 2, 2, 2, 2, 2, 2] fun GG17 => ?_
   refine zn ?_
   have hl0 : (M.startP (M.Rul.mk (2 + X14KX) 1 false false false X15BX false 3 0)).pits.length = (2 * ((M.Rul.mk (2 + X14KX) 1 false false false X15BX false 3 0)).pits).toNat := by simp [M.startP]
   have hl1 : (M.startP (M.Rul.mk (2 + X14KX) 1 false false false X15BX false 3 0)).stores.length = 2 := rfl
   dsimp only at hl0
   refine zS <| zc rfl (fun w hw => c_spec_l04Start (M.Rul.mk (2 + X14KX) 1 false false false X15BX false 3 0) (ok_ hw)) ?_
   intro A19 c19 bl19 bh19 A20 c20 bl20 bh20
   refine za zeh fun b21 => zw 0 rfl rfl rfl ?_
   refine zG <| zc rfl (fun w hw => c_spec_l08New (M.Rul.mk (2 + X14KX) 1 false false false X15BX false 3 0) (M.startP (M.Rul.mk (2 + X14KX) 1 false false false X15BX false 3 0)) (ok_ hw) (ok_ hw)) ?_
   intro A23 c23 bl23 bh23 A24 c24 bl24 bh24 A25 c25 bl25 bh25 A26 c26 bl26 bh26 A27 c27 bl27 bh27
   refine zw 10 rfl rfl rfl ?_
   refine JL.nil ?_
   refine zf [0, 0, 0, 0, 0, 4, 4, 4, 4, 4, 4, 4, 4] fun GG28 => ?_
   refine zn ?_
   refine zf [5, 5, 4, 3, 2, 1, 0, 5] fun GG29 => ?_
   refine zn ?_
   exact zm ⟨((M.Gam.mk (M.Rul.mk (2 + X14KX) 1 false false false X15BX false 3 0) (M.startP (M.Rul.mk (2 + X14KX) 1 false false false X15BX false 3 0)) [] (M.startP (M.Rul.mk (2 + X14KX) 1 false false false X15BX false 3 0)) (-1))), (X15AT), (X15SD), _, _, _, _, _, _, _, _, _, _, _, _, _, _, _, _, rfl, rfl, by first | exact And.left (b := _ ∧ _) (by assumption) | exact ⟨by dsimp only; omega, by dsimp only; omega, by simp, by dsimp only; omega, by dsimp only; omega⟩, by first | assumption | omega | rfl | (dsimp only; omega) | (simp; done), by first | assumption | omega | rfl | (dsimp only; omega) | (simp; done), by first | assumption | omega | rfl | (dsimp only; omega) | (simp; done), by first | assumption | omega | rfl | (dsimp only; omega) | (simp; done), by first | assumption | omega | rfl | (dsimp only; omega) | (simp; done), by first | assumption | omega | rfl | (dsimp only; omega) | (simp; done), by first | assumption | omega | rfl | (dsimp only; omega) | (simp; done), by first | assumption | omega | rfl | (dsimp only; omega) | (simp; done), by first | assumption | omega | rfl | (dsimp only; omega) | (simp; done), by first | assumption | omega | rfl | (dsimp only; omega) | (simp; done), by first | assumption | omega | rfl | (dsimp only; omega) | (simp; done), by first | assumption | omega | rfl | (dsimp only; omega) | (simp; done)⟩ (Up.refl _ _)
  refine Js.skip ?_
  exact zm ⟨(X7GX), (X10AT), (X10SD), _, _, _, _, _, _, _, _, _, _, _, _, _, _, _, _, rfl, rfl, by first | exact And.left (b := _ ∧ _) (by assumption) | exact ⟨by dsimp only; omega, by dsimp only; omega, by simp, by dsimp only; omega, by dsimp only; omega⟩, by first | assumption | omega | rfl | (dsimp only; omega) | (simp; done), by first | assumption | omega | rfl | (dsimp only; omega) | (simp; done), by first | assumption | omega | rfl | (dsimp only; omega) | (simp; done), by first | assumption | omega | rfl | (dsimp only; omega) | (simp; done), by first | assumption | omega | rfl | (dsimp only; omega) | (simp; done), by first | assumption | omega | rfl | (dsimp only; omega) | (simp; done), by first | assumption | omega | rfl | (dsimp only; omega) | (simp; done), by first | assumption | omega | rfl | (dsimp only; omega) | (simp; done), by first | assumption | omega | rfl | (dsimp only; omega) | (simp; done), by first | assumption | omega | rfl | (dsimp only; omega) | (simp; done), by first | assumption | omega | rfl | (dsimp only; omega) | (simp; done), by first | assumption | omega | rfl | (dsimp only; omega) | (simp; done)⟩ (Up.refl _ _)
 rintro _ _ u12 ⟨gk, at1, sd1, A12_3_9, c12_3_9, g12_3_9, A12_3_10, c12_3_10, g12_3_10, A12_3_12, c12_3_12, g12_3_12, A12_3_13, c12_3_13, g12_3_13, A12_3_14, c12_3_14, g12_3_14, G12_8, rfl, rfl, hs1, ha0, ha1, f12_3, f12_4, f12_5, f12_6, f12_7, f12_8, f12_9, f12_10, f12_11, f12_12⟩ x12
 refine zn ?_
 refine Js.seq <| zS <| Qa rfl <| JL.nil <| Js.block ?_
 refine zl [0, 2, 3] (fun F U l os u m => ∃ (k : Nat) (at2 sd2 : Int) (g2 : M.Gam) (A30_3_9 : Option Addr) (c30_3_9 : Nat) (g30_3_9 : List Nat) (A30_3_10 : Option Addr) (c30_3_10 : Nat) (g30_3_10 : List Nat) (A30_3_12 : Option Addr) (c30_3_12 : Nat) (g30_3_12 : List Nat) (A30_3_13 : Option Addr) (c30_3_13 : Nat) (g30_3_13 : List Nat) (A30_3_14 : Option Addr) (c30_3_14 : Nat) (g30_3_14 : List Nat) (G30_8 : List Nat), l = F [(6, .int .i64 (k : Int))] ∧ os = U [some (boxO bs [.slice As_0 s_code cs_0, .int .i64 at2, .int .u64 sd2] 126), some (boxO b8 [.int .i64 g2.rules.pits, .int .i64 g2.rules.seeds, .bool g2.rules.stores, .bool g2.rules.skip, .bool g2.rules.relay, .bool g2.rules.feed, .bool g2.rules.again, .int .i64 g2.rules.capture, .int .i64 g2.rules.slam, .slice A30_3_9 g2.start.pits.length c30_3_9, .slice A30_3_10 g2.start.stores.length c30_3_10, .int .i64 g2.start.player, .slice A30_3_12 g2.moves.length c30_3_12, .slice A30_3_13 g2.now.pits.length c30_3_13, .slice A30_3_14 g2.now.stores.length c30_3_14, .int .i64 g2.now.player, .int .i64 g2.resigned] 48), some (rowO 2 1 (.slice A30_3_9 g2.start.pits.length c30_3_9) g2.start.pits.length (ints_ g2.start.pits) g30_3_9), some (rowO 2 1 (.slice A30_3_10 g2.start.stores.length c30_3_10) g2.start.stores.length (ints_ g2.start.stores) g30_3_10), some (rowO 2 1 (.slice A30_3_12 g2.moves.length c30_3_12) g2.moves.length (ints_ g2.moves) g30_3_12), some (rowO 2 1 (.slice A30_3_13 g2.now.pits.length c30_3_13) g2.now.pits.length (ints_ g2.now.pits) g30_3_13), some (rowO 2 1 (.slice A30_3_14 g2.now.stores.length c30_3_14) g2.now.stores.length (ints_ g2.now.stores) g30_3_14), nO, some (anyO G30_8)] ∧ (k ≤ 30) ∧ (s_at ≤ at2) ∧ (at2 ≤ s_at + 1010 + 2 * (k : Int)) ∧ (M.Small g2) ∧ (g2.start.pits.length ≤ c30_3_9) ∧ (c30_3_9 ≤ 9223372036854775807) ∧ (g2.start.stores.length ≤ c30_3_10) ∧ (c30_3_10 ≤ 9223372036854775807) ∧ (g2.moves.length ≤ c30_3_12) ∧ (c30_3_12 ≤ 9223372036854775807) ∧ (g2.now.pits.length ≤ c30_3_13) ∧ (c30_3_13 ≤ 9223372036854775807) ∧ (g2.now.stores.length ≤ c30_3_14) ∧ (c30_3_14 ≤ 9223372036854775807) ∧ m = 30 - k) ⟨0, at1, sd1, gk, _, _, _, _, _, _, _, _, _, _, _, _, _, _, _, _, rfl, rfl, zt, zt, zt, by exact hs1, zu, zu, zu, zu, zu, zu, zu, zu, zu, zu, rfl⟩ ?_
 rintro _ _ u30 _ ⟨k, at2, sd2, g2, A30_3_9, c30_3_9, g30_3_9, A30_3_10, c30_3_10, g30_3_10, A30_3_12, c30_3_12, g30_3_12, A30_3_13, c30_3_13, g30_3_13, A30_3_14, c30_3_14, g30_3_14, G30_8, rfl, rfl, hk, hb0, hb1, hs, f30_4, f30_5, f30_6, f30_7, f30_8, f30_9, f30_10, f30_11, f30_12, f30_13, rfl⟩ x30
 refine zn ?_
 have s1 := hs.sp
 have s2 := hs.ss
 have s3 := hs.m
 have s4 := hs.np
 have s5 := hs.ns
 refine Js.seq <| zS <| Qm rfl <| Ql rfl rfl <| Qm rfl <| zg (Gd.t1 rfl rfl rfl) (fun hc => p_fieldAddr fld_48_4.h rfl) <| zgq (Gd.t1 rfl rfl rfl) (fun hc => q_load1 ty_2.h (gh hc rfl) (Mem.box (i := 1) rfl rfl)) <| zg (Gd.t1 rfl rfl rfl) (fun hc => p_lss (gh hc rfl) rfl) <| Qq (p_pickAnd rfl rfl rfl) <| JL.nil ?_
 refine zi (fun h31 h31' => ?_) fun h31 h31' => ?_
 ·
  refine Js.skip <| Js.seq <| Js.block <| zS <| Qm rfl <| zBB 1 sp_ rfl (fun w hb _ hw => c_spec_l08Legal s_code at2 sd2 g2 hb (ok_ hw) (ok_ hw)) ?_
  rintro _ _ G32 ⟨X32KX, X32AT, X32SD, rfl, rfl, hX32_0, hX32_1⟩
  refine znl ?_
  refine Qa rfl <| JL.nil ?_
  refine zf [0, 1, 1, 1, 1, 1, 1, 1] fun GG33 => ?_
  refine zn ?_
  refine Js.seq <| zS <| Qm rfl <| Ql rfl rfl <| JL.nil ?_
  refine zi (fun h34 h34' => ?_) fun h34 h34' => ?_
  ·
   refine zx ?_
   refine zS <| Q9 1 rfl rfl ?_
   refine zw 7 rfl rfl rfl ?_
   refine JL.nil ?_
   refine zf [0, 1, 1, 1, 1, 1, 1] fun GG35 => ?_
   refine zn ?_
   refine zrb [0, 0, 0, 0, 0, 0] hb (x12.trans x30) ?_
   refine ⟨(g2), (X32AT), (X32SD), A30_3_9, c30_3_9, g30_3_9, A30_3_10, c30_3_10, g30_3_10, A30_3_12, c30_3_12, g30_3_12, A30_3_13, c30_3_13, g30_3_13, A30_3_14, c30_3_14, g30_3_14, rfl, ?_, ?_, ?_, ?_, ?_, ?_, ?_, ?_, ?_, ?_, ?_, by first | trivial | omega | exact ⟨hs.sp, hs.ss, by have := hs.m; omega, hs.np, hs.ns⟩ | (refine ⟨?_, ?_, ?_, ?_, ?_⟩ <;> omega), by first | trivial | omega | exact ⟨hs.sp, hs.ss, by have := hs.m; omega, hs.np, hs.ns⟩ | (refine ⟨?_, ?_, ?_, ?_, ?_⟩ <;> omega), by first | trivial | omega | exact ⟨hs.sp, hs.ss, by have := hs.m; omega, hs.np, hs.ns⟩ | (refine ⟨?_, ?_, ?_, ?_, ?_⟩ <;> omega)⟩
   · rfl
   all_goals (try dsimp only)
   all_goals (first | (omega) | omega | (simp only [*]; omega) | (simp; done))
  refine Js.skip <| zS <| Qm rfl <| zc rfl (fun w hw => c_spec_l08Play g2 X32KX (ok_ hw)) ?_
  intro A38 c38 bl38 bh38 A39 c39 bl39 bh39 A40 c40 bl40 bh40 A41 c41 bl41 bh41 A42 c42 bl42 bh42
  refine Qm rfl <| Qx rfl rfl <| Qx rfl rfl <| za zeh fun b43 => zw 0 rfl rfl rfl ?_
  refine Qa rfl <| zN <| Qm rfl <| Qe rfl rfl <| JL.nil ?_
  refine zi (fun h44 h44' => ?_) fun h44 h44' => ?_
  ·
   have hz : (M.play g2 X32KX).2 = 0 := by simpa using h44
   refine Js.region <| Q9 0 rfl rfl ?_
   refine zw 7 rfl rfl rfl ?_
   refine JL.nil ?_
   refine zf [1, 1, 1, 1, 1, 1, 1, 6] fun GG45 => ?_
   refine zn ?_
   refine Js.blockEnd <| Js.region <| Qm rfl <| Qp rfl rfl <| Qa rfl <| JL.nil ?_
   refine zf [5, 5, 4, 3, 2, 1, 0, 0] fun GG46 => ?_
   refine zn ?_
   exact zag ⟨k + 1, X32AT, X32SD, ((M.play g2 X32KX).1), _, _, _, _, _, _, _, _, _, _, _, _, _, _, _, _, rfl, rfl, zt, zt, zt, by first | exact hs | exact hs.play hz, zu, zu, zu, zu, zu, zu, zu, zu, zu, zu, rfl⟩ x30
  refine Js.skip <| Js.blockEnd <| Js.region <| Qm rfl <| Qp rfl rfl <| Qa rfl <| JL.nil ?_
  refine zf [6, 6, 6, 6, 6, 6, 6, 6] fun GG47 => ?_
  refine zn ?_
  exact zag ⟨k + 1, X32AT, X32SD, g2, _, _, _, _, _, _, _, _, _, _, _, _, _, _, _, _, rfl, rfl, zt, zt, zt, by first | exact hs | exact hs.play hz, zu, zu, zu, zu, zu, zu, zu, zu, zu, zu, rfl⟩ x30
 refine zx ?_
 refine zS <| Q9 1 rfl rfl ?_
 refine zw 7 rfl rfl rfl ?_
 refine JL.nil ?_
 refine zf [0, 1, 1, 1, 1, 1, 1] fun GG48 => ?_
 refine zn ?_
 refine zrb [0, 0, 0, 0, 0, 0] hb (x12.trans x30) ?_
 refine ⟨(g2), (at2), (sd2), A30_3_9, c30_3_9, g30_3_9, A30_3_10, c30_3_10, g30_3_10, A30_3_12, c30_3_12, g30_3_12, A30_3_13, c30_3_13, g30_3_13, A30_3_14, c30_3_14, g30_3_14, rfl, ?_, ?_, ?_, ?_, ?_, ?_, ?_, ?_, ?_, ?_, ?_, by first | trivial | omega | exact ⟨hs.sp, hs.ss, by have := hs.m; omega, hs.np, hs.ns⟩ | (refine ⟨?_, ?_, ?_, ?_, ?_⟩ <;> omega), by first | trivial | omega | exact ⟨hs.sp, hs.ss, by have := hs.m; omega, hs.np, hs.ns⟩ | (refine ⟨?_, ?_, ?_, ?_, ?_⟩ <;> omega), by first | trivial | omega | exact ⟨hs.sp, hs.ss, by have := hs.m; omega, hs.np, hs.ns⟩ | (refine ⟨?_, ?_, ?_, ?_, ?_⟩ <;> omega)⟩
 · rfl
 all_goals (try dsimp only)
 all_goals (first | (omega) | omega | (simp only [*]; omega) | (simp; done))
theorem c_spec_l01Split (t : List UInt8) (b : Int) {w : World} (r0 : t.length ≤ 4194304 := by exact om_) (r1 : 0 ≤ b := by exact om_) (r2 : b ≤ 255 := by exact om_) : Ret Tryz.prog 52 [.string (sB t), .int .u8 b] w (Ty.strs 9 (M.split (M.u8 b) t)) := by
 refine enter @Tryz.func52 @Tryz.ntmps52 rfl rfl ?_
 refine zent ?_
 refine zS <| Qa rfl <| zN <| zbs fun b1 => ?_
 refine Qa rfl <| zN <| Qa rfl <| zJ <| zS <| Qa rfl <| JL.nil <| Js.block ?_
 refine zl [0, 1] (fun F U l os u m => ∃ (k f : Nat) (out : List (List UInt8)) (A3_5 : Option Addr) (c3_5 : Nat) (g3_5 : List Nat), l = F [(5, .slice A3_5 out.length c3_5), (6, .int .i64 (f : Int)), (7, .int .i64 (k : Int))] ∧ os = U [some (rowO 9 1 (.slice A3_5 out.length c3_5) out.length (txs_ out) g3_5)] ∧ (M.SplI (M.u8 b) t f k out) ∧ (k ≤ t.length) ∧ (out.length ≤ c3_5) ∧ (c3_5 ≤ 9223372036854775807) ∧ m = t.length - k) ⟨0, 0, [], _, _, _, rfl, rfl, by exact M.SplI.zero _ _, zt, zu, zu, rfl⟩ ?_
 rintro _ _ u3 _ ⟨k, f, out, A3_5, c3_5, g3_5, rfl, rfl, hS, hk, f3_2, f3_3, rfl⟩ x3
 refine zn ?_
 have hl1 := hS.l
 have hl2 := hS.len
 have hl3 := M.split_len (M.u8 b) t
 refine Js.seq <| zS <| Qm rfl <| Qm rfl <| Qq (p_lenS und_9 rfl) <| Ql rfl rfl <| JL.nil ?_
 refine zi (fun h4 h4' => ?_) fun h4 h4' => ?_
 ·
  have hbt5 := M.bat_bd t k
  refine Js.skip <| Js.seq <| Js.block <| zS <| Qm rfl <| Qm rfl <| Qq (p_byteS (i := k) und_9 rfl rfl (by omega)) <| Qm rfl <| Qe rfl rfl <| JL.nil ?_
  refine zi (fun h6 h6' => ?_) fun h6 h6' => ?_
  ·
   have hS2 := hS.hit (b := b) (by omega) (by simpa using h6)
   refine zS <| Qm rfl <| Qm rfl <| Qm rfl <| Qm rfl <| Qq (p_midS (i := f) (j := k) und_9 rfl rfl rfl (by omega) (by omega)) <| zbs fun b7 => ?_
   refine JL.e (e_append (i := 1) (n' := (out ++ [(t.drop f).take (k - f)]).length) (vs' := txs_ (out ++ [(t.drop f).take (k - f)])) el_50 rfl rfl rfl rfl (src_row (i := 0) und_50 rfl rfl) (by omega) (by omega) ln2_ (by first | rfl | (simp [txs_]; done))) ?_
   rintro v9 _ _ ⟨⟨g10, rfl⟩, rfl⟩ _
   refine JL.fact (row_form' (i := 1) rfl) (fun hf11 => ?_)
   obtain ⟨A11, c11, rfl, bl11, bh11⟩ := hf11
   refine znl ?_
   refine Qa rfl <| zG <| Qm rfl <| Qp rfl rfl <| Qa rfl <| JL.nil <| Js.blockEnd <| Js.region <| Qm rfl <| Qp rfl rfl <| Qa rfl <| JL.nil ?_
   refine zd [1] rfl fun u12 x12 => ?_
   exact zag ⟨k + 1, k + 1, out ++ [(t.drop f).take (k - f)], _, _, _, rfl, rfl, by exact hS2, zt, zu, zu, rfl⟩ (x3.trans x12)
  have hS2 := hS.miss (b := b) (by omega) r1 r2 (by simpa using h6)
  refine Js.skip <| Js.blockEnd <| Js.region <| Qm rfl <| Qp rfl rfl <| Qa rfl <| JL.nil ?_
  exact zag ⟨k + 1, f, out, _, _, _, rfl, rfl, by exact hS2, zt, zu, zu, rfl⟩ x3
 have hE := hS.done (by have := h4'; omega)
 have hl1 := hS.l
 have hl2 := hS.len
 have hl3 := M.split_len (M.u8 b) t
 refine zx ?_
 refine zS <| Qm rfl <| Qm rfl <| Qm rfl <| Qq (p_dropS (i := f) und_9 rfl rfl (by omega)) <| zbs fun b13 => ?_
 refine JL.e (e_append (i := 1) (n' := (out ++ [t.drop f]).length) (vs' := txs_ (out ++ [t.drop f])) el_50 rfl rfl rfl rfl (src_row (i := 0) und_50 rfl rfl) (by omega) (by omega) ln2_ (by first | rfl | (simp [txs_]; done))) ?_
 rintro v15 _ _ ⟨⟨g16, rfl⟩, rfl⟩ _
 refine JL.fact (row_form' (i := 1) rfl) (fun hf17 => ?_)
 obtain ⟨A17, c17, rfl, bl17, bh17⟩ := hf17
 refine znl ?_
 have hq0 : (out ++ [t.drop f]) = M.split (M.u8 b) t := by exact hE
 refine Qa rfl <| JL.nil ?_
 exact zro x3 (g := by exact (gv_strsE (ys := out ++ [t.drop f]) po_ (by assumption) (by rfl)))
theorem c_spec_l01Digit (c : Int) {w : World}  : RetV Tryz.prog 102 [.int .u8 c] w (.bool (M.isDig c)) := by
 refine enter @Tryz.func102 @Tryz.ntmps102 rfl rfl ?_
 refine zent ?_
 refine zS <| Qa rfl <| zN <| Qm rfl <| Qh rfl rfl <| Qm rfl <| zg (Gd.t1 rfl rfl rfl) (fun hc => p_move rfl) <| zg (Gd.t1 rfl rfl rfl) (fun hc => p_leq (gh hc rfl) rfl) <| Qq (p_pickAnd rfl rfl rfl) <| Qa rfl <| JL.nil ?_
 exact zr (Up.refl _ _)
theorem c_spec_l01Number (t : List UInt8) {w : World} (r0 : t.length ≤ 4194304 := by exact om_) : RetV Tryz.prog 54 [.string (sB t)] w (.tuple #[.int .i64 ((M.num t).1), .bool ((M.num t).2)]) := by
 refine enter @Tryz.func54 @Tryz.ntmps54 rfl rfl ?_
 refine zent ?_
 have hbt1 := M.bat_bd t 0
 refine zS <| Qa rfl <| Qa rfl <| zN <| Qm rfl <| Qa rfl <| zJ <| zS <| Qm rfl <| Qq (p_neqT und_9 rfl rfl) <| Qm rfl <| zg (Gd.t1 rfl rfl rfl) (fun hc => p_move rfl) <| zg (Gd.t1 rfl rfl rfl) (fun hc => p_byteS (i := 0) und_9 (gh hc rfl) rfl (by first | have hc9 := hc; (try simp only [Bool.not_eq_true', decide_eq_false_iff_not] at hc9); omega | (have h9 := List.length_pos_iff.2 (by simpa using hc); omega))) ?_
 refine zg (Gd.t1 rfl rfl rfl) (fun hc => p_eql (gh hc rfl) rfl) <| Qq (p_pickAnd rfl rfl rfl) <| JL.nil ?_
 refine zi (fun h2 h2' => ?_) fun h2 h2' => ?_
 ·
  have hT : M.numT t = t.drop 1 := by have h9 := h2; simp at h9; exact M.numT_y h9.1 h9.2
  have hln : 1 ≤ t.length := by have h9 := h2; simp at h9; exact List.length_pos_iff.2 h9.1
  refine Js.region <| Qm rfl <| Qq (p_dropS (i := 1) und_9 rfl rfl (by omega)) <| Qa rfl <| zJ <| zS <| Qm rfl <| Qq (p_lenS und_9 rfl) <| Ql rfl rfl <| Qm rfl <| zg (Gd.f1 rfl rfl rfl) (fun hc => p_move rfl) <| zg (Gd.f1 rfl rfl rfl) (fun hc => p_lenS und_9 (gh hc rfl)) <| zg (Gd.f1 rfl rfl rfl) (fun hc => p_gtr (gh hc rfl) rfl) <| Qq (p_pickOr rfl rfl rfl) ?_
  refine JL.nil ?_
  refine zi (fun h3 h3' => ?_) fun h3 h3' => ?_
  ·
   have hE := M.num_len (s := t) (by rw [hT]; have h9 := h3; simp at h9; omega)
   refine zS <| Qa rfl <| Qa rfl <| JL.nil ?_
   refine zR (Up.refl _ _) ?_
   first | (rw [hE]; rfl) | (rw [hE, hS]; rfl)
  have hl9 : ¬ ((M.numT t).length < 1 ∨ 18 < (M.numT t).length) := by rw [hT]; have h9 := h3; simp at h9; omega
  refine Js.skip <| zS <| Qa rfl <| zJ <| zS <| Qa rfl <| JL.nil <| Js.block ?_
  refine zl [0, 4] (fun F U l os u m => ∃ (k : Nat) (n : Int), l = F [(5, .int .i64 n), (6, .int .i64 (k : Int))] ∧ os = U [] ∧ (n = M.numN (M.numT t) k) ∧ (M.Digs (M.numT t) k) ∧ (k ≤ (M.numT t).length) ∧ m = (M.numT t).length - k) ⟨0, 0, rfl, rfl, by rfl, by exact M.Digs.zero _, zt, rfl⟩ ?_
  rintro _ _ u4 _ ⟨k, n, rfl, rfl, hN, hD, hk, rfl⟩ x4
  refine zn ?_
  obtain ⟨n1, n2⟩ := M.numN_18 hD (by omega)
  rw [← hN] at n1 n2
  refine Js.seq <| zS <| Qm rfl <| Qm rfl <| Qq (p_lenS und_9 rfl) <| Ql rfl rfl <| JL.nil ?_
  refine zi (fun h5 h5' => ?_) fun h5 h5' => ?_
  ·
   have hkk : k < (M.numT t).length := by rw [hT]; have := h5'; omega
   obtain ⟨n3, n4⟩ := M.numN_17 hD (by omega)
   rw [← hN] at n3 n4
   have hbt6 := M.bat_bd (t.drop 1) k
   refine Js.skip <| Js.seq <| Js.block <| Js.seq <| zS <| Qm rfl <| Qm rfl <| Qq (p_byteS (i := k) und_9 rfl rfl (by omega)) <| zv rfl (fun w hw => c_spec_l01Digit (M.bat (t.drop 1) k)) <| Qt rfl <| JL.nil ?_
   refine zi (fun h7 h7' => ?_) fun h7 h7' => ?_
   ·
    have hE := M.num_dig (M.digs_no hkk (by rw [hT]; simpa using h7))
    refine zS <| Qa rfl <| Qa rfl <| JL.nil ?_
    refine zR x4 ?_
    first | (rw [hE]; rfl) | (rw [hE, hS]; rfl)
   have hd : M.isDig (M.bat (M.numT t) k) = true := by rw [hT]; simpa using h7
   have hD2 := hD.step hd
   obtain ⟨d1, d2⟩ := M.dig_bd hd
   rw [hT] at d1 d2
   have hbt8 := M.bat_bd (t.drop 1) k
   refine Js.skip <| Js.region <| Qm rfl <| Qu rfl rfl <| Qm rfl <| Qm rfl <| Qq (p_byteS (i := k) und_9 rfl rfl (by omega)) <| Qq (p_sub rfl rfl (IntWalk.u8_in _ (by omega))) <| Qq (p_conv @Tryz.underlying5 @Tryz.underlying2 rfl (IntWalk.i64_in _ (by omega))) <| Qp rfl rfl <| Qa rfl <| JL.nil <| Js.blockEnd <| Js.region ?_
   refine Qm rfl <| Qp rfl rfl <| Qa rfl <| JL.nil ?_
   exact zag ⟨k + 1, (10 * n) + ((M.bat (t.drop 1) k) - 48), rfl, rfl, by rw [hN, M.numN, hT], by exact hD2, zt, rfl⟩ x4
  have hke : k = (M.numT t).length := Nat.le_antisymm hk (by rw [hT]; have := h5'; omega)
  have hdg := M.digs_yes hD (by omega)
  rw [hke] at hN
  refine zx ?_
  refine Js.seq <| zS <| Qm rfl <| Qq (p_lenS und_9 rfl) <| Qm rfl <| Qq (p_lenS und_9 rfl) <| Ql rfl rfl <| JL.nil ?_
  refine zi (fun h9 h9' => ?_) fun h9 h9' => ?_
  ·
   have hS : M.numS t = -n := by rw [hN]; exact M.numS_neg (by rw [hT]; have := h9'; omega)
   refine Js.region <| Qm rfl <| Qq (p_neg (r := -n) rfl (by rw [Int.zero_sub]; exact IntWalk.i64_in _ (by omega))) <| Qa rfl <| zJ <| zS <| Qm rfl <| zv rfl (fun w hw => c_spec_l01Dec (-n)) <| Qm rfl <| Qq (p_neqT und_9 rfl rfl) <| JL.nil ?_
   refine zi (fun h10 h10' => ?_) fun h10 h10' => ?_
   ·
    have hE := M.num_no (s := t) (by rw [hS]; simpa using h10)
    refine zS <| Qa rfl <| Qa rfl <| JL.nil ?_
    refine zR x4 ?_
    first | (rw [hE]; rfl) | (rw [hE, hS]; rfl)
   have hE := M.num_yes hl9 hdg (by rw [hS]; simpa using h10)
   refine Js.skip <| zS <| Qm rfl <| Qa rfl <| Qa rfl <| JL.nil ?_
   refine zR x4 ?_
   first | (rw [hE]; rfl) | (rw [hE, hS]; rfl)
  have hS : M.numS t = n := by rw [hN]; exact M.numS_pos (by rw [hT]; have := h9'; omega)
  refine Js.skip <| Js.seq <| zS <| Qm rfl <| zv rfl (fun w hw => c_spec_l01Dec n) <| Qm rfl <| Qq (p_neqT und_9 rfl rfl) <| JL.nil ?_
  refine zi (fun h11 h11' => ?_) fun h11 h11' => ?_
  ·
   have hE := M.num_no (s := t) (by rw [hS]; simpa using h11)
   refine zS <| Qa rfl <| Qa rfl <| JL.nil ?_
   refine zR x4 ?_
   first | (rw [hE]; rfl) | (rw [hE, hS]; rfl)
  have hE := M.num_yes hl9 hdg (by rw [hS]; simpa using h11)
  refine Js.skip <| zS <| Qm rfl <| Qa rfl <| Qa rfl <| JL.nil ?_
  refine zR x4 ?_
  first | (rw [hE]; rfl) | (rw [hE, hS]; rfl)
 have hT : M.numT t = t := M.numT_n (by have h9 := h2; simp at h9; intro ⟨a, b⟩; exact h9 a b)
 refine Js.skip <| Js.seq <| zS <| Qm rfl <| Qq (p_lenS und_9 rfl) <| Ql rfl rfl <| Qm rfl <| zg (Gd.f1 rfl rfl rfl) (fun hc => p_move rfl) <| zg (Gd.f1 rfl rfl rfl) (fun hc => p_lenS und_9 (gh hc rfl)) <| zg (Gd.f1 rfl rfl rfl) (fun hc => p_gtr (gh hc rfl) rfl) <| Qq (p_pickOr rfl rfl rfl) <| JL.nil ?_
 refine zi (fun h12 h12' => ?_) fun h12 h12' => ?_
 ·
  have hE := M.num_len (s := t) (by rw [hT]; have h9 := h12; simp at h9; omega)
  refine zS <| Qa rfl <| Qa rfl <| JL.nil ?_
  refine zR (Up.refl _ _) ?_
  first | (rw [hE]; rfl) | (rw [hE, hS]; rfl)
 have hl9 : ¬ ((M.numT t).length < 1 ∨ 18 < (M.numT t).length) := by rw [hT]; have h9 := h12; simp at h9; omega
 refine Js.skip <| zS <| Qa rfl <| zJ <| zS <| Qa rfl <| JL.nil <| Js.block ?_
 refine zl [0, 4] (fun F U l os u m => ∃ (k : Nat) (n : Int), l = F [(5, .int .i64 n), (6, .int .i64 (k : Int))] ∧ os = U [] ∧ (n = M.numN (M.numT t) k) ∧ (M.Digs (M.numT t) k) ∧ (k ≤ (M.numT t).length) ∧ m = (M.numT t).length - k) ⟨0, 0, rfl, rfl, by rfl, by exact M.Digs.zero _, zt, rfl⟩ ?_
 rintro _ _ u13 _ ⟨k, n, rfl, rfl, hN, hD, hk, rfl⟩ x13
 refine zn ?_
 obtain ⟨n1, n2⟩ := M.numN_18 hD (by omega)
 rw [← hN] at n1 n2
 refine Js.seq <| zS <| Qm rfl <| Qm rfl <| Qq (p_lenS und_9 rfl) <| Ql rfl rfl <| JL.nil ?_
 refine zi (fun h14 h14' => ?_) fun h14 h14' => ?_
 ·
  have hkk : k < (M.numT t).length := by rw [hT]; have := h14'; omega
  obtain ⟨n3, n4⟩ := M.numN_17 hD (by omega)
  rw [← hN] at n3 n4
  have hbt15 := M.bat_bd t k
  refine Js.skip <| Js.seq <| Js.block <| Js.seq <| zS <| Qm rfl <| Qm rfl <| Qq (p_byteS (i := k) und_9 rfl rfl (by omega)) <| zv rfl (fun w hw => c_spec_l01Digit (M.bat t k)) <| Qt rfl <| JL.nil ?_
  refine zi (fun h16 h16' => ?_) fun h16 h16' => ?_
  ·
   have hE := M.num_dig (M.digs_no hkk (by rw [hT]; simpa using h16))
   refine zS <| Qa rfl <| Qa rfl <| JL.nil ?_
   refine zR x13 ?_
   first | (rw [hE]; rfl) | (rw [hE, hS]; rfl)
  have hd : M.isDig (M.bat (M.numT t) k) = true := by rw [hT]; simpa using h16
  have hD2 := hD.step hd
  obtain ⟨d1, d2⟩ := M.dig_bd hd
  rw [hT] at d1 d2
  have hbt17 := M.bat_bd t k
  refine Js.skip <| Js.region <| Qm rfl <| Qu rfl rfl <| Qm rfl <| Qm rfl <| Qq (p_byteS (i := k) und_9 rfl rfl (by omega)) <| Qq (p_sub rfl rfl (IntWalk.u8_in _ (by omega))) <| Qq (p_conv @Tryz.underlying5 @Tryz.underlying2 rfl (IntWalk.i64_in _ (by omega))) <| Qp rfl rfl <| Qa rfl <| JL.nil <| Js.blockEnd <| Js.region ?_
  refine Qm rfl <| Qp rfl rfl <| Qa rfl <| JL.nil ?_
  exact zag ⟨k + 1, (10 * n) + ((M.bat t k) - 48), rfl, rfl, by rw [hN, M.numN, hT], by exact hD2, zt, rfl⟩ x13
 have hke : k = (M.numT t).length := Nat.le_antisymm hk (by rw [hT]; have := h14'; omega)
 have hdg := M.digs_yes hD (by omega)
 rw [hke] at hN
 refine zx ?_
 refine Js.seq <| zS <| Qm rfl <| Qq (p_lenS und_9 rfl) <| Qm rfl <| Qq (p_lenS und_9 rfl) <| Ql rfl rfl <| JL.nil ?_
 refine zi (fun h18 h18' => ?_) fun h18 h18' => ?_
 ·
  have hS : M.numS t = -n := by rw [hN]; exact M.numS_neg (by rw [hT]; have := h18'; omega)
  refine Js.region <| Qm rfl <| Qq (p_neg (r := -n) rfl (by rw [Int.zero_sub]; exact IntWalk.i64_in _ (by omega))) <| Qa rfl <| zJ <| zS <| Qm rfl <| zv rfl (fun w hw => c_spec_l01Dec (-n)) <| Qm rfl <| Qq (p_neqT und_9 rfl rfl) <| JL.nil ?_
  refine zi (fun h19 h19' => ?_) fun h19 h19' => ?_
  ·
   have hE := M.num_no (s := t) (by rw [hS]; simpa using h19)
   refine zS <| Qa rfl <| Qa rfl <| JL.nil ?_
   refine zR x13 ?_
   first | (rw [hE]; rfl) | (rw [hE, hS]; rfl)
  have hE := M.num_yes hl9 hdg (by rw [hS]; simpa using h19)
  refine Js.skip <| zS <| Qm rfl <| Qa rfl <| Qa rfl <| JL.nil ?_
  refine zR x13 ?_
  first | (rw [hE]; rfl) | (rw [hE, hS]; rfl)
 have hS : M.numS t = n := by rw [hN]; exact M.numS_pos (by rw [hT]; have := h18'; omega)
 refine Js.skip <| Js.seq <| zS <| Qm rfl <| zv rfl (fun w hw => c_spec_l01Dec n) <| Qm rfl <| Qq (p_neqT und_9 rfl rfl) <| JL.nil ?_
 refine zi (fun h20 h20' => ?_) fun h20 h20' => ?_
 ·
  have hE := M.num_no (s := t) (by rw [hS]; simpa using h20)
  refine zS <| Qa rfl <| Qa rfl <| JL.nil ?_
  refine zR x13 ?_
  first | (rw [hE]; rfl) | (rw [hE, hS]; rfl)
 have hE := M.num_yes hl9 hdg (by rw [hS]; simpa using h20)
 refine Js.skip <| zS <| Qm rfl <| Qa rfl <| Qa rfl <| JL.nil ?_
 refine zR x13 ?_
 first | (rw [hE]; rfl) | (rw [hE, hS]; rfl)
theorem c_spec_l10Moves (moves : List Int) {v_moves : Value} {w : World} (h_moves : (Ty.ints 2 moves).ok w v_moves) (r0 : moves.length ≤ 4194304 := by exact om_) (r1 : M.Rng moves := by exact om_) : RetV Tryz.prog 85 [v_moves] w (.string (sB (M.joinM moves))) := by
 revert v_moves; apply opn
 intro A1 c1 h1 bl1 bh1
 have h_moves := h1
 refine enter @Tryz.func85 @Tryz.ntmps85 rfl rfl ?_
 refine zent ?_
 refine zS <| Qa rfl <| zN <| Qa rfl <| zJ <| zS <| Qa rfl <| JL.nil <| Js.block ?_
 refine zl [0] (fun F U l os u m => ∃ (k : Nat) (out : List UInt8), l = F [(3, .string (sB out)), (4, .int .i64 (k : Int))] ∧ os = U [] ∧ (out = M.joinB moves k) ∧ (k ≤ moves.length) ∧ m = moves.length - k) ⟨0, ([] : List UInt8), rfl, rfl, by rfl, zt, rfl⟩ ?_
 rintro _ _ u2 _ ⟨k, out, rfl, rfl, hJ, hk, rfl⟩ x2
 refine zn ?_
 have lb9 : LenB out 92274688 := ⟨M.joinB_big hJ (by omega)⟩
 obtain ⟨n1, n2⟩ := M.Rng.nth r1 k
 refine Js.seq <| zS <| Qm rfl <| Qm rfl <| Qz rfl <| Ql rfl rfl <| JL.nil ?_
 refine zi (fun h3 h3' => ?_) fun h3 h3' => ?_
 ·
  refine Js.skip <| Js.seq <| Js.block <| Js.seq <| zS <| Qm rfl <| Qg rfl rfl <| JL.nil ?_
  refine zi (fun h4 h4' => ?_) fun h4 h4' => ?_
  ·
   have hJ2 := M.joinB_p hJ (by have := h4'; omega)
   obtain ⟨b5, o5, he5, hc5⟩ := ints_elem (Ty.mono _ h1 x2.vis) (i := k) (by omega)
   refine Js.region <| Qm rfl <| Qq (q_cat rfl rfl) <| Qa rfl <| zG <| Qm rfl <| Qm rfl <| Qm rfl <| Qq (p_indexAddr el_26 rfl rfl (by omega) (by omega) he5) <| QC hc5 rfl <| zv rfl (fun w hw => c_spec_l01Dec (M.nth moves k)) <| Qq (q_cat rfl rfl) <| Qa rfl <| JL.nil ?_
   refine Js.blockEnd <| Js.region <| Qm rfl <| Qp rfl rfl <| Qa rfl <| JL.nil ?_
   exact zag ⟨k + 1, (out ++ ([32] : List UInt8)) ++ (M.dec (M.nth moves k)), rfl, rfl, by exact hJ2, zt, rfl⟩ x2
  have hJ2 := M.joinB_z hJ (by have := h4'; omega)
  obtain ⟨b6, o6, he6, hc6⟩ := ints_elem (Ty.mono _ h1 x2.vis) (i := k) (by omega)
  refine Js.skip <| Js.region <| Qm rfl <| Qm rfl <| Qm rfl <| Qq (p_indexAddr el_26 rfl rfl (by omega) (by omega) he6) <| QC hc6 rfl <| zv rfl (fun w hw => c_spec_l01Dec (M.nth moves k)) <| Qq (q_cat rfl rfl) <| Qa rfl <| JL.nil <| Js.blockEnd <| Js.region <| Qm rfl ?_
  refine Qp rfl rfl <| Qa rfl <| JL.nil ?_
  exact zag ⟨k + 1, out ++ (M.dec (M.nth moves k)), rfl, rfl, by exact hJ2, zt, rfl⟩ x2
 have hE := M.joinB_e hJ (by have := h3'; omega) hk
 refine zx ?_
 refine zS <| Qm rfl <| Qa rfl <| JL.nil ?_
 refine zR x2 ?_
 rw [hE]; rfl
theorem c_spec_l10Ok (moves : List Int) {v_moves : Value} {w : World} (h_moves : (Ty.ints 2 moves).ok w v_moves) (r0 : moves.length ≤ 4194304 := by exact om_) : RetV Tryz.prog 86 [v_moves] w (.bool (M.okMv moves)) := by
 revert v_moves; apply opn
 intro A1 c1 h1 bl1 bh1
 have h_moves := h1
 refine enter @Tryz.func86 @Tryz.ntmps86 rfl rfl ?_
 refine zent ?_
 refine zS <| Qa rfl <| zJ <| zS <| Qa rfl <| JL.nil <| Js.block ?_
 refine zl [0] (fun F U l os u m => ∃ (k : Nat), l = F [(3, .int .i64 (k : Int))] ∧ os = U [] ∧ (k ≤ moves.length) ∧ (M.MvU moves k) ∧ m = moves.length - k) ⟨0, rfl, rfl, zt, by exact M.MvU.zero _, rfl⟩ ?_
 rintro _ _ u2 _ ⟨k, rfl, rfl, hk, hU, rfl⟩ x2
 refine zn ?_
 refine Js.seq <| zS <| Qm rfl <| Qm rfl <| Qz rfl <| Ql rfl rfl <| JL.nil ?_
 refine zi (fun h3 h3' => ?_) fun h3 h3' => ?_
 ·
  have hkk : k < moves.length := by have := h3'; omega
  obtain ⟨b4, o4, he4, hc4⟩ := ints_elem (Ty.mono _ h1 x2.vis) (i := k) (by omega)
  refine Js.skip <| Js.seq <| Js.block <| zS <| Qm rfl <| Qm rfl <| Qq (p_indexAddr el_26 rfl rfl (by omega) (by omega) he4) <| QC hc4 rfl <| zv rfl (fun w hw => c_spec_l00In (M.nth moves k) 0 7) <| Qt rfl <| JL.nil ?_
  refine zi (fun h5 h5' => ?_) fun h5 h5' => ?_
  ·
   have hE := M.okMv_no hkk (by simpa using h5)
   refine zS <| Qa rfl <| JL.nil ?_
   refine zR x2 ?_
   first | (rw [hE]; rfl) | (rw [hE]; simp [outV]; done) | (rw [hE]; simp [outV]; omega)
  have hU2 := hU.step (by simpa using h5)
  refine Js.skip <| Js.blockEnd <| Js.region <| Qm rfl <| Qp rfl rfl <| Qa rfl <| JL.nil ?_
  exact zag ⟨k + 1, rfl, rfl, zt, by exact hU2, rfl⟩ x2
 have hE := M.okMv_l (hU.done (by have := h3'; omega))
 refine zx ?_
 refine zS <| Qm rfl <| Qz rfl <| Qk rfl rfl <| Qa rfl <| JL.nil ?_
 refine zR x2 ?_
 first | (rw [hE]; rfl) | (rw [hE]; simp [outV]; done) | (rw [hE]; simp [outV]; omega)
theorem c_spec_MovesText (moves : List Int) {v_moves : Value} {w : World} (h_moves : (Ty.ints 2 moves).ok w v_moves) (r0 : moves.length ≤ 4194304 := by exact om_) : RetV Tryz.prog 36 [v_moves] w (.string (sB (M.movT moves))) := by
 revert v_moves; apply opn
 intro A1 c1 h1 bl1 bh1
 have h_moves := h1
 refine enter @Tryz.func36 @Tryz.ntmps36 rfl rfl ?_
 refine zent ?_
 refine zS <| Qa rfl <| zJ <| zS <| Qm rfl <| zv rfl (fun w hw => c_spec_l10Ok moves (ok_ hw)) <| Qt rfl <| JL.nil ?_
 refine zi (fun h2 h2' => ?_) fun h2 h2' => ?_
 ·
  have hE := M.movT_no (l := moves) (by simpa using h2)
  refine zS <| Qa rfl <| JL.nil ?_
  refine zR (Up.refl _ _) ?_
  rw [hE]; rfl
 have hok : M.okMv moves = true := by simpa using h2
 have hE := M.movT_yes hok
 refine Js.skip <| zS <| Qm rfl <| zv rfl (fun w hw => c_spec_l10Moves moves (ok_ hw) (r1 := (M.okMv_Rng hok))) <| Qa rfl <| JL.nil ?_
 refine zR (Up.refl _ _) ?_
 rw [hE]; rfl
theorem c_spec_ReadMoves (s : List UInt8) {w : World} (r0 : s.length ≤ 4000000 := by exact om_) : Ret Tryz.prog 33 [.string (sB s)] w (Ty.tup [Ty.ints 2 ((M.readM s).1), Ty.bool ((M.readM s).2)]) := by
 have hsl := M.split_len (M.u8 32) s
 refine enter @Tryz.func33 @Tryz.ntmps33 rfl rfl ?_
 refine zent ?_
 refine zS <| Qa rfl <| Qa rfl <| zN <| zbs fun b1 => ?_
 refine Qa rfl <| zJ <| zS <| Qm rfl <| Qq (p_eqlT und_9 rfl rfl) <| JL.nil ?_
 refine zi (fun h3 h3' => ?_) fun h3 h3' => ?_
 ·
  have hE : M.readM s = ([], true) := by rw [show s = [] by simpa using h3]; exact M.readM_nil
  have hq0 : [] = (M.readM s).1 := by first | (rw [hE]; done) | (rw [hE]; exact hO) | (rw [hE]; rfl)
  have hq1 : true = (M.readM s).2 := by first | (rw [hE]; done) | (rw [hE]; exact hO) | (rw [hE]; rfl)
  refine zS <| Qm rfl <| Qa rfl <| Qa rfl <| JL.nil ?_
  exact zro (Up.refl _ _)
 have hs0 : s ≠ [] := by simpa using h3
 refine Js.skip <| zS <| Qm rfl <| zp rfl (fun w hw => c_spec_l01Split s 32) ?_
 intro u4 x4 A5 c5 h5 bl5 bh5
 refine Qa rfl <| zJ <| zS <| Qa rfl <| JL.nil <| Js.block ?_
 refine zl [5] (fun F U l os u m => ∃ (k : Nat) (out : List Int) (A6_4 : Option Addr) (c6_4 : Nat) (g6_4 : List Nat), l = F [(4, .slice A6_4 out.length c6_4), (6, .int .i64 (k : Int))] ∧ os = U [some (rowO 2 1 (.slice A6_4 out.length c6_4) out.length (ints_ out) g6_4)] ∧ (out = M.numsV ((M.split (M.u8 32) s).take k)) ∧ (M.numsOk ((M.split (M.u8 32) s).take k) = true) ∧ (k ≤ (M.split (M.u8 32) s).length) ∧ (out.length = k) ∧ (out.length ≤ c6_4) ∧ (c6_4 ≤ 9223372036854775807) ∧ m = (M.split (M.u8 32) s).length - k) ⟨0, [], _, _, _, rfl, rfl, by rfl, by rfl, zt, by rfl, zu, zu, rfl⟩ ?_
 rintro _ _ u6 _ ⟨k, out, A6_4, c6_4, g6_4, rfl, rfl, hO, hK, hk, hl, f6_4, f6_5, rfl⟩ x6
 refine zn ?_
 refine Js.seq <| zS <| Qm rfl <| Qm rfl <| Qz rfl <| Ql rfl rfl <| JL.nil ?_
 refine zi (fun h7 h7' => ?_) fun h7 h7' => ?_
 ·
  obtain ⟨ye8, hye8⟩ : ∃ x, (M.split (M.u8 32) s)[k]? = some x := ⟨_, List.getElem?_eq_getElem (by omega)⟩
  have hY : (M.split (M.u8 32) s)[k]? = some ye8 := hye8
  have hw9 := M.split_mem (M.u8 32) s ye8 (List.mem_of_getElem? hY)
  have hy9 := hye8
  obtain ⟨b9, o9, he9, hc9⟩ := strs_elem (Ty.mono _ h5 x6.vis) hy9
  refine Js.skip <| Js.seq <| Js.block <| zS <| Qm rfl <| Qm rfl <| Qq (p_indexAddr el_50 rfl rfl (by omega) (by omega) he9) <| QC hc9 rfl <| zv rfl (fun w hw => c_spec_l01Number ye8) <| Qm rfl <| Qx rfl rfl <| Qx rfl rfl <| Qa rfl <| Qa rfl ?_
  refine zJ <| zS <| Qm rfl <| Qt rfl <| JL.nil ?_
  refine zi (fun h10 h10' => ?_) fun h10 h10' => ?_
  ·
   have hE := M.readM_bad hs0 (M.numsOk_no hY (by simpa using h10))
   have hq0 : [] = (M.readM s).1 := by first | (rw [hE]; done) | (rw [hE]; exact hO) | (rw [hE]; rfl)
   have hq1 : false = (M.readM s).2 := by first | (rw [hE]; done) | (rw [hE]; exact hO) | (rw [hE]; rfl)
   refine zS <| Qa rfl <| Qa rfl <| JL.nil ?_
   exact zro (x4.trans x6)
  have hn9 : (M.num ye8).2 = true := by simpa using h10
  refine Js.skip <| Js.region <| Qm rfl <| Qm rfl <| zbs fun b11 => ?_
  refine JL.e (e_append (i := 1) (n' := (out ++ [((M.num ye8).1)]).length) (vs' := ints_ (out ++ [((M.num ye8).1)])) el_26 rfl rfl rfl rfl (src_row (i := 0) und_26 rfl rfl) (by omega) (by omega) ln2_ (by simp [ints_])) ?_
  rintro v13 _ _ ⟨⟨g14, rfl⟩, rfl⟩ _
  refine JL.fact (row_form' (i := 1) rfl) (fun hf15 => ?_)
  obtain ⟨A15, c15, rfl, bl15, bh15⟩ := hf15
  refine znl ?_
  refine Qa rfl <| JL.nil <| Js.blockEnd <| Js.region <| Qm rfl <| Qp rfl rfl <| Qa rfl <| JL.nil ?_
  refine zd [1] rfl fun u16 x16 => ?_
  exact zag ⟨k + 1, out ++ [((M.num ye8).1)], _, _, _, rfl, rfl, by exact M.nums_step hO hY, by exact M.numsOk_step hK hY hn9, zt, by simp [hl], zu, zu, rfl⟩ (x6.trans x16)
 have ht9 : (M.split (M.u8 32) s).take k = (M.split (M.u8 32) s) := List.take_of_length_le (by have := h7'; omega)
 rw [ht9] at hO hK
 refine zx ?_
 refine Js.seq <| zS <| Qm rfl <| zv rfl (fun w hw => c_spec_l10Ok out (ok_ hw)) <| Qt rfl <| JL.nil ?_
 refine zi (fun h17 h17' => ?_) fun h17 h17' => ?_
 ·
  have h9 : M.okMv out = false := by simpa using h17
  rw [hO] at h9
  have hE := M.readM_no hs0 h9
  have hq0 : [] = (M.readM s).1 := by first | (rw [hE]; done) | (rw [hE]; exact hO) | (rw [hE]; rfl)
  have hq1 : false = (M.readM s).2 := by first | (rw [hE]; done) | (rw [hE]; exact hO) | (rw [hE]; rfl)
  refine zS <| Qa rfl <| Qa rfl <| JL.nil ?_
  exact zro (x4.trans x6)
 have h9 : M.okMv out = true := by simpa using h17
 rw [hO] at h9
 have hE := M.readM_yes hs0 hK h9
 have hq0 : out = (M.readM s).1 := by first | (rw [hE]; done) | (rw [hE]; exact hO) | (rw [hE]; rfl)
 have hq1 : true = (M.readM s).2 := by first | (rw [hE]; done) | (rw [hE]; exact hO) | (rw [hE]; rfl)
 refine Js.skip <| zS <| Qm rfl <| Qa rfl <| Qa rfl <| JL.nil ?_
 exact zro (x4.trans x6)
theorem c_spec_LineFault (kind : Int) {w : World}  : RetV Tryz.prog 38 [.int .i64 kind] w (.string (sB (M.faultName kind))) := by
 refine enter @Tryz.func38 @Tryz.ntmps38 rfl rfl ?_
 refine zent ?_
 refine zS <| Qa rfl <| zN <| zbs fun b1 => ?_
 refine Qa rfl <| zJ <| zS <| Qm rfl <| Qm rfl <| Qz rfl <| zv rfl (fun w hw => c_spec_l00In kind 1 (7 : Int)) <| Qt rfl <| JL.nil ?_
 refine zi (fun h3 h3' => ?_) fun h3 h3' => ?_
 ·
  have hE := M.faultName_no (k := kind) (by simpa using h3)
  refine zS <| Qa rfl <| JL.nil ?_
  refine zR (Up.refl _ _) ?_
  rw [hE]; rfl
 have hb : M.betw kind 1 7 = true := by simpa using h3
 obtain ⟨hb0, hb1⟩ := M.betw_iff.1 hb
 have hl7 : M.faultNames.length = 7 := rfl
 obtain ⟨y5, hy5⟩ : ∃ x, ([([114, 117, 108, 101, 115] : List UInt8), ([115, 116, 97, 114, 116] : List UInt8), ([102, 111, 114, 109] : List UInt8), ([110, 117, 109, 98, 101, 114] : List UInt8), ([109, 111, 118, 101] : List UInt8), ([103, 97, 105, 110] : List UInt8), ([101, 110, 100] : List UInt8)] : List (List UInt8))[(kind - 1).toNat]? = some x := ⟨_, List.getElem?_eq_getElem (by simp only [List.length_cons, List.length_nil]; omega)⟩
 refine Js.skip <| zS <| Qm rfl <| Qm rfl <| Qs rfl rfl <| Qq (p_indexAddr el_50 rfl rfl (by omega) (by omega) rfl) <| Qw (q_load1 ty_9.h rfl (Mem.row (i := 0) rfl (txs_get' (xs := ([([114, 117, 108, 101, 115] : List UInt8), ([115, 116, 97, 114, 116] : List UInt8), ([102, 111, 114, 109] : List UInt8), ([110, 117, 109, 98, 101, 114] : List UInt8), ([109, 111, 118, 101] : List UInt8), ([103, 97, 105, 110] : List UInt8), ([101, 110, 100] : List UInt8)])) hy5))) <| Qa rfl <| JL.nil ?_
 refine zR (Up.refl _ _) ?_
 rw [M.faultName_yes hb hy5]; rfl
theorem c_spec_DrawNotesOn (code : Nat) {v_code : Value} {w : World} (h_code : (Ty.bytes 5 code).ok w v_code) (r0 : code ≤ 1048576 := by exact om_) : Ret Tryz.prog 23 [v_code] w (Ty.ex (fun (GX : M.Gam) => (GX.start.pits.length ≤ 4194304 ∧ GX.start.stores.length ≤ 4194304 ∧ GX.moves.length ≤ 122 ∧ GX.now.pits.length ≤ 4194304 ∧ GX.now.stores.length = 2)) (fun GX => Ty.agg (cGame GX))) := by
 revert v_code; apply opn
 intro A1 c1 h1 bl1 bh1
 have h_code := h1
 refine enter @Tryz.func23 @Tryz.ntmps23 rfl rfl ?_
 refine zent ?_
 refine zS <| za zeh fun b2 => zN <| Qm rfl <| zcs rfl (fun w hw => c_spec_l00From code (ok_ hw)) ?_
 intro b3
 refine zB 1 sp_ rfl (fun w hb hw => c_spec_l08Bent code 0 0 hb (ok_ hw)) ?_
 rintro _ _ G4 ⟨X4GX, X4AT, X4SD, A4r_9, c4r_9, g4r_9, A4r_10, c4r_10, g4r_10, A4r_12, c4r_12, g4r_12, A4r_13, c4r_13, g4r_13, A4r_14, c4r_14, g4r_14, rfl, rfl, bl4_0, bl4_1, bl4_2, bl4_3, bl4_4, bl4_5, bl4_6, bl4_7, bl4_8, bl4_9, hX4_0, hX4_1, hX4_2⟩
 refine znl ?_
 refine zw 7 rfl rfl rfl ?_
 refine JL.nil ?_
 exact zro (Up.refl _ _) (g := by exact (gv_ex X4GX (by first | trivial | assumption | omega | (dsimp only; omega) | (constructor <;> first | assumption | omega) | (dsimp only; constructor <;> first | assumption | omega | (simp; done))) gv_))
theorem c_spec_DrawSummaryOf (code : Nat) {v_code : Value} {w : World} (h_code : (Ty.bytes 5 code).ok w v_code) (r0 : code ≤ 1048576 := by exact om_) : Ret Tryz.prog 26 [v_code] w (Ty.ex (fun (GX : M.Gam) => (GX.start.pits.length ≤ 4194304 ∧ GX.start.stores.length ≤ 4194304 ∧ GX.moves.length ≤ 4194304 ∧ GX.now.pits.length ≤ 4194304 ∧ GX.now.stores.length ≤ 4194304)) (fun GX => Ty.agg (cGame GX))) := by
 revert v_code; apply opn
 intro A1 c1 h1 bl1 bh1
 have h_code := h1
 refine enter @Tryz.func26 @Tryz.ntmps26 rfl rfl ?_
 refine zent ?_
 refine zS <| za zeh fun b2 => zN <| Qm rfl <| zcs rfl (fun w hw => c_spec_l00From code (ok_ hw)) ?_
 intro b3
 refine zB 1 sp_ rfl (fun w hb hw => c_spec_l09Draw code 0 0 hb (ok_ hw)) ?_
 rintro _ _ G4 ⟨X4GX, X4AT, X4SD, A4r_9, c4r_9, g4r_9, A4r_10, c4r_10, g4r_10, A4r_12, c4r_12, g4r_12, A4r_13, c4r_13, g4r_13, A4r_14, c4r_14, g4r_14, rfl, rfl, bl4_0, bl4_1, bl4_2, bl4_3, bl4_4, bl4_5, bl4_6, bl4_7, bl4_8, bl4_9, hX4_0, hX4_1, hX4_2⟩
 refine znl ?_
 refine zw 7 rfl rfl rfl ?_
 refine JL.nil ?_
 exact zro (Up.refl _ _) (g := by exact (gv_ex X4GX (by first | trivial | assumption | omega | (refine ⟨?_, ?_, ?_, ?_, ?_⟩ <;> dsimp only <;> omega)) gv_))
theorem c_spec_DrawLineFault (code : Nat) {v_code : Value} {w : World} (h_code : (Ty.bytes 5 code).ok w v_code) (r0 : code ≤ 1048576 := by exact om_) : Ret Tryz.prog 34 [v_code] w (Ty.ex (fun (KX : Int) => True) (fun KX => Ty.int KX)) := by
 revert v_code; apply opn
 intro A1 c1 h1 bl1 bh1
 have h_code := h1
 refine enter @Tryz.func34 @Tryz.ntmps34 rfl rfl ?_
 refine zent ?_
 refine zS <| Qa rfl <| zN <| Qm rfl <| zcs rfl (fun w hw => c_spec_l00From code (ok_ hw)) ?_
 intro b2
 refine Qa rfl <| zN <| Qm rfl <| zB 1 sp_ rfl (fun w hb hw => c_spec_l00Src_pick code 0 0 10 hb (ok_ hw)) ?_
 rintro _ _ G3 ⟨X3KX, X3AT, X3SD, rfl, rfl, hX3_0, hX3_1, hX3_2, hX3_3⟩
 refine znl ?_
 refine Qs rfl rfl <| Qa rfl <| JL.nil ?_
 exact zro (Up.refl _ _) (g := by exact (gv_ex (X3KX - 1) (by first | trivial | assumption | omega | (dsimp only; omega) | (constructor <;> first | assumption | omega) | (dsimp only; constructor <;> first | assumption | omega | (simp; done))) gv_))
theorem c_spec_DrawMovesText (code : Nat) {v_code : Value} {w : World} (h_code : (Ty.bytes 5 code).ok w v_code) (r0 : code ≤ 1048576 := by exact om_) : Ret Tryz.prog 29 [v_code] w (Ty.ex (fun (LX : List Int) => (LX.length ≤ 200 ∧ M.Rng LX)) (fun LX => Ty.ints 2 LX)) := by
 revert v_code; apply opn
 intro A1 c1 h1 bl1 bh1
 have h_code := h1
 refine enter @Tryz.func29 @Tryz.ntmps29 rfl rfl ?_
 refine zent ?_
 refine zS <| Qa rfl <| zN <| Qm rfl <| zcs rfl (fun w hw => c_spec_l00From code (ok_ hw)) ?_
 intro b2
 refine Qa rfl <| zN <| zbs fun b3 => ?_
 refine Qa rfl <| zJ <| zS <| Qm rfl ?_
 refine zhl [1] ?_
 refine zB 1 sp_ rfl (fun w hb hw => c_spec_l00Src_pick code 0 0 9 hb (ok_ hw)) ?_
 rintro _ _ G5 ⟨X5KX, X5AT, X5SD, rfl, rfl, hX5_0, hX5_1, hX5_2, hX5_3⟩
 refine znl ?_
 refine Qa rfl <| JL.nil <| Js.block ?_
 refine zl [3] (fun F U l os u m => ∃ (k at1 sd1 : Int) (out : List Int) (A6_4 : Option Addr) (c6_4 : Nat) (g6_4 : List Nat) (G6_1 : List Nat), l = F [(4, .slice A6_4 out.length c6_4), (5, .int .i64 k)] ∧ os = U [some (boxO b2 [.slice A1 code c1, .int .i64 at1, .int .u64 sd1] 126), some (anyO G6_1), some (rowO 2 1 (.slice A6_4 out.length c6_4) out.length (ints_ out) g6_4)] ∧ (0 ≤ k ∧ k ≤ 8) ∧ (0 ≤ at1) ∧ (at1 + 8 * k ≤ 1000) ∧ ((out.length : Int) + k ≤ 8) ∧ (M.Rng out) ∧ (out.length ≤ c6_4) ∧ (c6_4 ≤ 9223372036854775807) ∧ m = k.toNat) ⟨X5KX, X5AT, X5SD, [], _, _, _, _, rfl, rfl, by constructor <;> omega, zt, zt, by simp only [List.length_nil]; omega, by exact fun a ha => by simp at ha, zu, zu, rfl⟩ ?_
 rintro _ _ u6 _ ⟨k, at1, sd1, out, A6_4, c6_4, g6_4, G6_1, rfl, rfl, hk, ha0, ha1, hl, hR, f6_5, f6_6, rfl⟩ x6
 refine zn ?_
 refine Js.seq <| zS <| Qm rfl <| Qg rfl rfl <| JL.nil ?_
 refine zi (fun h7 h7' => ?_) fun h7 h7' => ?_
 ·
  refine Js.skip <| Js.seq <| Js.block <| Js.region <| Qm rfl <| Qm rfl <| zB 1 sp_ rfl (fun w hb hw => c_spec_l00Src_pick code at1 sd1 8 hb (ok_ hw)) ?_
  rintro _ _ G8 ⟨X8KX, X8AT, X8SD, rfl, rfl, hX8_0, hX8_1, hX8_2, hX8_3⟩
  refine znl ?_
  refine zbs fun b9 => ?_
  refine JL.e (e_append (i := 4) (n' := (out ++ [X8KX]).length) (vs' := ints_ (out ++ [X8KX])) el_26 rfl rfl rfl rfl (src_row (i := 0) und_26 rfl rfl) (by omega) (by omega) ln2_ (by simp [ints_])) ?_
  rintro v11 _ _ ⟨⟨g12, rfl⟩, rfl⟩ _
  refine JL.fact (row_form' (i := 4) rfl) (fun hf13 => ?_)
  obtain ⟨A13, c13, rfl, bl13, bh13⟩ := hf13
  refine znl ?_
  refine Qa rfl <| JL.nil <| Js.blockEnd <| Js.region <| Qm rfl <| Qs rfl rfl <| Qa rfl <| JL.nil ?_
  refine zd [1, 2, 2] rfl fun u14 x14 => ?_
  exact zag ⟨k - 1, X8AT, X8SD, out ++ [X8KX], _, _, _, _, rfl, rfl, zt, zt, zt, by simp; omega, by exact M.Rng.snoc hR (by omega), zu, zu, rfl⟩ (x6.trans x14)
 refine zx ?_
 refine Js.seq <| zS <| Qm rfl <| zB 1 sp_ rfl (fun w hb hw => c_spec_l00Src_pick code at1 sd1 16 hb (ok_ hw)) ?_
 rintro _ _ G15 ⟨X15KX, X15AT, X15SD, rfl, rfl, hX15_0, hX15_1, hX15_2, hX15_3⟩
 refine znl ?_
 refine JL.nil <| Js.block <| zS <| Qe rfl rfl <| Qa rfl <| JL.nil ?_
 refine zi (fun h16 h16' => ?_) fun h16 h16' => ?_
 ·
  refine Js.region <| Qm rfl <| Qm rfl <| zbs fun b17 => ?_
  refine zhl [1] ?_
  refine zB 1 sp_ rfl (fun w hb hw => c_spec_l00Src_among code X15AT X15SD [(-1), 7, 8] hb (ok_ hw) (ints_rowok (xs := [(-1), 7, 8]) (hw.pr (i := 0) rfl)) (r3 := (by simp)) (r4 := (by simp))) ?_
  rintro _ _ G19 ⟨X19KX, X19AT, X19SD, rfl, rfl, hX19_0, hX19_1, hX19_2⟩
  refine znl ?_
  refine zbs fun b20 => ?_
  refine JL.e (e_append (i := 6) (n' := (out ++ [X19KX]).length) (vs' := ints_ (out ++ [X19KX])) el_26 rfl rfl rfl rfl (src_row (i := 0) und_26 rfl rfl) (by omega) (by omega) ln2_ (by simp [ints_])) ?_
  rintro v22 _ _ ⟨⟨g23, rfl⟩, rfl⟩ _
  refine JL.fact (row_form' (i := 6) rfl) (fun hf24 => ?_)
  obtain ⟨A24, c24, rfl, bl24, bh24⟩ := hf24
  refine znl ?_
  refine Qa rfl <| JL.nil <| Js.blockEnd <| zS <| Qm rfl <| Qa rfl <| JL.nil ?_
  exact zro x6 (g := by exact (gv_ex (out ++ [X19KX]) (by first | trivial | assumption | omega | (refine ⟨?_, ?_⟩; (first | assumption | omega | (simp; omega)); first | assumption | exact M.Rng.snoc hR (by omega) | exact M.Rng.snoc hR (M.Rng.of_mem (by assumption) (by decide)) | exact M.Rng.rep _)) gv_))
 refine zS <| Qe rfl rfl <| Qa rfl <| JL.nil ?_
 refine zi (fun h25 h25' => ?_) fun h25 h25' => ?_
 ·
  refine Js.region <| Qm rfl <| zB 1 sp_ rfl (fun w hb hw => c_spec_l00Src_pick code X15AT X15SD 2 hb (ok_ hw)) ?_
  rintro _ _ G26 ⟨X26KX, X26AT, X26SD, rfl, rfl, hX26_0, hX26_1, hX26_2, hX26_3⟩
  refine znl ?_
  refine Qp rfl rfl <| zmk (a0 := 120 + X26KX) (m := (120 + X26KX).toNat) (by omega) (by omega) fun b27 => Qa rfl <| JL.nil <| Js.blockEnd <| zS <| Qm rfl <| Qa rfl <| JL.nil ?_
  exact zro x6 (g := by exact (gv_ex (List.replicate ((120 + X26KX).toNat) 0) (by first | trivial | assumption | omega | (refine ⟨?_, ?_⟩; (first | assumption | omega | (simp; omega)); first | assumption | exact M.Rng.snoc hR (by omega) | exact M.Rng.snoc hR (M.Rng.of_mem (by assumption) (by decide)) | exact M.Rng.rep _)) gv_))
 refine Js.skip <| Js.blockEnd <| zS <| Qm rfl <| Qa rfl <| JL.nil ?_
 exact zro x6 (g := by exact (gv_ex out (by first | trivial | assumption | omega | (refine ⟨?_, ?_⟩; (first | assumption | omega | (simp; omega)); first | assumption | exact M.Rng.snoc hR (by omega) | exact M.Rng.snoc hR (M.Rng.of_mem (by assumption) (by decide)) | exact M.Rng.rep _)) gv_))
theorem c_spec_DrawReadMoves (code : Nat) {v_code : Value} {w : World} (h_code : (Ty.bytes 5 code).ok w v_code) (r0 : code ≤ 1048576 := by exact om_) : Ret Tryz.prog 32 [v_code] w (Ty.ex (fun (TX : List UInt8) => (TX.length ≤ 5000)) (fun TX => Ty.str TX)) := by
 revert v_code; apply opn
 intro A1 c1 h1 bl1 bh1
 have h_code := h1
 refine enter @Tryz.func32 @Tryz.ntmps32 rfl rfl ?_
 refine zent ?_
 refine zS <| Qa rfl <| zN <| Qm rfl <| zcs rfl (fun w hw => c_spec_l00From code (ok_ hw)) ?_
 intro b2
 refine Qa rfl <| zN <| Qm rfl <| zp rfl (fun w hw => c_spec_DrawMovesText code (ok_ hw)) ?_
 intro u3 x3 X4 hX4 A5 c5 h5 bl5 bh5
 have hxl := And.left (by assumption : X4.length ≤ 200 ∧ M.Rng X4)
 have hjl := M.joinM_len X4
 refine zv rfl (fun w hw => c_spec_l10Moves X4 (ok_ hw) (r1 := (And.right (by assumption : _ ≤ 200 ∧ M.Rng _)))) <| Qa rfl <| zN <| Qm rfl <| Qm rfl <| zB 1 sp_ rfl (fun w hb hw => c_spec_l01Spoil code 0 0 (M.joinM X4) hb (ok_ hw)) ?_
 rintro _ _ G6 ⟨X6TX, X6AT, X6SD, rfl, rfl, hX6_0, hX6_1, hX6_2⟩
 refine znl ?_
 refine Qa rfl <| JL.nil ?_
 exact zro x3 (g := by exact (gv_ex X6TX (by first | trivial | assumption | omega) gv_))
end Go.Proofs.YtjdhgkdimanabaaGreatDoor

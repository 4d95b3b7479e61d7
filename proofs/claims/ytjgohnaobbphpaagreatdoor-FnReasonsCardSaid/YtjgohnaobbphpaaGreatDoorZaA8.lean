/- Walks: G4. -/
import Derived.Test.YtjgohnaobbphpaaGreatDoorZaA3
import Derived.Test.YtjgohnaobbphpaaGreatDoorZaA7
import Derived.Test.YtjgohnaobbphpaaGreatDoorZaA5
import Derived.Test.YtjgohnaobbphpaaGreatDoorZaA2
import Derived.Test.YtjgohnaobbphpaaGreatDoorZaA4
set_option linter.unusedSimpArgs false
set_option linter.unusedVariables false
set_option maxRecDepth 100000
attribute [local irreducible] Go.Proofs.YtjgohnaobbphpaaGreatDoor.gv
set_option maxHeartbeats 8000000
namespace Go.Proofs.YtjgohnaobbphpaaGreatDoor
open Go.RowKit
theorem c_impl_Rules_results (r : M.Rul) {v_r : Value} (p : M.Pos) {v_p : Value} {w : World} (h_r : (Ty.agg (cRules r)).ok w v_r) (h_p : (Ty.agg (cPosition p)).ok w v_p) (r0 : M.okP r p = true := by exact om_) : Ret Tryz.prog 140 [v_r, v_p] w (Ty.sl 109 6 (M.results r p).length (lResult (M.results r p))) := by
 obtain ⟨g1, g2, g3, g4, g5, g6, g7⟩ := M.okP_bd r0
 revert v_r; apply opn
 revert v_p; apply opn
 intro A1 c1 h1 bl1 bh1 A2 c2 h2 bl2 bh2
 refine enter @Tryz.func140 @Tryz.ntmps140 rfl rfl ?_
 refine zent ?_
 obtain ⟨b3, o3, rfl⟩ := ints_some h2 (by omega)
 refine zS <| zb rfl fun b4 => zb rfl fun b5 => Qa rfl <| zN <| zbs fun b6 => ?_
 refine Qa rfl <| zJ <| zS <| Qf fh rfl <| Q0 2 rfl rfl rfl <| Qm rfl <| JL.nil <| Js.block ?_
 refine Js.vals (Ts := lResult []) (vs := []) (fun w => rfl) ?_
 refine zl [2, 3, 13] (fun F U l os u m => ∃ (k : Nat) (acc : List M.Res) (A8_5 : Option Addr) (c8_5 : Nat) (g8_5 : List Nat) (vs8_5 : List Value) (fl8_5 : List Nat), l = F [(5, .slice A8_5 acc.length c8_5), (14, .int .i64 (k : Int))] ∧ os = U [some (ownC (lResult acc) vs8_5 fl8_5), some (rowO 109 6 (.slice A8_5 acc.length c8_5) acc.length vs8_5 g8_5)] ∧ (acc = M.resultsTo r p k) ∧ (k ≤ r.pits) ∧ (acc.length ≤ c8_5) ∧ (c8_5 ≤ 9223372036854775807) ∧ m = (r.pits - k).toNat) ⟨0, [], _, _, _, _, _, rfl, rfl, by rfl, zt, zu, zu, rfl⟩ ?_
 rintro _ _ u8 _ ⟨k, acc, A8_5, c8_5, g8_5, vs8_5, fl8_5, rfl, rfl, hacc, hk, f8_2, f8_3, rfl⟩ x8
 refine zn ?_
 have hlen := M.resultsTo_len (r := r) (p := p) k
 have hlacc : acc.length ≤ k := by rw [hacc]; exact hlen
 refine zS <| Ql rfl rfl <| zJ ?_
 refine zi (fun h9 h9' => ?_) fun h9 h9' => ?_
 ·
  refine Js.skip <| Js.seq <| Js.block <| zS <| Qm rfl <| Qa rfl <| zN <| Q9 3 rfl rfl ?_
  refine Q9 2 rfl rfl ?_
  refine Qm rfl <| zc rfl (fun w hw => c_impl_Rules_done r p (k : Int) (ok_ hw) (ok_ hw)) ?_
  intro A12 c12 bl12 bh12 A13 c13 bl13 bh13
  refine Qm rfl <| Qx rfl rfl <| Qx rfl rfl <| za zeh fun b14 => zw 0 rfl rfl rfl ?_
  refine Qa rfl <| zJ <| zS <| Qm rfl <| Qd rfl rfl <| JL.nil ?_
  refine zi (fun h15 h15' => ?_) fun h15 h15' => ?_
  ·
   have hacc2 := (M.resultsTo_no (r := r) (p := p) (k := k) (by simpa using h15)).symm
   refine zx ?_
   refine Js.region <| Qp rfl rfl <| Qm rfl <| JL.nil ?_
   refine zd [3, 3, 3, 3] rfl fun u16 x16 => ?_
   exact zag ⟨k + 1, acc, _, _, _, _, _, rfl, rfl, by rw [hacc]; exact hacc2, zt, zu, zu, rfl⟩ (x8.trans x16)
  have hz : (M.done r p k).2 = 0 := by simpa using h15
  obtain ⟨_, _, _, hG⟩ := M.done_good hz
  have l3 := hG.ls
  have hs1 := hG.store p.player
  have hs2 := (M.Good.of_ok r0).store p.player
  refine Js.fact (row_some (i := 1) rfl (by omega)) (fun hf17 => ?_)
  obtain ⟨b17, rfl⟩ := hf17
  refine Js.skip <| zS <| Qf fh rfl <| Q0 6 rfl rfl rfl <| Qm rfl <| zg (Gd.t1 rfl rfl rfl) (fun hc => p_fieldAddr fld_75_2.h rfl) <| zgq (Gd.t1 rfl rfl rfl) (fun hc => q_load1 ty_2.h (gh hc rfl) (Mem.box (i := 0) rfl rfl)) <| zg (Gd.t1 rfl rfl rfl) (fun hc => p_eql (gh hc rfl) rfl) <| Qq (p_pickAnd rfl rfl rfl) <| Qa rfl <| zN <| Qf fh rfl <| Q0 0 rfl rfl rfl <| Qf fh rfl ?_
  refine Q0 0 rfl rfl rfl <| Qf fh rfl <| Q0 5 rfl rfl rfl <| Qs rfl rfl <| Qb ?_
  refine za zeh fun b18 => zw 0 rfl rfl rfl ?_
  refine zJ <| zS <| Qm rfl <| JL.nil ?_
  refine zi (fun h19 h19' => ?_) fun h19 h19' => ?_
  ·
   have hacc2 := (M.resultsTo_yes hz).symm
   unfold M.resOf at hacc2
   rw [if_pos h19] at hacc2
   refine Js.region <| Qf fh rfl <| Q0 6 rfl rfl rfl <| Qf fh rfl <| zw 0 rfl rfl rfl ?_
   refine JL.nil ?_
   refine zdr [19] ?_
   refine jM 0 rfl rfl ?_
   refine jM 1 rfl rfl ?_
   refine jF 2 fld_75_1 rfl rfl ?_
   refine jB 3 1 ty_26 rfl rfl rfl rfl ?_
   refine jF 4 fld_28_2 rfl rfl ?_
   refine jB 5 6 ty_2 rfl rfl rfl rfl ?_
   refine jI 6 el_26 rfl rfl rfl rfl ?_
   refine JH.q 7 rfl (q_load1 ty_2.h rfl (Mem.row (i := 2) rfl (ints_getI (i := p.player) (by omega)))) ?_
   refine jF 8 fld_28_1 rfl rfl ?_
   refine jB 9 6 ty_26 rfl rfl rfl rfl ?_
   refine jF 10 fld_28_2 rfl rfl ?_
   refine jB 11 6 ty_2 rfl rfl rfl rfl ?_
   refine jI 12 el_26 rfl rfl rfl rfl ?_
   refine JH.w 13 rfl (fun os' u' hv => q_load1 ty_2.h rfl (Mem.pub (ints_cellI (i := p.player) (Ty.mono _ h2 (x8.vis.trans hv)) (by omega)))) ?_
   refine JH.p 14 rfl (p_sub rfl rfl (IntWalk.i64_in _ (by omega))) ?_
   refine jM 15 rfl rfl ?_
   refine JH.q 16 rfl (L9 0 rfl rfl) ?_
   refine JH.p 17 rfl (q_bld) ?_
   refine y1 18 ?_
   refine ybs rfl fun b22 => ?_
   refine y1 19 ?_
   refine JHo.e rfl (e_append (i := 6) (n' := (acc ++ [(M.Res.mk (k : Int) ((M.getI (((M.done r p (k : Int)).1).stores) p.player) - (M.getI p.stores p.player)) (r.again && (decide (((M.done r p (k : Int)).1).last = (-1)))) (M.Pos.mk (((M.done r p (k : Int)).1).pits) (((M.done r p (k : Int)).1).stores) p.player))]).length) (vs' := vs8_5 ++ [.int .i64 (k : Int), .int .i64 ((M.getI (((M.done r p (k : Int)).1).stores) p.player) - (M.getI p.stores p.player)), .bool (r.again && (decide (((M.done r p (k : Int)).1).last = (-1)))), .slice A12 ((((M.done r p (k : Int)).1).pits).length) c12, .slice (some ⟨b17, 0, none⟩) ((((M.done r p (k : Int)).1).stores).length) c13, .int .i64 p.player]) el_103 rfl rfl rfl rfl (src_row (i := 0) und_103 rfl rfl) (by omega) (by omega) ln2_ (rfl)) (.inr rfl) ?_
   rintro v24 _ _ ⟨⟨g25, rfl⟩, rfl⟩ _
   refine JH.fact (row_form' (i := 6) rfl) (fun hf26 => ?_)
   obtain ⟨A26, c26, rfl, bl26, bh26⟩ := hf26
   refine znh ?_
   refine jA 20 rfl rfl ?_
   refine yd ?_
   refine Js.pack2 (i := 4) (j := 3) (cResult (M.Res.mk (k : Int) ((M.getI (((M.done r p (k : Int)).1).stores) p.player) - (M.getI p.stores p.player)) (r.again && (decide (((M.done r p (k : Int)).1).last = (-1)))) (M.Pos.mk (((M.done r p (k : Int)).1).pits) (((M.done r p (k : Int)).1).stores) p.player))) [.int .i64 (k : Int), .int .i64 ((M.getI (((M.done r p (k : Int)).1).stores) p.player) - (M.getI p.stores p.player)), .bool (r.again && (decide (((M.done r p (k : Int)).1).last = (-1)))), .slice A12 ((((M.done r p (k : Int)).1).pits).length) c12, .slice (some ⟨b17, 0, none⟩) ((((M.done r p (k : Int)).1).stores).length) c13, .int .i64 p.player] rfl rfl (fun w h1 h2 => pack_Result (ints_row h1 rfl) (ints_row h2 rfl)) (fun f27 => ?_)
   refine Js.joinL (i := 4) (j := 0) (Vs := lResult (acc ++ [(M.Res.mk (k : Int) ((M.getI (((M.done r p (k : Int)).1).stores) p.player) - (M.getI p.stores p.player)) (r.again && (decide (((M.done r p (k : Int)).1).last = (-1)))) (M.Pos.mk (((M.done r p (k : Int)).1).pits) (((M.done r p (k : Int)).1).stores) p.player))])) rfl rfl (lResult_snoc _ _) (fun f28 => ?_)
   refine zn ?_
   refine Js.blockEnd <| Js.region <| Qp rfl rfl <| Qm rfl <| JL.nil ?_
   refine zd [0, 3, 3, 3] rfl fun u29 x29 => ?_
   exact zag ⟨k + 1, acc ++ [(M.Res.mk (k : Int) ((M.getI (((M.done r p (k : Int)).1).stores) p.player) - (M.getI p.stores p.player)) (r.again && (decide (((M.done r p (k : Int)).1).last = (-1)))) (M.Pos.mk (((M.done r p (k : Int)).1).pits) (((M.done r p (k : Int)).1).stores) p.player))], _, _, _, _, _, rfl, rfl, by rw [hacc]; exact hacc2, zt, zu, zu, rfl⟩ (x8.trans x29)
  have hacc2 := (M.resultsTo_yes hz).symm
  unfold M.resOf at hacc2
  rw [if_neg (by simpa using h19)] at hacc2
  refine Js.skip ?_
  refine zdr [19] ?_
  refine jM 0 rfl rfl ?_
  refine jM 1 rfl rfl ?_
  refine jF 2 fld_75_1 rfl rfl ?_
  refine jB 3 1 ty_26 rfl rfl rfl rfl ?_
  refine jF 4 fld_28_2 rfl rfl ?_
  refine jB 5 6 ty_2 rfl rfl rfl rfl ?_
  refine jI 6 el_26 rfl rfl rfl rfl ?_
  refine JH.q 7 rfl (q_load1 ty_2.h rfl (Mem.row (i := 2) rfl (ints_getI (i := p.player) (by omega)))) ?_
  refine jF 8 fld_28_1 rfl rfl ?_
  refine jB 9 6 ty_26 rfl rfl rfl rfl ?_
  refine jF 10 fld_28_2 rfl rfl ?_
  refine jB 11 6 ty_2 rfl rfl rfl rfl ?_
  refine jI 12 el_26 rfl rfl rfl rfl ?_
  refine JH.w 13 rfl (fun os' u' hv => q_load1 ty_2.h rfl (Mem.pub (ints_cellI (i := p.player) (Ty.mono _ h2 (x8.vis.trans hv)) (by omega)))) ?_
  refine JH.p 14 rfl (p_sub rfl rfl (IntWalk.i64_in _ (by omega))) ?_
  refine jM 15 rfl rfl ?_
  refine JH.q 16 rfl (L9 0 rfl rfl) ?_
  refine JH.p 17 rfl (q_bld) ?_
  refine y1 18 ?_
  refine ybs rfl fun b32 => ?_
  refine y1 19 ?_
  refine JHo.e rfl (e_append (i := 6) (n' := (acc ++ [(M.Res.mk (k : Int) ((M.getI (((M.done r p (k : Int)).1).stores) p.player) - (M.getI p.stores p.player)) (r.again && (decide (((M.done r p (k : Int)).1).last = (-1)))) (M.Pos.mk (((M.done r p (k : Int)).1).pits) (((M.done r p (k : Int)).1).stores) (1 - p.player)))]).length) (vs' := vs8_5 ++ [.int .i64 (k : Int), .int .i64 ((M.getI (((M.done r p (k : Int)).1).stores) p.player) - (M.getI p.stores p.player)), .bool (r.again && (decide (((M.done r p (k : Int)).1).last = (-1)))), .slice A12 ((((M.done r p (k : Int)).1).pits).length) c12, .slice (some ⟨b17, 0, none⟩) ((((M.done r p (k : Int)).1).stores).length) c13, .int .i64 (1 - p.player)]) el_103 rfl rfl rfl rfl (src_row (i := 0) und_103 rfl rfl) (by omega) (by omega) ln2_ (rfl)) (.inr rfl) ?_
  rintro v34 _ _ ⟨⟨g35, rfl⟩, rfl⟩ _
  refine JH.fact (row_form' (i := 6) rfl) (fun hf36 => ?_)
  obtain ⟨A36, c36, rfl, bl36, bh36⟩ := hf36
  refine znh ?_
  refine jA 20 rfl rfl ?_
  refine yd ?_
  refine Js.pack2 (i := 4) (j := 3) (cResult (M.Res.mk (k : Int) ((M.getI (((M.done r p (k : Int)).1).stores) p.player) - (M.getI p.stores p.player)) (r.again && (decide (((M.done r p (k : Int)).1).last = (-1)))) (M.Pos.mk (((M.done r p (k : Int)).1).pits) (((M.done r p (k : Int)).1).stores) (1 - p.player)))) [.int .i64 (k : Int), .int .i64 ((M.getI (((M.done r p (k : Int)).1).stores) p.player) - (M.getI p.stores p.player)), .bool (r.again && (decide (((M.done r p (k : Int)).1).last = (-1)))), .slice A12 ((((M.done r p (k : Int)).1).pits).length) c12, .slice (some ⟨b17, 0, none⟩) ((((M.done r p (k : Int)).1).stores).length) c13, .int .i64 (1 - p.player)] rfl rfl (fun w h1 h2 => pack_Result (ints_row h1 rfl) (ints_row h2 rfl)) (fun f37 => ?_)
  refine Js.joinL (i := 4) (j := 0) (Vs := lResult (acc ++ [(M.Res.mk (k : Int) ((M.getI (((M.done r p (k : Int)).1).stores) p.player) - (M.getI p.stores p.player)) (r.again && (decide (((M.done r p (k : Int)).1).last = (-1)))) (M.Pos.mk (((M.done r p (k : Int)).1).pits) (((M.done r p (k : Int)).1).stores) (1 - p.player)))])) rfl rfl (lResult_snoc _ _) (fun f38 => ?_)
  refine zn ?_
  refine Js.blockEnd <| Js.region <| Qp rfl rfl <| Qm rfl <| JL.nil ?_
  refine zd [0, 3, 3, 3] rfl fun u39 x39 => ?_
  exact zag ⟨k + 1, acc ++ [(M.Res.mk (k : Int) ((M.getI (((M.done r p (k : Int)).1).stores) p.player) - (M.getI p.stores p.player)) (r.again && (decide (((M.done r p (k : Int)).1).last = (-1)))) (M.Pos.mk (((M.done r p (k : Int)).1).pits) (((M.done r p (k : Int)).1).stores) (1 - p.player)))], _, _, _, _, _, rfl, rfl, by rw [hacc]; exact hacc2, zt, zu, zu, rfl⟩ (x8.trans x39)
 have hR : acc = M.results r p := by rw [hacc]; unfold M.results; rw [show k = r.pits.toNat by omega]
 refine zx ?_
 have hq0 : acc = M.results r p := by exact hR
 refine zS <| Qm rfl <| Qa rfl <| JL.nil ?_
 exact zro x8
theorem c_impl_Rules_resultOf (r : M.Rul) {v_r : Value} (p : M.Pos) {v_p : Value} (move : Int) {w : World} (h_r : (Ty.agg (cRules r)).ok w v_r) (h_p : (Ty.agg (cPosition p)).ok w v_p) (r0 : p.pits.length ≤ 4194304 := by exact om_) (r1 : p.stores.length ≤ 4194304 := by exact om_) : Ret Tryz.prog 86 [v_r, v_p, .int .i64 move] w (Ty.tup [Ty.agg (cResult ((M.make r p move).1)), Ty.int ((M.make r p move).2)]) := by
 revert v_r; apply opn
 revert v_p; apply opn
 intro A1 c1 h1 bl1 bh1 A2 c2 h2 bl2 bh2
 refine enter @Tryz.func86 @Tryz.ntmps86 rfl rfl ?_
 refine zent ?_
 refine zS <| zb rfl fun b3 => zb rfl fun b4 => za zeh fun b5 => Qa rfl <| zJ <| zS <| Q9 2 rfl rfl ?_
 refine Q9 1 rfl rfl ?_
 refine Qm rfl <| zv rfl (fun w hw => c_impl_MoveFault r p move (ok_ hw) (ok_ hw)) <| Qa rfl <| zN <| Qm rfl <| Qd rfl rfl <| JL.nil ?_
 refine zi (fun h6 h6' => ?_) fun h6 h6' => ?_
 ·
  have hD := M.make_no (r := r) (p := p) (move := move) (by simpa using h6)
  have hq0 : 0 = ((M.make r p move).1).move := by first | exact hE | (rw [hm]; done) | (rw [hD]; done) | (rw [hD]; rfl)
  have hq1 : 0 = ((M.make r p move).1).gain := by first | exact hE | (rw [hm]; done) | (rw [hD]; done) | (rw [hD]; rfl)
  have hq2 : false = ((M.make r p move).1).again := by first | exact hE | (rw [hm]; done) | (rw [hD]; done) | (rw [hD]; rfl)
  have hq3 : [] = (((M.make r p move).1).next).pits := by first | exact hE | (rw [hm]; done) | (rw [hD]; done) | (rw [hD]; rfl)
  have hq4 : [] = (((M.make r p move).1).next).stores := by first | exact hE | (rw [hm]; done) | (rw [hD]; done) | (rw [hD]; rfl)
  have hq5 : 0 = (((M.make r p move).1).next).player := by first | exact hE | (rw [hm]; done) | (rw [hD]; done) | (rw [hD]; rfl)
  have hq6 : ((M.done r p move).2) = (M.make r p move).2 := by first | exact hE | (rw [hm]; done) | (rw [hD]; done) | (rw [hD]; rfl)
  refine zS <| Qb ?_
  refine Qm rfl <| zw 0 rfl rfl rfl ?_
  refine Qa rfl <| JL.nil ?_
  exact zro (Up.refl _ _)
 have hz : (M.done r p move).2 = 0 := by simpa using h6
 have hm : (M.make r p move).2 = 0 := by rw [M.make_code]; exact hz
 have hok := (M.make_ok hm).1
 refine Js.skip <| Js.seq <| zS <| Q9 2 rfl rfl ?_
 refine Q9 1 rfl rfl ?_
 refine zcs rfl (fun w hw => c_impl_Rules_results r p (ok_ hw) (ok_ hw) (r0 := hok)) ?_
 intro A7 c7 vs7 f7 bl7 bh7
 refine Qz rfl <| Qm rfl <| JL.nil <| Js.block ?_
 refine zl [2, 6, 21, 22] (fun F U l os u m => ∃ (k : Nat), l = F [(23, .int .i64 (k : Int))] ∧ os = U [] ∧ (k ≤ (M.results r p).length) ∧ (∀ (j : Nat) (x : M.Res), j < k → (M.results r p)[j]? = some x → x.move ≠ move) ∧ m = (M.results r p).length - k) ⟨0, rfl, rfl, zt, by exact fun j x hj => absurd hj (by omega), rfl⟩ ?_
 rintro _ _ u8 _ ⟨k, rfl, rfl, hk, hn, rfl⟩ x8
 refine zn ?_
 refine zS <| Ql rfl rfl <| zJ ?_
 refine zi (fun h9 h9' => ?_) fun h9 h9' => ?_
 ·
  refine Js.skip <| Js.seq <| Js.block <| zS ?_
  refine JL.fact (row_some (i := 0) rfl (by omega)) (fun hf11 => ?_)
  obtain ⟨b11, rfl⟩ := hf11
  obtain ⟨y10, hy10⟩ : ∃ x, (M.results r p)[k]? = some x := ⟨_, List.getElem?_eq_getElem (by omega)⟩
  refine JL.fact (fun w hw => elemv_Result (Mem.ownC (i := 1) rfl w hw) hy10) (fun hf10 => ?_)
  obtain ⟨A10_3, c10_3, A10_4, c10_4, he10, bl10_3, bh10_3, bl10_4, bh10_4⟩ := hf10
  refine Qq (p_indexAddr el_103 rfl rfl (by omega) (by omega) rfl) <| Qw (q_loadN ty_109.h rfl (Mem.rowR' (i := 0) rfl he10) rfl rfl) <| za zeh fun b12 => zw 0 rfl rfl rfl ?_
  refine zN <| Qf fh rfl <| Q0 0 rfl rfl rfl <| Qm rfl <| Qe rfl rfl <| JL.nil ?_
  refine zi (fun h13 h13' => ?_) fun h13 h13' => ?_
  ·
   have hE := M.results_get hy10 (by simpa using h13)
   have hm2 := hm.symm
   refine zS <| Q9 0 rfl rfl ?_
   refine zw 3 rfl rfl rfl ?_
   refine Qa rfl <| JL.nil ?_
   refine Js.elemO cResult (i := 2) (xs := (M.results r p)) (fun _ => rfl) rfl hy10 he10 (fun f14 f14a f14b => ?_)
   refine zn ?_
   have hq0 : y10 = (M.make r p move).1 := by first | exact hE | (rw [hm]; done) | (rw [hD]; done) | (rw [hD]; rfl)
   have hq1 : 0 = (M.make r p move).2 := by first | exact hE | (rw [hm]; done) | (rw [hD]; done) | (rw [hD]; rfl)
   exact zro x8
  have hn2 := M.none_step hn hy10 (by simpa using h13)
  refine Js.skip <| Js.blockEnd <| Js.region <| Qp rfl rfl <| Qm rfl <| JL.nil ?_
  refine zd [1, 1, 1, 1, 1] rfl fun u15 x15 => ?_
  exact zag ⟨k + 1, rfl, rfl, zt, by exact hn2, rfl⟩ (x8.trans x15)
 obtain ⟨j, hj, hx, hmv⟩ := M.results_has hm; have h9 := h9; simp at h9; exact absurd hmv (hn j _ (by omega) hx)
theorem c_spec_MoveFault (r : M.Rul) {v_r : Value} (p : M.Pos) {v_p : Value} (move : Int) {w : World} (h_r : (Ty.agg (cRules r)).ok w v_r) (h_p : (Ty.agg (cPosition p)).ok w v_p) (r0 : p.pits.length ≤ 4194304 := by exact om_) (r1 : p.stores.length ≤ 4194304 := by exact om_) : RetV Tryz.prog 41 [v_r, v_p, .int .i64 move] w (.int .i64 ((M.make r p move).2)) := by
 revert v_r; apply opn
 revert v_p; apply opn
 intro A1 c1 h1 bl1 bh1 A2 c2 h2 bl2 bh2
 refine enter @Tryz.func41 @Tryz.ntmps41 rfl rfl ?_
 refine zent ?_
 refine zS <| zb rfl fun b3 => zb rfl fun b4 => Qa rfl <| zN <| Qm rfl <| zp rfl (fun w hw => c_spec_l07Make r p move (ok_ hw) (ok_ hw)) ?_
 intro u5 x5 A6 c6 h6 bl6 bh6 A7 c7 h7 bl7 bh7
 refine Qm rfl <| Qx rfl rfl <| Qx rfl rfl <| za zeh fun b8 => zw 0 rfl rfl rfl ?_
 refine Qa rfl <| zN <| Qm rfl <| Qa rfl <| JL.nil ?_
 exact zr x5
theorem c_spec_l01Dec (n : Int) {w : World} (r0 : -9223372036854775808 ≤ n := by exact om_) (r1 : n ≤ 9223372036854775807 := by exact om_) : RetV Tryz.prog 100 [.int .i64 n] w (.string (sB (M.dec n))) := by
 refine enter @Tryz.func100 @Tryz.ntmps100 rfl rfl ?_
 refine zent ?_
 refine zS <| Qa rfl <| zN <| zbs fun b1 => ?_
 refine Qa rfl <| zJ <| zS <| Qm rfl <| Qa rfl <| JL.nil <| Js.block ?_
 refine zl [0] (fun F U l os u m => ∃ (k : Int) (out : List UInt8) (A3_3 : Option Addr) (c3_3 : Nat) (g3_3 : List Nat), l = F [(3, .slice A3_3 out.length c3_3), (4, .int .i64 k)] ∧ os = U [some (rowO 5 1 (.slice A3_3 out.length c3_3) out.length (byt_ out) g3_3)] ∧ (M.DecI n k out) ∧ (-9223372036854775808 ≤ k) ∧ (k ≤ 9223372036854775807) ∧ (out.length ≤ c3_3) ∧ (c3_3 ≤ 9223372036854775807) ∧ m = k.natAbs) ⟨n, ([] : List UInt8), _, _, _, rfl, rfl, by exact M.DecI.zero n, zt, zt, zu, zu, rfl⟩ ?_
 rintro _ _ u3 _ ⟨k, out, A3_3, c3_3, g3_3, rfl, rfl, hD, hk0, hk1, f3_3, f3_4, rfl⟩ x3
 refine zn ?_
 obtain ⟨t1, t2, t3, t4⟩ := M.tdiv10_bd hk0 hk1
 have hol := hD.len r0 r1
 obtain ⟨t5, t6⟩ := M.tdiv10 k
 refine Js.seq <| zS <| Qm rfl <| Qd rfl rfl <| JL.nil ?_
 refine zi (fun h4 h4' => ?_) fun h4 h4' => ?_
 ·
  have hkn : k ≠ 0 := by simpa using h4
  refine Js.skip <| Js.seq <| Js.block <| zS <| Qm rfl <| Qq (p_rem rfl rfl (by omega) rfl) <| Qa rfl <| zJ <| zS <| Qm rfl <| Ql rfl rfl <| JL.nil ?_
  refine zi (fun h5 h5' => ?_) fun h5 h5' => ?_
  ·
   have hd9 := h5'
   have hD2 := hD.step (d := -k.tmod 10) hkn (by omega)
   have hu8 : ((M.u8 (48 + (-(k.tmod 10)))).toNat : Int) = 48 + (-(k.tmod 10)) := M.u8_val (by omega) (by omega)
   refine Js.region <| Qm rfl <| Qq (p_neg (r := -(k.tmod 10)) rfl (by rw [Int.zero_sub]; exact IntWalk.i64_in _ (by omega))) <| Qa rfl <| zG <| Qm rfl <| Qp rfl rfl <| Qq (p_conv @Tryz.underlying2 @Tryz.underlying5 rfl (IntWalk.u8_in _ (by omega))) <| zbs fun b6 => ?_
   refine Qm rfl ?_
   refine JL.e (e_append (i := 0) (n' := (([M.u8 (48 + (-(k.tmod 10)))] : List UInt8) ++ out).length) (vs' := byt_ (([M.u8 (48 + (-(k.tmod 10)))] : List UInt8) ++ out)) el_22 rfl rfl rfl rfl (src_rowG (i := 1) und_22 rfl (byt_one _)) (by omega) (by omega) ln2_ (by first | rfl | (simp [byt_, hu8]; done))) ?_
   rintro v9 _ _ ⟨⟨g10, rfl⟩, rfl⟩ _
   refine JL.fact (row_form' (i := 0) rfl) (fun hf11 => ?_)
   obtain ⟨A11, c11, rfl, bl11, bh11⟩ := hf11
   refine znl ?_
   refine Qa rfl <| JL.nil <| Js.blockEnd <| Js.region <| Qm rfl <| Qq (p_quo rfl rfl (by omega) (IntWalk.i64_in _ (by omega))) <| Qa rfl <| JL.nil ?_
   refine zd [0] rfl fun u12 x12 => ?_
   exact zag ⟨k.tdiv 10, ([M.u8 (48 + (-(k.tmod 10)))] : List UInt8) ++ out, _, _, _, rfl, rfl, by exact hD2, zt, zt, zu, zu, rfl⟩ (x3.trans x12)
  have hd9 := h5'
  have hD2 := hD.step (d := k.tmod 10) hkn (by omega)
  have hu15 : ((M.u8 (48 + (k.tmod 10))).toNat : Int) = 48 + (k.tmod 10) := M.u8_val (by omega) (by omega)
  refine Js.skip <| Js.region <| Qm rfl <| Qp rfl rfl <| Qq (p_conv @Tryz.underlying2 @Tryz.underlying5 rfl (IntWalk.u8_in _ (by omega))) <| zbs fun b13 => ?_
  refine Qm rfl ?_
  refine JL.e (e_append (i := 0) (n' := (([M.u8 (48 + (k.tmod 10))] : List UInt8) ++ out).length) (vs' := byt_ (([M.u8 (48 + (k.tmod 10))] : List UInt8) ++ out)) el_22 rfl rfl rfl rfl (src_rowG (i := 1) und_22 rfl (byt_one _)) (by omega) (by omega) ln2_ (by first | rfl | (simp [byt_, hu15]; done))) ?_
  rintro v16 _ _ ⟨⟨g17, rfl⟩, rfl⟩ _
  refine JL.fact (row_form' (i := 0) rfl) (fun hf18 => ?_)
  obtain ⟨A18, c18, rfl, bl18, bh18⟩ := hf18
  refine znl ?_
  refine Qa rfl <| JL.nil <| Js.blockEnd <| Js.region <| Qm rfl <| Qq (p_quo rfl rfl (by omega) (IntWalk.i64_in _ (by omega))) <| Qa rfl <| JL.nil ?_
  refine zd [0] rfl fun u19 x19 => ?_
  exact zag ⟨k.tdiv 10, ([M.u8 (48 + (k.tmod 10))] : List UInt8) ++ out, _, _, _, rfl, rfl, by exact hD2, zt, zt, zu, zu, rfl⟩ (x3.trans x19)
 have hk9 : k = 0 := by simpa using h4
 subst hk9
 refine zx ?_
 refine Js.seq <| zS <| Qm rfl <| Qz rfl <| Qe rfl rfl <| JL.nil ?_
 refine zi (fun h20 h20' => ?_) fun h20 h20' => ?_
 ·
  have hE := hD.done0 (by have := h20'; omega) r0 r1
  refine zS <| Qa rfl <| JL.nil ?_
  refine zR x3 ?_
  rw [hE]; rfl
 have hl9 : out.length ≠ 0 := by have := h20'; omega
 have lb9 : LenB out 20 := ⟨hol⟩
 refine Js.skip <| Js.seq <| zS <| Qm rfl <| Ql rfl rfl <| JL.nil ?_
 refine zi (fun h21 h21' => ?_) fun h21 h21' => ?_
 ·
  have hE := hD.neg hl9 (by simpa using h21) r0 r1
  refine zS <| Qm rfl <| Qw (q_toStr (i := 0) und_22 @Tryz.underlying5 und_9 rfl rfl) <| Qq (q_cat rfl rfl) <| Qa rfl <| JL.nil ?_
  refine zR x3 ?_
  rw [hE]; rfl
 have hE := hD.pos hl9 (by simpa using h21) r0 r1
 refine Js.skip <| zS <| Qm rfl <| Qw (q_toStr (i := 0) und_22 @Tryz.underlying5 und_9 rfl rfl) <| Qa rfl <| JL.nil ?_
 refine zR x3 ?_
 rw [hE]; rfl
theorem c_spec_l00Src_textL (s_code : Nat) (s_at s_seed : Int) {As_0 : Option Addr} {cs_0 : Nat} (list : List (List UInt8)) {v_list : Value} {bs : Nat} {w : World} (hb : Bw w [boxO bs [.slice As_0 s_code cs_0, .int .i64 s_at, .int .u64 s_seed] 141]) (hps_0 : (Ty.bytes 5 s_code).ok (offW w (([boxO bs [.slice As_0 s_code cs_0, .int .i64 s_at, .int .u64 s_seed] 141] : List Own).flatMap (·.fp))) (.slice As_0 s_code cs_0)) (h_list : (Ty.strs 9 list).ok (offW w (([boxO bs [.slice As_0 s_code cs_0, .int .i64 s_at, .int .u64 s_seed] 141] : List Own).flatMap (·.fp))) v_list) (r0 : 0 ≤ s_at := by exact om_) (r1 : s_at ≤ 999999998 := by exact om_) (r2 : s_code ≤ 1048576 := by exact om_) (r3 : 1 ≤ list.length := by exact om_) (r4 : list.length ≤ 1000 := by exact om_) (r5 : ∀ x ∈ list, x.length ≤ 8 := by exact om_) : RetB Tryz.prog 111 [.pointer (some ⟨bs, 0, none⟩), v_list] w [boxO bs [.slice As_0 s_code cs_0, .int .i64 s_at, .int .u64 s_seed] 141] (fun v bs' => ∃ (TX : List UInt8) (AT SD : Int), v = .string (sB TX) ∧ bs' = [boxO bs [.slice As_0 s_code cs_0, .int .i64 AT, .int .u64 SD] 141] ∧ (LenB TX 8) ∧ (s_at ≤ AT) ∧ (AT ≤ s_at + 2)) := by
 revert v_list; apply opn
 intro A1 c1 h1 bl1 bh1
 have h_list := h1
 refine enterB hb @Tryz.func111 @Tryz.ntmps111 rfl rfl ?_
 refine zent ?_
 refine Js.trashE ?_
 refine zn ?_
 refine zS <| Qa rfl <| zN <| Qm rfl <| Qm rfl <| Qm rfl <| Qz rfl <| zBB 1 sp_ rfl (fun w hb _ hw => c_spec_l00Src_pick s_code s_at s_seed (list.length : Int) hb (ok_ hw)) ?_
 rintro _ _ G2 ⟨X2KX, X2AT, X2SD, rfl, rfl, hX2_0, hX2_1, hX2_2, hX2_3⟩
 refine znl ?_
 obtain ⟨y3, hy3⟩ : ∃ x, list[X2KX.toNat]? = some x := ⟨_, List.getElem?_eq_getElem (by omega)⟩
 obtain ⟨b3, o3, he3, hc3⟩ := strs_elem h1 hy3
 refine Qq (p_indexAddr el_31 rfl rfl (by omega) (by omega) he3) <| QC hc3 rfl <| Qa rfl <| JL.nil ?_
 refine zrb [0] hb (Up.refl _ _) ?_
 refine ⟨(y3), (X2AT), (X2SD), rfl, ?_, by first | trivial | omega | exact ⟨r5 _ (List.mem_of_getElem? (by assumption))⟩, by first | trivial | omega | exact ⟨r5 _ (List.mem_of_getElem? (by assumption))⟩, by first | trivial | omega | exact ⟨r5 _ (List.mem_of_getElem? (by assumption))⟩⟩
 · rfl
theorem c_spec_l01Spoil (s_code : Nat) (s_at s_seed : Int) {As_0 : Option Addr} {cs_0 : Nat} (t : List UInt8) {bs : Nat} {w : World} (hb : Bw w [boxO bs [.slice As_0 s_code cs_0, .int .i64 s_at, .int .u64 s_seed] 141]) (hps_0 : (Ty.bytes 5 s_code).ok (offW w (([boxO bs [.slice As_0 s_code cs_0, .int .i64 s_at, .int .u64 s_seed] 141] : List Own).flatMap (·.fp))) (.slice As_0 s_code cs_0)) (r0 : 0 ≤ s_at := by exact om_) (r1 : s_at ≤ 999999992 := by exact om_) (r2 : s_code ≤ 1048576 := by exact om_) (r3 : t.length ≤ 900000 := by exact om_) : RetB Tryz.prog 54 [.pointer (some ⟨bs, 0, none⟩), .string (sB t)] w [boxO bs [.slice As_0 s_code cs_0, .int .i64 s_at, .int .u64 s_seed] 141] (fun v bs' => ∃ (TX : List UInt8) (AT SD : Int), v = .string (sB TX) ∧ bs' = [boxO bs [.slice As_0 s_code cs_0, .int .i64 AT, .int .u64 SD] 141] ∧ (TX.length ≤ t.length + 8) ∧ (s_at ≤ AT) ∧ (AT ≤ s_at + 8)) := by
 have lbt : LenB t 900000 := ⟨by omega⟩
 refine enterB hb @Tryz.func54 @Tryz.ntmps54 rfl rfl ?_
 refine zent ?_
 refine Js.trashE ?_
 refine zn ?_
 refine zS <| Qa rfl <| zJ <| zS <| Qm rfl <| zBB 1 sp_ rfl (fun w hb _ hw => c_spec_l00Src_pick s_code s_at s_seed 5 hb (ok_ hw)) ?_
 rintro _ _ G1 ⟨X1KX, X1AT, X1SD, rfl, rfl, hX1_0, hX1_1, hX1_2, hX1_3⟩
 refine znl ?_
 refine JL.nil ?_
 refine zf [0] fun GG2 => ?_
 refine zn ?_
 refine Js.block <| zS <| Qe rfl rfl <| Qa rfl <| JL.nil ?_
 refine zi (fun h3 h3' => ?_) fun h3 h3' => ?_
 ·
  refine zS <| Qm rfl <| Qm rfl <| Qq (p_lenS und_9 rfl) <| Qp rfl rfl <| zBB 1 sp_ rfl (fun w hb _ hw => c_spec_l00Src_pick s_code X1AT X1SD ((t.length : Int) + 1) hb (ok_ hw)) ?_
  rintro _ _ G4 ⟨X4KX, X4AT, X4SD, rfl, rfl, hX4_0, hX4_1, hX4_2, hX4_3⟩
  refine znl ?_
  refine Qa rfl <| JL.nil ?_
  refine zf [0] fun GG5 => ?_
  refine zn ?_
  refine zdr [5] ?_
  refine jM 0 rfl rfl ?_
  refine jM 1 rfl rfl ?_
  refine JH.p 2 rfl (p_takeS (i := X4KX.toNat) und_9 rfl (by rw [Int.toNat_of_nonneg (by omega)]; exact rfl) (by omega)) ?_
  refine jM 3 rfl rfl ?_
  refine jM 7 rfl rfl ?_
  refine jM 8 rfl rfl ?_
  refine JH.p 9 rfl (p_dropS (i := X4KX.toNat) und_9 rfl (by rw [Int.toNat_of_nonneg (by omega)]; exact rfl) (by omega)) ?_
  refine y1 4 ?_
  refine ybs rfl fun b6 => ?_
  refine y1 5 ?_
  refine zhh [1] ?_
  refine yBB 1 sp_ rfl rfl (fun w hb _ hw => c_spec_l00Src_textL s_code X4AT X4SD ([([32] : List UInt8), ([48] : List UInt8), ([45] : List UInt8), ([120] : List UInt8), ([49] : List UInt8), ([57] : List UInt8), ([46] : List UInt8)]) hb (ok_ hw) (strs_rowok (xs := ([([32] : List UInt8), ([48] : List UInt8), ([45] : List UInt8), ([120] : List UInt8), ([49] : List UInt8), ([57] : List UInt8), ([46] : List UInt8)])) (hw.pr (i := 0) rfl)) (r3 := (by decide)) (r4 := (by decide)) (r5 := (by decide))) ?_
  rintro _ _ G8 ⟨X8TX, X8AT, X8SD, rfl, rfl, hX8_0, hX8_1, hX8_2⟩
  refine znh ?_
  refine JH.p 6 rfl (q_cat rfl rfl) ?_
  refine JH.p 10 rfl (q_cat rfl rfl) ?_
  refine jA 11 rfl rfl ?_
  refine yd ?_
  refine zf [0] fun GG9 => ?_
  refine zn ?_
  refine Js.blockEnd <| zS <| Qm rfl <| Qa rfl <| JL.nil ?_
  refine zrb [0] hb (Up.refl _ _) ?_
  refine ⟨(((t.take X4KX.toNat) ++ X8TX) ++ (t.drop X4KX.toNat)), (X8AT), (X8SD), rfl, ?_, by first | trivial | assumption | omega | (simp only [List.length_append, List.length_take, List.length_drop, List.length_cons, List.length_nil]; omega) | (simp only [List.length_append, List.length_take, List.length_drop]; have h9 := (by assumption : LenB _ 8).h; omega), by first | trivial | assumption | omega | (simp only [List.length_append, List.length_take, List.length_drop, List.length_cons, List.length_nil]; omega) | (simp only [List.length_append, List.length_take, List.length_drop]; have h9 := (by assumption : LenB _ 8).h; omega), by first | trivial | assumption | omega | (simp only [List.length_append, List.length_take, List.length_drop, List.length_cons, List.length_nil]; omega) | (simp only [List.length_append, List.length_take, List.length_drop]; have h9 := (by assumption : LenB _ 8).h; omega)⟩
  · rfl
 refine zS <| Qe rfl rfl <| Qa rfl <| JL.nil ?_
 refine zi (fun h10 h10' => ?_) fun h10 h10' => ?_
 ·
  refine zS <| Qm rfl <| Qq (p_neqT und_9 rfl rfl) <| JL.nil ?_
  refine zi (fun h11 h11' => ?_) fun h11 h11' => ?_
  ·
   have ht0 : 0 < t.length := List.length_pos_iff.2 (by simpa using h11)
   refine zS <| Qm rfl <| Qm rfl <| Qq (p_lenS und_9 rfl) <| zBB 1 sp_ rfl (fun w hb _ hw => c_spec_l00Src_pick s_code X1AT X1SD (t.length : Int) hb (ok_ hw)) ?_
   rintro _ _ G12 ⟨X12KX, X12AT, X12SD, rfl, rfl, hX12_0, hX12_1, hX12_2, hX12_3⟩
   refine znl ?_
   refine Qa rfl <| JL.nil ?_
   refine zf [0] fun GG13 => ?_
   refine zn ?_
   refine zdr [] ?_
   refine jM 0 rfl rfl ?_
   refine jM 1 rfl rfl ?_
   refine JH.p 2 rfl (p_takeS (i := X12KX.toNat) und_9 rfl (by rw [Int.toNat_of_nonneg (by omega)]; exact rfl) (by omega)) ?_
   refine jM 3 rfl rfl ?_
   refine jM 4 rfl rfl ?_
   refine JH.p 5 rfl (p_add rfl rfl (IntWalk.i64_in _ (by omega))) ?_
   refine JH.p 6 rfl (p_dropS (i := (X12KX + 1).toNat) und_9 rfl (by rw [Int.toNat_of_nonneg (by omega)]; exact rfl) (by omega)) ?_
   refine JH.p 7 rfl (q_cat rfl rfl) ?_
   refine jA 8 rfl rfl ?_
   refine yd ?_
   refine Js.blockEnd <| zS <| Qm rfl <| Qa rfl <| JL.nil ?_
   refine zrb [0] hb (Up.refl _ _) ?_
   refine ⟨((t.take X12KX.toNat) ++ (t.drop ((X12KX + 1).toNat))), (X12AT), (X12SD), rfl, ?_, by first | trivial | assumption | omega | (simp only [List.length_append, List.length_take, List.length_drop, List.length_cons, List.length_nil]; omega) | (simp only [List.length_append, List.length_take, List.length_drop]; have h9 := (by assumption : LenB _ 8).h; omega), by first | trivial | assumption | omega | (simp only [List.length_append, List.length_take, List.length_drop, List.length_cons, List.length_nil]; omega) | (simp only [List.length_append, List.length_take, List.length_drop]; have h9 := (by assumption : LenB _ 8).h; omega), by first | trivial | assumption | omega | (simp only [List.length_append, List.length_take, List.length_drop, List.length_cons, List.length_nil]; omega) | (simp only [List.length_append, List.length_take, List.length_drop]; have h9 := (by assumption : LenB _ 8).h; omega)⟩
   · rfl
  refine Js.skip <| Js.blockEnd <| zS <| Qm rfl <| Qa rfl <| JL.nil ?_
  refine zrb [0] hb (Up.refl _ _) ?_
  refine ⟨(t), (X1AT), (X1SD), rfl, ?_, by first | trivial | assumption | omega | (simp only [List.length_append, List.length_take, List.length_drop, List.length_cons, List.length_nil]; omega) | (simp only [List.length_append, List.length_take, List.length_drop]; have h9 := (by assumption : LenB _ 8).h; omega), by first | trivial | assumption | omega | (simp only [List.length_append, List.length_take, List.length_drop, List.length_cons, List.length_nil]; omega) | (simp only [List.length_append, List.length_take, List.length_drop]; have h9 := (by assumption : LenB _ 8).h; omega), by first | trivial | assumption | omega | (simp only [List.length_append, List.length_take, List.length_drop, List.length_cons, List.length_nil]; omega) | (simp only [List.length_append, List.length_take, List.length_drop]; have h9 := (by assumption : LenB _ 8).h; omega)⟩
  · rfl
 refine Js.skip <| Js.blockEnd <| zS <| Qm rfl <| Qa rfl <| JL.nil ?_
 refine zrb [0] hb (Up.refl _ _) ?_
 refine ⟨(t), (X1AT), (X1SD), rfl, ?_, by first | trivial | assumption | omega | (simp only [List.length_append, List.length_take, List.length_drop, List.length_cons, List.length_nil]; omega) | (simp only [List.length_append, List.length_take, List.length_drop]; have h9 := (by assumption : LenB _ 8).h; omega), by first | trivial | assumption | omega | (simp only [List.length_append, List.length_take, List.length_drop, List.length_cons, List.length_nil]; omega) | (simp only [List.length_append, List.length_take, List.length_drop]; have h9 := (by assumption : LenB _ 8).h; omega), by first | trivial | assumption | omega | (simp only [List.length_append, List.length_take, List.length_drop, List.length_cons, List.length_nil]; omega) | (simp only [List.length_append, List.length_take, List.length_drop]; have h9 := (by assumption : LenB _ 8).h; omega)⟩
 · rfl
theorem c_spec_l11Sow (list : List M.Fct) {Alist_0 : Option Addr} {clist_0 : Nat} {glist_0 : List Nat} (begin place : Int) {w : World} (hb : Bw w [rowO 37 3 (.slice Alist_0 list.length clist_0) list.length (fltV vcFact list) glist_0]) (bd0 : list.length ≤ clist_0 := by exact om_) (bd1 : clist_0 ≤ 9223372036854775807 := by exact om_) (r0 : 0 ≤ begin := by exact om_) (r1 : begin ≤ (list.length : Int) := by exact om_) (r2 : list.length ≤ 100000 := by exact om_) (r3 : M.CB list 100000 := by exact om_) : RetB Tryz.prog 150 [.slice Alist_0 list.length clist_0, .int .i64 begin, .int .i64 place] w [rowO 37 3 (.slice Alist_0 list.length clist_0) list.length (fltV vcFact list) glist_0] (fun v bs' => ∃ (Axr : Option Addr) (cxr : Nat) (gxr : List Nat), v = .slice Axr ((M.sowL list begin.toNat place).length) cxr ∧ bs' = [rowO 37 3 (.slice Axr ((M.sowL list begin.toNat place).length) cxr) ((M.sowL list begin.toNat place).length) (fltV vcFact (M.sowL list begin.toNat place)) gxr] ∧ (M.sowL list begin.toNat place).length ≤ cxr ∧ cxr ≤ 9223372036854775807) := by
 have hsl := M.sowL_len list begin.toNat place
 refine enterB hb @Tryz.func150 @Tryz.ntmps150 rfl rfl ?_
 refine zent ?_
 refine Js.trashE ?_
 refine zn ?_
 refine zS <| Qa rfl <| zJ <| zS <| Qm rfl <| Qa rfl <| JL.nil <| Js.block ?_
 refine zl [0, 2] (fun F U l os u m => ∃ (i : Int) (G1_1 : List Nat), l = F [(7, .int .i64 i)] ∧ os = U [nO, some (anyO G1_1)] ∧ (M.NoF list begin.toNat i.toNat place) ∧ (begin ≤ i) ∧ (i ≤ (list.length : Int)) ∧ m = list.length - i.toNat) ⟨begin, _, rfl, rfl, by exact M.NoF.zero _ _ _, by omega, zt, rfl⟩ ?_
 rintro _ _ u1 _ ⟨i, G1_1, rfl, rfl, hN, hbi, hil, rfl⟩ x1
 refine zn ?_
 refine Js.seq <| zS <| Qm rfl <| Qm rfl <| Qz rfl <| Ql rfl rfl <| JL.nil ?_
 refine zi (fun h2 h2' => ?_) fun h2 h2' => ?_
 ·
  have hi9 : i.toNat < list.length := by have := h2'; omega
  have hcb := r3.fct hi9
  refine Js.skip <| Js.seq <| Js.block <| zS <| Qm rfl <| Qm rfl ?_
  refine JL.fact (row_some (i := 0) rfl len_) (fun hf4 => ?_)
  obtain ⟨b4, rfl⟩ := hf4
  have hy3 : list[i.toNat]? = some (M.fct list i.toNat) := M.fct_get len_
  refine Qq (p_indexAddr el_43 rfl rfl len_ len_ rfl) <| Qf fh rfl <| Qw (q_load1 ty_2.h rfl (fun w hw => (Mem.rowR' (i := 0) rfl (fltV_at (C := vcFact) (fun _ => rfl) hy3) w hw) 1 _ rfl)) <| Qm rfl <| Qe rfl rfl <| JL.nil ?_
  refine zi (fun h5 h5' => ?_) fun h5 h5' => ?_
  ·
   have hE := M.sowL_hit hN (by omega) hi9 (by simpa using h5)
   have hy6 : list[i.toNat]? = some (M.fct list i.toNat) := M.fct_get len_
   have hy7 : list[i.toNat]? = some (M.fct list i.toNat) := M.fct_get len_
   refine zS <| Qm rfl <| Qm rfl <| Qq (p_indexAddr el_43 rfl rfl len_ len_ rfl) <| Qf fh rfl <| Qw (q_load1 ty_2.h rfl (fun w hw => (Mem.rowR' (i := 0) rfl (fltV_at (C := vcFact) (fun _ => rfl) hy6) w hw) 2 _ rfl)) <| Qp rfl rfl <| Qq (p_indexAddr el_43 rfl rfl len_ len_ rfl) <| Qf fh rfl ?_
   refine JL.s (e_storeRow (i := 0) (xs' := fltV vcFact (list.set i.toNat (M.Fct.mk ((M.fct list i.toNat).kind) ((M.fct list i.toNat).place) (((M.fct list i.toNat).count) + 1)))) ty_2.h rfl rfl rfl rfl rfl rfl (fltV_lt (C := vcFact) (j := 2) (fun _ => rfl) len_ (by decide)) (fltV_cell (C := vcFact) (j := 2) (y' := (M.Fct.mk ((M.fct list i.toNat).kind) ((M.fct list i.toNat).place) (((M.fct list i.toNat).count) + 1))) (fun _ => rfl) hy7 (by decide) rfl)) ?_
   rintro _ _ _ ⟨rfl, rfl⟩ _
   refine znl ?_
   refine zN <| Qm rfl <| Qa rfl <| JL.nil ?_
   refine zrb [0] hb x1 ?_
   have hN1 : (M.sowL list begin.toNat place).length = list.length := by first | rfl | (rw [← hE]; done) | (rw [← hE]; exact List.length_set) | (rw [← hE]; simp)
   have hE1 : (M.sowL list begin.toNat place) = list.set i.toNat (M.Fct.mk ((M.fct list i.toNat).kind) ((M.fct list i.toNat).place) (((M.fct list i.toNat).count) + 1)) := by first | exact hE.symm | (rw [← hE]; done) | (rw [← hE]; rfl)
   refine ⟨(some ⟨b4, 0, none⟩), clist_0, glist_0, (by first | rfl | (rw [hN1]; done) | (rw [hN1]; rfl) | (rw [hE1]; done) | (rw [hE1]; rfl)), ?_, ?_, ?_⟩
   · rw [hN1, hE1]
   all_goals (first | (rw [hN1, hE1]; omega) | omega | (simp only [*]; omega) | (simp; done))
  have hN2 := hN.step (by simpa using h5)
  refine Js.skip <| Js.blockEnd <| Js.region <| Qm rfl <| Qp rfl rfl <| Qa rfl <| JL.nil ?_
  exact zag ⟨i + 1, _, rfl, rfl, by rw [show (i + 1).toNat = i.toNat + 1 by omega]; exact hN2, by omega, by omega, rfl⟩ x1
 have hE := M.sowL_miss hN (by omega) (by have := h2'; omega)
 refine zx ?_
 refine zS <| Qm rfl <| Qm rfl <| Qb ?_
 refine zbs fun b8 => ?_
 refine JL.e (e_append (i := 1) (n' := (list ++ [(M.Fct.mk 2 place 1)]).length) (vs' := fltV vcFact (list ++ [(M.Fct.mk 2 place 1)])) el_43 rfl rfl rfl rfl (src_row (i := 0) und_43 rfl rfl) (by omega) (by omega) ln2_ (by first | rfl | exact fltV_app _ _ _ | exact fltV_snoc _ _ _ | (simp [fltV]; done))) ?_
 rintro v10 _ _ ⟨⟨g11, rfl⟩, rfl⟩ _
 refine JL.fact (row_form' (i := 1) rfl) (fun hf12 => ?_)
 obtain ⟨A12, c12, rfl, bl12, bh12⟩ := hf12
 refine znl ?_
 refine Qa rfl <| JL.nil ?_
 refine zrb [1] hb x1 ?_
 have hN1 : (M.sowL list begin.toNat place).length = (list ++ [(M.Fct.mk 2 place 1)]).length := by first | rfl | (rw [← hE]; done) | (rw [← hE]; exact List.length_set) | (rw [← hE]; simp)
 have hE1 : (M.sowL list begin.toNat place) = list ++ [(M.Fct.mk 2 place 1)] := by first | exact hE.symm | (rw [← hE]; done) | (rw [← hE]; rfl)
 refine ⟨A12, c12, g11, (by first | rfl | (rw [hN1]; done) | (rw [hN1]; rfl) | (rw [hE1]; done) | (rw [hE1]; rfl)), ?_, ?_, ?_⟩
 · rw [hN1, hE1]
 all_goals (first | (rw [hN1, hE1]; omega) | omega | (simp only [*]; omega) | (simp; done))
theorem c_spec_l11Laps (r : M.Rul) {v_r : Value} (p : M.Pos) {v_p : Value} (move : Int) {w : World} (h_r : (Ty.ref (cRules r)).ok w v_r) (h_p : (Ty.ref (cPosition p)).ok w v_p) (r0 : (M.sowMove r p move).1 = 0 := by exact om_) (r1 : p.pits.length ≤ 4194304 := by exact om_) (r2 : p.stores.length ≤ 4194304 := by exact om_) : Ret Tryz.prog 96 [v_r, v_p, .int .i64 move] w (Ty.sl 37 3 (M.lapsF r p move).length (lFact (M.lapsF r p move))) := by
 obtain ⟨hok, m0, m1, hG, q0, q1, hsum⟩ := M.sowMove_ok r0
 obtain ⟨g1, g2, g3, g4, g5, g6, g7⟩ := M.okP_bd hok
 have hq := M.mul_bd g7 g1 g2
 have hpl := M.path_len r0
 revert v_r; apply opn
 intro b1 o1 hr1
 revert v_p; apply opn
 intro b4 o4 A2 c2 h2 bl2 bh2 A3 c3 h3 bl3 bh3 hr4
 refine enter @Tryz.func96 @Tryz.ntmps96 rfl rfl ?_
 refine zent ?_
 refine zS <| Qa rfl <| zN <| zbs fun b5 => ?_
 refine Qa rfl <| zN <| Qm rfl <| Qm rfl <| Qm rfl <| zp rfl (fun w hw => c_spec_l05Move r p move (ok_ hw) (ok_ hw)) ?_
 intro u7 x7 A8 c8 h8 bl8 bh8 A9 c9 h9 bl9 bh9 A10 c10 h10 bl10 bh10
 refine Qm rfl <| Qx rfl rfl <| Qx rfl rfl <| Qx rfl rfl <| za zeh fun b11 => zw 0 rfl rfl rfl ?_
 refine Qa rfl <| Qa rfl <| zN <| Qm rfl <| Qc rfl <| Qf fh rfl <| QC ((hr4.vis x7.vis) 0 _ rfl) rfl <| zcs rfl (fun w hw => c_spec_l00Own p.pits (ok_ hw)) ?_
 intro A12 c12 bl12 bh12
 refine Qa rfl <| zJ ?_
 refine zdr [] ?_
 refine jM 0 rfl rfl ?_
 refine jN 1 rfl rfl ?_
 refine jF 2 fld_28_2 rfl rfl ?_
 refine jW 3 ty_2 rfl rfl (fun hv => (hr4.vis (x7.vis.trans hv)) 2 _ rfl) ?_
 refine jM 4 rfl rfl ?_
 refine jN 5 rfl rfl ?_
 refine jF 6 fld_25_0 rfl rfl ?_
 refine jW 7 ty_2 rfl rfl (fun hv => (hr1.vis (x7.vis.trans hv)) 0 _ rfl) ?_
 refine JH.p 8 rfl (p_mul rfl rfl (IntWalk.i64_in _ (by omega))) ?_
 refine jM 9 rfl rfl ?_
 refine JH.p 10 rfl (p_add rfl rfl (IntWalk.i64_in _ (by omega))) ?_
 refine jA 11 rfl rfl ?_
 refine yd ?_
 refine zS <| Qa rfl <| zN <| Qa rfl <| zJ <| zS <| Qa rfl <| JL.nil <| Js.block ?_
 refine zl [9, 11] (fun F U l os u m => ∃ (i b9 : Nat) (frm left : Int) (ps : List Int) (out d c : List M.Fct) (A13_7 : Option Addr) (c13_7 : Nat) (g13_7 : List Nat), l = F [(7, .slice A13_7 out.length c13_7), (12, .int .i64 frm), (13, .int .i64 left), (14, .int .i64 (b9 : Int)), (15, .int .i64 (i : Int))] ∧ os = U [some (rowO 2 1 (.slice A12 p.pits.length c12) p.pits.length (ints_ ps) []), nO, some (rowO 37 3 (.slice A13_7 out.length c13_7) out.length (fltV vcFact out) g13_7)] ∧ (M.lsteps (M.lap0 p (p.player * r.pits + move)) ((M.sowMove r p move).2.2.take i) = ⟨ps, frm, left, d, c⟩) ∧ (out = d ++ c) ∧ (i ≤ (M.sowMove r p move).2.2.length) ∧ (¬ left = 0 → b9 = d.length) ∧ (b9 ≤ out.length) ∧ (M.CB out (96 + (i : Int))) ∧ (out.length ≤ 2 * i) ∧ (out.length ≤ c13_7) ∧ (c13_7 ≤ 9223372036854775807) ∧ m = (M.sowMove r p move).2.2.length - i) ⟨0, 0, (p.player * r.pits) + move, 0, p.pits, [], [], [], _, _, _, rfl, rfl, by rfl, by rfl, zt, by exact (fun h => absurd rfl h), by simp, by exact M.CB.nil _, by simp, zu, zu, rfl⟩ ?_
 rintro _ _ u13 _ ⟨i, b9, frm, left, ps, out, d, c, A13_7, c13_7, g13_7, rfl, rfl, hS, hO, hi, hB, hB2, hC, hL, f13_7, f13_8, rfl⟩ x13
 refine zn ?_
 refine Js.seq <| zS <| Qm rfl <| Qm rfl <| Qz rfl <| Ql rfl rfl <| JL.nil ?_
 refine zi (fun h14 h14' => ?_) fun h14 h14' => ?_
 ·
  have hil : i < (M.sowMove r p move).2.2.length := by have := h14'; omega
  have hP := M.move_pre r0 i hil
  rw [hS] at hP
  obtain ⟨ss9, hG9⟩ : ∃ ss, M.Good r ps ss left := hP.g
  have hz9 : left = 0 → 0 ≤ frm ∧ 0 < M.getI ps frm := hP.z
  have hf9 : -1 ≤ frm ∧ frm < 2 * r.pits := hP.f
  have hx9 := M.path_bd r0 hil
  have hlp := hG9.lp
  have hn9 := hG9.n0
  have ha9 := hG9.all
  have hv9 := hG9.pit frm
  have hvx := hG9.pit (M.nth (M.sowMove r p move).2.2 i)
  have hi1 := M.nn_isum hG9.np
  have hi2 := M.nn_isum hG9.ns
  refine Js.skip <| Js.seq <| Js.block <| Js.seq <| zS <| Qm rfl <| Qe rfl rfl <| JL.nil ?_
  refine zi (fun h15 h15' => ?_) fun h15 h15' => ?_
  ·
   have hl0 : left = 0 := by simpa using h15
   obtain ⟨z1, z2⟩ := hz9 hl0
   have hGt := hG9
   rw [hl0] at hGt
   have hGu := hGt.takeUp z1 hf9.2
   have hvy := hGu.pit (M.nth (M.sowMove r p move).2.2 i)
   have hO2 := M.sowL_new (t := (M.Fct.mk 1 frm (M.getI ps frm))) (x := (M.nth (M.sowMove r p move).2.2 i)) hO
   have hC2 : M.CB (M.sowL (out ++ [(M.Fct.mk 1 frm (M.getI ps frm))]) (((out ++ [(M.Fct.mk 1 frm (M.getI ps frm))]).length : Int)).toNat (M.nth (M.sowMove r p move).2.2 i)) (96 + ((i + 1 : Nat) : Int)) := ((M.CB.app hC (show 0 ≤ M.getI ps frm by omega) (show M.getI ps frm ≤ 96 + (i : Int) by omega)).sow (by omega) _ _).mono (by omega)
   have hB4 := M.sowL_ge (b := (out ++ [(M.Fct.mk 1 frm (M.getI ps frm))]).length) (l := out ++ [(M.Fct.mk 1 frm (M.getI ps frm))]) (x := (M.nth (M.sowMove r p move).2.2 i)) (Nat.le_refl _)
   have hL2 := M.sowL_len (out ++ [(M.Fct.mk 1 frm (M.getI ps frm))]) (((out ++ [(M.Fct.mk 1 frm (M.getI ps frm))]).length : Int)).toNat (M.nth (M.sowMove r p move).2.2 i)
   have hB3 : ¬ (M.getI ps frm - 1) = 0 → (out ++ [(M.Fct.mk 1 frm (M.getI ps frm))]).length = (((d ++ c) ++ [(M.Fct.mk 1 frm (M.getI ps frm))]) : List M.Fct).length := fun _ => M.newLen hO
   have hol9 : (out ++ [(M.Fct.mk 1 frm (M.getI ps frm))]).length = out.length + 1 := by simp
   refine zS <| Qm rfl <| Qm rfl ?_
   refine JL.fact (row_some (i := 0) rfl (by omega)) (fun hf17 => ?_)
   obtain ⟨b17, rfl⟩ := hf17
   refine Qq (p_indexAddr el_26 rfl rfl (by omega) (by omega) rfl) <| Qw (q_load1 ty_2.h rfl (Mem.row (i := 0) rfl (ints_getI (i := frm) (by omega)))) <| Qa rfl <| zN <| Qm rfl <| Qm rfl <| Qm rfl <| Qb ?_
   refine zbs fun b18 => ?_
   refine JL.e (e_append (i := 3) (n' := (out ++ [(M.Fct.mk 1 frm (M.getI ps frm))]).length) (vs' := fltV vcFact (out ++ [(M.Fct.mk 1 frm (M.getI ps frm))])) el_43 rfl rfl rfl rfl (src_row (i := 0) und_43 rfl rfl) (by omega) (by omega) ln2_ (by first | rfl | exact fltV_app _ _ _ | exact fltV_snoc _ _ _ | (simp [fltV]; done))) ?_
   rintro v20 _ _ ⟨⟨g21, rfl⟩, rfl⟩ _
   refine JL.fact (row_form' (i := 3) rfl) (fun hf22 => ?_)
   obtain ⟨A22, c22, rfl, bl22, bh22⟩ := hf22
   refine znl ?_
   refine Qa rfl <| zN <| Qm rfl <| Qm rfl <| Qq (p_indexAddr el_26 rfl rfl (by omega) (by omega) rfl) ?_
   refine JL.s (e_storeRow (i := 1) (xs' := ints_ (M.setI ps frm 0)) ty_2.h rfl rfl rfl rfl rfl rfl (ints_lt (i := frm.toNat) (by omega)) (ints_setL (i := frm.toNat) (by omega))) ?_
   rintro _ _ _ ⟨rfl, rfl⟩ _
   refine znl ?_
   obtain ⟨b24, o24, he24, hc24⟩ := ints_elem (Ty.mono _ h10 x13.vis) (i := i) (by omega)
   refine zG <| Qm rfl <| Qz rfl <| Qa rfl <| zN <| Qm rfl <| Qm rfl <| Qm rfl <| Qm rfl <| Qq (p_indexAddr el_26 rfl rfl (by omega) (by omega) he24) <| QC hc24 rfl ?_
   refine zhl [3] ?_
   refine zB 1 sp_ rfl (fun w hb hw => c_spec_l11Sow (out ++ [(M.Fct.mk 1 frm (M.getI ps frm))]) (((out ++ [(M.Fct.mk 1 frm (M.getI ps frm))]).length) : Int) (M.nth ((M.sowMove r p move).2.2) i) hb (r3 := ((M.CB.app hC (show 0 ≤ M.getI ps frm by omega) (show M.getI ps frm ≤ 96 + (i : Int) by omega)).mono (by omega)))) ?_
   rintro _ _ G25 ⟨A25_r, c25_r, g25_r, rfl, rfl, bl25_0, bl25_1⟩
   refine znl ?_
   obtain ⟨b26, o26, he26, hc26⟩ := ints_elem (Ty.mono _ h10 x13.vis) (i := i) (by omega)
   refine Qa rfl <| zJ <| zS <| Qm rfl <| Qm rfl <| Qq (p_indexAddr el_26 rfl rfl (by omega) (by omega) he26) <| QC hc26 rfl <| Qh rfl rfl <| JL.nil ?_
   refine zi (fun h27 h27' => ?_) fun h27 h27' => ?_
   ·
    have hS2 := M.lst_zp hS hil hl0 (by have := h27'; omega)
    obtain ⟨b28, o28, he28, hc28⟩ := ints_elem (Ty.mono _ h10 x13.vis) (i := i) (by omega)
    refine Js.region <| Qm rfl <| Qm rfl <| Qm rfl <| Qq (p_indexAddr el_26 rfl rfl (by omega) (by omega) he28) <| QC hc28 rfl <| Qq (p_indexAddr el_26 rfl rfl (by omega) (by omega) rfl) <| Qw (q_load1 ty_2.h rfl (Mem.row (i := 3) rfl (ints_getI (i := M.nth ((M.sowMove r p move).2.2) i) (by first | omega | (simp only [List.length_set, M.setI_length]; omega))))) <| Qp rfl rfl <| Qq (p_indexAddr el_26 rfl rfl (by omega) (by omega) rfl) ?_
    refine JL.s (e_storeRow (i := 3) (xs' := ints_ (M.setI (M.setI ps frm 0) (M.nth ((M.sowMove r p move).2.2) i) ((M.getI (M.setI ps frm 0) (M.nth ((M.sowMove r p move).2.2) i)) + 1))) ty_2.h rfl rfl rfl rfl rfl rfl (ints_lt (i := (M.nth ((M.sowMove r p move).2.2) i).toNat) (by first | omega | (simp only [List.length_set, M.setI_length]; omega))) (ints_setL (i := (M.nth ((M.sowMove r p move).2.2) i).toNat) (by first | omega | (simp only [List.length_set, M.setI_length]; omega)))) ?_
    rintro _ _ _ ⟨rfl, rfl⟩ _
    refine znl ?_
    obtain ⟨b31, o31, he31, hc31⟩ := ints_elem (Ty.mono _ h10 x13.vis) (i := i) (by omega)
    refine zN <| Qm rfl <| Qs rfl rfl <| Qa rfl <| zG <| Qm rfl <| Qm rfl <| Qq (p_indexAddr el_26 rfl rfl (by omega) (by omega) he31) <| QC hc31 rfl <| Qa rfl <| JL.nil <| Js.blockEnd <| Js.region <| Qm rfl ?_
    refine Qp rfl rfl <| Qa rfl <| JL.nil ?_
    refine zd [3, 3, 0] rfl fun u32 x32 => ?_
    exact zag ⟨i + 1, (out ++ [(M.Fct.mk 1 frm (M.getI ps frm))]).length, M.nth ((M.sowMove r p move).2.2) i, (M.getI ps frm) - 1, M.setI (M.setI ps frm 0) (M.nth ((M.sowMove r p move).2.2) i) ((M.getI (M.setI ps frm 0) (M.nth ((M.sowMove r p move).2.2) i)) + 1), (M.sowL (out ++ [(M.Fct.mk 1 frm (M.getI ps frm))]) (((out ++ [(M.Fct.mk 1 frm (M.getI ps frm))]).length) : Int).toNat (M.nth ((M.sowMove r p move).2.2) i)), ((d ++ c) ++ [M.Fct.mk 1 frm (M.getI ps frm)]), (M.addF [] (M.nth (M.sowMove r p move).2.2 i)), _, _, _, rfl, rfl, by exact hS2, by exact hO2, by omega, by exact hB3, by exact hB4, by exact hC2, by have h9 := hL2; omega, zu, zu, rfl⟩ (x13.trans x32)
   have hS2 := M.lst_zn hS hil hl0 (by have := h27'; omega)
   obtain ⟨b33, o33, he33, hc33⟩ := ints_elem (Ty.mono _ h10 x13.vis) (i := i) (by omega)
   refine Js.skip <| zS <| Qm rfl <| Qs rfl rfl <| Qa rfl <| zG <| Qm rfl <| Qm rfl <| Qq (p_indexAddr el_26 rfl rfl (by omega) (by omega) he33) <| QC hc33 rfl <| Qa rfl <| JL.nil <| Js.blockEnd <| Js.region ?_
   refine Qm rfl <| Qp rfl rfl <| Qa rfl <| JL.nil ?_
   refine zd [3, 3, 0] rfl fun u34 x34 => ?_
   exact zag ⟨i + 1, (out ++ [(M.Fct.mk 1 frm (M.getI ps frm))]).length, M.nth ((M.sowMove r p move).2.2) i, (M.getI ps frm) - 1, M.setI ps frm 0, (M.sowL (out ++ [(M.Fct.mk 1 frm (M.getI ps frm))]) (((out ++ [(M.Fct.mk 1 frm (M.getI ps frm))]).length) : Int).toNat (M.nth ((M.sowMove r p move).2.2) i)), ((d ++ c) ++ [M.Fct.mk 1 frm (M.getI ps frm)]), (M.addF [] (M.nth (M.sowMove r p move).2.2 i)), _, _, _, rfl, rfl, by exact hS2, by exact hO2, by omega, by exact hB3, by exact hB4, by exact hC2, by have h9 := hL2; omega, zu, zu, rfl⟩ (x13.trans x34)
  have hl0 : ¬ left = 0 := by simpa using h15
  have hO2 := M.sowL_old (x := (M.nth (M.sowMove r p move).2.2 i)) hO (hB hl0)
  have hC2 : M.CB (M.sowL out ((b9 : Int)).toNat (M.nth (M.sowMove r p move).2.2 i)) (96 + ((i + 1 : Nat) : Int)) := (hC.sow (by omega) _ _).mono (by omega)
  have hB4 := M.sowL_ge (x := (M.nth (M.sowMove r p move).2.2 i)) hB2
  have hL2 := M.sowL_len out ((b9 : Int)).toNat (M.nth (M.sowMove r p move).2.2 i)
  have hB3 : ¬ (left - 1) = 0 → b9 = d.length := fun _ => hB hl0
  obtain ⟨b35, o35, he35, hc35⟩ := ints_elem (Ty.mono _ h10 x13.vis) (i := i) (by omega)
  refine Js.skip <| zS <| Qm rfl <| Qm rfl <| Qm rfl <| Qm rfl <| Qq (p_indexAddr el_26 rfl rfl (by omega) (by omega) he35) <| QC hc35 rfl ?_
  refine zhl [2] ?_
  refine zB 1 sp_ rfl (fun w hb hw => c_spec_l11Sow out (b9 : Int) (M.nth ((M.sowMove r p move).2.2) i) hb (r3 := (hC.mono (by omega)))) ?_
  rintro _ _ G36 ⟨A36_r, c36_r, g36_r, rfl, rfl, bl36_0, bl36_1⟩
  refine znl ?_
  obtain ⟨b37, o37, he37, hc37⟩ := ints_elem (Ty.mono _ h10 x13.vis) (i := i) (by omega)
  refine Qa rfl <| zJ <| zS <| Qm rfl <| Qm rfl <| Qq (p_indexAddr el_26 rfl rfl (by omega) (by omega) he37) <| QC hc37 rfl <| Qh rfl rfl <| JL.nil ?_
  refine zi (fun h38 h38' => ?_) fun h38 h38' => ?_
  ·
   have hS2 := M.lst_np hS hil hl0 (by have := h38'; omega)
   obtain ⟨b39, o39, he39, hc39⟩ := ints_elem (Ty.mono _ h10 x13.vis) (i := i) (by omega)
   refine Js.region <| Qm rfl <| Qm rfl <| Qm rfl <| Qq (p_indexAddr el_26 rfl rfl (by omega) (by omega) he39) <| QC hc39 rfl ?_
   refine JL.fact (row_some (i := 2) rfl (by omega)) (fun hf41 => ?_)
   obtain ⟨b41, rfl⟩ := hf41
   refine Qq (p_indexAddr el_26 rfl rfl (by omega) (by omega) rfl) <| Qw (q_load1 ty_2.h rfl (Mem.row (i := 2) rfl (ints_getI (i := M.nth ((M.sowMove r p move).2.2) i) (by omega)))) <| Qp rfl rfl <| Qq (p_indexAddr el_26 rfl rfl (by omega) (by omega) rfl) ?_
   refine JL.s (e_storeRow (i := 2) (xs' := ints_ (M.setI ps (M.nth ((M.sowMove r p move).2.2) i) ((M.getI ps (M.nth ((M.sowMove r p move).2.2) i)) + 1))) ty_2.h rfl rfl rfl rfl rfl rfl (ints_lt (i := (M.nth ((M.sowMove r p move).2.2) i).toNat) (by omega)) (ints_setL (i := (M.nth ((M.sowMove r p move).2.2) i).toNat) (by omega))) ?_
   rintro _ _ _ ⟨rfl, rfl⟩ _
   refine znl ?_
   obtain ⟨b43, o43, he43, hc43⟩ := ints_elem (Ty.mono _ h10 x13.vis) (i := i) (by omega)
   refine zN <| Qm rfl <| Qs rfl rfl <| Qa rfl <| zG <| Qm rfl <| Qm rfl <| Qq (p_indexAddr el_26 rfl rfl (by omega) (by omega) he43) <| QC hc43 rfl <| Qa rfl <| JL.nil <| Js.blockEnd <| Js.region <| Qm rfl ?_
   refine Qp rfl rfl <| Qa rfl <| JL.nil ?_
   refine zd [2, 2, 0] rfl fun u44 x44 => ?_
   exact zag ⟨i + 1, b9, M.nth ((M.sowMove r p move).2.2) i, left - 1, M.setI ps (M.nth ((M.sowMove r p move).2.2) i) ((M.getI ps (M.nth ((M.sowMove r p move).2.2) i)) + 1), (M.sowL out (b9 : Int).toNat (M.nth ((M.sowMove r p move).2.2) i)), d, (M.addF c (M.nth (M.sowMove r p move).2.2 i)), _, _, _, rfl, rfl, by exact hS2, by exact hO2, by omega, by exact hB3, by exact hB4, by exact hC2, by have h9 := hL2; omega, zu, zu, rfl⟩ (x13.trans x44)
  have hS2 := M.lst_nn hS hil hl0 (by have := h38'; omega)
  obtain ⟨b45, o45, he45, hc45⟩ := ints_elem (Ty.mono _ h10 x13.vis) (i := i) (by omega)
  refine Js.skip <| zS <| Qm rfl <| Qs rfl rfl <| Qa rfl <| zG <| Qm rfl <| Qm rfl <| Qq (p_indexAddr el_26 rfl rfl (by omega) (by omega) he45) <| QC hc45 rfl <| Qa rfl <| JL.nil <| Js.blockEnd <| Js.region ?_
  refine Qm rfl <| Qp rfl rfl <| Qa rfl <| JL.nil ?_
  refine zd [2, 2, 0] rfl fun u46 x46 => ?_
  exact zag ⟨i + 1, b9, M.nth ((M.sowMove r p move).2.2) i, left - 1, ps, (M.sowL out (b9 : Int).toNat (M.nth ((M.sowMove r p move).2.2) i)), d, (M.addF c (M.nth (M.sowMove r p move).2.2 i)), _, _, _, rfl, rfl, by exact hS2, by exact hO2, by omega, by exact hB3, by exact hB4, by exact hC2, by have h9 := hL2; omega, zu, zu, rfl⟩ (x13.trans x46)
 have hE := M.lapsF_of hS hO (by have := h14'; omega)
 refine zx ?_
 have hq0 : out = (M.lapsF r p move) := by first | exact hE.symm | (rw [hE]; done)
 refine zS <| Qm rfl <| Qa rfl <| JL.nil ?_
 exact zro (x7.trans x13) (g := by exact (gv_flat lFact (xs := out) po_ (by first | rfl | (simp [fltV]; done)) (by first | with_reducible rfl | assumption | rfl)))
theorem c_spec_l11Facts (r : M.Rul) {v_r : Value} (p : M.Pos) {v_p : Value} (move : Int) {w : World} (h_r : (Ty.ref (cRules r)).ok w v_r) (h_p : (Ty.ref (cPosition p)).ok w v_p) (r0 : (M.make r p move).2 = 0 := by exact om_) (r1 : p.pits.length ≤ 4194304 := by exact om_) (r2 : p.stores.length ≤ 4194304 := by exact om_) : Ret Tryz.prog 43 [v_r, v_p, .int .i64 move] w (Ty.sl 37 3 (M.factsF r p move).length (lFact (M.factsF r p move))) := by
 have hz := M.make_sow0 r0
 obtain ⟨hok, m0, m1, hG, q0, q1, hsum⟩ := M.sowMove_ok hz
 obtain ⟨g1, g2, g3, g4, g5, g6, g7⟩ := M.okP_bd hok
 have hpl := M.path_len hz
 have hll := M.lapsF_len (r := r) (p := p) (move := move)
 have hcl := M.captured_len (s := (M.sowMove r p move).2.1) (player := p.player) q1 g2
 have htl := M.taken_len (s := (M.sowMove r p move).2.1) (player := p.player) q1 g2
 have hlp := hG.lp
 have hmt : ∀ x ∈ (M.taken r (M.sowMove r p move).2.1 p.player), 0 ≤ x ∧ x < (M.sowMove r p move).2.1.pits.length := fun x hx => by have := M.taken_mem q1 hx; omega
 revert v_r; apply opn
 intro b1 o1 hr1
 revert v_p; apply opn
 intro b4 o4 A2 c2 h2 bl2 bh2 A3 c3 h3 bl3 bh3 hr4
 refine enter @Tryz.func43 @Tryz.ntmps43 rfl rfl ?_
 refine zent ?_
 refine zS <| Qa rfl <| zN <| Qm rfl <| Qm rfl <| Qm rfl <| zcs rfl (fun w hw => c_spec_l11Laps r p move (ok_ hw) (ok_ hw) (r0 := hz)) ?_
 intro A5 c5 bl5 bh5
 refine Qa rfl <| zN <| Qm rfl <| Qm rfl <| Qm rfl <| zp rfl (fun w hw => c_spec_l05Move r p move (ok_ hw) (ok_ hw)) ?_
 intro u6 x6 A7 c7 h7 bl7 bh7 A8 c8 h8 bl8 bh8 A9 c9 h9 bl9 bh9
 refine Qm rfl <| Qx rfl rfl <| Qx rfl rfl <| Qx rfl rfl <| za zeh fun b10 => zw 0 rfl rfl rfl ?_
 refine Qa rfl <| Qa rfl <| zN <| Qm rfl <| Qm rfl <| Qc rfl <| Qf fh rfl <| QC ((hr4.vis x6.vis) 2 _ rfl) rfl <| zp rfl (fun w hw => c_spec_l06Pits r ((M.sowMove r p move).2.1) p.player (ok_ hw) (ok_ hw) (r3 := hG)) ?_
 intro u11 x11 A12 c12 h12 bl12 bh12
 refine Qa rfl <| zJ <| zS <| Qa rfl <| JL.nil <| Js.block ?_
 refine zl [0, 1, 2, 8, 11] (fun F U l os u m => ∃ (k : Nat) (o2 : List M.Fct) (A13_7 : Option Addr) (c13_7 : Nat) (g13_7 : List Nat), l = F [(7, .slice A13_7 o2.length c13_7), (12, .int .i64 (k : Int))] ∧ os = U [nO, some (rowO 37 3 (.slice A13_7 o2.length c13_7) o2.length (fltV vcFact o2) g13_7)] ∧ (o2 = M.lapsF r p move ++ ((M.captured r (M.sowMove r p move).2.1 p.player).take k).map (fun x => M.Fct.mk 3 x (M.getI (M.sowMove r p move).2.1.pits x))) ∧ (k ≤ (M.captured r (M.sowMove r p move).2.1 p.player).length) ∧ (o2.length ≤ 20000 + k) ∧ (o2.length ≤ c13_7) ∧ (c13_7 ≤ 9223372036854775807) ∧ m = (M.captured r (M.sowMove r p move).2.1 p.player).length - k) ⟨0, (M.lapsF r p move), _, _, _, rfl, rfl, by simp, zt, by omega, zu, zu, rfl⟩ ?_
 rintro _ _ u13 _ ⟨k, o2, A13_7, c13_7, g13_7, rfl, rfl, hO, hk, hol, f13_3, f13_4, rfl⟩ x13
 refine zn ?_
 refine Js.seq <| zS <| Qm rfl <| Qm rfl <| Qz rfl <| Ql rfl rfl <| JL.nil ?_
 refine zi (fun h14 h14' => ?_) fun h14 h14' => ?_
 ·
  have hk2 : k < (M.captured r (M.sowMove r p move).2.1 p.player).length := by have := h14'; omega
  have hx := M.captured_mem q1 (M.nth_mem hk2)
  have hO2 := M.cap_step hO (M.nth_sm hk2)
  refine Js.skip <| Js.seq <| Js.block ?_
  refine zdr [15] ?_
  refine jM 0 rfl rfl ?_
  refine jM 1 rfl rfl ?_
  refine jM 2 rfl rfl ?_
  obtain ⟨b15, o15, he15, hc15⟩ := ints_elem (Ty.mono _ h12 x13.vis) (i := k) (by omega)
  refine jI 3 el_26 rfl rfl rfl he15 ?_
  refine jW 4 ty_2 rfl rfl hc15.vis ?_
  refine jF 5 fld_75_0 rfl rfl ?_
  refine jB 6 0 ty_26 rfl rfl rfl rfl ?_
  refine jM 7 rfl rfl ?_
  refine jM 8 rfl rfl ?_
  obtain ⟨b16, o16, he16, hc16⟩ := ints_elem (Ty.mono _ h12 x13.vis) (i := k) (by omega)
  refine jI 9 el_26 rfl rfl rfl he16 ?_
  refine jW 10 ty_2 rfl rfl hc16.vis ?_
  obtain ⟨b17, o17, he17, hc17⟩ := ints_elem (Ty.mono _ h7 (x11.vis.trans x13.vis)) (i := (M.nth (M.captured r ((M.sowMove r p move).2.1) p.player) k).toNat) (by omega)
  refine jI 11 el_26 rfl rfl rfl he17 ?_
  refine jW 12 ty_2 rfl rfl hc17.vis ?_
  refine JH.p 13 rfl (q_bld) ?_
  refine y1 14 ?_
  refine ybs rfl fun b18 => ?_
  refine y1 15 ?_
  refine JHo.e rfl (e_append (i := 2) (n' := (o2 ++ [(M.Fct.mk 3 (M.nth (M.captured r ((M.sowMove r p move).2.1) p.player) k) (M.nth (((M.sowMove r p move).2.1).pits) ((M.nth (M.captured r ((M.sowMove r p move).2.1) p.player) k).toNat)))]).length) (vs' := fltV vcFact (o2 ++ [(M.Fct.mk 3 (M.nth (M.captured r ((M.sowMove r p move).2.1) p.player) k) (M.nth (((M.sowMove r p move).2.1).pits) ((M.nth (M.captured r ((M.sowMove r p move).2.1) p.player) k).toNat)))])) el_43 rfl rfl rfl rfl (src_row (i := 0) und_43 rfl rfl) (by omega) (by omega) ln2_ (by first | rfl | exact fltV_app _ _ _ | exact fltV_snoc _ _ _ | (simp [fltV]; done))) (.inr rfl) ?_
  rintro v20 _ _ ⟨⟨g21, rfl⟩, rfl⟩ _
  refine JH.fact (row_form' (i := 2) rfl) (fun hf22 => ?_)
  obtain ⟨A22, c22, rfl, bl22, bh22⟩ := hf22
  refine znh ?_
  refine jA 16 rfl rfl ?_
  refine yd ?_
  refine Js.blockEnd <| Js.region <| Qm rfl <| Qp rfl rfl <| Qa rfl <| JL.nil ?_
  refine zd [1, 1] rfl fun u23 x23 => ?_
  exact zag ⟨k + 1, o2 ++ [(M.Fct.mk 3 (M.nth (M.captured r ((M.sowMove r p move).2.1) p.player) k) (M.nth (((M.sowMove r p move).2.1).pits) ((M.nth (M.captured r ((M.sowMove r p move).2.1) p.player) k).toNat)))], _, _, _, rfl, rfl, by exact hO2, zt, by simp only [List.length_append, List.length_cons, List.length_nil]; omega, zu, zu, rfl⟩ (x13.trans x23)
 have hO3 := M.capF_all hO (by have := h14'; omega)
 refine zx ?_
 refine zS <| Qm rfl <| Qm rfl <| Qc rfl <| Qf fh rfl <| QR 2 (hr4.vis ((x6.vis.trans x11.vis).trans x13.vis)) rfl rfl <| zp rfl (fun w hw => c_spec_l06Raw r ((M.sowMove r p move).2.1) p.player (ok_ hw) (ok_ hw) (r3 := hG)) ?_
 intro u24 x24 A25 c25 h25 bl25 bh25
 refine Qa rfl <| zJ <| zS <| Qm rfl <| Qz rfl <| Qe rfl rfl <| Qm rfl <| zg (Gd.t1 rfl rfl rfl) (fun hc => p_move rfl) <| zg (Gd.t1 rfl rfl rfl) (fun hc => p_len el_26 (gh hc rfl)) <| zg (Gd.t1 rfl rfl rfl) (fun hc => p_gtr (gh hc rfl) rfl) <| Qq (p_pickAnd rfl rfl rfl) <| JL.nil ?_
 refine zi (fun h26 h26' => ?_) fun h26 h26' => ?_
 ·
  have hcn : (M.captured r (M.sowMove r p move).2.1 p.player) = [] ∧ (M.taken r (M.sowMove r p move).2.1 p.player) ≠ [] := (by have h9 := h26; simp only [Bool.and_eq_true, decide_eq_true_eq] at h9; exact ⟨List.length_eq_zero_iff.1 (by have := h9.1; omega), fun e => by rw [e] at h9; simp at h9⟩)
  have hO4 := M.cap_nil hcn rfl hO3
  have hl62 : (o2 ++ [M.Fct.mk 4 (M.sowMove r p move).2.1.last (M.isum ((M.taken r (M.sowMove r p move).2.1 p.player).map (M.getI (M.sowMove r p move).2.1.pits)))]).length = o2.length + 1 := by simp
  refine zdr [7] ?_
  refine jM 0 rfl rfl ?_
  refine jF 1 fld_75_2 rfl rfl ?_
  refine jB 2 0 ty_2 rfl rfl rfl rfl ?_
  refine jM 3 rfl rfl ?_
  refine y1 4 ?_
  refine yv rfl rfl (fun w hw => c_spec_l06Sum ((M.sowMove r p move).2.1) (M.taken r ((M.sowMove r p move).2.1) p.player) (ok_ hw) (ok_ hw) (r2 := hmt) (r3 := hG.pit)) ?_
  refine JH.p 5 rfl (q_bld) ?_
  refine y1 6 ?_
  refine ybs rfl fun b27 => ?_
  refine y1 7 ?_
  refine JHo.e rfl (e_append (i := 2) (n' := (o2 ++ [(M.Fct.mk 4 (((M.sowMove r p move).2.1).last) (M.isum ((M.taken r ((M.sowMove r p move).2.1) p.player).map (M.getI ((M.sowMove r p move).2.1).pits))))]).length) (vs' := fltV vcFact (o2 ++ [(M.Fct.mk 4 (((M.sowMove r p move).2.1).last) (M.isum ((M.taken r ((M.sowMove r p move).2.1) p.player).map (M.getI ((M.sowMove r p move).2.1).pits))))])) el_43 rfl rfl rfl rfl (src_row (i := 0) und_43 rfl rfl) (by omega) (by omega) ln2_ (by first | rfl | exact fltV_app _ _ _ | exact fltV_snoc _ _ _ | (simp [fltV]; done))) (.inr rfl) ?_
  rintro v29 _ _ ⟨⟨g30, rfl⟩, rfl⟩ _
  refine JH.fact (row_form' (i := 2) rfl) (fun hf31 => ?_)
  obtain ⟨A31, c31, rfl, bl31, bh31⟩ := hf31
  refine znh ?_
  refine jA 8 rfl rfl ?_
  refine yd ?_
  refine zS <| Qm rfl <| Qm rfl <| Qm rfl <| zp rfl (fun w hw => c_spec_l07Make r p move (ok_ hw) (ok_ hw)) ?_
  intro u32 x32 A33 c33 h33 bl33 bh33 A34 c34 h34 bl34 bh34
  refine Qm rfl <| Qx rfl rfl <| Qx rfl rfl <| za zeh fun b35 => zw 0 rfl rfl rfl ?_
  refine Qa rfl <| zJ <| zS <| Qf fh rfl <| Q0 0 rfl rfl rfl <| JL.nil ?_
  refine zi (fun h36 h36' => ?_) fun h36 h36' => ?_
  ·
   have hE := M.facts_end r0 rfl hO4 h36
   refine zS <| Qm rfl <| Qb ?_
   refine zbs fun b37 => ?_
   refine JL.e (e_append (i := 4) (n' := ((o2 ++ [(M.Fct.mk 4 (((M.sowMove r p move).2.1).last) (M.isum ((M.taken r ((M.sowMove r p move).2.1) p.player).map (M.getI ((M.sowMove r p move).2.1).pits))))]) ++ [(M.Fct.mk 5 0 0)]).length) (vs' := fltV vcFact ((o2 ++ [(M.Fct.mk 4 (((M.sowMove r p move).2.1).last) (M.isum ((M.taken r ((M.sowMove r p move).2.1) p.player).map (M.getI ((M.sowMove r p move).2.1).pits))))]) ++ [(M.Fct.mk 5 0 0)])) el_43 rfl rfl rfl rfl (src_row (i := 0) und_43 rfl rfl) (by omega) (by omega) ln2_ (by first | rfl | exact fltV_app _ _ _ | exact fltV_snoc _ _ _ | (simp [fltV]; done))) ?_
   rintro v39 _ _ ⟨⟨g40, rfl⟩, rfl⟩ _
   refine JL.fact (row_form' (i := 4) rfl) (fun hf41 => ?_)
   obtain ⟨A41, c41, rfl, bl41, bh41⟩ := hf41
   refine znl ?_
   have hq0 : ((o2 ++ [(M.Fct.mk 4 (((M.sowMove r p move).2.1).last) (M.isum ((M.taken r ((M.sowMove r p move).2.1) p.player).map (M.getI ((M.sowMove r p move).2.1).pits))))]) ++ [(M.Fct.mk 5 0 0)]) = (M.factsF r p move) := by first | exact hE.symm | (rw [hE]; rfl)
   refine Qa rfl <| JL.nil ?_
   exact zro ((((x6.trans x11).trans x13).trans x24).trans x32) (g := by exact (gv_flat lFact (xs := ((o2 ++ [(M.Fct.mk 4 (((M.sowMove r p move).2.1).last) (M.isum ((M.taken r ((M.sowMove r p move).2.1) p.player).map (M.getI ((M.sowMove r p move).2.1).pits))))]) ++ [(M.Fct.mk 5 0 0)])) po_ (by first | rfl | (simp [fltV]; done)) (by first | with_reducible rfl | assumption | rfl)))
  have hE := M.facts_end r0 rfl hO4 h36
  refine Js.skip <| zS <| Qm rfl <| Qb ?_
  refine zbs fun b42 => ?_
  refine JL.e (e_append (i := 4) (n' := ((o2 ++ [(M.Fct.mk 4 (((M.sowMove r p move).2.1).last) (M.isum ((M.taken r ((M.sowMove r p move).2.1) p.player).map (M.getI ((M.sowMove r p move).2.1).pits))))]) ++ [(M.Fct.mk 6 0 0)]).length) (vs' := fltV vcFact ((o2 ++ [(M.Fct.mk 4 (((M.sowMove r p move).2.1).last) (M.isum ((M.taken r ((M.sowMove r p move).2.1) p.player).map (M.getI ((M.sowMove r p move).2.1).pits))))]) ++ [(M.Fct.mk 6 0 0)])) el_43 rfl rfl rfl rfl (src_row (i := 0) und_43 rfl rfl) (by omega) (by omega) ln2_ (by first | rfl | exact fltV_app _ _ _ | exact fltV_snoc _ _ _ | (simp [fltV]; done))) ?_
  rintro v44 _ _ ⟨⟨g45, rfl⟩, rfl⟩ _
  refine JL.fact (row_form' (i := 4) rfl) (fun hf46 => ?_)
  obtain ⟨A46, c46, rfl, bl46, bh46⟩ := hf46
  refine znl ?_
  have hq0 : ((o2 ++ [(M.Fct.mk 4 (((M.sowMove r p move).2.1).last) (M.isum ((M.taken r ((M.sowMove r p move).2.1) p.player).map (M.getI ((M.sowMove r p move).2.1).pits))))]) ++ [(M.Fct.mk 6 0 0)]) = (M.factsF r p move) := by first | exact hE.symm | (rw [hE]; rfl)
  refine Qa rfl <| JL.nil ?_
  exact zro ((((x6.trans x11).trans x13).trans x24).trans x32) (g := by exact (gv_flat lFact (xs := ((o2 ++ [(M.Fct.mk 4 (((M.sowMove r p move).2.1).last) (M.isum ((M.taken r ((M.sowMove r p move).2.1) p.player).map (M.getI ((M.sowMove r p move).2.1).pits))))]) ++ [(M.Fct.mk 6 0 0)])) po_ (by first | rfl | (simp [fltV]; done)) (by first | with_reducible rfl | assumption | rfl)))
 have hcn : ¬ ((M.captured r (M.sowMove r p move).2.1 p.player) = [] ∧ (M.taken r (M.sowMove r p move).2.1 p.player) ≠ []) := (by have h9 := h26; rintro ⟨e1, e2⟩; have h8 := Bool.eq_false_iff.1 h9; apply h8; simp only [Bool.and_eq_true, decide_eq_true_eq]; refine ⟨by rw [e1]; rfl, ?_⟩; have := List.length_pos_iff.2 e2; omega)
 have hO4 := M.cap_non hcn hO3
 refine Js.skip <| zS <| Qm rfl <| Qm rfl <| Qm rfl <| zp rfl (fun w hw => c_spec_l07Make r p move (ok_ hw) (ok_ hw)) ?_
 intro u47 x47 A48 c48 h48 bl48 bh48 A49 c49 h49 bl49 bh49
 refine Qm rfl <| Qx rfl rfl <| Qx rfl rfl <| za zeh fun b50 => zw 0 rfl rfl rfl ?_
 refine Qa rfl <| zJ <| zS <| Qf fh rfl <| Q0 0 rfl rfl rfl <| JL.nil ?_
 refine zi (fun h51 h51' => ?_) fun h51 h51' => ?_
 ·
  have hE := M.facts_end r0 rfl hO4 h51
  refine zS <| Qm rfl <| Qb ?_
  refine zbs fun b52 => ?_
  refine JL.e (e_append (i := 3) (n' := (o2 ++ [(M.Fct.mk 5 0 0)]).length) (vs' := fltV vcFact (o2 ++ [(M.Fct.mk 5 0 0)])) el_43 rfl rfl rfl rfl (src_row (i := 0) und_43 rfl rfl) (by omega) (by omega) ln2_ (by first | rfl | exact fltV_app _ _ _ | exact fltV_snoc _ _ _ | (simp [fltV]; done))) ?_
  rintro v54 _ _ ⟨⟨g55, rfl⟩, rfl⟩ _
  refine JL.fact (row_form' (i := 3) rfl) (fun hf56 => ?_)
  obtain ⟨A56, c56, rfl, bl56, bh56⟩ := hf56
  refine znl ?_
  have hq0 : (o2 ++ [(M.Fct.mk 5 0 0)]) = (M.factsF r p move) := by first | exact hE.symm | (rw [hE]; rfl)
  refine Qa rfl <| JL.nil ?_
  exact zro ((((x6.trans x11).trans x13).trans x24).trans x47) (g := by exact (gv_flat lFact (xs := (o2 ++ [(M.Fct.mk 5 0 0)])) po_ (by first | rfl | (simp [fltV]; done)) (by first | with_reducible rfl | assumption | rfl)))
 have hE := M.facts_end r0 rfl hO4 h51
 refine Js.skip <| zS <| Qm rfl <| Qb ?_
 refine zbs fun b57 => ?_
 refine JL.e (e_append (i := 3) (n' := (o2 ++ [(M.Fct.mk 6 0 0)]).length) (vs' := fltV vcFact (o2 ++ [(M.Fct.mk 6 0 0)])) el_43 rfl rfl rfl rfl (src_row (i := 0) und_43 rfl rfl) (by omega) (by omega) ln2_ (by first | rfl | exact fltV_app _ _ _ | exact fltV_snoc _ _ _ | (simp [fltV]; done))) ?_
 rintro v59 _ _ ⟨⟨g60, rfl⟩, rfl⟩ _
 refine JL.fact (row_form' (i := 3) rfl) (fun hf61 => ?_)
 obtain ⟨A61, c61, rfl, bl61, bh61⟩ := hf61
 refine znl ?_
 have hq0 : (o2 ++ [(M.Fct.mk 6 0 0)]) = (M.factsF r p move) := by first | exact hE.symm | (rw [hE]; rfl)
 refine Qa rfl <| JL.nil ?_
 exact zro ((((x6.trans x11).trans x13).trans x24).trans x47) (g := by exact (gv_flat lFact (xs := (o2 ++ [(M.Fct.mk 6 0 0)])) po_ (by first | rfl | (simp [fltV]; done)) (by first | with_reducible rfl | assumption | rfl)))
theorem c_spec_l11Place (k : Int) {w : World} (r0 : -9223372036854775808 ≤ k := by exact om_) (r1 : k ≤ 9223372036854775807 := by exact om_) : RetV Tryz.prog 101 [.int .i64 k] w (.string (sB (M.placeT k))) := by
 refine enter @Tryz.func101 @Tryz.ntmps101 rfl rfl ?_
 refine zent ?_
 refine zS <| Qa rfl <| zJ <| zS <| Qm rfl <| Ql rfl rfl <| JL.nil ?_
 refine zi (fun h1 h1' => ?_) fun h1 h1' => ?_
 ·
  have hE : M.placeT k = [115, 116, 111, 114, 101] := if_pos (by simpa using h1)
  refine zS <| Qa rfl <| JL.nil ?_
  refine zR (Up.refl _ _) ?_
  rw [hE]; rfl
 have hE : M.placeT k = M.dec k := if_neg (by have := h1'; omega)
 refine Js.skip <| zS <| Qm rfl <| zv rfl (fun w hw => c_spec_l01Dec k) <| Qa rfl <| JL.nil ?_
 refine zR (Up.refl _ _) ?_
 rw [hE]; rfl
theorem c_spec_l11Text (f : M.Fct) {v_f : Value} {w : World} (h_f : (Ty.agg (cFact f)).ok w v_f) (r0 : -9223372036854775808 ≤ f.count := by exact om_) (r1 : f.count ≤ 9223372036854775807 := by exact om_) (r2 : -9223372036854775808 ≤ f.place := by exact om_) (r3 : f.place ≤ 9223372036854775807 := by exact om_) : RetV Tryz.prog 44 [v_f] w (.string (sB (M.factT0 f))) := by
 have lb1 := M.placeT_len f.place
 have lb2 : LenB (M.placeT f.place) 21 := ⟨lb1⟩
 have lb3 := M.dec_len f.count
 have lb4 : LenB (M.dec f.count) 21 := ⟨lb3⟩
 revert v_f; apply opn
 refine enter @Tryz.func44 @Tryz.ntmps44 rfl rfl ?_
 refine zent ?_
 refine zS <| zb rfl fun b1 => Qa rfl <| zJ <| zS <| Qf fh rfl <| Q0 0 rfl rfl rfl <| JL.nil <| Js.block <| zS <| Qe rfl rfl <| Qa rfl <| JL.nil ?_
 refine zi (fun h2 h2' => ?_) fun h2 h2' => ?_
 ·
  refine Js.seq ?_
  refine zdr [] ?_
  refine jF 0 fld_37_2 rfl rfl ?_
  refine jB 1 0 ty_2 rfl rfl rfl rfl ?_
  refine jF 5 fld_37_1 rfl rfl ?_
  refine jB 6 0 ty_2 rfl rfl rfl rfl ?_
  refine y1 2 ?_
  refine yv rfl rfl (fun w hw => c_spec_l01Dec f.count) ?_
  refine JH.p 3 rfl (q_cat rfl rfl) ?_
  refine JH.p 4 rfl (q_cat rfl rfl) ?_
  refine y1 7 ?_
  refine yv rfl rfl (fun w hw => c_spec_l11Place f.place) ?_
  refine JH.p 8 rfl (q_cat rfl rfl) ?_
  refine jA 9 rfl rfl ?_
  refine yd ?_
  refine zR (Up.refl _ _) ?_
  simp [outV, M.factT0, *]
 refine zS <| Qe rfl rfl <| Qa rfl <| JL.nil ?_
 refine zi (fun h3 h3' => ?_) fun h3 h3' => ?_
 ·
  refine Js.seq ?_
  refine zdr [] ?_
  refine jF 0 fld_37_2 rfl rfl ?_
  refine jB 1 0 ty_2 rfl rfl rfl rfl ?_
  refine jF 5 fld_37_1 rfl rfl ?_
  refine jB 6 0 ty_2 rfl rfl rfl rfl ?_
  refine y1 2 ?_
  refine yv rfl rfl (fun w hw => c_spec_l01Dec f.count) ?_
  refine JH.p 3 rfl (q_cat rfl rfl) ?_
  refine JH.p 4 rfl (q_cat rfl rfl) ?_
  refine y1 7 ?_
  refine yv rfl rfl (fun w hw => c_spec_l11Place f.place) ?_
  refine JH.p 8 rfl (q_cat rfl rfl) ?_
  refine jA 9 rfl rfl ?_
  refine yd ?_
  refine zR (Up.refl _ _) ?_
  simp [outV, M.factT0, *]
 refine zS <| Qe rfl rfl <| Qa rfl <| JL.nil ?_
 refine zi (fun h4 h4' => ?_) fun h4 h4' => ?_
 ·
  refine Js.seq ?_
  refine zdr [] ?_
  refine jF 0 fld_37_2 rfl rfl ?_
  refine jB 1 0 ty_2 rfl rfl rfl rfl ?_
  refine jF 5 fld_37_1 rfl rfl ?_
  refine jB 6 0 ty_2 rfl rfl rfl rfl ?_
  refine y1 2 ?_
  refine yv rfl rfl (fun w hw => c_spec_l01Dec f.count) ?_
  refine JH.p 3 rfl (q_cat rfl rfl) ?_
  refine JH.p 4 rfl (q_cat rfl rfl) ?_
  refine y1 7 ?_
  refine yv rfl rfl (fun w hw => c_spec_l11Place f.place) ?_
  refine JH.p 8 rfl (q_cat rfl rfl) ?_
  refine jA 9 rfl rfl ?_
  refine yd ?_
  refine zR (Up.refl _ _) ?_
  simp [outV, M.factT0, *]
 refine zS <| Qe rfl rfl <| Qa rfl <| JL.nil ?_
 refine zi (fun h5 h5' => ?_) fun h5 h5' => ?_
 ·
  refine Js.seq ?_
  refine zdr [] ?_
  refine jF 0 fld_37_2 rfl rfl ?_
  refine jB 1 0 ty_2 rfl rfl rfl rfl ?_
  refine jF 5 fld_37_1 rfl rfl ?_
  refine jB 6 0 ty_2 rfl rfl rfl rfl ?_
  refine y1 2 ?_
  refine yv rfl rfl (fun w hw => c_spec_l01Dec f.count) ?_
  refine JH.p 3 rfl (q_cat rfl rfl) ?_
  refine JH.p 4 rfl (q_cat rfl rfl) ?_
  refine y1 7 ?_
  refine yv rfl rfl (fun w hw => c_spec_l11Place f.place) ?_
  refine JH.p 8 rfl (q_cat rfl rfl) ?_
  refine jA 9 rfl rfl ?_
  refine yd ?_
  refine zR (Up.refl _ _) ?_
  simp [outV, M.factT0, *]
 refine zS <| Qe rfl rfl <| Qa rfl <| JL.nil ?_
 refine zi (fun h6 h6' => ?_) fun h6 h6' => ?_
 ·
  refine zS <| Qa rfl <| JL.nil ?_
  refine zR (Up.refl _ _) ?_
  simp [outV, M.factT0, *]
 refine Js.skip <| Js.blockEnd <| zS <| Qa rfl <| JL.nil ?_
 refine zR (Up.refl _ _) ?_
 simp [outV, M.factT0, *]
theorem c_spec_l11Why (r : M.Rul) {v_r : Value} (p : M.Pos) {v_p : Value} (move code : Int) {w : World} (h_r : (Ty.ref (cRules r)).ok w v_r) (h_p : (Ty.ref (cPosition p)).ok w v_p) (r0 : p.pits.length ≤ 4194304 := by exact om_) (r1 : p.stores.length ≤ 4194304 := by exact om_) (r2 : code = (M.make r p move).2 := by exact om_) (r3 : ¬ code = 0 := by exact om_) (r4 : ¬ code = 1 := by exact om_) : RetV Tryz.prog 42 [v_r, v_p, .int .i64 move, .int .i64 code] w (.string (sB (M.whyT r p move code))) := by
 revert v_r; apply opn
 intro b1 o1 hr1
 revert v_p; apply opn
 intro b4 o4 A2 c2 h2 bl2 bh2 A3 c3 h3 bl3 bh3 hr4
 refine enter @Tryz.func42 @Tryz.ntmps42 rfl rfl ?_
 refine zent ?_
 refine zS <| Qa rfl <| zJ <| zS <| Qm rfl <| JL.nil <| Js.block <| zS <| Qe rfl rfl <| Qa rfl <| JL.nil ?_
 refine zi (fun h5 h5' => ?_) fun h5 h5' => ?_
 ·
  have hE := M.whyT_2 (r := r) (p := p) (move := move) (show code = 2 by simpa using h5)
  refine zS <| Qa rfl <| JL.nil ?_
  refine zR (Up.refl _ _) ?_
  first | (rw [hE]; done) | (rw [hE]; rfl)
 have n2 : ¬ code = 2 := by simpa using h5
 refine zS <| Qe rfl rfl <| Qa rfl <| JL.nil ?_
 refine zi (fun h6 h6' => ?_) fun h6 h6' => ?_
 ·
  have hE := M.whyT_6 (r := r) (p := p) (move := move) n2 (by simpa using h6)
  refine zS <| Qa rfl <| JL.nil ?_
  refine zR (Up.refl _ _) ?_
  first | (rw [hE]; done) | (rw [hE]; rfl)
 have n6 : ¬ code = 6 := by simpa using h6
 refine zS <| Qe rfl rfl <| Qa rfl <| JL.nil ?_
 refine zi (fun h7 h7' => ?_) fun h7 h7' => ?_
 ·
  have hE := M.whyT_10 (r := r) (p := p) (move := move) n2 n6 (by simpa using h7)
  refine zS <| Qa rfl <| JL.nil ?_
  refine zR (Up.refl _ _) ?_
  first | (rw [hE]; done) | (rw [hE]; rfl)
 have n10 : ¬ code = 10 := by simpa using h7
 have hz : (M.sowMove r p move).1 = 0 := by subst r2; exact M.make_9 r3 r4 n2 n6 n10
 obtain ⟨hok, m0, m1, hG, q0, q1, hsum⟩ := M.sowMove_ok hz
 obtain ⟨g1, g2, g3, g4, g5, g6, g7⟩ := M.okP_bd hok
 refine Js.skip <| Js.blockEnd <| zS <| Qm rfl <| Qm rfl <| Qm rfl <| zp rfl (fun w hw => c_spec_l05Move r p move (ok_ hw) (ok_ hw)) ?_
 intro u8 x8 A9 c9 h9 bl9 bh9 A10 c10 h10 bl10 bh10 A11 c11 h11 bl11 bh11
 refine Qm rfl <| Qx rfl rfl <| Qx rfl rfl <| Qx rfl rfl <| za zeh fun b12 => zw 0 rfl rfl rfl ?_
 refine Qa rfl <| Qa rfl <| zJ <| zS <| Qm rfl <| Qc rfl <| Qf fh rfl <| QC ((hr1.vis x8.vis) 8 _ rfl) rfl <| Qe rfl rfl <| Qm rfl <| zg (Gd.t1 rfl rfl rfl) (fun hc => p_move rfl) <| zg (Gd.t1 rfl rfl rfl) (fun hc => p_move rfl) <| zg (Gd.t1 rfl rfl rfl) (fun hc => p_nilCheck (gh hc rfl)) <| zg (Gd.t1 rfl rfl rfl) (fun hc => p_fieldAddr fld_28_2.h (gh hc rfl)) ?_
 refine zgq (Gd.t1 rfl rfl rfl) (fun hc => q_load1 ty_2.h (gh hc rfl) (Mem.pub ((hr4.vis x8.vis) 2 _ rfl))) <| zgv (Gd.t1 rfl rfl rfl) (fun hc => (opds_3 (gh hc rfl) rfl (gh hc rfl))) (fun hc => (fun w hw => c_spec_l06Slam r ((M.sowMove r p move).2.1) p.player (ok_ hw) (ok_ hw) (r0 := (oh_ hc)) (r1 := (oh_ hc)) (r2 := (oh_ hc)) (r3 := hG))) ?_
 refine Qq (p_pickAnd rfl rfl rfl) <| JL.nil ?_
 refine zi (fun h13 h13' => ?_) fun h13 h13' => ?_
 ·
  have hE := M.whyT_s n2 n6 n10 (by have h9 := h13; simpa using h9)
  refine zS <| Qa rfl <| JL.nil ?_
  refine zR x8 ?_
  first | (rw [hE]; done) | (rw [hE]; rfl)
 have hE := M.whyT_n n2 n6 n10 (by have h9 := h13; simpa using h9)
 refine Js.skip <| zS <| Qa rfl <| JL.nil ?_
 refine zR x8 ?_
 first | (rw [hE]; done) | (rw [hE]; rfl)
theorem c_spec_ExplainMove (r : M.Rul) {v_r : Value} (p : M.Pos) {v_p : Value} (move : Int) {w : World} (h_r : (Ty.agg (cRules r)).ok w v_r) (h_p : (Ty.agg (cPosition p)).ok w v_p) (r0 : p.pits.length ≤ 4194304 := by exact om_) (r1 : p.stores.length ≤ 4194304 := by exact om_) : Ret Tryz.prog 10 [v_r, v_p, .int .i64 move] w (Ty.tup [Ty.strs 9 ((M.explR r p move).1), Ty.int ((M.explR r p move).2)]) := by
 revert v_r; apply opn
 revert v_p; apply opn
 intro A1 c1 h1 bl1 bh1 A2 c2 h2 bl2 bh2
 refine enter @Tryz.func10 @Tryz.ntmps10 rfl rfl ?_
 refine zent ?_
 refine zS <| zb rfl fun b3 => zb rfl fun b4 => Qa rfl <| Qa rfl <| zN <| Q9 1 rfl rfl ?_
 refine Q9 0 rfl rfl ?_
 refine Qm rfl <| zv rfl (fun w hw => c_spec_MoveFault r p move (ok_ hw) (ok_ hw)) <| Qa rfl <| zJ <| zS <| Qm rfl <| Qe rfl rfl <| JL.nil ?_
 refine zi (fun h5 h5' => ?_) fun h5 h5' => ?_
 ·
  have h19 : (M.make r p move).2 = 1 := by simpa using h5
  have hE := M.explR_1 (move := move) (M.make_1.1 h19)
  have hq0 : [] = (M.explR r p move).1 := by first | (rw [hE]; exact hE2.symm) | (rw [hE, ← hE2]; done) | (rw [hE]; exact h19.symm) | (rw [hE]; exact h19) | (rw [hE]; done) | (rw [hE]; rfl)
  have hq1 : ((M.make r p move).2) = (M.explR r p move).2 := by first | (rw [hE]; exact hE2.symm) | (rw [hE, ← hE2]; done) | (rw [hE]; exact h19.symm) | (rw [hE]; exact h19) | (rw [hE]; done) | (rw [hE]; rfl)
  refine zS <| Qm rfl <| Qa rfl <| Qa rfl <| JL.nil ?_
  exact zro (Up.refl _ _) (g := by exact (gv_tup (gvc (gv_strsN (by first | rfl | assumption)) (gvc gv_ gvn))))
 have hn1 : ¬ (M.make r p move).2 = 1 := by simpa using h5
 have hok0 : ¬ M.okP r p = false := fun e => hn1 (M.make_1.2 e)
 refine Js.skip <| Js.seq <| zS <| Qm rfl <| Qd rfl rfl <| JL.nil ?_
 refine zi (fun h6 h6' => ?_) fun h6 h6' => ?_
 ·
  have hn9 : ¬ (M.make r p move).2 = 0 := by simpa using h6
  have hE := M.explR_w hok0 hn9
  rw [hE]
  have lb9 : LenB (M.whyT r p move (M.make r p move).2) 100 := ⟨M.whyT_len r p move _⟩
  have hq0 : 0 = (M.explR r p move).2 := by first | (rw [hE]; exact hE2.symm) | (rw [hE, ← hE2]; done) | (rw [hE]; exact h19.symm) | (rw [hE]; exact h19) | (rw [hE]; done) | (rw [hE]; rfl)
  refine zS <| Qm rfl <| Qm rfl <| zv rfl (fun w hw => c_spec_l11Why r p move ((M.make r p move).2) (ok_ hw) (ok_ hw) (r2 := rfl) (r3 := hn9) (r4 := hn1)) <| zbs fun b7 => ?_
  refine Qa rfl <| Qa rfl <| JL.nil ?_
  exact zro (Up.refl _ _) (g := by exact (gv_tup (gvc (gv_strs po_ (by rfl) (by rfl)) (gvc gv_ gvn))))
 have hm0 : (M.make r p move).2 = 0 := by simpa using h6
 have hE := M.explR_f hm0
 have hfl := M.facts_len hm0
 refine Js.skip <| zS <| Qm rfl <| zp rfl (fun w hw => c_spec_l11Facts r p move (ok_ hw) (ok_ hw) (r0 := hm0)) ?_
 intro u9 x9 A10 c10 h10 bl10 bh10
 refine Qa rfl <| zN <| zbs fun b11 => ?_
 refine Qa rfl <| zJ <| zS <| Qa rfl <| JL.nil <| Js.block ?_
 refine zl [9] (fun F U l os u m => ∃ (k : Nat) (out : List (List UInt8)) (A13_10 : Option Addr) (c13_10 : Nat) (g13_10 : List Nat), l = F [(10, .slice A13_10 out.length c13_10), (11, .int .i64 (k : Int))] ∧ os = U [some (rowO 9 1 (.slice A13_10 out.length c13_10) out.length (txs_ out) g13_10)] ∧ (out = ((M.factsF r p move).take k).map M.factT0) ∧ (k ≤ (M.factsF r p move).length) ∧ (out.length = k) ∧ (out.length ≤ c13_10) ∧ (c13_10 ≤ 9223372036854775807) ∧ m = (M.factsF r p move).length - k) ⟨0, [], _, _, _, rfl, rfl, by rfl, zt, by rfl, zu, zu, rfl⟩ ?_
 rintro _ _ u13 _ ⟨k, out, A13_10, c13_10, g13_10, rfl, rfl, hO, hk, hl, f13_3, f13_4, rfl⟩ x13
 refine zn ?_
 refine Js.seq <| zS <| Qm rfl <| Qm rfl <| Qz rfl <| Ql rfl rfl <| JL.nil ?_
 refine zi (fun h14 h14' => ?_) fun h14 h14' => ?_
 ·
  obtain ⟨ye15, hye15⟩ : ∃ x, (M.factsF r p move)[k]? = some x := ⟨_, List.getElem?_eq_getElem (by omega)⟩
  have hcan := M.facts_can hm0 _ (List.mem_of_getElem? hye15)
  have hO2 := M.texts_step hO hye15
  have hcb := M.canW_b hcan
  have lb9 : LenB (M.factT0 ye15) 100 := ⟨M.factT0_len _⟩
  have hy16 := hye15
  obtain ⟨b16, o16, he16, hr16⟩ := elem_Fact (Ty.mono _ h10 x13.vis) hy16
  refine Js.skip <| Js.seq <| Js.block <| Js.region <| Qm rfl <| Qm rfl <| Qm rfl <| Qq (p_indexAddr el_43 rfl rfl (by omega) (by omega) he16) <| QS 0 hr16 rfl ?_
  refine zv rfl (fun w hw => c_spec_l11Text ye15 (ok_ hw)) <| zbs fun b17 => ?_
  refine JL.e (e_append (i := 1) (n' := (out ++ [M.factT0 ye15]).length) (vs' := txs_ (out ++ [M.factT0 ye15])) el_31 rfl rfl rfl rfl (src_row (i := 0) und_31 rfl rfl) (by omega) (by omega) ln2_ (by first | rfl | (simp [txs_]; done))) ?_
  rintro v19 _ _ ⟨⟨g20, rfl⟩, rfl⟩ _
  refine JL.fact (row_form' (i := 1) rfl) (fun hf21 => ?_)
  obtain ⟨A21, c21, rfl, bl21, bh21⟩ := hf21
  refine znl ?_
  refine Qa rfl <| JL.nil <| Js.blockEnd <| Js.region <| Qm rfl <| Qp rfl rfl <| Qa rfl <| JL.nil ?_
  refine zd [1, 1, 1] rfl fun u22 x22 => ?_
  exact zag ⟨k + 1, out ++ [M.factT0 ye15], _, _, _, rfl, rfl, by exact hO2, zt, by simp [hl], zu, zu, rfl⟩ (x13.trans x22)
 have hE2 := M.texts_all hO (by have := h14'; omega)
 refine zx ?_
 have hq0 : out = (M.explR r p move).1 := by first | (rw [hE]; exact hE2.symm) | (rw [hE, ← hE2]; done) | (rw [hE]; exact h19.symm) | (rw [hE]; exact h19) | (rw [hE]; done) | (rw [hE]; rfl)
 have hq1 : 0 = (M.explR r p move).2 := by first | (rw [hE]; exact hE2.symm) | (rw [hE, ← hE2]; done) | (rw [hE]; exact h19.symm) | (rw [hE]; exact h19) | (rw [hE]; done) | (rw [hE]; rfl)
 refine zS <| Qm rfl <| Qa rfl <| Qa rfl <| JL.nil ?_
 exact zro (x9.trans x13) (g := by exact (gv_tup (gvc (gv_strsE (ys := out) po_ (by assumption) (by rfl)) (gvc gv_ gvn))))
theorem c_spec_l01Split (t : List UInt8) (b : Int) {w : World} (r0 : t.length ≤ 4194304 := by exact om_) (r1 : 0 ≤ b := by exact om_) (r2 : b ≤ 255 := by exact om_) : Ret Tryz.prog 55 [.string (sB t), .int .u8 b] w (Ty.strs 9 (M.split (M.u8 b) t)) := by
 refine enter @Tryz.func55 @Tryz.ntmps55 rfl rfl ?_
 refine zent ?_
 refine zS <| Qa rfl <| zN <| zbs fun b1 => ?_
 refine Qa rfl <| zN <| Qa rfl <| zJ <| zS <| Qa rfl <| JL.nil <| Js.block ?_
 refine zl [0, 1] (fun F U l os u m => ∃ (k f : Nat) (out : List (List UInt8)) (A3_5 : Option Addr) (c3_5 : Nat) (g3_5 : List Nat), l = F [(5, .slice A3_5 out.length c3_5), (6, .int .i64 (f : Int)), (7, .int .i64 (k : Int))] ∧ os = U [some (rowO 9 1 (.slice A3_5 out.length c3_5) out.length (txs_ out) g3_5)] ∧ (M.SplI (M.u8 b) t f k out) ∧ (k ≤ t.length) ∧ (out.length ≤ c3_5) ∧ (c3_5 ≤ 9223372036854775807) ∧ m = t.length - k) ⟨0, 0, [], _, _, _, rfl, rfl, by exact M.SplI.zero _ _, zt, zu, zu, rfl⟩ ?_
 rintro _ _ u3 _ ⟨k, f, out, A3_5, c3_5, g3_5, rfl, rfl, hS, hk, f3_2, f3_3, rfl⟩ x3
 refine zn ?_
 have hl1 := hS.l
 have hl2 := hS.len
 have hl3 := M.split_len (M.u8 b) t
 refine Js.seq <| zS <| Qm rfl <| Qm rfl <| Qq (p_lenS und_9 rfl) <| Ql rfl rfl <| JL.nil ?_
 refine zi (fun h4 h4' => ?_) fun h4 h4' => ?_
 ·
  have hbt5 := M.bat_bd t k
  refine Js.skip <| Js.seq <| Js.block <| zS <| Qm rfl <| Qm rfl <| Qq (p_byteS (i := k) und_9 rfl rfl (by omega)) <| Qm rfl <| Qe rfl rfl <| JL.nil ?_
  refine zi (fun h6 h6' => ?_) fun h6 h6' => ?_
  ·
   have hS2 := hS.hit (b := b) (by omega) (by simpa using h6)
   refine zS <| Qm rfl <| Qm rfl <| Qm rfl <| Qm rfl <| Qq (p_midS (i := f) (j := k) und_9 rfl rfl rfl (by omega) (by omega)) <| zbs fun b7 => ?_
   refine JL.e (e_append (i := 1) (n' := (out ++ [(t.drop f).take (k - f)]).length) (vs' := txs_ (out ++ [(t.drop f).take (k - f)])) el_31 rfl rfl rfl rfl (src_row (i := 0) und_31 rfl rfl) (by omega) (by omega) ln2_ (by first | rfl | (simp [txs_]; done))) ?_
   rintro v9 _ _ ⟨⟨g10, rfl⟩, rfl⟩ _
   refine JL.fact (row_form' (i := 1) rfl) (fun hf11 => ?_)
   obtain ⟨A11, c11, rfl, bl11, bh11⟩ := hf11
   refine znl ?_
   refine Qa rfl <| zG <| Qm rfl <| Qp rfl rfl <| Qa rfl <| JL.nil <| Js.blockEnd <| Js.region <| Qm rfl <| Qp rfl rfl <| Qa rfl <| JL.nil ?_
   refine zd [1] rfl fun u12 x12 => ?_
   exact zag ⟨k + 1, k + 1, out ++ [(t.drop f).take (k - f)], _, _, _, rfl, rfl, by exact hS2, zt, zu, zu, rfl⟩ (x3.trans x12)
  have hS2 := hS.miss (b := b) (by omega) r1 r2 (by simpa using h6)
  refine Js.skip <| Js.blockEnd <| Js.region <| Qm rfl <| Qp rfl rfl <| Qa rfl <| JL.nil ?_
  exact zag ⟨k + 1, f, out, _, _, _, rfl, rfl, by exact hS2, zt, zu, zu, rfl⟩ x3
 have hE := hS.done (by have := h4'; omega)
 have hl1 := hS.l
 have hl2 := hS.len
 have hl3 := M.split_len (M.u8 b) t
 refine zx ?_
 refine zS <| Qm rfl <| Qm rfl <| Qm rfl <| Qq (p_dropS (i := f) und_9 rfl rfl (by omega)) <| zbs fun b13 => ?_
 refine JL.e (e_append (i := 1) (n' := (out ++ [t.drop f]).length) (vs' := txs_ (out ++ [t.drop f])) el_31 rfl rfl rfl rfl (src_row (i := 0) und_31 rfl rfl) (by omega) (by omega) ln2_ (by first | rfl | (simp [txs_]; done))) ?_
 rintro v15 _ _ ⟨⟨g16, rfl⟩, rfl⟩ _
 refine JL.fact (row_form' (i := 1) rfl) (fun hf17 => ?_)
 obtain ⟨A17, c17, rfl, bl17, bh17⟩ := hf17
 refine znl ?_
 have hq0 : (out ++ [t.drop f]) = M.split (M.u8 b) t := by exact hE
 refine Qa rfl <| JL.nil ?_
 exact zro x3 (g := by exact (gv_strsE (ys := out ++ [t.drop f]) po_ (by assumption) (by rfl)))
theorem c_spec_l01Digit (c : Int) {w : World}  : RetV Tryz.prog 112 [.int .u8 c] w (.bool (M.isDig c)) := by
 refine enter @Tryz.func112 @Tryz.ntmps112 rfl rfl ?_
 refine zent ?_
 refine zS <| Qa rfl <| zN <| Qm rfl <| Qh rfl rfl <| Qm rfl <| zg (Gd.t1 rfl rfl rfl) (fun hc => p_move rfl) <| zg (Gd.t1 rfl rfl rfl) (fun hc => p_leq (gh hc rfl) rfl) <| Qq (p_pickAnd rfl rfl rfl) <| Qa rfl <| JL.nil ?_
 exact zr (Up.refl _ _)
theorem c_spec_l01Number (t : List UInt8) {w : World} (r0 : t.length ≤ 4194304 := by exact om_) : RetV Tryz.prog 56 [.string (sB t)] w (.tuple #[.int .i64 ((M.num t).1), .bool ((M.num t).2)]) := by
 refine enter @Tryz.func56 @Tryz.ntmps56 rfl rfl ?_
 refine zent ?_
 have hbt1 := M.bat_bd t 0
 refine zS <| Qa rfl <| Qa rfl <| zN <| Qm rfl <| Qa rfl <| zJ <| zS <| Qm rfl <| Qq (p_neqT und_9 rfl rfl) <| Qm rfl <| zg (Gd.t1 rfl rfl rfl) (fun hc => p_move rfl) <| zg (Gd.t1 rfl rfl rfl) (fun hc => p_byteS (i := 0) und_9 (gh hc rfl) rfl (by first | have hc9 := hc; (try simp only [Bool.not_eq_true', decide_eq_false_iff_not] at hc9); omega | (have h9 := List.length_pos_iff.2 (by simpa using hc); omega))) ?_
 refine zg (Gd.t1 rfl rfl rfl) (fun hc => p_eql (gh hc rfl) rfl) <| Qq (p_pickAnd rfl rfl rfl) <| JL.nil ?_
 refine zi (fun h2 h2' => ?_) fun h2 h2' => ?_
 ·
  have hT : M.numT t = t.drop 1 := by have h9 := h2; simp at h9; exact M.numT_y h9.1 h9.2
  have hln : 1 ≤ t.length := by have h9 := h2; simp at h9; exact List.length_pos_iff.2 h9.1
  refine Js.region <| Qm rfl <| Qq (p_dropS (i := 1) und_9 rfl rfl (by omega)) <| Qa rfl <| zJ <| zS <| Qm rfl <| Qq (p_lenS und_9 rfl) <| Ql rfl rfl <| Qm rfl <| zg (Gd.f1 rfl rfl rfl) (fun hc => p_move rfl) <| zg (Gd.f1 rfl rfl rfl) (fun hc => p_lenS und_9 (gh hc rfl)) <| zg (Gd.f1 rfl rfl rfl) (fun hc => p_gtr (gh hc rfl) rfl) <| Qq (p_pickOr rfl rfl rfl) ?_
  refine JL.nil ?_
  refine zi (fun h3 h3' => ?_) fun h3 h3' => ?_
  ·
   have hE := M.num_len (s := t) (by rw [hT]; have h9 := h3; simp at h9; omega)
   refine zS <| Qa rfl <| Qa rfl <| JL.nil ?_
   refine zR (Up.refl _ _) ?_
   first | (rw [hE]; rfl) | (rw [hE, hS]; rfl)
  have hl9 : ¬ ((M.numT t).length < 1 ∨ 18 < (M.numT t).length) := by rw [hT]; have h9 := h3; simp at h9; omega
  refine Js.skip <| zS <| Qa rfl <| zJ <| zS <| Qa rfl <| JL.nil <| Js.block ?_
  refine zl [0, 4] (fun F U l os u m => ∃ (k : Nat) (n : Int), l = F [(5, .int .i64 n), (6, .int .i64 (k : Int))] ∧ os = U [] ∧ (n = M.numN (M.numT t) k) ∧ (M.Digs (M.numT t) k) ∧ (k ≤ (M.numT t).length) ∧ m = (M.numT t).length - k) ⟨0, 0, rfl, rfl, by rfl, by exact M.Digs.zero _, zt, rfl⟩ ?_
  rintro _ _ u4 _ ⟨k, n, rfl, rfl, hN, hD, hk, rfl⟩ x4
  refine zn ?_
  obtain ⟨n1, n2⟩ := M.numN_18 hD (by omega)
  rw [← hN] at n1 n2
  refine Js.seq <| zS <| Qm rfl <| Qm rfl <| Qq (p_lenS und_9 rfl) <| Ql rfl rfl <| JL.nil ?_
  refine zi (fun h5 h5' => ?_) fun h5 h5' => ?_
  ·
   have hkk : k < (M.numT t).length := by rw [hT]; have := h5'; omega
   obtain ⟨n3, n4⟩ := M.numN_17 hD (by omega)
   rw [← hN] at n3 n4
   have hbt6 := M.bat_bd (t.drop 1) k
   refine Js.skip <| Js.seq <| Js.block <| Js.seq <| zS <| Qm rfl <| Qm rfl <| Qq (p_byteS (i := k) und_9 rfl rfl (by omega)) <| zv rfl (fun w hw => c_spec_l01Digit (M.bat (t.drop 1) k)) <| Qt rfl <| JL.nil ?_
   refine zi (fun h7 h7' => ?_) fun h7 h7' => ?_
   ·
    have hE := M.num_dig (M.digs_no hkk (by rw [hT]; simpa using h7))
    refine zS <| Qa rfl <| Qa rfl <| JL.nil ?_
    refine zR x4 ?_
    first | (rw [hE]; rfl) | (rw [hE, hS]; rfl)
   have hd : M.isDig (M.bat (M.numT t) k) = true := by rw [hT]; simpa using h7
   have hD2 := hD.step hd
   obtain ⟨d1, d2⟩ := M.dig_bd hd
   rw [hT] at d1 d2
   have hbt8 := M.bat_bd (t.drop 1) k
   refine Js.skip <| Js.region <| Qm rfl <| Qu rfl rfl <| Qm rfl <| Qm rfl <| Qq (p_byteS (i := k) und_9 rfl rfl (by omega)) <| Qq (p_sub rfl rfl (IntWalk.u8_in _ (by omega))) <| Qq (p_conv @Tryz.underlying5 @Tryz.underlying2 rfl (IntWalk.i64_in _ (by omega))) <| Qp rfl rfl <| Qa rfl <| JL.nil <| Js.blockEnd <| Js.region ?_
   refine Qm rfl <| Qp rfl rfl <| Qa rfl <| JL.nil ?_
   exact zag ⟨k + 1, (10 * n) + ((M.bat (t.drop 1) k) - 48), rfl, rfl, by rw [hN, M.numN, hT], by exact hD2, zt, rfl⟩ x4
  have hke : k = (M.numT t).length := Nat.le_antisymm hk (by rw [hT]; have := h5'; omega)
  have hdg := M.digs_yes hD (by omega)
  rw [hke] at hN
  refine zx ?_
  refine Js.seq <| zS <| Qm rfl <| Qq (p_lenS und_9 rfl) <| Qm rfl <| Qq (p_lenS und_9 rfl) <| Ql rfl rfl <| JL.nil ?_
  refine zi (fun h9 h9' => ?_) fun h9 h9' => ?_
  ·
   have hS : M.numS t = -n := by rw [hN]; exact M.numS_neg (by rw [hT]; have := h9'; omega)
   refine Js.region <| Qm rfl <| Qq (p_neg (r := -n) rfl (by rw [Int.zero_sub]; exact IntWalk.i64_in _ (by omega))) <| Qa rfl <| zJ <| zS <| Qm rfl <| zv rfl (fun w hw => c_spec_l01Dec (-n)) <| Qm rfl <| Qq (p_neqT und_9 rfl rfl) <| JL.nil ?_
   refine zi (fun h10 h10' => ?_) fun h10 h10' => ?_
   ·
    have hE := M.num_no (s := t) (by rw [hS]; simpa using h10)
    refine zS <| Qa rfl <| Qa rfl <| JL.nil ?_
    refine zR x4 ?_
    first | (rw [hE]; rfl) | (rw [hE, hS]; rfl)
   have hE := M.num_yes hl9 hdg (by rw [hS]; simpa using h10)
   refine Js.skip <| zS <| Qm rfl <| Qa rfl <| Qa rfl <| JL.nil ?_
   refine zR x4 ?_
   first | (rw [hE]; rfl) | (rw [hE, hS]; rfl)
  have hS : M.numS t = n := by rw [hN]; exact M.numS_pos (by rw [hT]; have := h9'; omega)
  refine Js.skip <| Js.seq <| zS <| Qm rfl <| zv rfl (fun w hw => c_spec_l01Dec n) <| Qm rfl <| Qq (p_neqT und_9 rfl rfl) <| JL.nil ?_
  refine zi (fun h11 h11' => ?_) fun h11 h11' => ?_
  ·
   have hE := M.num_no (s := t) (by rw [hS]; simpa using h11)
   refine zS <| Qa rfl <| Qa rfl <| JL.nil ?_
   refine zR x4 ?_
   first | (rw [hE]; rfl) | (rw [hE, hS]; rfl)
  have hE := M.num_yes hl9 hdg (by rw [hS]; simpa using h11)
  refine Js.skip <| zS <| Qm rfl <| Qa rfl <| Qa rfl <| JL.nil ?_
  refine zR x4 ?_
  first | (rw [hE]; rfl) | (rw [hE, hS]; rfl)
 have hT : M.numT t = t := M.numT_n (by have h9 := h2; simp at h9; intro ⟨a, b⟩; exact h9 a b)
 refine Js.skip <| Js.seq <| zS <| Qm rfl <| Qq (p_lenS und_9 rfl) <| Ql rfl rfl <| Qm rfl <| zg (Gd.f1 rfl rfl rfl) (fun hc => p_move rfl) <| zg (Gd.f1 rfl rfl rfl) (fun hc => p_lenS und_9 (gh hc rfl)) <| zg (Gd.f1 rfl rfl rfl) (fun hc => p_gtr (gh hc rfl) rfl) <| Qq (p_pickOr rfl rfl rfl) <| JL.nil ?_
 refine zi (fun h12 h12' => ?_) fun h12 h12' => ?_
 ·
  have hE := M.num_len (s := t) (by rw [hT]; have h9 := h12; simp at h9; omega)
  refine zS <| Qa rfl <| Qa rfl <| JL.nil ?_
  refine zR (Up.refl _ _) ?_
  first | (rw [hE]; rfl) | (rw [hE, hS]; rfl)
 have hl9 : ¬ ((M.numT t).length < 1 ∨ 18 < (M.numT t).length) := by rw [hT]; have h9 := h12; simp at h9; omega
 refine Js.skip <| zS <| Qa rfl <| zJ <| zS <| Qa rfl <| JL.nil <| Js.block ?_
 refine zl [0, 4] (fun F U l os u m => ∃ (k : Nat) (n : Int), l = F [(5, .int .i64 n), (6, .int .i64 (k : Int))] ∧ os = U [] ∧ (n = M.numN (M.numT t) k) ∧ (M.Digs (M.numT t) k) ∧ (k ≤ (M.numT t).length) ∧ m = (M.numT t).length - k) ⟨0, 0, rfl, rfl, by rfl, by exact M.Digs.zero _, zt, rfl⟩ ?_
 rintro _ _ u13 _ ⟨k, n, rfl, rfl, hN, hD, hk, rfl⟩ x13
 refine zn ?_
 obtain ⟨n1, n2⟩ := M.numN_18 hD (by omega)
 rw [← hN] at n1 n2
 refine Js.seq <| zS <| Qm rfl <| Qm rfl <| Qq (p_lenS und_9 rfl) <| Ql rfl rfl <| JL.nil ?_
 refine zi (fun h14 h14' => ?_) fun h14 h14' => ?_
 ·
  have hkk : k < (M.numT t).length := by rw [hT]; have := h14'; omega
  obtain ⟨n3, n4⟩ := M.numN_17 hD (by omega)
  rw [← hN] at n3 n4
  have hbt15 := M.bat_bd t k
  refine Js.skip <| Js.seq <| Js.block <| Js.seq <| zS <| Qm rfl <| Qm rfl <| Qq (p_byteS (i := k) und_9 rfl rfl (by omega)) <| zv rfl (fun w hw => c_spec_l01Digit (M.bat t k)) <| Qt rfl <| JL.nil ?_
  refine zi (fun h16 h16' => ?_) fun h16 h16' => ?_
  ·
   have hE := M.num_dig (M.digs_no hkk (by rw [hT]; simpa using h16))
   refine zS <| Qa rfl <| Qa rfl <| JL.nil ?_
   refine zR x13 ?_
   first | (rw [hE]; rfl) | (rw [hE, hS]; rfl)
  have hd : M.isDig (M.bat (M.numT t) k) = true := by rw [hT]; simpa using h16
  have hD2 := hD.step hd
  obtain ⟨d1, d2⟩ := M.dig_bd hd
  rw [hT] at d1 d2
  have hbt17 := M.bat_bd t k
  refine Js.skip <| Js.region <| Qm rfl <| Qu rfl rfl <| Qm rfl <| Qm rfl <| Qq (p_byteS (i := k) und_9 rfl rfl (by omega)) <| Qq (p_sub rfl rfl (IntWalk.u8_in _ (by omega))) <| Qq (p_conv @Tryz.underlying5 @Tryz.underlying2 rfl (IntWalk.i64_in _ (by omega))) <| Qp rfl rfl <| Qa rfl <| JL.nil <| Js.blockEnd <| Js.region ?_
  refine Qm rfl <| Qp rfl rfl <| Qa rfl <| JL.nil ?_
  exact zag ⟨k + 1, (10 * n) + ((M.bat t k) - 48), rfl, rfl, by rw [hN, M.numN, hT], by exact hD2, zt, rfl⟩ x13
 have hke : k = (M.numT t).length := Nat.le_antisymm hk (by rw [hT]; have := h14'; omega)
 have hdg := M.digs_yes hD (by omega)
 rw [hke] at hN
 refine zx ?_
 refine Js.seq <| zS <| Qm rfl <| Qq (p_lenS und_9 rfl) <| Qm rfl <| Qq (p_lenS und_9 rfl) <| Ql rfl rfl <| JL.nil ?_
 refine zi (fun h18 h18' => ?_) fun h18 h18' => ?_
 ·
  have hS : M.numS t = -n := by rw [hN]; exact M.numS_neg (by rw [hT]; have := h18'; omega)
  refine Js.region <| Qm rfl <| Qq (p_neg (r := -n) rfl (by rw [Int.zero_sub]; exact IntWalk.i64_in _ (by omega))) <| Qa rfl <| zJ <| zS <| Qm rfl <| zv rfl (fun w hw => c_spec_l01Dec (-n)) <| Qm rfl <| Qq (p_neqT und_9 rfl rfl) <| JL.nil ?_
  refine zi (fun h19 h19' => ?_) fun h19 h19' => ?_
  ·
   have hE := M.num_no (s := t) (by rw [hS]; simpa using h19)
   refine zS <| Qa rfl <| Qa rfl <| JL.nil ?_
   refine zR x13 ?_
   first | (rw [hE]; rfl) | (rw [hE, hS]; rfl)
  have hE := M.num_yes hl9 hdg (by rw [hS]; simpa using h19)
  refine Js.skip <| zS <| Qm rfl <| Qa rfl <| Qa rfl <| JL.nil ?_
  refine zR x13 ?_
  first | (rw [hE]; rfl) | (rw [hE, hS]; rfl)
 have hS : M.numS t = n := by rw [hN]; exact M.numS_pos (by rw [hT]; have := h18'; omega)
 refine Js.skip <| Js.seq <| zS <| Qm rfl <| zv rfl (fun w hw => c_spec_l01Dec n) <| Qm rfl <| Qq (p_neqT und_9 rfl rfl) <| JL.nil ?_
 refine zi (fun h20 h20' => ?_) fun h20 h20' => ?_
 ·
  have hE := M.num_no (s := t) (by rw [hS]; simpa using h20)
  refine zS <| Qa rfl <| Qa rfl <| JL.nil ?_
  refine zR x13 ?_
  first | (rw [hE]; rfl) | (rw [hE, hS]; rfl)
 have hE := M.num_yes hl9 hdg (by rw [hS]; simpa using h20)
 refine Js.skip <| zS <| Qm rfl <| Qa rfl <| Qa rfl <| JL.nil ?_
 refine zR x13 ?_
 first | (rw [hE]; rfl) | (rw [hE, hS]; rfl)
end Go.Proofs.YtjgohnaobbphpaaGreatDoor

/- Walks: G4. -/
import Derived.Test.YtjgohnaobbphpaaZaA3
import Derived.Test.YtjgohnaobbphpaaZaA7
import Derived.Test.YtjgohnaobbphpaaZaA5
import Derived.Test.YtjgohnaobbphpaaZaA4
set_option linter.unusedSimpArgs false
set_option linter.unusedVariables false
set_option maxRecDepth 100000
attribute [local irreducible] Go.Proofs.Ytjgohnaobbphpaa.gv
set_option maxHeartbeats 8000000
namespace Go.Proofs.Ytjgohnaobbphpaa
open Go.RowKit
theorem c_impl_Rules_results (r : M.Rul) {v_r : Value} (p : M.Pos) {v_p : Value} {w : World} (h_r : (Ty.agg (cRules r)).ok w v_r) (h_p : (Ty.agg (cPosition p)).ok w v_p) (r0 : M.okP r p = true := by exact om_) : Ret Try.prog 56 [v_r, v_p] w (Ty.sl 64 6 (M.results r p).length (lResult (M.results r p))) := by
 obtain ⟨g1, g2, g3, g4, g5, g6, g7⟩ := M.okP_bd r0
 revert v_r; apply opn
 revert v_p; apply opn
 intro A1 c1 h1 bl1 bh1 A2 c2 h2 bl2 bh2
 refine enter @Try.func56 @Try.ntmps56 rfl rfl ?_
 refine zent ?_
 obtain ⟨b3, o3, rfl⟩ := ints_some h2 (by omega)
 refine zS <| zb rfl fun b4 => zb rfl fun b5 => Qa rfl <| zN <| zbs fun b6 => ?_
 refine Qa rfl <| zJ <| zS <| Qf fh rfl <| Q0 2 rfl rfl rfl <| Qm rfl <| JL.nil <| Js.block ?_
 refine Js.vals (Ts := lResult []) (vs := []) (fun w => rfl) ?_
 refine zl [2, 3, 13] (fun F U l os u m => ∃ (k : Nat) (acc : List M.Res) (A8_5 : Option Addr) (c8_5 : Nat) (g8_5 : List Nat) (vs8_5 : List Value) (fl8_5 : List Nat), l = F [(5, .slice A8_5 acc.length c8_5), (14, .int .i64 (k : Int))] ∧ os = U [some (ownC (lResult acc) vs8_5 fl8_5), some (rowO 64 6 (.slice A8_5 acc.length c8_5) acc.length vs8_5 g8_5)] ∧ (acc = M.resultsTo r p k) ∧ (k ≤ r.pits) ∧ (acc.length ≤ c8_5) ∧ (c8_5 ≤ 9223372036854775807) ∧ m = (r.pits - k).toNat) ⟨0, [], _, _, _, _, _, rfl, rfl, by rfl, zt, zu, zu, rfl⟩ ?_
 rintro _ _ u8 _ ⟨k, acc, A8_5, c8_5, g8_5, vs8_5, fl8_5, rfl, rfl, hacc, hk, f8_2, f8_3, rfl⟩ x8
 refine zn ?_
 have hlen := M.resultsTo_len (r := r) (p := p) k
 have hlacc : acc.length ≤ k := by rw [hacc]; exact hlen
 refine zS <| Ql rfl rfl <| zJ ?_
 refine zi (fun h9 h9' => ?_) fun h9 h9' => ?_
 ·
  refine Js.skip <| Js.seq <| Js.block <| zS <| Qm rfl <| Qa rfl <| zN <| Q9 3 rfl rfl ?_
  refine Q9 2 rfl rfl ?_
  refine Qm rfl <| zc rfl (fun w hw => c_impl_Rules_done r p (k : Int) (ok_ hw) (ok_ hw)) ?_
  intro A12 c12 bl12 bh12 A13 c13 bl13 bh13
  refine Qm rfl <| Qx rfl rfl <| Qx rfl rfl <| za zeh fun b14 => zw 0 rfl rfl rfl ?_
  refine Qa rfl <| zJ <| zS <| Qm rfl <| Qd rfl rfl <| JL.nil ?_
  refine zi (fun h15 h15' => ?_) fun h15 h15' => ?_
  ·
   have hacc2 := (M.resultsTo_no (r := r) (p := p) (k := k) (by simpa using h15)).symm
   refine zx ?_
   refine Js.region <| Qp rfl rfl <| Qm rfl <| JL.nil ?_
   refine zd [3, 3, 3, 3] rfl fun u16 x16 => ?_
   exact zag ⟨k + 1, acc, _, _, _, _, _, rfl, rfl, by rw [hacc]; exact hacc2, zt, zu, zu, rfl⟩ (x8.trans x16)
  have hz : (M.done r p k).2 = 0 := by simpa using h15
  obtain ⟨_, _, _, hG⟩ := M.done_good hz
  have l3 := hG.ls
  have hs1 := hG.store p.player
  have hs2 := (M.Good.of_ok r0).store p.player
  refine Js.fact (row_some (i := 1) rfl (by omega)) (fun hf17 => ?_)
  obtain ⟨b17, rfl⟩ := hf17
  refine Js.skip <| zS <| Qf fh rfl <| Q0 6 rfl rfl rfl <| Qm rfl <| zg (Gd.t1 rfl rfl rfl) (fun hc => p_fieldAddr fld_58_2.h rfl) <| zgq (Gd.t1 rfl rfl rfl) (fun hc => q_load1 ty_2.h (gh hc rfl) (Mem.box (i := 0) rfl rfl)) <| zg (Gd.t1 rfl rfl rfl) (fun hc => p_eql (gh hc rfl) rfl) <| Qq (p_pickAnd rfl rfl rfl) <| Qa rfl <| zN <| Qf fh rfl <| Q0 0 rfl rfl rfl <| Qf fh rfl ?_
  refine Q0 0 rfl rfl rfl <| Qf fh rfl <| Q0 5 rfl rfl rfl <| Qs rfl rfl <| Qb ?_
  refine za zeh fun b18 => zw 0 rfl rfl rfl ?_
  refine zJ <| zS <| Qm rfl <| JL.nil ?_
  refine zi (fun h19 h19' => ?_) fun h19 h19' => ?_
  ·
   have hacc2 := (M.resultsTo_yes hz).symm
   unfold M.resOf at hacc2
   rw [if_pos h19] at hacc2
   refine Js.region <| Qf fh rfl <| Q0 6 rfl rfl rfl <| Qf fh rfl <| zw 0 rfl rfl rfl ?_
   refine JL.nil ?_
   refine zdr [19] ?_
   refine jM 0 rfl rfl ?_
   refine jM 1 rfl rfl ?_
   refine jF 2 fld_58_1 rfl rfl ?_
   refine jB 3 1 ty_26 rfl rfl rfl rfl ?_
   refine jF 4 fld_28_2 rfl rfl ?_
   refine jB 5 6 ty_2 rfl rfl rfl rfl ?_
   refine jI 6 el_26 rfl rfl rfl rfl ?_
   refine JH.q 7 rfl (q_load1 ty_2.h rfl (Mem.row (i := 2) rfl (ints_getI (i := p.player) (by omega)))) ?_
   refine jF 8 fld_28_1 rfl rfl ?_
   refine jB 9 6 ty_26 rfl rfl rfl rfl ?_
   refine jF 10 fld_28_2 rfl rfl ?_
   refine jB 11 6 ty_2 rfl rfl rfl rfl ?_
   refine jI 12 el_26 rfl rfl rfl rfl ?_
   refine JH.w 13 rfl (fun os' u' hv => q_load1 ty_2.h rfl (Mem.pub (ints_cellI (i := p.player) (Ty.mono _ h2 (x8.vis.trans hv)) (by omega)))) ?_
   refine JH.p 14 rfl (p_sub rfl rfl (IntWalk.i64_in _ (by omega))) ?_
   refine jM 15 rfl rfl ?_
   refine JH.q 16 rfl (L9 0 rfl rfl) ?_
   refine JH.p 17 rfl (q_bld) ?_
   refine y1 18 ?_
   refine ybs rfl fun b22 => ?_
   refine y1 19 ?_
   refine JHo.e rfl (e_append (i := 6) (n' := (acc ++ [(M.Res.mk (k : Int) ((M.getI (((M.done r p (k : Int)).1).stores) p.player) - (M.getI p.stores p.player)) (r.again && (decide (((M.done r p (k : Int)).1).last = (-1)))) (M.Pos.mk (((M.done r p (k : Int)).1).pits) (((M.done r p (k : Int)).1).stores) p.player))]).length) (vs' := vs8_5 ++ [.int .i64 (k : Int), .int .i64 ((M.getI (((M.done r p (k : Int)).1).stores) p.player) - (M.getI p.stores p.player)), .bool (r.again && (decide (((M.done r p (k : Int)).1).last = (-1)))), .slice A12 ((((M.done r p (k : Int)).1).pits).length) c12, .slice (some ⟨b17, 0, none⟩) ((((M.done r p (k : Int)).1).stores).length) c13, .int .i64 p.player]) el_98 rfl rfl rfl rfl (src_row (i := 0) und_98 rfl rfl) (by omega) (by omega) ln2_ (rfl)) (.inr rfl) ?_
   rintro v24 _ _ ⟨⟨g25, rfl⟩, rfl⟩ _
   refine JH.fact (row_form' (i := 6) rfl) (fun hf26 => ?_)
   obtain ⟨A26, c26, rfl, bl26, bh26⟩ := hf26
   refine znh ?_
   refine jA 20 rfl rfl ?_
   refine yd ?_
   refine Js.pack2 (i := 4) (j := 3) (cResult (M.Res.mk (k : Int) ((M.getI (((M.done r p (k : Int)).1).stores) p.player) - (M.getI p.stores p.player)) (r.again && (decide (((M.done r p (k : Int)).1).last = (-1)))) (M.Pos.mk (((M.done r p (k : Int)).1).pits) (((M.done r p (k : Int)).1).stores) p.player))) [.int .i64 (k : Int), .int .i64 ((M.getI (((M.done r p (k : Int)).1).stores) p.player) - (M.getI p.stores p.player)), .bool (r.again && (decide (((M.done r p (k : Int)).1).last = (-1)))), .slice A12 ((((M.done r p (k : Int)).1).pits).length) c12, .slice (some ⟨b17, 0, none⟩) ((((M.done r p (k : Int)).1).stores).length) c13, .int .i64 p.player] rfl rfl (fun w h1 h2 => pack_Result (ints_row h1 rfl) (ints_row h2 rfl)) (fun f27 => ?_)
   refine Js.joinL (i := 4) (j := 0) (Vs := lResult (acc ++ [(M.Res.mk (k : Int) ((M.getI (((M.done r p (k : Int)).1).stores) p.player) - (M.getI p.stores p.player)) (r.again && (decide (((M.done r p (k : Int)).1).last = (-1)))) (M.Pos.mk (((M.done r p (k : Int)).1).pits) (((M.done r p (k : Int)).1).stores) p.player))])) rfl rfl (lResult_snoc _ _) (fun f28 => ?_)
   refine zn ?_
   refine Js.blockEnd <| Js.region <| Qp rfl rfl <| Qm rfl <| JL.nil ?_
   refine zd [0, 3, 3, 3] rfl fun u29 x29 => ?_
   exact zag ⟨k + 1, acc ++ [(M.Res.mk (k : Int) ((M.getI (((M.done r p (k : Int)).1).stores) p.player) - (M.getI p.stores p.player)) (r.again && (decide (((M.done r p (k : Int)).1).last = (-1)))) (M.Pos.mk (((M.done r p (k : Int)).1).pits) (((M.done r p (k : Int)).1).stores) p.player))], _, _, _, _, _, rfl, rfl, by rw [hacc]; exact hacc2, zt, zu, zu, rfl⟩ (x8.trans x29)
  have hacc2 := (M.resultsTo_yes hz).symm
  unfold M.resOf at hacc2
  rw [if_neg (by simpa using h19)] at hacc2
  refine Js.skip ?_
  refine zdr [19] ?_
  refine jM 0 rfl rfl ?_
  refine jM 1 rfl rfl ?_
  refine jF 2 fld_58_1 rfl rfl ?_
  refine jB 3 1 ty_26 rfl rfl rfl rfl ?_
  refine jF 4 fld_28_2 rfl rfl ?_
  refine jB 5 6 ty_2 rfl rfl rfl rfl ?_
  refine jI 6 el_26 rfl rfl rfl rfl ?_
  refine JH.q 7 rfl (q_load1 ty_2.h rfl (Mem.row (i := 2) rfl (ints_getI (i := p.player) (by omega)))) ?_
  refine jF 8 fld_28_1 rfl rfl ?_
  refine jB 9 6 ty_26 rfl rfl rfl rfl ?_
  refine jF 10 fld_28_2 rfl rfl ?_
  refine jB 11 6 ty_2 rfl rfl rfl rfl ?_
  refine jI 12 el_26 rfl rfl rfl rfl ?_
  refine JH.w 13 rfl (fun os' u' hv => q_load1 ty_2.h rfl (Mem.pub (ints_cellI (i := p.player) (Ty.mono _ h2 (x8.vis.trans hv)) (by omega)))) ?_
  refine JH.p 14 rfl (p_sub rfl rfl (IntWalk.i64_in _ (by omega))) ?_
  refine jM 15 rfl rfl ?_
  refine JH.q 16 rfl (L9 0 rfl rfl) ?_
  refine JH.p 17 rfl (q_bld) ?_
  refine y1 18 ?_
  refine ybs rfl fun b32 => ?_
  refine y1 19 ?_
  refine JHo.e rfl (e_append (i := 6) (n' := (acc ++ [(M.Res.mk (k : Int) ((M.getI (((M.done r p (k : Int)).1).stores) p.player) - (M.getI p.stores p.player)) (r.again && (decide (((M.done r p (k : Int)).1).last = (-1)))) (M.Pos.mk (((M.done r p (k : Int)).1).pits) (((M.done r p (k : Int)).1).stores) (1 - p.player)))]).length) (vs' := vs8_5 ++ [.int .i64 (k : Int), .int .i64 ((M.getI (((M.done r p (k : Int)).1).stores) p.player) - (M.getI p.stores p.player)), .bool (r.again && (decide (((M.done r p (k : Int)).1).last = (-1)))), .slice A12 ((((M.done r p (k : Int)).1).pits).length) c12, .slice (some ⟨b17, 0, none⟩) ((((M.done r p (k : Int)).1).stores).length) c13, .int .i64 (1 - p.player)]) el_98 rfl rfl rfl rfl (src_row (i := 0) und_98 rfl rfl) (by omega) (by omega) ln2_ (rfl)) (.inr rfl) ?_
  rintro v34 _ _ ⟨⟨g35, rfl⟩, rfl⟩ _
  refine JH.fact (row_form' (i := 6) rfl) (fun hf36 => ?_)
  obtain ⟨A36, c36, rfl, bl36, bh36⟩ := hf36
  refine znh ?_
  refine jA 20 rfl rfl ?_
  refine yd ?_
  refine Js.pack2 (i := 4) (j := 3) (cResult (M.Res.mk (k : Int) ((M.getI (((M.done r p (k : Int)).1).stores) p.player) - (M.getI p.stores p.player)) (r.again && (decide (((M.done r p (k : Int)).1).last = (-1)))) (M.Pos.mk (((M.done r p (k : Int)).1).pits) (((M.done r p (k : Int)).1).stores) (1 - p.player)))) [.int .i64 (k : Int), .int .i64 ((M.getI (((M.done r p (k : Int)).1).stores) p.player) - (M.getI p.stores p.player)), .bool (r.again && (decide (((M.done r p (k : Int)).1).last = (-1)))), .slice A12 ((((M.done r p (k : Int)).1).pits).length) c12, .slice (some ⟨b17, 0, none⟩) ((((M.done r p (k : Int)).1).stores).length) c13, .int .i64 (1 - p.player)] rfl rfl (fun w h1 h2 => pack_Result (ints_row h1 rfl) (ints_row h2 rfl)) (fun f37 => ?_)
  refine Js.joinL (i := 4) (j := 0) (Vs := lResult (acc ++ [(M.Res.mk (k : Int) ((M.getI (((M.done r p (k : Int)).1).stores) p.player) - (M.getI p.stores p.player)) (r.again && (decide (((M.done r p (k : Int)).1).last = (-1)))) (M.Pos.mk (((M.done r p (k : Int)).1).pits) (((M.done r p (k : Int)).1).stores) (1 - p.player)))])) rfl rfl (lResult_snoc _ _) (fun f38 => ?_)
  refine zn ?_
  refine Js.blockEnd <| Js.region <| Qp rfl rfl <| Qm rfl <| JL.nil ?_
  refine zd [0, 3, 3, 3] rfl fun u39 x39 => ?_
  exact zag ⟨k + 1, acc ++ [(M.Res.mk (k : Int) ((M.getI (((M.done r p (k : Int)).1).stores) p.player) - (M.getI p.stores p.player)) (r.again && (decide (((M.done r p (k : Int)).1).last = (-1)))) (M.Pos.mk (((M.done r p (k : Int)).1).pits) (((M.done r p (k : Int)).1).stores) (1 - p.player)))], _, _, _, _, _, rfl, rfl, by rw [hacc]; exact hacc2, zt, zu, zu, rfl⟩ (x8.trans x39)
 have hR : acc = M.results r p := by rw [hacc]; unfold M.results; rw [show k = r.pits.toNat by omega]
 refine zx ?_
 have hq0 : acc = M.results r p := by exact hR
 refine zS <| Qm rfl <| Qa rfl <| JL.nil ?_
 exact zro x8
theorem c_impl_Rules_resultOf (r : M.Rul) {v_r : Value} (p : M.Pos) {v_p : Value} (move : Int) {w : World} (h_r : (Ty.agg (cRules r)).ok w v_r) (h_p : (Ty.agg (cPosition p)).ok w v_p) (r0 : p.pits.length ≤ 4194304 := by exact om_) (r1 : p.stores.length ≤ 4194304 := by exact om_) : Ret Try.prog 26 [v_r, v_p, .int .i64 move] w (Ty.tup [Ty.agg (cResult ((M.make r p move).1)), Ty.int ((M.make r p move).2)]) := by
 revert v_r; apply opn
 revert v_p; apply opn
 intro A1 c1 h1 bl1 bh1 A2 c2 h2 bl2 bh2
 refine enter @Try.func26 @Try.ntmps26 rfl rfl ?_
 refine zent ?_
 refine zS <| zb rfl fun b3 => zb rfl fun b4 => za zeh fun b5 => Qa rfl <| zJ <| zS <| Q9 2 rfl rfl ?_
 refine Q9 1 rfl rfl ?_
 refine Qm rfl <| zv rfl (fun w hw => c_impl_MoveFault r p move (ok_ hw) (ok_ hw)) <| Qa rfl <| zN <| Qm rfl <| Qd rfl rfl <| JL.nil ?_
 refine zi (fun h6 h6' => ?_) fun h6 h6' => ?_
 ·
  have hD := M.make_no (r := r) (p := p) (move := move) (by simpa using h6)
  have hq0 : 0 = ((M.make r p move).1).move := by first | exact hE | (rw [hm]; done) | (rw [hD]; done) | (rw [hD]; rfl)
  have hq1 : 0 = ((M.make r p move).1).gain := by first | exact hE | (rw [hm]; done) | (rw [hD]; done) | (rw [hD]; rfl)
  have hq2 : false = ((M.make r p move).1).again := by first | exact hE | (rw [hm]; done) | (rw [hD]; done) | (rw [hD]; rfl)
  have hq3 : [] = (((M.make r p move).1).next).pits := by first | exact hE | (rw [hm]; done) | (rw [hD]; done) | (rw [hD]; rfl)
  have hq4 : [] = (((M.make r p move).1).next).stores := by first | exact hE | (rw [hm]; done) | (rw [hD]; done) | (rw [hD]; rfl)
  have hq5 : 0 = (((M.make r p move).1).next).player := by first | exact hE | (rw [hm]; done) | (rw [hD]; done) | (rw [hD]; rfl)
  have hq6 : ((M.done r p move).2) = (M.make r p move).2 := by first | exact hE | (rw [hm]; done) | (rw [hD]; done) | (rw [hD]; rfl)
  refine zS <| Qb ?_
  refine Qm rfl <| zw 0 rfl rfl rfl ?_
  refine Qa rfl <| JL.nil ?_
  exact zro (Up.refl _ _)
 have hz : (M.done r p move).2 = 0 := by simpa using h6
 have hm : (M.make r p move).2 = 0 := by rw [M.make_code]; exact hz
 have hok := (M.make_ok hm).1
 refine Js.skip <| Js.seq <| zS <| Q9 2 rfl rfl ?_
 refine Q9 1 rfl rfl ?_
 refine zcs rfl (fun w hw => c_impl_Rules_results r p (ok_ hw) (ok_ hw) (r0 := hok)) ?_
 intro A7 c7 vs7 f7 bl7 bh7
 refine Qz rfl <| Qm rfl <| JL.nil <| Js.block ?_
 refine zl [2, 6, 21, 22] (fun F U l os u m => ∃ (k : Nat), l = F [(23, .int .i64 (k : Int))] ∧ os = U [] ∧ (k ≤ (M.results r p).length) ∧ (∀ (j : Nat) (x : M.Res), j < k → (M.results r p)[j]? = some x → x.move ≠ move) ∧ m = (M.results r p).length - k) ⟨0, rfl, rfl, zt, by exact fun j x hj => absurd hj (by omega), rfl⟩ ?_
 rintro _ _ u8 _ ⟨k, rfl, rfl, hk, hn, rfl⟩ x8
 refine zn ?_
 refine zS <| Ql rfl rfl <| zJ ?_
 refine zi (fun h9 h9' => ?_) fun h9 h9' => ?_
 ·
  refine Js.skip <| Js.seq <| Js.block <| zS ?_
  refine JL.fact (row_some (i := 0) rfl (by omega)) (fun hf11 => ?_)
  obtain ⟨b11, rfl⟩ := hf11
  obtain ⟨y10, hy10⟩ : ∃ x, (M.results r p)[k]? = some x := ⟨_, List.getElem?_eq_getElem (by omega)⟩
  refine JL.fact (fun w hw => elemv_Result (Mem.ownC (i := 1) rfl w hw) hy10) (fun hf10 => ?_)
  obtain ⟨A10_3, c10_3, A10_4, c10_4, he10, bl10_3, bh10_3, bl10_4, bh10_4⟩ := hf10
  refine Qq (p_indexAddr el_98 rfl rfl (by omega) (by omega) rfl) <| Qw (q_loadN ty_64.h rfl (Mem.rowR' (i := 0) rfl he10) rfl rfl) <| za zeh fun b12 => zw 0 rfl rfl rfl ?_
  refine zN <| Qf fh rfl <| Q0 0 rfl rfl rfl <| Qm rfl <| Qe rfl rfl <| JL.nil ?_
  refine zi (fun h13 h13' => ?_) fun h13 h13' => ?_
  ·
   have hE := M.results_get hy10 (by simpa using h13)
   have hm2 := hm.symm
   refine zS <| Q9 0 rfl rfl ?_
   refine zw 3 rfl rfl rfl ?_
   refine Qa rfl <| JL.nil ?_
   refine Js.elemO cResult (i := 2) (xs := (M.results r p)) (fun _ => rfl) rfl hy10 he10 (fun f14 f14a f14b => ?_)
   refine zn ?_
   have hq0 : y10 = (M.make r p move).1 := by first | exact hE | (rw [hm]; done) | (rw [hD]; done) | (rw [hD]; rfl)
   have hq1 : 0 = (M.make r p move).2 := by first | exact hE | (rw [hm]; done) | (rw [hD]; done) | (rw [hD]; rfl)
   exact zro x8
  have hn2 := M.none_step hn hy10 (by simpa using h13)
  refine Js.skip <| Js.blockEnd <| Js.region <| Qp rfl rfl <| Qm rfl <| JL.nil ?_
  refine zd [1, 1, 1, 1, 1] rfl fun u15 x15 => ?_
  exact zag ⟨k + 1, rfl, rfl, zt, by exact hn2, rfl⟩ (x8.trans x15)
 obtain ⟨j, hj, hx, hmv⟩ := M.results_has hm; have h9 := h9; simp at h9; exact absurd hmv (hn j _ (by omega) hx)
theorem c_impl_MakeMove (r : M.Rul) {v_r : Value} (p : M.Pos) {v_p : Value} (move : Int) {w : World} (h_r : (Ty.agg (cRules r)).ok w v_r) (h_p : (Ty.agg (cPosition p)).ok w v_p) (r0 : p.pits.length ≤ 4194304 := by exact om_) (r1 : p.stores.length ≤ 4194304 := by exact om_) : Ret Try.prog 18 [v_r, v_p, .int .i64 move] w (Ty.tup [Ty.agg (cPosition ((M.make r p move).1.next)), Ty.int ((M.make r p move).1.gain), Ty.int ((M.make r p move).2)]) := by
 revert v_r; apply opn
 revert v_p; apply opn
 intro A1 c1 h1 bl1 bh1 A2 c2 h2 bl2 bh2
 refine enter @Try.func18 @Try.ntmps18 rfl rfl ?_
 refine zent ?_
 refine zS <| zb rfl fun b3 => zb rfl fun b4 => za zeh fun b5 => Qa rfl <| Qa rfl <| zN <| Q9 2 rfl rfl ?_
 refine Q9 1 rfl rfl ?_
 refine Qm rfl <| zc rfl (fun w hw => c_impl_Rules_resultOf r p move (ok_ hw) (ok_ hw)) ?_
 intro A8 c8 bl8 bh8 A9 c9 bl9 bh9
 refine Qm rfl <| Qx rfl rfl <| Qx rfl rfl <| za zeh fun b10 => zw 0 rfl rfl rfl ?_
 refine Qa rfl <| zJ <| zS <| Qm rfl <| Qd rfl rfl <| JL.nil ?_
 refine zi (fun h11 h11' => ?_) fun h11 h11' => ?_
 ·
  have hD := M.make_zero (r := r) (p := p) (move := move) (by simpa using h11)
  have hq0 : [] = ((M.make r p move).1.next).pits := by first | rfl | (rw [hm]; done) | (rw [hD]; rfl)
  have hq1 : [] = ((M.make r p move).1.next).stores := by first | rfl | (rw [hm]; done) | (rw [hD]; rfl)
  have hq2 : 0 = ((M.make r p move).1.next).player := by first | rfl | (rw [hm]; done) | (rw [hD]; rfl)
  have hq3 : 0 = (M.make r p move).1.gain := by first | rfl | (rw [hm]; done) | (rw [hD]; rfl)
  refine zS <| Qb ?_
  refine Qm rfl <| zw 3 rfl rfl rfl ?_
  refine Qa rfl <| Qa rfl <| JL.nil ?_
  exact zro (Up.refl _ _)
 have hm : (M.make r p move).2 = 0 := by simpa using h11
 refine Js.skip <| Js.seq ?_
 refine zk [6, 8] (fun F U l os u => l = F [(7, .int .i64 (((M.make r p move).1).gain))] ∧ os = U [nO, nO, nO, some (boxO b5 [.slice A8 (((((M.make r p move).1).next).pits).length) c8, .slice A9 (((((M.make r p move).1).next).stores).length) c9, .int .i64 ((((M.make r p move).1).next).player)] 28)]) ?_ ?_
 ·
  refine zdr [4] ?_
  refine jF 0 fld_64_3 rfl rfl ?_
  refine JH.q 1 rfl (L9 0 rfl rfl) ?_
  refine jF 2 fld_64_1 rfl rfl ?_
  refine y2 3 4 ?_ ?_
  ·
   refine JHo.q rfl (q_load1 ty_2.h rfl (Mem.box (i := 0) rfl rfl)) ?_
   refine y1 4 ?_
   refine yst rfl rfl rfl ?_
   refine jA 5 rfl rfl ?_
   refine jA 6 rfl rfl ?_
   refine yd ?_
   exact zm ⟨rfl, rfl⟩ (Up.refl _ _)
  refine yst rfl rfl rfl ?_
  refine y1 3 ?_
  refine JHo.q rfl (q_load1 ty_2.h rfl (Mem.box (i := 0) rfl rfl)) ?_
  refine jA 5 rfl rfl ?_
  refine jA 6 rfl rfl ?_
  refine yd ?_
  exact zm ⟨rfl, rfl⟩ (Up.refl _ _)
 rintro _ _ u12 ⟨rfl, rfl⟩ x12
 refine zn ?_
 have hq0 : ((((M.make r p move).1).next).pits) = ((M.make r p move).1.next).pits := by first | rfl | (rw [hm]; done) | (rw [hD]; rfl)
 have hq1 : ((((M.make r p move).1).next).stores) = ((M.make r p move).1.next).stores := by first | rfl | (rw [hm]; done) | (rw [hD]; rfl)
 have hq2 : ((((M.make r p move).1).next).player) = ((M.make r p move).1.next).player := by first | rfl | (rw [hm]; done) | (rw [hD]; rfl)
 have hq3 : (((M.make r p move).1).gain) = (M.make r p move).1.gain := by first | rfl | (rw [hm]; done) | (rw [hD]; rfl)
 have hq4 : 0 = (M.make r p move).2 := by first | rfl | (rw [hm]; done) | (rw [hD]; rfl)
 exact zro x12
theorem c_spec_MoveFault (r : M.Rul) {v_r : Value} (p : M.Pos) {v_p : Value} (move : Int) {w : World} (h_r : (Ty.agg (cRules r)).ok w v_r) (h_p : (Ty.agg (cPosition p)).ok w v_p) (r0 : p.pits.length ≤ 4194304 := by exact om_) (r1 : p.stores.length ≤ 4194304 := by exact om_) : RetV Try.prog 21 [v_r, v_p, .int .i64 move] w (.int .i64 ((M.make r p move).2)) := by
 revert v_r; apply opn
 revert v_p; apply opn
 intro A1 c1 h1 bl1 bh1 A2 c2 h2 bl2 bh2
 refine enter @Try.func21 @Try.ntmps21 rfl rfl ?_
 refine zent ?_
 refine zS <| zb rfl fun b3 => zb rfl fun b4 => Qa rfl <| zN <| Qm rfl <| zp rfl (fun w hw => c_spec_l07Make r p move (ok_ hw) (ok_ hw)) ?_
 intro u5 x5 A6 c6 h6 bl6 bh6 A7 c7 h7 bl7 bh7
 refine Qm rfl <| Qx rfl rfl <| Qx rfl rfl <| za zeh fun b8 => zw 0 rfl rfl rfl ?_
 refine Qa rfl <| zN <| Qm rfl <| Qa rfl <| JL.nil ?_
 exact zr x5
theorem c_spec_l11Sow (list : List M.Fct) {Alist_0 : Option Addr} {clist_0 : Nat} {glist_0 : List Nat} (begin place : Int) {w : World} (hb : Bw w [rowO 46 3 (.slice Alist_0 list.length clist_0) list.length (fltV vcFact list) glist_0]) (bd0 : list.length ≤ clist_0 := by exact om_) (bd1 : clist_0 ≤ 9223372036854775807 := by exact om_) (r0 : 0 ≤ begin := by exact om_) (r1 : begin ≤ (list.length : Int) := by exact om_) (r2 : list.length ≤ 100000 := by exact om_) (r3 : M.CB list 100000 := by exact om_) : RetB Try.prog 83 [.slice Alist_0 list.length clist_0, .int .i64 begin, .int .i64 place] w [rowO 46 3 (.slice Alist_0 list.length clist_0) list.length (fltV vcFact list) glist_0] (fun v bs' => ∃ (Axr : Option Addr) (cxr : Nat) (gxr : List Nat), v = .slice Axr ((M.sowL list begin.toNat place).length) cxr ∧ bs' = [rowO 46 3 (.slice Axr ((M.sowL list begin.toNat place).length) cxr) ((M.sowL list begin.toNat place).length) (fltV vcFact (M.sowL list begin.toNat place)) gxr] ∧ (M.sowL list begin.toNat place).length ≤ cxr ∧ cxr ≤ 9223372036854775807) := by
 have hsl := M.sowL_len list begin.toNat place
 refine enterB hb @Try.func83 @Try.ntmps83 rfl rfl ?_
 refine zent ?_
 refine Js.trashE ?_
 refine zn ?_
 refine zS <| Qa rfl <| zJ <| zS <| Qm rfl <| Qa rfl <| JL.nil <| Js.block ?_
 refine zl [0, 2] (fun F U l os u m => ∃ (i : Int) (G1_1 : List Nat), l = F [(7, .int .i64 i)] ∧ os = U [nO, some (anyO G1_1)] ∧ (M.NoF list begin.toNat i.toNat place) ∧ (begin ≤ i) ∧ (i ≤ (list.length : Int)) ∧ m = list.length - i.toNat) ⟨begin, _, rfl, rfl, by exact M.NoF.zero _ _ _, by omega, zt, rfl⟩ ?_
 rintro _ _ u1 _ ⟨i, G1_1, rfl, rfl, hN, hbi, hil, rfl⟩ x1
 refine zn ?_
 refine Js.seq <| zS <| Qm rfl <| Qm rfl <| Qz rfl <| Ql rfl rfl <| JL.nil ?_
 refine zi (fun h2 h2' => ?_) fun h2 h2' => ?_
 ·
  have hi9 : i.toNat < list.length := by have := h2'; omega
  have hcb := r3.fct hi9
  refine Js.skip <| Js.seq <| Js.block <| zS <| Qm rfl <| Qm rfl ?_
  refine JL.fact (row_some (i := 0) rfl len_) (fun hf4 => ?_)
  obtain ⟨b4, rfl⟩ := hf4
  have hy3 : list[i.toNat]? = some (M.fct list i.toNat) := M.fct_get len_
  refine Qq (p_indexAddr el_31 rfl rfl len_ len_ rfl) <| Qf fh rfl <| Qw (q_load1 ty_2.h rfl (fun w hw => (Mem.rowR' (i := 0) rfl (fltV_at (C := vcFact) (fun _ => rfl) hy3) w hw) 1 _ rfl)) <| Qm rfl <| Qe rfl rfl <| JL.nil ?_
  refine zi (fun h5 h5' => ?_) fun h5 h5' => ?_
  ·
   have hE := M.sowL_hit hN (by omega) hi9 (by simpa using h5)
   have hy6 : list[i.toNat]? = some (M.fct list i.toNat) := M.fct_get len_
   have hy7 : list[i.toNat]? = some (M.fct list i.toNat) := M.fct_get len_
   refine zS <| Qm rfl <| Qm rfl <| Qq (p_indexAddr el_31 rfl rfl len_ len_ rfl) <| Qf fh rfl <| Qw (q_load1 ty_2.h rfl (fun w hw => (Mem.rowR' (i := 0) rfl (fltV_at (C := vcFact) (fun _ => rfl) hy6) w hw) 2 _ rfl)) <| Qp rfl rfl <| Qq (p_indexAddr el_31 rfl rfl len_ len_ rfl) <| Qf fh rfl ?_
   refine JL.s (e_storeRow (i := 0) (xs' := fltV vcFact (list.set i.toNat (M.Fct.mk ((M.fct list i.toNat).kind) ((M.fct list i.toNat).place) (((M.fct list i.toNat).count) + 1)))) ty_2.h rfl rfl rfl rfl rfl rfl (fltV_lt (C := vcFact) (j := 2) (fun _ => rfl) len_ (by decide)) (fltV_cell (C := vcFact) (j := 2) (y' := (M.Fct.mk ((M.fct list i.toNat).kind) ((M.fct list i.toNat).place) (((M.fct list i.toNat).count) + 1))) (fun _ => rfl) hy7 (by decide) rfl)) ?_
   rintro _ _ _ ⟨rfl, rfl⟩ _
   refine znl ?_
   refine zN <| Qm rfl <| Qa rfl <| JL.nil ?_
   refine zrb [0] hb x1 ?_
   have hN1 : (M.sowL list begin.toNat place).length = list.length := by first | rfl | (rw [← hE]; done) | (rw [← hE]; exact List.length_set) | (rw [← hE]; simp)
   have hE1 : (M.sowL list begin.toNat place) = list.set i.toNat (M.Fct.mk ((M.fct list i.toNat).kind) ((M.fct list i.toNat).place) (((M.fct list i.toNat).count) + 1)) := by first | exact hE.symm | (rw [← hE]; done) | (rw [← hE]; rfl)
   refine ⟨(some ⟨b4, 0, none⟩), clist_0, glist_0, (by first | rfl | (rw [hN1]; done) | (rw [hN1]; rfl) | (rw [hE1]; done) | (rw [hE1]; rfl)), ?_, ?_, ?_⟩
   · rw [hN1, hE1]
   all_goals (first | (rw [hN1, hE1]; omega) | omega | (simp only [*]; omega) | (simp; done))
  have hN2 := hN.step (by simpa using h5)
  refine Js.skip <| Js.blockEnd <| Js.region <| Qm rfl <| Qp rfl rfl <| Qa rfl <| JL.nil ?_
  exact zag ⟨i + 1, _, rfl, rfl, by rw [show (i + 1).toNat = i.toNat + 1 by omega]; exact hN2, by omega, by omega, rfl⟩ x1
 have hE := M.sowL_miss hN (by omega) (by have := h2'; omega)
 refine zx ?_
 refine zS <| Qm rfl <| Qm rfl <| Qb ?_
 refine zbs fun b8 => ?_
 refine JL.e (e_append (i := 1) (n' := (list ++ [(M.Fct.mk 2 place 1)]).length) (vs' := fltV vcFact (list ++ [(M.Fct.mk 2 place 1)])) el_31 rfl rfl rfl rfl (src_row (i := 0) und_31 rfl rfl) (by omega) (by omega) ln2_ (by first | rfl | exact fltV_app _ _ _ | exact fltV_snoc _ _ _ | (simp [fltV]; done))) ?_
 rintro v10 _ _ ⟨⟨g11, rfl⟩, rfl⟩ _
 refine JL.fact (row_form' (i := 1) rfl) (fun hf12 => ?_)
 obtain ⟨A12, c12, rfl, bl12, bh12⟩ := hf12
 refine znl ?_
 refine Qa rfl <| JL.nil ?_
 refine zrb [1] hb x1 ?_
 have hN1 : (M.sowL list begin.toNat place).length = (list ++ [(M.Fct.mk 2 place 1)]).length := by first | rfl | (rw [← hE]; done) | (rw [← hE]; exact List.length_set) | (rw [← hE]; simp)
 have hE1 : (M.sowL list begin.toNat place) = list ++ [(M.Fct.mk 2 place 1)] := by first | exact hE.symm | (rw [← hE]; done) | (rw [← hE]; rfl)
 refine ⟨A12, c12, g11, (by first | rfl | (rw [hN1]; done) | (rw [hN1]; rfl) | (rw [hE1]; done) | (rw [hE1]; rfl)), ?_, ?_, ?_⟩
 · rw [hN1, hE1]
 all_goals (first | (rw [hN1, hE1]; omega) | omega | (simp only [*]; omega) | (simp; done))
theorem c_spec_l11Laps (r : M.Rul) {v_r : Value} (p : M.Pos) {v_p : Value} (move : Int) {w : World} (h_r : (Ty.ref (cRules r)).ok w v_r) (h_p : (Ty.ref (cPosition p)).ok w v_p) (r0 : (M.sowMove r p move).1 = 0 := by exact om_) (r1 : p.pits.length ≤ 4194304 := by exact om_) (r2 : p.stores.length ≤ 4194304 := by exact om_) : Ret Try.prog 47 [v_r, v_p, .int .i64 move] w (Ty.sl 46 3 (M.lapsF r p move).length (lFact (M.lapsF r p move))) := by
 obtain ⟨hok, m0, m1, hG, q0, q1, hsum⟩ := M.sowMove_ok r0
 obtain ⟨g1, g2, g3, g4, g5, g6, g7⟩ := M.okP_bd hok
 have hq := M.mul_bd g7 g1 g2
 have hpl := M.path_len r0
 revert v_r; apply opn
 intro b1 o1 hr1
 revert v_p; apply opn
 intro b4 o4 A2 c2 h2 bl2 bh2 A3 c3 h3 bl3 bh3 hr4
 refine enter @Try.func47 @Try.ntmps47 rfl rfl ?_
 refine zent ?_
 refine zS <| Qa rfl <| zN <| zbs fun b5 => ?_
 refine Qa rfl <| zN <| Qm rfl <| Qm rfl <| Qm rfl <| zp rfl (fun w hw => c_spec_l05Move r p move (ok_ hw) (ok_ hw)) ?_
 intro u7 x7 A8 c8 h8 bl8 bh8 A9 c9 h9 bl9 bh9 A10 c10 h10 bl10 bh10
 refine Qm rfl <| Qx rfl rfl <| Qx rfl rfl <| Qx rfl rfl <| za zeh fun b11 => zw 0 rfl rfl rfl ?_
 refine Qa rfl <| Qa rfl <| zN <| Qm rfl <| Qc rfl <| Qf fh rfl <| QC ((hr4.vis x7.vis) 0 _ rfl) rfl <| zcs rfl (fun w hw => c_spec_l00Own p.pits (ok_ hw)) ?_
 intro A12 c12 bl12 bh12
 refine Qa rfl <| zJ ?_
 refine zdr [] ?_
 refine jM 0 rfl rfl ?_
 refine jN 1 rfl rfl ?_
 refine jF 2 fld_28_2 rfl rfl ?_
 refine jW 3 ty_2 rfl rfl (fun hv => (hr4.vis (x7.vis.trans hv)) 2 _ rfl) ?_
 refine jM 4 rfl rfl ?_
 refine jN 5 rfl rfl ?_
 refine jF 6 fld_25_0 rfl rfl ?_
 refine jW 7 ty_2 rfl rfl (fun hv => (hr1.vis (x7.vis.trans hv)) 0 _ rfl) ?_
 refine JH.p 8 rfl (p_mul rfl rfl (IntWalk.i64_in _ (by omega))) ?_
 refine jM 9 rfl rfl ?_
 refine JH.p 10 rfl (p_add rfl rfl (IntWalk.i64_in _ (by omega))) ?_
 refine jA 11 rfl rfl ?_
 refine yd ?_
 refine zS <| Qa rfl <| zN <| Qa rfl <| zJ <| zS <| Qa rfl <| JL.nil <| Js.block ?_
 refine zl [9, 11] (fun F U l os u m => ∃ (i b9 : Nat) (frm left : Int) (ps : List Int) (out d c : List M.Fct) (A13_7 : Option Addr) (c13_7 : Nat) (g13_7 : List Nat), l = F [(7, .slice A13_7 out.length c13_7), (12, .int .i64 frm), (13, .int .i64 left), (14, .int .i64 (b9 : Int)), (15, .int .i64 (i : Int))] ∧ os = U [some (rowO 2 1 (.slice A12 p.pits.length c12) p.pits.length (ints_ ps) []), nO, some (rowO 46 3 (.slice A13_7 out.length c13_7) out.length (fltV vcFact out) g13_7)] ∧ (M.lsteps (M.lap0 p (p.player * r.pits + move)) ((M.sowMove r p move).2.2.take i) = ⟨ps, frm, left, d, c⟩) ∧ (out = d ++ c) ∧ (i ≤ (M.sowMove r p move).2.2.length) ∧ (¬ left = 0 → b9 = d.length) ∧ (b9 ≤ out.length) ∧ (M.CB out (96 + (i : Int))) ∧ (out.length ≤ 2 * i) ∧ (out.length ≤ c13_7) ∧ (c13_7 ≤ 9223372036854775807) ∧ m = (M.sowMove r p move).2.2.length - i) ⟨0, 0, (p.player * r.pits) + move, 0, p.pits, [], [], [], _, _, _, rfl, rfl, by rfl, by rfl, zt, by exact (fun h => absurd rfl h), by simp, by exact M.CB.nil _, by simp, zu, zu, rfl⟩ ?_
 rintro _ _ u13 _ ⟨i, b9, frm, left, ps, out, d, c, A13_7, c13_7, g13_7, rfl, rfl, hS, hO, hi, hB, hB2, hC, hL, f13_7, f13_8, rfl⟩ x13
 refine zn ?_
 refine Js.seq <| zS <| Qm rfl <| Qm rfl <| Qz rfl <| Ql rfl rfl <| JL.nil ?_
 refine zi (fun h14 h14' => ?_) fun h14 h14' => ?_
 ·
  have hil : i < (M.sowMove r p move).2.2.length := by have := h14'; omega
  have hP := M.move_pre r0 i hil
  rw [hS] at hP
  obtain ⟨ss9, hG9⟩ : ∃ ss, M.Good r ps ss left := hP.g
  have hz9 : left = 0 → 0 ≤ frm ∧ 0 < M.getI ps frm := hP.z
  have hf9 : -1 ≤ frm ∧ frm < 2 * r.pits := hP.f
  have hx9 := M.path_bd r0 hil
  have hlp := hG9.lp
  have hn9 := hG9.n0
  have ha9 := hG9.all
  have hv9 := hG9.pit frm
  have hvx := hG9.pit (M.nth (M.sowMove r p move).2.2 i)
  have hi1 := M.nn_isum hG9.np
  have hi2 := M.nn_isum hG9.ns
  refine Js.skip <| Js.seq <| Js.block <| Js.seq <| zS <| Qm rfl <| Qe rfl rfl <| JL.nil ?_
  refine zi (fun h15 h15' => ?_) fun h15 h15' => ?_
  ·
   have hl0 : left = 0 := by simpa using h15
   obtain ⟨z1, z2⟩ := hz9 hl0
   have hGt := hG9
   rw [hl0] at hGt
   have hGu := hGt.takeUp z1 hf9.2
   have hvy := hGu.pit (M.nth (M.sowMove r p move).2.2 i)
   have hO2 := M.sowL_new (t := (M.Fct.mk 1 frm (M.getI ps frm))) (x := (M.nth (M.sowMove r p move).2.2 i)) hO
   have hC2 : M.CB (M.sowL (out ++ [(M.Fct.mk 1 frm (M.getI ps frm))]) (((out ++ [(M.Fct.mk 1 frm (M.getI ps frm))]).length : Int)).toNat (M.nth (M.sowMove r p move).2.2 i)) (96 + ((i + 1 : Nat) : Int)) := ((M.CB.app hC (show 0 ≤ M.getI ps frm by omega) (show M.getI ps frm ≤ 96 + (i : Int) by omega)).sow (by omega) _ _).mono (by omega)
   have hB4 := M.sowL_ge (b := (out ++ [(M.Fct.mk 1 frm (M.getI ps frm))]).length) (l := out ++ [(M.Fct.mk 1 frm (M.getI ps frm))]) (x := (M.nth (M.sowMove r p move).2.2 i)) (Nat.le_refl _)
   have hL2 := M.sowL_len (out ++ [(M.Fct.mk 1 frm (M.getI ps frm))]) (((out ++ [(M.Fct.mk 1 frm (M.getI ps frm))]).length : Int)).toNat (M.nth (M.sowMove r p move).2.2 i)
   have hB3 : ¬ (M.getI ps frm - 1) = 0 → (out ++ [(M.Fct.mk 1 frm (M.getI ps frm))]).length = (((d ++ c) ++ [(M.Fct.mk 1 frm (M.getI ps frm))]) : List M.Fct).length := fun _ => M.newLen hO
   have hol9 : (out ++ [(M.Fct.mk 1 frm (M.getI ps frm))]).length = out.length + 1 := by simp
   refine zS <| Qm rfl <| Qm rfl ?_
   refine JL.fact (row_some (i := 0) rfl (by omega)) (fun hf17 => ?_)
   obtain ⟨b17, rfl⟩ := hf17
   refine Qq (p_indexAddr el_26 rfl rfl (by omega) (by omega) rfl) <| Qw (q_load1 ty_2.h rfl (Mem.row (i := 0) rfl (ints_getI (i := frm) (by omega)))) <| Qa rfl <| zN <| Qm rfl <| Qm rfl <| Qm rfl <| Qb ?_
   refine zbs fun b18 => ?_
   refine JL.e (e_append (i := 3) (n' := (out ++ [(M.Fct.mk 1 frm (M.getI ps frm))]).length) (vs' := fltV vcFact (out ++ [(M.Fct.mk 1 frm (M.getI ps frm))])) el_31 rfl rfl rfl rfl (src_row (i := 0) und_31 rfl rfl) (by omega) (by omega) ln2_ (by first | rfl | exact fltV_app _ _ _ | exact fltV_snoc _ _ _ | (simp [fltV]; done))) ?_
   rintro v20 _ _ ⟨⟨g21, rfl⟩, rfl⟩ _
   refine JL.fact (row_form' (i := 3) rfl) (fun hf22 => ?_)
   obtain ⟨A22, c22, rfl, bl22, bh22⟩ := hf22
   refine znl ?_
   refine Qa rfl <| zN <| Qm rfl <| Qm rfl <| Qq (p_indexAddr el_26 rfl rfl (by omega) (by omega) rfl) ?_
   refine JL.s (e_storeRow (i := 1) (xs' := ints_ (M.setI ps frm 0)) ty_2.h rfl rfl rfl rfl rfl rfl (ints_lt (i := frm.toNat) (by omega)) (ints_setL (i := frm.toNat) (by omega))) ?_
   rintro _ _ _ ⟨rfl, rfl⟩ _
   refine znl ?_
   obtain ⟨b24, o24, he24, hc24⟩ := ints_elem (Ty.mono _ h10 x13.vis) (i := i) (by omega)
   refine zG <| Qm rfl <| Qz rfl <| Qa rfl <| zN <| Qm rfl <| Qm rfl <| Qm rfl <| Qm rfl <| Qq (p_indexAddr el_26 rfl rfl (by omega) (by omega) he24) <| QC hc24 rfl ?_
   refine zhl [3] ?_
   refine zB 1 sp_ rfl (fun w hb hw => c_spec_l11Sow (out ++ [(M.Fct.mk 1 frm (M.getI ps frm))]) (((out ++ [(M.Fct.mk 1 frm (M.getI ps frm))]).length) : Int) (M.nth ((M.sowMove r p move).2.2) i) hb (r3 := ((M.CB.app hC (show 0 ≤ M.getI ps frm by omega) (show M.getI ps frm ≤ 96 + (i : Int) by omega)).mono (by omega)))) ?_
   rintro _ _ G25 ⟨A25_r, c25_r, g25_r, rfl, rfl, bl25_0, bl25_1⟩
   refine znl ?_
   obtain ⟨b26, o26, he26, hc26⟩ := ints_elem (Ty.mono _ h10 x13.vis) (i := i) (by omega)
   refine Qa rfl <| zJ <| zS <| Qm rfl <| Qm rfl <| Qq (p_indexAddr el_26 rfl rfl (by omega) (by omega) he26) <| QC hc26 rfl <| Qh rfl rfl <| JL.nil ?_
   refine zi (fun h27 h27' => ?_) fun h27 h27' => ?_
   ·
    have hS2 := M.lst_zp hS hil hl0 (by have := h27'; omega)
    obtain ⟨b28, o28, he28, hc28⟩ := ints_elem (Ty.mono _ h10 x13.vis) (i := i) (by omega)
    refine Js.region <| Qm rfl <| Qm rfl <| Qm rfl <| Qq (p_indexAddr el_26 rfl rfl (by omega) (by omega) he28) <| QC hc28 rfl <| Qq (p_indexAddr el_26 rfl rfl (by omega) (by omega) rfl) <| Qw (q_load1 ty_2.h rfl (Mem.row (i := 3) rfl (ints_getI (i := M.nth ((M.sowMove r p move).2.2) i) (by first | omega | (simp only [List.length_set, M.setI_length]; omega))))) <| Qp rfl rfl <| Qq (p_indexAddr el_26 rfl rfl (by omega) (by omega) rfl) ?_
    refine JL.s (e_storeRow (i := 3) (xs' := ints_ (M.setI (M.setI ps frm 0) (M.nth ((M.sowMove r p move).2.2) i) ((M.getI (M.setI ps frm 0) (M.nth ((M.sowMove r p move).2.2) i)) + 1))) ty_2.h rfl rfl rfl rfl rfl rfl (ints_lt (i := (M.nth ((M.sowMove r p move).2.2) i).toNat) (by first | omega | (simp only [List.length_set, M.setI_length]; omega))) (ints_setL (i := (M.nth ((M.sowMove r p move).2.2) i).toNat) (by first | omega | (simp only [List.length_set, M.setI_length]; omega)))) ?_
    rintro _ _ _ ⟨rfl, rfl⟩ _
    refine znl ?_
    obtain ⟨b31, o31, he31, hc31⟩ := ints_elem (Ty.mono _ h10 x13.vis) (i := i) (by omega)
    refine zN <| Qm rfl <| Qs rfl rfl <| Qa rfl <| zG <| Qm rfl <| Qm rfl <| Qq (p_indexAddr el_26 rfl rfl (by omega) (by omega) he31) <| QC hc31 rfl <| Qa rfl <| JL.nil <| Js.blockEnd <| Js.region <| Qm rfl ?_
    refine Qp rfl rfl <| Qa rfl <| JL.nil ?_
    refine zd [3, 3, 0] rfl fun u32 x32 => ?_
    exact zag ⟨i + 1, (out ++ [(M.Fct.mk 1 frm (M.getI ps frm))]).length, M.nth ((M.sowMove r p move).2.2) i, (M.getI ps frm) - 1, M.setI (M.setI ps frm 0) (M.nth ((M.sowMove r p move).2.2) i) ((M.getI (M.setI ps frm 0) (M.nth ((M.sowMove r p move).2.2) i)) + 1), (M.sowL (out ++ [(M.Fct.mk 1 frm (M.getI ps frm))]) (((out ++ [(M.Fct.mk 1 frm (M.getI ps frm))]).length) : Int).toNat (M.nth ((M.sowMove r p move).2.2) i)), ((d ++ c) ++ [M.Fct.mk 1 frm (M.getI ps frm)]), (M.addF [] (M.nth (M.sowMove r p move).2.2 i)), _, _, _, rfl, rfl, by exact hS2, by exact hO2, by omega, by exact hB3, by exact hB4, by exact hC2, by have h9 := hL2; omega, zu, zu, rfl⟩ (x13.trans x32)
   have hS2 := M.lst_zn hS hil hl0 (by have := h27'; omega)
   obtain ⟨b33, o33, he33, hc33⟩ := ints_elem (Ty.mono _ h10 x13.vis) (i := i) (by omega)
   refine Js.skip <| zS <| Qm rfl <| Qs rfl rfl <| Qa rfl <| zG <| Qm rfl <| Qm rfl <| Qq (p_indexAddr el_26 rfl rfl (by omega) (by omega) he33) <| QC hc33 rfl <| Qa rfl <| JL.nil <| Js.blockEnd <| Js.region ?_
   refine Qm rfl <| Qp rfl rfl <| Qa rfl <| JL.nil ?_
   refine zd [3, 3, 0] rfl fun u34 x34 => ?_
   exact zag ⟨i + 1, (out ++ [(M.Fct.mk 1 frm (M.getI ps frm))]).length, M.nth ((M.sowMove r p move).2.2) i, (M.getI ps frm) - 1, M.setI ps frm 0, (M.sowL (out ++ [(M.Fct.mk 1 frm (M.getI ps frm))]) (((out ++ [(M.Fct.mk 1 frm (M.getI ps frm))]).length) : Int).toNat (M.nth ((M.sowMove r p move).2.2) i)), ((d ++ c) ++ [M.Fct.mk 1 frm (M.getI ps frm)]), (M.addF [] (M.nth (M.sowMove r p move).2.2 i)), _, _, _, rfl, rfl, by exact hS2, by exact hO2, by omega, by exact hB3, by exact hB4, by exact hC2, by have h9 := hL2; omega, zu, zu, rfl⟩ (x13.trans x34)
  have hl0 : ¬ left = 0 := by simpa using h15
  have hO2 := M.sowL_old (x := (M.nth (M.sowMove r p move).2.2 i)) hO (hB hl0)
  have hC2 : M.CB (M.sowL out ((b9 : Int)).toNat (M.nth (M.sowMove r p move).2.2 i)) (96 + ((i + 1 : Nat) : Int)) := (hC.sow (by omega) _ _).mono (by omega)
  have hB4 := M.sowL_ge (x := (M.nth (M.sowMove r p move).2.2 i)) hB2
  have hL2 := M.sowL_len out ((b9 : Int)).toNat (M.nth (M.sowMove r p move).2.2 i)
  have hB3 : ¬ (left - 1) = 0 → b9 = d.length := fun _ => hB hl0
  obtain ⟨b35, o35, he35, hc35⟩ := ints_elem (Ty.mono _ h10 x13.vis) (i := i) (by omega)
  refine Js.skip <| zS <| Qm rfl <| Qm rfl <| Qm rfl <| Qm rfl <| Qq (p_indexAddr el_26 rfl rfl (by omega) (by omega) he35) <| QC hc35 rfl ?_
  refine zhl [2] ?_
  refine zB 1 sp_ rfl (fun w hb hw => c_spec_l11Sow out (b9 : Int) (M.nth ((M.sowMove r p move).2.2) i) hb (r3 := (hC.mono (by omega)))) ?_
  rintro _ _ G36 ⟨A36_r, c36_r, g36_r, rfl, rfl, bl36_0, bl36_1⟩
  refine znl ?_
  obtain ⟨b37, o37, he37, hc37⟩ := ints_elem (Ty.mono _ h10 x13.vis) (i := i) (by omega)
  refine Qa rfl <| zJ <| zS <| Qm rfl <| Qm rfl <| Qq (p_indexAddr el_26 rfl rfl (by omega) (by omega) he37) <| QC hc37 rfl <| Qh rfl rfl <| JL.nil ?_
  refine zi (fun h38 h38' => ?_) fun h38 h38' => ?_
  ·
   have hS2 := M.lst_np hS hil hl0 (by have := h38'; omega)
   obtain ⟨b39, o39, he39, hc39⟩ := ints_elem (Ty.mono _ h10 x13.vis) (i := i) (by omega)
   refine Js.region <| Qm rfl <| Qm rfl <| Qm rfl <| Qq (p_indexAddr el_26 rfl rfl (by omega) (by omega) he39) <| QC hc39 rfl ?_
   refine JL.fact (row_some (i := 2) rfl (by omega)) (fun hf41 => ?_)
   obtain ⟨b41, rfl⟩ := hf41
   refine Qq (p_indexAddr el_26 rfl rfl (by omega) (by omega) rfl) <| Qw (q_load1 ty_2.h rfl (Mem.row (i := 2) rfl (ints_getI (i := M.nth ((M.sowMove r p move).2.2) i) (by omega)))) <| Qp rfl rfl <| Qq (p_indexAddr el_26 rfl rfl (by omega) (by omega) rfl) ?_
   refine JL.s (e_storeRow (i := 2) (xs' := ints_ (M.setI ps (M.nth ((M.sowMove r p move).2.2) i) ((M.getI ps (M.nth ((M.sowMove r p move).2.2) i)) + 1))) ty_2.h rfl rfl rfl rfl rfl rfl (ints_lt (i := (M.nth ((M.sowMove r p move).2.2) i).toNat) (by omega)) (ints_setL (i := (M.nth ((M.sowMove r p move).2.2) i).toNat) (by omega))) ?_
   rintro _ _ _ ⟨rfl, rfl⟩ _
   refine znl ?_
   obtain ⟨b43, o43, he43, hc43⟩ := ints_elem (Ty.mono _ h10 x13.vis) (i := i) (by omega)
   refine zN <| Qm rfl <| Qs rfl rfl <| Qa rfl <| zG <| Qm rfl <| Qm rfl <| Qq (p_indexAddr el_26 rfl rfl (by omega) (by omega) he43) <| QC hc43 rfl <| Qa rfl <| JL.nil <| Js.blockEnd <| Js.region <| Qm rfl ?_
   refine Qp rfl rfl <| Qa rfl <| JL.nil ?_
   refine zd [2, 2, 0] rfl fun u44 x44 => ?_
   exact zag ⟨i + 1, b9, M.nth ((M.sowMove r p move).2.2) i, left - 1, M.setI ps (M.nth ((M.sowMove r p move).2.2) i) ((M.getI ps (M.nth ((M.sowMove r p move).2.2) i)) + 1), (M.sowL out (b9 : Int).toNat (M.nth ((M.sowMove r p move).2.2) i)), d, (M.addF c (M.nth (M.sowMove r p move).2.2 i)), _, _, _, rfl, rfl, by exact hS2, by exact hO2, by omega, by exact hB3, by exact hB4, by exact hC2, by have h9 := hL2; omega, zu, zu, rfl⟩ (x13.trans x44)
  have hS2 := M.lst_nn hS hil hl0 (by have := h38'; omega)
  obtain ⟨b45, o45, he45, hc45⟩ := ints_elem (Ty.mono _ h10 x13.vis) (i := i) (by omega)
  refine Js.skip <| zS <| Qm rfl <| Qs rfl rfl <| Qa rfl <| zG <| Qm rfl <| Qm rfl <| Qq (p_indexAddr el_26 rfl rfl (by omega) (by omega) he45) <| QC hc45 rfl <| Qa rfl <| JL.nil <| Js.blockEnd <| Js.region ?_
  refine Qm rfl <| Qp rfl rfl <| Qa rfl <| JL.nil ?_
  refine zd [2, 2, 0] rfl fun u46 x46 => ?_
  exact zag ⟨i + 1, b9, M.nth ((M.sowMove r p move).2.2) i, left - 1, ps, (M.sowL out (b9 : Int).toNat (M.nth ((M.sowMove r p move).2.2) i)), d, (M.addF c (M.nth (M.sowMove r p move).2.2 i)), _, _, _, rfl, rfl, by exact hS2, by exact hO2, by omega, by exact hB3, by exact hB4, by exact hC2, by have h9 := hL2; omega, zu, zu, rfl⟩ (x13.trans x46)
 have hE := M.lapsF_of hS hO (by have := h14'; omega)
 refine zx ?_
 have hq0 : out = (M.lapsF r p move) := by first | exact hE.symm | (rw [hE]; done)
 refine zS <| Qm rfl <| Qa rfl <| JL.nil ?_
 exact zro (x7.trans x13) (g := by exact (gv_flat lFact (xs := out) po_ (by first | rfl | (simp [fltV]; done)) (by first | with_reducible rfl | assumption | rfl)))
theorem c_spec_l11Facts (r : M.Rul) {v_r : Value} (p : M.Pos) {v_p : Value} (move : Int) {w : World} (h_r : (Ty.ref (cRules r)).ok w v_r) (h_p : (Ty.ref (cPosition p)).ok w v_p) (r0 : (M.make r p move).2 = 0 := by exact om_) (r1 : p.pits.length ≤ 4194304 := by exact om_) (r2 : p.stores.length ≤ 4194304 := by exact om_) : Ret Try.prog 22 [v_r, v_p, .int .i64 move] w (Ty.sl 46 3 (M.factsF r p move).length (lFact (M.factsF r p move))) := by
 have hz := M.make_sow0 r0
 obtain ⟨hok, m0, m1, hG, q0, q1, hsum⟩ := M.sowMove_ok hz
 obtain ⟨g1, g2, g3, g4, g5, g6, g7⟩ := M.okP_bd hok
 have hpl := M.path_len hz
 have hll := M.lapsF_len (r := r) (p := p) (move := move)
 have hcl := M.captured_len (s := (M.sowMove r p move).2.1) (player := p.player) q1 g2
 have htl := M.taken_len (s := (M.sowMove r p move).2.1) (player := p.player) q1 g2
 have hlp := hG.lp
 have hmt : ∀ x ∈ (M.taken r (M.sowMove r p move).2.1 p.player), 0 ≤ x ∧ x < (M.sowMove r p move).2.1.pits.length := fun x hx => by have := M.taken_mem q1 hx; omega
 revert v_r; apply opn
 intro b1 o1 hr1
 revert v_p; apply opn
 intro b4 o4 A2 c2 h2 bl2 bh2 A3 c3 h3 bl3 bh3 hr4
 refine enter @Try.func22 @Try.ntmps22 rfl rfl ?_
 refine zent ?_
 refine zS <| Qa rfl <| zN <| Qm rfl <| Qm rfl <| Qm rfl <| zcs rfl (fun w hw => c_spec_l11Laps r p move (ok_ hw) (ok_ hw) (r0 := hz)) ?_
 intro A5 c5 bl5 bh5
 refine Qa rfl <| zN <| Qm rfl <| Qm rfl <| Qm rfl <| zp rfl (fun w hw => c_spec_l05Move r p move (ok_ hw) (ok_ hw)) ?_
 intro u6 x6 A7 c7 h7 bl7 bh7 A8 c8 h8 bl8 bh8 A9 c9 h9 bl9 bh9
 refine Qm rfl <| Qx rfl rfl <| Qx rfl rfl <| Qx rfl rfl <| za zeh fun b10 => zw 0 rfl rfl rfl ?_
 refine Qa rfl <| Qa rfl <| zN <| Qm rfl <| Qm rfl <| Qc rfl <| Qf fh rfl <| QC ((hr4.vis x6.vis) 2 _ rfl) rfl <| zp rfl (fun w hw => c_spec_l06Pits r ((M.sowMove r p move).2.1) p.player (ok_ hw) (ok_ hw) (r3 := hG)) ?_
 intro u11 x11 A12 c12 h12 bl12 bh12
 refine Qa rfl <| zJ <| zS <| Qa rfl <| JL.nil <| Js.block ?_
 refine zl [0, 1, 2, 8, 11] (fun F U l os u m => ∃ (k : Nat) (o2 : List M.Fct) (A13_7 : Option Addr) (c13_7 : Nat) (g13_7 : List Nat), l = F [(7, .slice A13_7 o2.length c13_7), (12, .int .i64 (k : Int))] ∧ os = U [nO, some (rowO 46 3 (.slice A13_7 o2.length c13_7) o2.length (fltV vcFact o2) g13_7)] ∧ (o2 = M.lapsF r p move ++ ((M.captured r (M.sowMove r p move).2.1 p.player).take k).map (fun x => M.Fct.mk 3 x (M.getI (M.sowMove r p move).2.1.pits x))) ∧ (k ≤ (M.captured r (M.sowMove r p move).2.1 p.player).length) ∧ (o2.length ≤ 20000 + k) ∧ (o2.length ≤ c13_7) ∧ (c13_7 ≤ 9223372036854775807) ∧ m = (M.captured r (M.sowMove r p move).2.1 p.player).length - k) ⟨0, (M.lapsF r p move), _, _, _, rfl, rfl, by simp, zt, by omega, zu, zu, rfl⟩ ?_
 rintro _ _ u13 _ ⟨k, o2, A13_7, c13_7, g13_7, rfl, rfl, hO, hk, hol, f13_3, f13_4, rfl⟩ x13
 refine zn ?_
 refine Js.seq <| zS <| Qm rfl <| Qm rfl <| Qz rfl <| Ql rfl rfl <| JL.nil ?_
 refine zi (fun h14 h14' => ?_) fun h14 h14' => ?_
 ·
  have hk2 : k < (M.captured r (M.sowMove r p move).2.1 p.player).length := by have := h14'; omega
  have hx := M.captured_mem q1 (M.nth_mem hk2)
  have hO2 := M.cap_step hO (M.nth_sm hk2)
  refine Js.skip <| Js.seq <| Js.block ?_
  refine zdr [15] ?_
  refine jM 0 rfl rfl ?_
  refine jM 1 rfl rfl ?_
  refine jM 2 rfl rfl ?_
  obtain ⟨b15, o15, he15, hc15⟩ := ints_elem (Ty.mono _ h12 x13.vis) (i := k) (by omega)
  refine jI 3 el_26 rfl rfl rfl he15 ?_
  refine jW 4 ty_2 rfl rfl hc15.vis ?_
  refine jF 5 fld_58_0 rfl rfl ?_
  refine jB 6 0 ty_26 rfl rfl rfl rfl ?_
  refine jM 7 rfl rfl ?_
  refine jM 8 rfl rfl ?_
  obtain ⟨b16, o16, he16, hc16⟩ := ints_elem (Ty.mono _ h12 x13.vis) (i := k) (by omega)
  refine jI 9 el_26 rfl rfl rfl he16 ?_
  refine jW 10 ty_2 rfl rfl hc16.vis ?_
  obtain ⟨b17, o17, he17, hc17⟩ := ints_elem (Ty.mono _ h7 (x11.vis.trans x13.vis)) (i := (M.nth (M.captured r ((M.sowMove r p move).2.1) p.player) k).toNat) (by omega)
  refine jI 11 el_26 rfl rfl rfl he17 ?_
  refine jW 12 ty_2 rfl rfl hc17.vis ?_
  refine JH.p 13 rfl (q_bld) ?_
  refine y1 14 ?_
  refine ybs rfl fun b18 => ?_
  refine y1 15 ?_
  refine JHo.e rfl (e_append (i := 2) (n' := (o2 ++ [(M.Fct.mk 3 (M.nth (M.captured r ((M.sowMove r p move).2.1) p.player) k) (M.nth (((M.sowMove r p move).2.1).pits) ((M.nth (M.captured r ((M.sowMove r p move).2.1) p.player) k).toNat)))]).length) (vs' := fltV vcFact (o2 ++ [(M.Fct.mk 3 (M.nth (M.captured r ((M.sowMove r p move).2.1) p.player) k) (M.nth (((M.sowMove r p move).2.1).pits) ((M.nth (M.captured r ((M.sowMove r p move).2.1) p.player) k).toNat)))])) el_31 rfl rfl rfl rfl (src_row (i := 0) und_31 rfl rfl) (by omega) (by omega) ln2_ (by first | rfl | exact fltV_app _ _ _ | exact fltV_snoc _ _ _ | (simp [fltV]; done))) (.inr rfl) ?_
  rintro v20 _ _ ⟨⟨g21, rfl⟩, rfl⟩ _
  refine JH.fact (row_form' (i := 2) rfl) (fun hf22 => ?_)
  obtain ⟨A22, c22, rfl, bl22, bh22⟩ := hf22
  refine znh ?_
  refine jA 16 rfl rfl ?_
  refine yd ?_
  refine Js.blockEnd <| Js.region <| Qm rfl <| Qp rfl rfl <| Qa rfl <| JL.nil ?_
  refine zd [1, 1] rfl fun u23 x23 => ?_
  exact zag ⟨k + 1, o2 ++ [(M.Fct.mk 3 (M.nth (M.captured r ((M.sowMove r p move).2.1) p.player) k) (M.nth (((M.sowMove r p move).2.1).pits) ((M.nth (M.captured r ((M.sowMove r p move).2.1) p.player) k).toNat)))], _, _, _, rfl, rfl, by exact hO2, zt, by simp only [List.length_append, List.length_cons, List.length_nil]; omega, zu, zu, rfl⟩ (x13.trans x23)
 have hO3 := M.capF_all hO (by have := h14'; omega)
 refine zx ?_
 refine zS <| Qm rfl <| Qm rfl <| Qc rfl <| Qf fh rfl <| QR 2 (hr4.vis ((x6.vis.trans x11.vis).trans x13.vis)) rfl rfl <| zp rfl (fun w hw => c_spec_l06Raw r ((M.sowMove r p move).2.1) p.player (ok_ hw) (ok_ hw) (r3 := hG)) ?_
 intro u24 x24 A25 c25 h25 bl25 bh25
 refine Qa rfl <| zJ <| zS <| Qm rfl <| Qz rfl <| Qe rfl rfl <| Qm rfl <| zg (Gd.t1 rfl rfl rfl) (fun hc => p_move rfl) <| zg (Gd.t1 rfl rfl rfl) (fun hc => p_len el_26 (gh hc rfl)) <| zg (Gd.t1 rfl rfl rfl) (fun hc => p_gtr (gh hc rfl) rfl) <| Qq (p_pickAnd rfl rfl rfl) <| JL.nil ?_
 refine zi (fun h26 h26' => ?_) fun h26 h26' => ?_
 ·
  have hcn : (M.captured r (M.sowMove r p move).2.1 p.player) = [] ∧ (M.taken r (M.sowMove r p move).2.1 p.player) ≠ [] := (by have h9 := h26; simp only [Bool.and_eq_true, decide_eq_true_eq] at h9; exact ⟨List.length_eq_zero_iff.1 (by have := h9.1; omega), fun e => by rw [e] at h9; simp at h9⟩)
  have hO4 := M.cap_nil hcn rfl hO3
  have hl62 : (o2 ++ [M.Fct.mk 4 (M.sowMove r p move).2.1.last (M.isum ((M.taken r (M.sowMove r p move).2.1 p.player).map (M.getI (M.sowMove r p move).2.1.pits)))]).length = o2.length + 1 := by simp
  refine zdr [7] ?_
  refine jM 0 rfl rfl ?_
  refine jF 1 fld_58_2 rfl rfl ?_
  refine jB 2 0 ty_2 rfl rfl rfl rfl ?_
  refine jM 3 rfl rfl ?_
  refine y1 4 ?_
  refine yv rfl rfl (fun w hw => c_spec_l06Sum ((M.sowMove r p move).2.1) (M.taken r ((M.sowMove r p move).2.1) p.player) (ok_ hw) (ok_ hw) (r2 := hmt) (r3 := hG.pit)) ?_
  refine JH.p 5 rfl (q_bld) ?_
  refine y1 6 ?_
  refine ybs rfl fun b27 => ?_
  refine y1 7 ?_
  refine JHo.e rfl (e_append (i := 2) (n' := (o2 ++ [(M.Fct.mk 4 (((M.sowMove r p move).2.1).last) (M.isum ((M.taken r ((M.sowMove r p move).2.1) p.player).map (M.getI ((M.sowMove r p move).2.1).pits))))]).length) (vs' := fltV vcFact (o2 ++ [(M.Fct.mk 4 (((M.sowMove r p move).2.1).last) (M.isum ((M.taken r ((M.sowMove r p move).2.1) p.player).map (M.getI ((M.sowMove r p move).2.1).pits))))])) el_31 rfl rfl rfl rfl (src_row (i := 0) und_31 rfl rfl) (by omega) (by omega) ln2_ (by first | rfl | exact fltV_app _ _ _ | exact fltV_snoc _ _ _ | (simp [fltV]; done))) (.inr rfl) ?_
  rintro v29 _ _ ⟨⟨g30, rfl⟩, rfl⟩ _
  refine JH.fact (row_form' (i := 2) rfl) (fun hf31 => ?_)
  obtain ⟨A31, c31, rfl, bl31, bh31⟩ := hf31
  refine znh ?_
  refine jA 8 rfl rfl ?_
  refine yd ?_
  refine zS <| Qm rfl <| Qm rfl <| Qm rfl <| zp rfl (fun w hw => c_spec_l07Make r p move (ok_ hw) (ok_ hw)) ?_
  intro u32 x32 A33 c33 h33 bl33 bh33 A34 c34 h34 bl34 bh34
  refine Qm rfl <| Qx rfl rfl <| Qx rfl rfl <| za zeh fun b35 => zw 0 rfl rfl rfl ?_
  refine Qa rfl <| zJ <| zS <| Qf fh rfl <| Q0 0 rfl rfl rfl <| JL.nil ?_
  refine zi (fun h36 h36' => ?_) fun h36 h36' => ?_
  ·
   have hE := M.facts_end r0 rfl hO4 h36
   refine zS <| Qm rfl <| Qb ?_
   refine zbs fun b37 => ?_
   refine JL.e (e_append (i := 4) (n' := ((o2 ++ [(M.Fct.mk 4 (((M.sowMove r p move).2.1).last) (M.isum ((M.taken r ((M.sowMove r p move).2.1) p.player).map (M.getI ((M.sowMove r p move).2.1).pits))))]) ++ [(M.Fct.mk 5 0 0)]).length) (vs' := fltV vcFact ((o2 ++ [(M.Fct.mk 4 (((M.sowMove r p move).2.1).last) (M.isum ((M.taken r ((M.sowMove r p move).2.1) p.player).map (M.getI ((M.sowMove r p move).2.1).pits))))]) ++ [(M.Fct.mk 5 0 0)])) el_31 rfl rfl rfl rfl (src_row (i := 0) und_31 rfl rfl) (by omega) (by omega) ln2_ (by first | rfl | exact fltV_app _ _ _ | exact fltV_snoc _ _ _ | (simp [fltV]; done))) ?_
   rintro v39 _ _ ⟨⟨g40, rfl⟩, rfl⟩ _
   refine JL.fact (row_form' (i := 4) rfl) (fun hf41 => ?_)
   obtain ⟨A41, c41, rfl, bl41, bh41⟩ := hf41
   refine znl ?_
   have hq0 : ((o2 ++ [(M.Fct.mk 4 (((M.sowMove r p move).2.1).last) (M.isum ((M.taken r ((M.sowMove r p move).2.1) p.player).map (M.getI ((M.sowMove r p move).2.1).pits))))]) ++ [(M.Fct.mk 5 0 0)]) = (M.factsF r p move) := by first | exact hE.symm | (rw [hE]; rfl)
   refine Qa rfl <| JL.nil ?_
   exact zro ((((x6.trans x11).trans x13).trans x24).trans x32) (g := by exact (gv_flat lFact (xs := ((o2 ++ [(M.Fct.mk 4 (((M.sowMove r p move).2.1).last) (M.isum ((M.taken r ((M.sowMove r p move).2.1) p.player).map (M.getI ((M.sowMove r p move).2.1).pits))))]) ++ [(M.Fct.mk 5 0 0)])) po_ (by first | rfl | (simp [fltV]; done)) (by first | with_reducible rfl | assumption | rfl)))
  have hE := M.facts_end r0 rfl hO4 h36
  refine Js.skip <| zS <| Qm rfl <| Qb ?_
  refine zbs fun b42 => ?_
  refine JL.e (e_append (i := 4) (n' := ((o2 ++ [(M.Fct.mk 4 (((M.sowMove r p move).2.1).last) (M.isum ((M.taken r ((M.sowMove r p move).2.1) p.player).map (M.getI ((M.sowMove r p move).2.1).pits))))]) ++ [(M.Fct.mk 6 0 0)]).length) (vs' := fltV vcFact ((o2 ++ [(M.Fct.mk 4 (((M.sowMove r p move).2.1).last) (M.isum ((M.taken r ((M.sowMove r p move).2.1) p.player).map (M.getI ((M.sowMove r p move).2.1).pits))))]) ++ [(M.Fct.mk 6 0 0)])) el_31 rfl rfl rfl rfl (src_row (i := 0) und_31 rfl rfl) (by omega) (by omega) ln2_ (by first | rfl | exact fltV_app _ _ _ | exact fltV_snoc _ _ _ | (simp [fltV]; done))) ?_
  rintro v44 _ _ ⟨⟨g45, rfl⟩, rfl⟩ _
  refine JL.fact (row_form' (i := 4) rfl) (fun hf46 => ?_)
  obtain ⟨A46, c46, rfl, bl46, bh46⟩ := hf46
  refine znl ?_
  have hq0 : ((o2 ++ [(M.Fct.mk 4 (((M.sowMove r p move).2.1).last) (M.isum ((M.taken r ((M.sowMove r p move).2.1) p.player).map (M.getI ((M.sowMove r p move).2.1).pits))))]) ++ [(M.Fct.mk 6 0 0)]) = (M.factsF r p move) := by first | exact hE.symm | (rw [hE]; rfl)
  refine Qa rfl <| JL.nil ?_
  exact zro ((((x6.trans x11).trans x13).trans x24).trans x32) (g := by exact (gv_flat lFact (xs := ((o2 ++ [(M.Fct.mk 4 (((M.sowMove r p move).2.1).last) (M.isum ((M.taken r ((M.sowMove r p move).2.1) p.player).map (M.getI ((M.sowMove r p move).2.1).pits))))]) ++ [(M.Fct.mk 6 0 0)])) po_ (by first | rfl | (simp [fltV]; done)) (by first | with_reducible rfl | assumption | rfl)))
 have hcn : ¬ ((M.captured r (M.sowMove r p move).2.1 p.player) = [] ∧ (M.taken r (M.sowMove r p move).2.1 p.player) ≠ []) := (by have h9 := h26; rintro ⟨e1, e2⟩; have h8 := Bool.eq_false_iff.1 h9; apply h8; simp only [Bool.and_eq_true, decide_eq_true_eq]; refine ⟨by rw [e1]; rfl, ?_⟩; have := List.length_pos_iff.2 e2; omega)
 have hO4 := M.cap_non hcn hO3
 refine Js.skip <| zS <| Qm rfl <| Qm rfl <| Qm rfl <| zp rfl (fun w hw => c_spec_l07Make r p move (ok_ hw) (ok_ hw)) ?_
 intro u47 x47 A48 c48 h48 bl48 bh48 A49 c49 h49 bl49 bh49
 refine Qm rfl <| Qx rfl rfl <| Qx rfl rfl <| za zeh fun b50 => zw 0 rfl rfl rfl ?_
 refine Qa rfl <| zJ <| zS <| Qf fh rfl <| Q0 0 rfl rfl rfl <| JL.nil ?_
 refine zi (fun h51 h51' => ?_) fun h51 h51' => ?_
 ·
  have hE := M.facts_end r0 rfl hO4 h51
  refine zS <| Qm rfl <| Qb ?_
  refine zbs fun b52 => ?_
  refine JL.e (e_append (i := 3) (n' := (o2 ++ [(M.Fct.mk 5 0 0)]).length) (vs' := fltV vcFact (o2 ++ [(M.Fct.mk 5 0 0)])) el_31 rfl rfl rfl rfl (src_row (i := 0) und_31 rfl rfl) (by omega) (by omega) ln2_ (by first | rfl | exact fltV_app _ _ _ | exact fltV_snoc _ _ _ | (simp [fltV]; done))) ?_
  rintro v54 _ _ ⟨⟨g55, rfl⟩, rfl⟩ _
  refine JL.fact (row_form' (i := 3) rfl) (fun hf56 => ?_)
  obtain ⟨A56, c56, rfl, bl56, bh56⟩ := hf56
  refine znl ?_
  have hq0 : (o2 ++ [(M.Fct.mk 5 0 0)]) = (M.factsF r p move) := by first | exact hE.symm | (rw [hE]; rfl)
  refine Qa rfl <| JL.nil ?_
  exact zro ((((x6.trans x11).trans x13).trans x24).trans x47) (g := by exact (gv_flat lFact (xs := (o2 ++ [(M.Fct.mk 5 0 0)])) po_ (by first | rfl | (simp [fltV]; done)) (by first | with_reducible rfl | assumption | rfl)))
 have hE := M.facts_end r0 rfl hO4 h51
 refine Js.skip <| zS <| Qm rfl <| Qb ?_
 refine zbs fun b57 => ?_
 refine JL.e (e_append (i := 3) (n' := (o2 ++ [(M.Fct.mk 6 0 0)]).length) (vs' := fltV vcFact (o2 ++ [(M.Fct.mk 6 0 0)])) el_31 rfl rfl rfl rfl (src_row (i := 0) und_31 rfl rfl) (by omega) (by omega) ln2_ (by first | rfl | exact fltV_app _ _ _ | exact fltV_snoc _ _ _ | (simp [fltV]; done))) ?_
 rintro v59 _ _ ⟨⟨g60, rfl⟩, rfl⟩ _
 refine JL.fact (row_form' (i := 3) rfl) (fun hf61 => ?_)
 obtain ⟨A61, c61, rfl, bl61, bh61⟩ := hf61
 refine znl ?_
 have hq0 : (o2 ++ [(M.Fct.mk 6 0 0)]) = (M.factsF r p move) := by first | exact hE.symm | (rw [hE]; rfl)
 refine Qa rfl <| JL.nil ?_
 exact zro ((((x6.trans x11).trans x13).trans x24).trans x47) (g := by exact (gv_flat lFact (xs := (o2 ++ [(M.Fct.mk 6 0 0)])) po_ (by first | rfl | (simp [fltV]; done)) (by first | with_reducible rfl | assumption | rfl)))
theorem c_spec_FactsOf (r : M.Rul) {v_r : Value} (p : M.Pos) {v_p : Value} (move : Int) {w : World} (h_r : (Ty.agg (cRules r)).ok w v_r) (h_p : (Ty.agg (cPosition p)).ok w v_p) (r0 : p.pits.length ≤ 4194304 := by exact om_) (r1 : p.stores.length ≤ 4194304 := by exact om_) : Ret Try.prog 7 [v_r, v_p, .int .i64 move] w (Ty.tup [Ty.sl 46 3 ((M.factsR r p move).1).length (lFact ((M.factsR r p move).1)), Ty.int ((M.factsR r p move).2)]) := by
 revert v_r; apply opn
 revert v_p; apply opn
 intro A1 c1 h1 bl1 bh1 A2 c2 h2 bl2 bh2
 refine enter @Try.func7 @Try.ntmps7 rfl rfl ?_
 refine zent ?_
 refine zS <| zb rfl fun b3 => zb rfl fun b4 => Qa rfl <| Qa rfl <| zN <| Q9 1 rfl rfl ?_
 refine Q9 0 rfl rfl ?_
 refine Qm rfl <| zv rfl (fun w hw => c_spec_MoveFault r p move (ok_ hw) (ok_ hw)) <| Qa rfl <| zJ <| zS <| Qm rfl <| Qd rfl rfl <| JL.nil ?_
 refine zi (fun h5 h5' => ?_) fun h5 h5' => ?_
 ·
  have hE := M.factsR_n (r := r) (p := p) (move := move) (by simpa using h5)
  have hq0 : [] = (M.factsR r p move).1 := rp_ hE
  have hq1 : ((M.make r p move).2) = (M.factsR r p move).2 := rp_ hE
  refine zS <| Qm rfl <| Qa rfl <| Qa rfl <| JL.nil ?_
  exact zro (Up.refl _ _)
 have hm0 : (M.make r p move).2 = 0 := by simpa using h5
 have hE := M.factsR_y hm0
 refine Js.skip <| zS <| Qm rfl <| zcs rfl (fun w hw => c_spec_l11Facts r p move (ok_ hw) (ok_ hw) (r0 := hm0)) ?_
 intro A6 c6 bl6 bh6
 have hq0 : (M.factsF r p move) = (M.factsR r p move).1 := rp_ hE
 have hq1 : 0 = (M.factsR r p move).2 := rp_ hE
 refine Qa rfl <| Qa rfl <| JL.nil ?_
 exact zro (Up.refl _ _) (g := by exact (gv_tup (gvc (gv_flat lFact (xs := (M.factsF r p move)) po_ (by first | rfl | (simp [fltV]; done)) (by first | with_reducible rfl | assumption | rfl)) (gvc gv_ gvn))))
theorem c_spec_l11Fact (f : M.Fct) {v_f : Value} {w : World} (h_f : (Ty.agg (cFact f)).ok w v_f) : RetV Try.prog 74 [v_f] w (.bool (M.canW f)) := by
 revert v_f; apply opn
 refine enter @Try.func74 @Try.ntmps74 rfl rfl ?_
 refine zent ?_
 refine zS <| zb rfl fun b1 => Qa rfl <| zN <| Qa rfl <| zJ <| zS <| Qf fh rfl <| Q0 0 rfl rfl rfl <| Qe rfl rfl <| JL.nil ?_
 refine zi (fun h2 h2' => ?_) fun h2 h2' => ?_
 ·
  refine Js.region <| Qa rfl <| zJ <| zS <| Qf fh rfl <| Q0 0 rfl rfl rfl <| JL.nil <| Js.block <| Js.seq <| zS <| Qe rfl rfl <| Qa rfl <| JL.nil ?_
  refine zi (fun h3 h3' => ?_) fun h3 h3' => ?_
  ·
   refine Js.skip ?_
   refine Js.condT rfl h3 ?_
   refine zS <| Qf fh rfl <| Q0 0 rfl rfl rfl <| Qm rfl <| zv rfl (fun w hw => c_spec_l00In f.place (-1) 15) <| Qm rfl <| zg (Gd.t1 rfl rfl rfl) (fun hc => p_fieldAddr fld_46_2.h rfl) <| zgq (Gd.t1 rfl rfl rfl) (fun hc => q_load1 ty_2.h (gh hc rfl) (Mem.box (i := 0) rfl rfl)) <| zgv (Gd.t1 rfl rfl rfl) (fun hc => (opds_3 (gh hc rfl) rfl rfl)) (fun hc => (fun w hw => c_spec_l00In f.count 1 96)) ?_
   refine Qq (p_pickAnd rfl rfl rfl) <| Qa rfl <| JL.nil ?_
   refine zR (Up.refl _ _) ?_
   first | (rw [M.canW_p (low := -1) (by omega) (by simp [*])]; simp [outV, *]; done) | (rw [M.canW_p (low := 0) (by omega) (by simp [*])]; simp [outV, *]; done) | (rw [M.canW_w (by omega)]; simp [outV, *]; done) | (rw [M.canW_o (by omega) (by omega) (by omega) (by omega) (by omega) (by omega)]; simp [outV]; done)
  refine zS <| Qe rfl rfl <| Qa rfl <| JL.nil ?_
  refine Js.condT rfl h2 ?_
  refine Js.skip ?_
  refine Js.condT rfl h2 ?_
  refine zS <| Qf fh rfl <| Q0 0 rfl rfl rfl <| Qm rfl <| zv rfl (fun w hw => c_spec_l00In f.place (-1) 15) <| Qm rfl <| zg (Gd.t1 rfl rfl rfl) (fun hc => p_fieldAddr fld_46_2.h rfl) <| zgq (Gd.t1 rfl rfl rfl) (fun hc => q_load1 ty_2.h (gh hc rfl) (Mem.box (i := 0) rfl rfl)) <| zgv (Gd.t1 rfl rfl rfl) (fun hc => (opds_3 (gh hc rfl) rfl rfl)) (fun hc => (fun w hw => c_spec_l00In f.count 1 96)) ?_
  refine Qq (p_pickAnd rfl rfl rfl) <| Qa rfl <| JL.nil ?_
  refine zR (Up.refl _ _) ?_
  first | (rw [M.canW_p (low := -1) (by omega) (by simp [*])]; simp [outV, *]; done) | (rw [M.canW_p (low := 0) (by omega) (by simp [*])]; simp [outV, *]; done) | (rw [M.canW_w (by omega)]; simp [outV, *]; done) | (rw [M.canW_o (by omega) (by omega) (by omega) (by omega) (by omega) (by omega)]; simp [outV]; done)
 refine Js.skip <| Js.seq <| zS <| Qf fh rfl <| Q0 0 rfl rfl rfl <| JL.nil <| Js.block <| Js.seq <| zS <| Qe rfl rfl <| Qa rfl <| JL.nil ?_
 refine zi (fun h4 h4' => ?_) fun h4 h4' => ?_
 ·
  refine Js.skip ?_
  refine Js.condT rfl h4 ?_
  refine zS <| Qf fh rfl <| Q0 0 rfl rfl rfl <| Qm rfl <| zv rfl (fun w hw => c_spec_l00In f.place 0 15) <| Qm rfl <| zg (Gd.t1 rfl rfl rfl) (fun hc => p_fieldAddr fld_46_2.h rfl) <| zgq (Gd.t1 rfl rfl rfl) (fun hc => q_load1 ty_2.h (gh hc rfl) (Mem.box (i := 0) rfl rfl)) <| zgv (Gd.t1 rfl rfl rfl) (fun hc => (opds_3 (gh hc rfl) rfl rfl)) (fun hc => (fun w hw => c_spec_l00In f.count 1 96)) ?_
  refine Qq (p_pickAnd rfl rfl rfl) <| Qa rfl <| JL.nil ?_
  refine zR (Up.refl _ _) ?_
  first | (rw [M.canW_p (low := -1) (by omega) (by simp [*])]; simp [outV, *]; done) | (rw [M.canW_p (low := 0) (by omega) (by simp [*])]; simp [outV, *]; done) | (rw [M.canW_w (by omega)]; simp [outV, *]; done) | (rw [M.canW_o (by omega) (by omega) (by omega) (by omega) (by omega) (by omega)]; simp [outV]; done)
 refine zS <| Qe rfl rfl <| Qa rfl <| JL.nil ?_
 refine Js.condF rfl h2 ?_
 refine zS <| Qe rfl rfl <| Qa rfl <| JL.nil ?_
 refine zi (fun h5 h5' => ?_) fun h5 h5' => ?_
 ·
  refine Js.skip ?_
  refine Js.condT rfl h5 ?_
  refine zS <| Qf fh rfl <| Q0 0 rfl rfl rfl <| Qm rfl <| zv rfl (fun w hw => c_spec_l00In f.place 0 15) <| Qm rfl <| zg (Gd.t1 rfl rfl rfl) (fun hc => p_fieldAddr fld_46_2.h rfl) <| zgq (Gd.t1 rfl rfl rfl) (fun hc => q_load1 ty_2.h (gh hc rfl) (Mem.box (i := 0) rfl rfl)) <| zgv (Gd.t1 rfl rfl rfl) (fun hc => (opds_3 (gh hc rfl) rfl rfl)) (fun hc => (fun w hw => c_spec_l00In f.count 1 96)) ?_
  refine Qq (p_pickAnd rfl rfl rfl) <| Qa rfl <| JL.nil ?_
  refine zR (Up.refl _ _) ?_
  first | (rw [M.canW_p (low := -1) (by omega) (by simp [*])]; simp [outV, *]; done) | (rw [M.canW_p (low := 0) (by omega) (by simp [*])]; simp [outV, *]; done) | (rw [M.canW_w (by omega)]; simp [outV, *]; done) | (rw [M.canW_o (by omega) (by omega) (by omega) (by omega) (by omega) (by omega)]; simp [outV]; done)
 refine Js.region <| Qe rfl rfl <| Qa rfl <| JL.nil ?_
 refine zi (fun h6 h6' => ?_) fun h6 h6' => ?_
 ·
  refine zS <| Qf fh rfl <| Q0 0 rfl rfl rfl <| Qm rfl <| zv rfl (fun w hw => c_spec_l00In f.place 0 15) <| Qm rfl <| zg (Gd.t1 rfl rfl rfl) (fun hc => p_fieldAddr fld_46_2.h rfl) <| zgq (Gd.t1 rfl rfl rfl) (fun hc => q_load1 ty_2.h (gh hc rfl) (Mem.box (i := 0) rfl rfl)) <| zgv (Gd.t1 rfl rfl rfl) (fun hc => (opds_3 (gh hc rfl) rfl rfl)) (fun hc => (fun w hw => c_spec_l00In f.count 1 96)) ?_
  refine Qq (p_pickAnd rfl rfl rfl) <| Qa rfl <| JL.nil ?_
  refine zR (Up.refl _ _) ?_
  first | (rw [M.canW_p (low := -1) (by omega) (by simp [*])]; simp [outV, *]; done) | (rw [M.canW_p (low := 0) (by omega) (by simp [*])]; simp [outV, *]; done) | (rw [M.canW_w (by omega)]; simp [outV, *]; done) | (rw [M.canW_o (by omega) (by omega) (by omega) (by omega) (by omega) (by omega)]; simp [outV]; done)
 refine Js.seq <| zS <| Qe rfl rfl <| Qa rfl <| JL.nil ?_
 refine zi (fun h7 h7' => ?_) fun h7 h7' => ?_
 ·
  refine Js.skip ?_
  refine Js.condT rfl h7 ?_
  refine zS <| Qf fh rfl <| Q0 0 rfl rfl rfl <| Qe rfl rfl <| Qm rfl <| zg (Gd.t1 rfl rfl rfl) (fun hc => p_fieldAddr fld_46_2.h rfl) <| zgq (Gd.t1 rfl rfl rfl) (fun hc => q_load1 ty_2.h (gh hc rfl) (Mem.box (i := 0) rfl rfl)) <| zg (Gd.t1 rfl rfl rfl) (fun hc => p_eql (gh hc rfl) rfl) <| Qq (p_pickAnd rfl rfl rfl) <| Qa rfl <| JL.nil ?_
  refine zR (Up.refl _ _) ?_
  first | (rw [M.canW_p (low := -1) (by omega) (by simp [*])]; simp [outV, *]; done) | (rw [M.canW_p (low := 0) (by omega) (by simp [*])]; simp [outV, *]; done) | (rw [M.canW_w (by omega)]; simp [outV, *]; done) | (rw [M.canW_o (by omega) (by omega) (by omega) (by omega) (by omega) (by omega)]; simp [outV]; done)
 refine Js.region <| Qe rfl rfl <| Qa rfl <| JL.nil ?_
 refine zi (fun h8 h8' => ?_) fun h8 h8' => ?_
 ·
  refine zS <| Qf fh rfl <| Q0 0 rfl rfl rfl <| Qe rfl rfl <| Qm rfl <| zg (Gd.t1 rfl rfl rfl) (fun hc => p_fieldAddr fld_46_2.h rfl) <| zgq (Gd.t1 rfl rfl rfl) (fun hc => q_load1 ty_2.h (gh hc rfl) (Mem.box (i := 0) rfl rfl)) <| zg (Gd.t1 rfl rfl rfl) (fun hc => p_eql (gh hc rfl) rfl) <| Qq (p_pickAnd rfl rfl rfl) <| Qa rfl <| JL.nil ?_
  refine zR (Up.refl _ _) ?_
  first | (rw [M.canW_p (low := -1) (by omega) (by simp [*])]; simp [outV, *]; done) | (rw [M.canW_p (low := 0) (by omega) (by simp [*])]; simp [outV, *]; done) | (rw [M.canW_w (by omega)]; simp [outV, *]; done) | (rw [M.canW_o (by omega) (by omega) (by omega) (by omega) (by omega) (by omega)]; simp [outV]; done)
 refine Js.skip <| Js.blockEnd <| zS <| Qa rfl <| JL.nil ?_
 refine zR (Up.refl _ _) ?_
 first | (rw [M.canW_p (low := -1) (by omega) (by simp [*])]; simp [outV, *]; done) | (rw [M.canW_p (low := 0) (by omega) (by simp [*])]; simp [outV, *]; done) | (rw [M.canW_w (by omega)]; simp [outV, *]; done) | (rw [M.canW_o (by omega) (by omega) (by omega) (by omega) (by omega) (by omega)]; simp [outV]; done)
theorem c_spec_SameFacts (a : List M.Fct) {v_a : Value} (b : List M.Fct) {v_b : Value} {w : World} (h_a : (Ty.sl 46 3 a.length (lFact a)).ok w v_a) (h_b : (Ty.sl 46 3 b.length (lFact b)).ok w v_b) (r0 : a.length ≤ 4194304 := by exact om_) (r1 : b.length ≤ 4194304 := by exact om_) : RetV Try.prog 15 [v_a, v_b] w (.bool (decide (a = b))) := by
 revert v_a; apply opn
 intro A1 c1 h1 bl1 bh1
 have h_a := h1
 revert v_b; apply opn
 intro A2 c2 h2 bl2 bh2
 have h_b := h2
 refine enter @Try.func15 @Try.ntmps15 rfl rfl ?_
 refine zent ?_
 refine zS <| Qa rfl <| zJ <| zS <| Qm rfl <| Qz rfl <| Qm rfl <| Qz rfl <| Qd rfl rfl <| JL.nil ?_
 refine zi (fun h3 h3' => ?_) fun h3 h3' => ?_
 ·
  have e1 : decide (a = b) = false := by simp; rintro rfl; simp at h3
  refine zS <| Qa rfl <| JL.nil ?_
  refine zR (Up.refl _ _) ?_
  simp [outV, e1]
 have hlen : a.length = b.length := by have := h3'; omega
 refine Js.skip <| Js.seq <| zS <| Qa rfl <| JL.nil <| Js.block ?_
 refine zl [0, 1] (fun F U l os u m => ∃ (k : Nat), l = F [(5, .int .i64 (k : Int))] ∧ os = U [] ∧ (k ≤ a.length) ∧ (a.take k = b.take k) ∧ m = a.length - k) ⟨0, rfl, rfl, zt, by rfl, rfl⟩ ?_
 rintro _ _ u4 _ ⟨k, rfl, rfl, hk, hU, rfl⟩ x4
 refine zn ?_
 refine Js.seq <| zS <| Qm rfl <| Qm rfl <| Qz rfl <| Ql rfl rfl <| JL.nil ?_
 refine zi (fun h5 h5' => ?_) fun h5 h5' => ?_
 ·
  obtain ⟨ye6, hye6⟩ : ∃ x, a[k]? = some x := ⟨_, List.getElem?_eq_getElem (by omega)⟩
  obtain ⟨ye7, hye7⟩ : ∃ x, b[k]? = some x := ⟨_, List.getElem?_eq_getElem (by omega)⟩
  refine Js.skip <| Js.seq <| Js.block <| Js.seq ?_
  refine zdr [] ?_
  refine jM 0 rfl rfl ?_
  refine jM 1 rfl rfl ?_
  have hy8 := hye6
  obtain ⟨b8, o8, he8, hr8⟩ := elem_Fact (Ty.mono _ h1 x4.vis) hy8
  refine jI 2 el_31 rfl rfl rfl he8 ?_
  refine JH.w 3 rfl (fun os' u' hv => LS 0 (hr8.vis hv) rfl) ?_
  refine jM 4 rfl rfl ?_
  refine jM 5 rfl rfl ?_
  have hy9 := hye7
  obtain ⟨b9, o9, he9, hr9⟩ := elem_Fact (Ty.mono _ h2 x4.vis) hy9
  refine jI 6 el_31 rfl rfl rfl he9 ?_
  refine JH.w 7 rfl (fun os' u' hv => LS 0 (hr9.vis hv) rfl) ?_
  refine JH.p 8 rfl (p_neqS (by kernel_rfl) (fun w => eqs_Fact ye6 ye7 w) rfl rfl) ?_
  refine yd ?_
  refine zi (fun h10 h10' => ?_) fun h10 h10' => ?_
  ·
   have e1 : decide (a = b) = false := decide_eq_false (M.upto_ne hye6 hye7 (by simpa using h10))
   refine zS <| Qa rfl <| JL.nil ?_
   refine zR x4 ?_
   simp [outV, e1]
  have hab : ye6 = ye7 := by simpa using h10
  rw [← hab] at hye7
  have hU2 := M.upto_step hU hye6 hye7
  refine Js.skip <| Js.blockEnd <| Js.region <| Qm rfl <| Qp rfl rfl <| Qa rfl <| JL.nil ?_
  exact zag ⟨k + 1, rfl, rfl, zt, by exact hU2, rfl⟩ x4
 have e1 : a = b := M.upto_done hU (by have := h5'; omega) (by have := h5'; omega)
 refine zx ?_
 refine zS <| Qa rfl <| JL.nil ?_
 refine zR x4 ?_
 simp [outV, e1]
theorem c_spec_l11Step (r : M.Rul) {v_r : Value} (p : M.Pos) {v_p : Value} (hand : Int) (f : M.Fct) {v_f : Value} {w : World} (h_r : (Ty.ref (cRules r)).ok w v_r) (h_p : (Ty.ref (cPosition p)).ok w v_p) (h_f : (Ty.agg (cFact f)).ok w v_f) (r0 : 2 ≤ r.pits := by exact om_) (r1 : r.pits ≤ 8 := by exact om_) (r2 : M.GP r p hand := by exact om_) : Ret Try.prog 38 [v_r, v_p, .int .i64 hand, v_f] w (Ty.tup [Ty.agg (cPosition (M.lsP r p hand f)), Ty.int (M.lsH r p hand f), Ty.bool (M.stB r p hand f)]) := by
 have hG := r2.g
 have hpl := r2.pl
 have hlp := hG.lp
 have hls := hG.ls
 have hn0 := hG.n0
 have hp0 := hG.pit f.place
 have hs0 := hG.store p.player
 have hal := hG.all
 have hnp := M.nn_isum hG.np
 have hns := M.nn_isum hG.ns
 revert v_r; apply opn
 intro b1 o1 hr1
 revert v_p; apply opn
 intro b4 o4 A2 c2 h2 bl2 bh2 A3 c3 h3 bl3 bh3 hr4
 revert v_f; apply opn
 refine enter @Try.func38 @Try.ntmps38 rfl rfl ?_
 refine zent ?_
 refine zS <| zb rfl fun b5 => za zeh fun b6 => Qa rfl <| Qa rfl <| zN <| Qm rfl <| zc rfl (fun w hw => c_spec_l04Own p (ok_ hw)) ?_
 intro A8 c8 bl8 bh8 A9 c9 bl9 bh9
 refine za zeh fun b10 => zw 0 rfl rfl rfl ?_
 refine zJ <| Js.seq ?_
 refine zdr [] ?_
 refine JH.q 0 rfl (L9 4 rfl rfl) ?_
 refine y1 1 ?_
 refine yv rfl rfl (fun w hw => c_spec_l11Fact f (ok_ hw)) ?_
 refine JH.p 2 rfl (p_not rfl) ?_
 refine jM 3 rfl rfl ?_
 refine JH.pg 4 rfl (Gd.f1 rfl rfl rfl) (fun hc => p_fieldAddr fld_46_1.h rfl) ?_
 refine JH.qg 5 rfl (Gd.f1 rfl rfl rfl) (fun hc => q_load1 ty_2.h (gvt rfl hc) (Mem.box (i := 4) rfl rfl)) ?_
 refine JH.pg 6 rfl (Gd.f1 rfl rfl rfl) (fun hc => p_move rfl) ?_
 refine JH.pg 7 rfl (Gd.f1 rfl rfl rfl) (fun hc => p_nilCheck (gvt rfl hc)) ?_
 refine JH.pg 8 rfl (Gd.f1 rfl rfl rfl) (fun hc => p_fieldAddr fld_25_0.h (gvt rfl hc)) ?_
 refine JH.wg 9 rfl (Gd.f1 rfl rfl rfl) (fun hc os' u' hv => q_load1 ty_2.h (gvt rfl hc) (Mem.pub ((hr1.vis hv) 0 _ rfl))) ?_
 refine JH.pg 10 rfl (Gd.f1 rfl rfl rfl) (fun hc => p_mul rfl (gvt rfl hc) (IntWalk.i64_in _ (by have hc9 := hc; (try simp only [Bool.not_eq_true', Bool.not_eq_false'] at hc9); omega))) ?_
 refine JH.pg 11 rfl (Gd.f1 rfl rfl rfl) (fun hc => p_geq (gvt rfl hc) (gvt rfl hc)) ?_
 refine JH.p 12 rfl (p_pickOr rfl rfl rfl) ?_
 refine jM 13 rfl rfl ?_
 refine JH.pg 14 rfl (Gd.f1 rfl rfl rfl) (fun hc => p_fieldAddr fld_46_1.h rfl) ?_
 refine JH.qg 15 rfl (Gd.f1 rfl rfl rfl) (fun hc => q_load1 ty_2.h (gvt rfl hc) (Mem.box (i := 4) rfl rfl)) ?_
 refine JH.pg 16 rfl (Gd.f1 rfl rfl rfl) (fun hc => p_lss (gvt rfl hc) rfl) ?_
 refine JH.pg 17 rfl (Gd.f1 rfl rfl rfl) (fun hc => p_move (gvt rfl hc)) ?_
 refine JH.pg 18 rfl (Gd.t2 rfl rfl rfl) (fun hc => p_move rfl) ?_
 refine JH.pg 19 rfl (Gd.t2 rfl rfl rfl) (fun hc => p_nilCheck (gvt rfl hc)) ?_
 refine JH.pg 20 rfl (Gd.t2 rfl rfl rfl) (fun hc => p_fieldAddr fld_25_2.h (gvt rfl hc)) ?_
 refine JH.wg 21 rfl (Gd.t2 rfl rfl rfl) (fun hc os' u' hv => q_load1 ty_4.h (gvt rfl hc) (Mem.pub ((hr1.vis hv) 2 _ rfl))) ?_
 refine JH.pg 22 rfl (Gd.t2 rfl rfl rfl) (fun hc => p_not (gvt rfl hc)) ?_
 refine JH.pg 23 rfl (Gd.f1 rfl rfl rfl) (fun hc => p_pickAnd (gvt rfl hc) (gvl rfl hc) rfl) ?_
 refine JH.p 24 rfl (p_pickOr rfl rfl rfl) ?_
 refine yd ?_
 refine zi (fun h11 h11' => ?_) fun h11 h11' => ?_
 ·
  have ho : M.stOk r f = false := M.stOk_f (fun c1 => by have h9 := h11; simp [c1] at h9; first | exact h9 | omega)
  have hE : M.stB r p hand f = false := M.stB_0 ho
  have hA := M.lsP_0 (p := p) (h := hand) ho
  have hB := M.lsH_n hE
  have hq0 : p.pits = (M.lsP r p hand f).pits := by first | (rw [hE]; done) | (rw [hE]; exact decide_eq_true hh0) | (rw [hh0]; exact hB.symm) | (rw [hA]; done) | (rw [hB]; done) | (rw [hA]; rfl) | (rw [hB]; rfl) | (rw [hA, hB, hE]; done) | (rw [hA, hB, hE]; rfl)
  have hq1 : p.stores = (M.lsP r p hand f).stores := by first | (rw [hE]; done) | (rw [hE]; exact decide_eq_true hh0) | (rw [hh0]; exact hB.symm) | (rw [hA]; done) | (rw [hB]; done) | (rw [hA]; rfl) | (rw [hB]; rfl) | (rw [hA, hB, hE]; done) | (rw [hA, hB, hE]; rfl)
  have hq2 : p.player = (M.lsP r p hand f).player := by first | (rw [hE]; done) | (rw [hE]; exact decide_eq_true hh0) | (rw [hh0]; exact hB.symm) | (rw [hA]; done) | (rw [hB]; done) | (rw [hA]; rfl) | (rw [hB]; rfl) | (rw [hA, hB, hE]; done) | (rw [hA, hB, hE]; rfl)
  have hq3 : 0 = (M.lsH r p hand f) := by first | (rw [hE]; done) | (rw [hE]; exact decide_eq_true hh0) | (rw [hh0]; exact hB.symm) | (rw [hA]; done) | (rw [hB]; done) | (rw [hA]; rfl) | (rw [hB]; rfl) | (rw [hA, hB, hE]; done) | (rw [hA, hB, hE]; rfl)
  have hq4 : false = M.stB r p hand f := by first | (rw [hE]; done) | (rw [hE]; exact decide_eq_true hh0) | (rw [hh0]; exact hB.symm) | (rw [hA]; done) | (rw [hB]; done) | (rw [hA]; rfl) | (rw [hB]; rfl) | (rw [hA, hB, hE]; done) | (rw [hA, hB, hE]; rfl)
  refine zS <| Q9 0 rfl rfl ?_
  refine zw 3 rfl rfl rfl ?_
  refine Qa rfl <| Qa rfl <| JL.nil ?_
  exact zro (Up.refl _ _)
 have ho : M.stOk r f = true := by have h9 := h11; simp at h9; exact M.stOk_t h9.1.1 (by have := h9.1.2; omega) (by by_cases h8 : 0 ≤ f.place; exact .inl h8; exact .inr (h9.2 (by omega)))
 obtain ⟨hcw, o2, o3⟩ := M.stOk_b ho
 have hcp := M.canW_pl hcw
 have hck := M.canW_k hcw
 refine Js.skip <| Js.seq <| zS <| Qf fh rfl <| Q0 4 rfl rfl rfl <| JL.nil <| Js.block <| zS <| Qe rfl rfl <| Qa rfl <| JL.nil ?_
 refine zi (fun h12 h12' => ?_) fun h12 h12' => ?_
 ·
  have hk1 : f.kind = 1 := by have := h12'; omega
  refine Js.seq <| Js.seq ?_
  refine zdr [] ?_
  refine jM 0 rfl rfl ?_
  refine JH.p 1 rfl (p_neq rfl rfl) ?_
  refine jM 2 rfl rfl ?_
  refine JH.pg 3 rfl (Gd.f1 rfl rfl rfl) (fun hc => p_fieldAddr fld_28_0.h rfl) ?_
  refine JH.qg 4 rfl (Gd.f1 rfl rfl rfl) (fun hc => q_load1 ty_26.h (gvt rfl hc) (Mem.box (i := 0) rfl rfl)) ?_
  refine JH.pg 5 rfl (Gd.f1 rfl rfl rfl) (fun hc => p_fieldAddr fld_46_1.h rfl) ?_
  refine JH.qg 6 rfl (Gd.f1 rfl rfl rfl) (fun hc => q_load1 ty_2.h (gvt rfl hc) (Mem.box (i := 4) rfl rfl)) ?_
  refine JH.fact (row_some (i := 2) rfl (by omega)) (fun hf14 => ?_)
  obtain ⟨b14, rfl⟩ := hf14
  refine JH.pg 7 rfl (Gd.f1 rfl rfl rfl) (fun hc => p_indexAddr el_26 (gvt rfl hc) (gvt rfl hc) (by have hc9 := hc; (try simp only [Bool.not_eq_true', Bool.not_eq_false', decide_eq_true_eq] at hc9); omega) (by have hc9 := hc; (try simp only [Bool.not_eq_true', Bool.not_eq_false', decide_eq_true_eq] at hc9); omega) rfl) ?_
  refine JH.qg 8 rfl (Gd.f1 rfl rfl rfl) (fun hc => q_load1 ty_2.h (gvt rfl hc) (Mem.row (i := 2) rfl (ints_getI (i := f.place) (by have hc9 := hc; (try simp only [Bool.not_eq_true', Bool.not_eq_false', decide_eq_true_eq] at hc9); omega)))) ?_
  refine JH.pg 9 rfl (Gd.f1 rfl rfl rfl) (fun hc => p_fieldAddr fld_46_2.h rfl) ?_
  refine JH.qg 10 rfl (Gd.f1 rfl rfl rfl) (fun hc => q_load1 ty_2.h (gvt rfl hc) (Mem.box (i := 4) rfl rfl)) ?_
  refine JH.pg 11 rfl (Gd.f1 rfl rfl rfl) (fun hc => p_neq (gvt rfl hc) (gvt rfl hc)) ?_
  refine JH.p 12 rfl (p_pickOr rfl rfl rfl) ?_
  refine yd ?_
  refine zi (fun h15 h15' => ?_) fun h15 h15' => ?_
  ·
   have hE : M.stB r p hand f = false := by have h9 := h15; by_cases h8 : hand = 0; rw [M.stB_3 ho h8 (.inl hk1)]; simpa [h8] using h9; exact M.stB_h h8 (by omega)
   have hA := M.lsP_n hE (by omega)
   have hB := M.lsH_n hE
   have hq0 : p.pits = (M.lsP r p hand f).pits := by first | (rw [hE]; done) | (rw [hE]; exact decide_eq_true hh0) | (rw [hh0]; exact hB.symm) | (rw [hA]; done) | (rw [hB]; done) | (rw [hA]; rfl) | (rw [hB]; rfl) | (rw [hA, hB, hE]; done) | (rw [hA, hB, hE]; rfl)
   have hq1 : p.stores = (M.lsP r p hand f).stores := by first | (rw [hE]; done) | (rw [hE]; exact decide_eq_true hh0) | (rw [hh0]; exact hB.symm) | (rw [hA]; done) | (rw [hB]; done) | (rw [hA]; rfl) | (rw [hB]; rfl) | (rw [hA, hB, hE]; done) | (rw [hA, hB, hE]; rfl)
   have hq2 : p.player = (M.lsP r p hand f).player := by first | (rw [hE]; done) | (rw [hE]; exact decide_eq_true hh0) | (rw [hh0]; exact hB.symm) | (rw [hA]; done) | (rw [hB]; done) | (rw [hA]; rfl) | (rw [hB]; rfl) | (rw [hA, hB, hE]; done) | (rw [hA, hB, hE]; rfl)
   have hq3 : 0 = (M.lsH r p hand f) := by first | (rw [hE]; done) | (rw [hE]; exact decide_eq_true hh0) | (rw [hh0]; exact hB.symm) | (rw [hA]; done) | (rw [hB]; done) | (rw [hA]; rfl) | (rw [hB]; rfl) | (rw [hA, hB, hE]; done) | (rw [hA, hB, hE]; rfl)
   have hq4 : false = M.stB r p hand f := by first | (rw [hE]; done) | (rw [hE]; exact decide_eq_true hh0) | (rw [hh0]; exact hB.symm) | (rw [hA]; done) | (rw [hB]; done) | (rw [hA]; rfl) | (rw [hB]; rfl) | (rw [hA, hB, hE]; done) | (rw [hA, hB, hE]; rfl)
   refine zS <| Q9 0 rfl rfl ?_
   refine zw 3 rfl rfl rfl ?_
   refine Qa rfl <| Qa rfl <| JL.nil ?_
   exact zro (Up.refl _ _)
  obtain ⟨hh0, hc0⟩ : hand = 0 ∧ M.getI p.pits f.place = f.count := by have h9 := h15; simpa using h9
  have hE : M.stB r p hand f = true := by rw [M.stB_3 ho hh0 (.inl hk1)]; simp [hc0]
  have hA := M.lsP_y hE
  have hB := M.lsH_y hE
  obtain ⟨hC, hD⟩ := (M.stP_1 hk1 : M.stP p f = _ ∧ M.stH hand f = _)
  rw [hC] at hA
  rw [hD] at hB
  refine Js.skip <| zS <| Qf fh rfl <| Q0 0 rfl rfl rfl <| Qf fh rfl <| Q0 4 rfl rfl rfl <| Qq (p_indexAddr el_26 rfl rfl (by omega) (by omega) rfl) ?_
  refine JL.s (e_storeRow (i := 2) (xs' := ints_ (M.setI p.pits f.place 0)) ty_2.h rfl rfl rfl rfl rfl rfl (ints_lt (i := f.place.toNat) (by omega)) (ints_setL (i := f.place.toNat) (by omega))) ?_
  rintro _ _ _ ⟨rfl, rfl⟩ _
  refine znl ?_
  refine zJ ?_
  refine zk [8] (fun F U l os u => l = F [(9, .int .i64 f.count), (10, .bool true)] ∧ os = U [nO, nO, nO, some (boxO b6 [.slice (some ⟨b14, 0, none⟩) p.pits.length c8, .slice A9 p.stores.length c9, .int .i64 p.player] 28)]) ?_ ?_
  ·
   refine zdr [3] ?_
   refine JH.q 0 rfl (L9 0 rfl rfl) ?_
   refine jF 1 fld_46_2 rfl rfl ?_
   refine y2 2 3 ?_ ?_
   ·
    refine JHo.q rfl (q_load1 ty_2.h rfl (Mem.box (i := 4) rfl rfl)) ?_
    refine y1 3 ?_
    refine yst rfl rfl rfl ?_
    refine jA 4 rfl rfl ?_
    refine jA 5 rfl rfl ?_
    refine yd ?_
    exact zm ⟨rfl, rfl⟩ (Up.refl _ _)
   refine yst rfl rfl rfl ?_
   refine y1 2 ?_
   refine JHo.q rfl (q_load1 ty_2.h rfl (Mem.box (i := 4) rfl rfl)) ?_
   refine jA 4 rfl rfl ?_
   refine jA 5 rfl rfl ?_
   refine yd ?_
   exact zm ⟨rfl, rfl⟩ (Up.refl _ _)
  rintro _ _ u17 ⟨rfl, rfl⟩ x17
  refine zn ?_
  have hq0 : (M.setI p.pits f.place 0) = (M.lsP r p hand f).pits := by first | (rw [hE]; done) | (rw [hE]; exact decide_eq_true hh0) | (rw [hh0]; exact hB.symm) | (rw [hA]; done) | (rw [hB]; done) | (rw [hA]; rfl) | (rw [hB]; rfl) | (rw [hA, hB, hE]; done) | (rw [hA, hB, hE]; rfl)
  have hq1 : p.stores = (M.lsP r p hand f).stores := by first | (rw [hE]; done) | (rw [hE]; exact decide_eq_true hh0) | (rw [hh0]; exact hB.symm) | (rw [hA]; done) | (rw [hB]; done) | (rw [hA]; rfl) | (rw [hB]; rfl) | (rw [hA, hB, hE]; done) | (rw [hA, hB, hE]; rfl)
  have hq2 : p.player = (M.lsP r p hand f).player := by first | (rw [hE]; done) | (rw [hE]; exact decide_eq_true hh0) | (rw [hh0]; exact hB.symm) | (rw [hA]; done) | (rw [hB]; done) | (rw [hA]; rfl) | (rw [hB]; rfl) | (rw [hA, hB, hE]; done) | (rw [hA, hB, hE]; rfl)
  have hq3 : f.count = (M.lsH r p hand f) := by first | (rw [hE]; done) | (rw [hE]; exact decide_eq_true hh0) | (rw [hh0]; exact hB.symm) | (rw [hA]; done) | (rw [hB]; done) | (rw [hA]; rfl) | (rw [hB]; rfl) | (rw [hA, hB, hE]; done) | (rw [hA, hB, hE]; rfl)
  have hq4 : true = M.stB r p hand f := by first | (rw [hE]; done) | (rw [hE]; exact decide_eq_true hh0) | (rw [hh0]; exact hB.symm) | (rw [hA]; done) | (rw [hB]; done) | (rw [hA]; rfl) | (rw [hB]; rfl) | (rw [hA, hB, hE]; done) | (rw [hA, hB, hE]; rfl)
  exact zro x17
 have hk1 : ¬ f.kind = 1 := by have := h12'; omega
 refine zS <| Qe rfl rfl <| Qa rfl <| JL.nil ?_
 refine zi (fun h18 h18' => ?_) fun h18 h18' => ?_
 ·
  have hk2 : f.kind = 2 := by have := h18'; omega
  refine Js.seq <| zS <| Qm rfl <| Qf fh rfl <| Q0 4 rfl rfl rfl <| Ql rfl rfl <| JL.nil ?_
  refine zi (fun h19 h19' => ?_) fun h19 h19' => ?_
  ·
   have hE : M.stB r p hand f = false := by rw [M.stB_2 ho hk2]; exact decide_eq_false (by have := h19'; omega)
   have hA := M.lsP_n hE (by omega)
   have hB := M.lsH_n hE
   have hq0 : p.pits = (M.lsP r p hand f).pits := by first | (rw [hE]; done) | (rw [hE]; exact decide_eq_true hh0) | (rw [hh0]; exact hB.symm) | (rw [hA]; done) | (rw [hB]; done) | (rw [hA]; rfl) | (rw [hB]; rfl) | (rw [hA, hB, hE]; done) | (rw [hA, hB, hE]; rfl)
   have hq1 : p.stores = (M.lsP r p hand f).stores := by first | (rw [hE]; done) | (rw [hE]; exact decide_eq_true hh0) | (rw [hh0]; exact hB.symm) | (rw [hA]; done) | (rw [hB]; done) | (rw [hA]; rfl) | (rw [hB]; rfl) | (rw [hA, hB, hE]; done) | (rw [hA, hB, hE]; rfl)
   have hq2 : p.player = (M.lsP r p hand f).player := by first | (rw [hE]; done) | (rw [hE]; exact decide_eq_true hh0) | (rw [hh0]; exact hB.symm) | (rw [hA]; done) | (rw [hB]; done) | (rw [hA]; rfl) | (rw [hB]; rfl) | (rw [hA, hB, hE]; done) | (rw [hA, hB, hE]; rfl)
   have hq3 : 0 = (M.lsH r p hand f) := by first | (rw [hE]; done) | (rw [hE]; exact decide_eq_true hh0) | (rw [hh0]; exact hB.symm) | (rw [hA]; done) | (rw [hB]; done) | (rw [hA]; rfl) | (rw [hB]; rfl) | (rw [hA, hB, hE]; done) | (rw [hA, hB, hE]; rfl)
   have hq4 : false = M.stB r p hand f := by first | (rw [hE]; done) | (rw [hE]; exact decide_eq_true hh0) | (rw [hh0]; exact hB.symm) | (rw [hA]; done) | (rw [hB]; done) | (rw [hA]; rfl) | (rw [hB]; rfl) | (rw [hA, hB, hE]; done) | (rw [hA, hB, hE]; rfl)
   refine zS <| Q9 0 rfl rfl ?_
   refine zw 3 rfl rfl rfl ?_
   refine Qa rfl <| Qa rfl <| JL.nil ?_
   exact zro (Up.refl _ _)
  have hE : M.stB r p hand f = true := by rw [M.stB_2 ho hk2]; exact decide_eq_true (by have := h19'; omega)
  refine Js.skip <| Js.seq <| zS <| Qf fh rfl <| Q0 4 rfl rfl rfl <| Ql rfl rfl <| JL.nil ?_
  refine zi (fun h20 h20' => ?_) fun h20 h20' => ?_
  ·
   have hp9 : f.place < 0 := by have := h20'; omega
   have hA := M.lsP_y hE
   have hB := M.lsH_y hE
   obtain ⟨hC, hD⟩ := (M.stP_2s hk2 hp9 : M.stP p f = _ ∧ M.stH hand f = _)
   rw [hC] at hA
   rw [hD] at hB
   refine zdr [12] ?_
   refine jF 0 fld_28_1 rfl rfl ?_
   refine jB 1 0 ty_26 rfl rfl rfl rfl ?_
   refine jM 2 rfl rfl ?_
   refine jN 3 rfl rfl ?_
   refine jF 4 fld_28_2 rfl rfl ?_
   refine jW 5 ty_2 rfl rfl (fun hv => (hr4.vis hv) 2 _ rfl) ?_
   refine JH.fact (row_some (i := 1) rfl (by omega)) (fun hf22 => ?_)
   obtain ⟨b22, rfl⟩ := hf22
   refine jI 6 el_26 rfl rfl rfl rfl ?_
   refine JH.q 7 rfl (q_load1 ty_2.h rfl (Mem.row (i := 1) rfl (ints_getI (i := p.player) (by omega)))) ?_
   refine jF 8 fld_46_2 rfl rfl ?_
   refine jB 9 4 ty_2 rfl rfl rfl rfl ?_
   refine JH.p 10 rfl (p_add rfl rfl (IntWalk.i64_in _ (by omega))) ?_
   refine jI 11 el_26 rfl rfl rfl rfl ?_
   refine y1 12 ?_
   refine JHo.s rfl (e_storeRow (i := 1) (xs' := ints_ (M.setI p.stores p.player ((M.getI p.stores p.player) + f.count))) ty_2.h rfl rfl rfl rfl rfl rfl (ints_lt (i := p.player.toNat) (by omega)) (ints_setL (i := p.player.toNat) (by omega))) (.inr rfl) ?_
   rintro _ _ _ ⟨rfl, rfl⟩ _
   refine znh ?_
   refine yd ?_
   refine Js.seq ?_
   refine zk [8] (fun F U l os u => l = F [(9, .int .i64 (hand - f.count)), (10, .bool true)] ∧ os = U [nO, nO, nO, some (boxO b6 [.slice A8 p.pits.length c8, .slice (some ⟨b22, 0, none⟩) p.stores.length c9, .int .i64 p.player] 28)]) ?_ ?_
   ·
    refine zdr [5] ?_
    refine JH.q 0 rfl (L9 0 rfl rfl) ?_
    refine jM 1 rfl rfl ?_
    refine jF 2 fld_46_2 rfl rfl ?_
    refine y2 3 5 ?_ ?_
    ·
     refine JHo.q rfl (q_load1 ty_2.h rfl (Mem.box (i := 4) rfl rfl)) ?_
     refine JH.p 4 rfl (p_sub rfl rfl (IntWalk.i64_in _ (by omega))) ?_
     refine y1 5 ?_
     refine yst rfl rfl rfl ?_
     refine jA 6 rfl rfl ?_
     refine jA 7 rfl rfl ?_
     refine yd ?_
     exact zm ⟨rfl, rfl⟩ (Up.refl _ _)
    refine yst rfl rfl rfl ?_
    refine y1 3 ?_
    refine JHo.q rfl (q_load1 ty_2.h rfl (Mem.box (i := 4) rfl rfl)) ?_
    refine JH.p 4 rfl (p_sub rfl rfl (IntWalk.i64_in _ (by omega))) ?_
    refine jA 6 rfl rfl ?_
    refine jA 7 rfl rfl ?_
    refine yd ?_
    exact zm ⟨rfl, rfl⟩ (Up.refl _ _)
   rintro _ _ u24 ⟨rfl, rfl⟩ x24
   refine zn ?_
   have hq0 : p.pits = (M.lsP r p hand f).pits := by first | (rw [hE]; done) | (rw [hE]; exact decide_eq_true hh0) | (rw [hh0]; exact hB.symm) | (rw [hA]; done) | (rw [hB]; done) | (rw [hA]; rfl) | (rw [hB]; rfl) | (rw [hA, hB, hE]; done) | (rw [hA, hB, hE]; rfl)
   have hq1 : (M.setI p.stores p.player ((M.getI p.stores p.player) + f.count)) = (M.lsP r p hand f).stores := by first | (rw [hE]; done) | (rw [hE]; exact decide_eq_true hh0) | (rw [hh0]; exact hB.symm) | (rw [hA]; done) | (rw [hB]; done) | (rw [hA]; rfl) | (rw [hB]; rfl) | (rw [hA, hB, hE]; done) | (rw [hA, hB, hE]; rfl)
   have hq2 : p.player = (M.lsP r p hand f).player := by first | (rw [hE]; done) | (rw [hE]; exact decide_eq_true hh0) | (rw [hh0]; exact hB.symm) | (rw [hA]; done) | (rw [hB]; done) | (rw [hA]; rfl) | (rw [hB]; rfl) | (rw [hA, hB, hE]; done) | (rw [hA, hB, hE]; rfl)
   have hq3 : (hand - f.count) = (M.lsH r p hand f) := by first | (rw [hE]; done) | (rw [hE]; exact decide_eq_true hh0) | (rw [hh0]; exact hB.symm) | (rw [hA]; done) | (rw [hB]; done) | (rw [hA]; rfl) | (rw [hB]; rfl) | (rw [hA, hB, hE]; done) | (rw [hA, hB, hE]; rfl)
   have hq4 : true = M.stB r p hand f := by first | (rw [hE]; done) | (rw [hE]; exact decide_eq_true hh0) | (rw [hh0]; exact hB.symm) | (rw [hA]; done) | (rw [hB]; done) | (rw [hA]; rfl) | (rw [hB]; rfl) | (rw [hA, hB, hE]; done) | (rw [hA, hB, hE]; rfl)
   exact zro x24
  have hp9 : ¬ f.place < 0 := by have := h20'; omega
  have hA := M.lsP_y hE
  have hB := M.lsH_y hE
  obtain ⟨hC, hD⟩ := (M.stP_2p hk2 hp9 : M.stP p f = _ ∧ M.stH hand f = _)
  rw [hC] at hA
  rw [hD] at hB
  refine zdr [10] ?_
  refine jF 0 fld_28_0 rfl rfl ?_
  refine jB 1 0 ty_26 rfl rfl rfl rfl ?_
  refine jF 2 fld_46_1 rfl rfl ?_
  refine jB 3 4 ty_2 rfl rfl rfl rfl ?_
  refine JH.fact (row_some (i := 2) rfl (by omega)) (fun hf26 => ?_)
  obtain ⟨b26, rfl⟩ := hf26
  refine jI 4 el_26 rfl rfl rfl rfl ?_
  refine JH.q 5 rfl (q_load1 ty_2.h rfl (Mem.row (i := 2) rfl (ints_getI (i := f.place) (by omega)))) ?_
  refine jF 6 fld_46_2 rfl rfl ?_
  refine jB 7 4 ty_2 rfl rfl rfl rfl ?_
  refine JH.p 8 rfl (p_add rfl rfl (IntWalk.i64_in _ (by omega))) ?_
  refine jI 9 el_26 rfl rfl rfl rfl ?_
  refine y1 10 ?_
  refine JHo.s rfl (e_storeRow (i := 2) (xs' := ints_ (M.setI p.pits f.place ((M.getI p.pits f.place) + f.count))) ty_2.h rfl rfl rfl rfl rfl rfl (ints_lt (i := f.place.toNat) (by omega)) (ints_setL (i := f.place.toNat) (by omega))) (.inr rfl) ?_
  rintro _ _ _ ⟨rfl, rfl⟩ _
  refine znh ?_
  refine yd ?_
  refine Js.seq ?_
  refine zk [8] (fun F U l os u => l = F [(9, .int .i64 (hand - f.count)), (10, .bool true)] ∧ os = U [nO, nO, nO, some (boxO b6 [.slice (some ⟨b26, 0, none⟩) p.pits.length c8, .slice A9 p.stores.length c9, .int .i64 p.player] 28)]) ?_ ?_
  ·
   refine zdr [5] ?_
   refine JH.q 0 rfl (L9 0 rfl rfl) ?_
   refine jM 1 rfl rfl ?_
   refine jF 2 fld_46_2 rfl rfl ?_
   refine y2 3 5 ?_ ?_
   ·
    refine JHo.q rfl (q_load1 ty_2.h rfl (Mem.box (i := 4) rfl rfl)) ?_
    refine JH.p 4 rfl (p_sub rfl rfl (IntWalk.i64_in _ (by omega))) ?_
    refine y1 5 ?_
    refine yst rfl rfl rfl ?_
    refine jA 6 rfl rfl ?_
    refine jA 7 rfl rfl ?_
    refine yd ?_
    exact zm ⟨rfl, rfl⟩ (Up.refl _ _)
   refine yst rfl rfl rfl ?_
   refine y1 3 ?_
   refine JHo.q rfl (q_load1 ty_2.h rfl (Mem.box (i := 4) rfl rfl)) ?_
   refine JH.p 4 rfl (p_sub rfl rfl (IntWalk.i64_in _ (by omega))) ?_
   refine jA 6 rfl rfl ?_
   refine jA 7 rfl rfl ?_
   refine yd ?_
   exact zm ⟨rfl, rfl⟩ (Up.refl _ _)
  rintro _ _ u28 ⟨rfl, rfl⟩ x28
  refine zn ?_
  have hq0 : (M.setI p.pits f.place ((M.getI p.pits f.place) + f.count)) = (M.lsP r p hand f).pits := by first | (rw [hE]; done) | (rw [hE]; exact decide_eq_true hh0) | (rw [hh0]; exact hB.symm) | (rw [hA]; done) | (rw [hB]; done) | (rw [hA]; rfl) | (rw [hB]; rfl) | (rw [hA, hB, hE]; done) | (rw [hA, hB, hE]; rfl)
  have hq1 : p.stores = (M.lsP r p hand f).stores := by first | (rw [hE]; done) | (rw [hE]; exact decide_eq_true hh0) | (rw [hh0]; exact hB.symm) | (rw [hA]; done) | (rw [hB]; done) | (rw [hA]; rfl) | (rw [hB]; rfl) | (rw [hA, hB, hE]; done) | (rw [hA, hB, hE]; rfl)
  have hq2 : p.player = (M.lsP r p hand f).player := by first | (rw [hE]; done) | (rw [hE]; exact decide_eq_true hh0) | (rw [hh0]; exact hB.symm) | (rw [hA]; done) | (rw [hB]; done) | (rw [hA]; rfl) | (rw [hB]; rfl) | (rw [hA, hB, hE]; done) | (rw [hA, hB, hE]; rfl)
  have hq3 : (hand - f.count) = (M.lsH r p hand f) := by first | (rw [hE]; done) | (rw [hE]; exact decide_eq_true hh0) | (rw [hh0]; exact hB.symm) | (rw [hA]; done) | (rw [hB]; done) | (rw [hA]; rfl) | (rw [hB]; rfl) | (rw [hA, hB, hE]; done) | (rw [hA, hB, hE]; rfl)
  have hq4 : true = M.stB r p hand f := by first | (rw [hE]; done) | (rw [hE]; exact decide_eq_true hh0) | (rw [hh0]; exact hB.symm) | (rw [hA]; done) | (rw [hB]; done) | (rw [hA]; rfl) | (rw [hB]; rfl) | (rw [hA, hB, hE]; done) | (rw [hA, hB, hE]; rfl)
  exact zro x28
 have hk2 : ¬ f.kind = 2 := by have := h18'; omega
 refine zS <| Qe rfl rfl <| Qa rfl <| JL.nil ?_
 refine zi (fun h29 h29' => ?_) fun h29 h29' => ?_
 ·
  have hk3 : f.kind = 3 := by have := h29'; omega
  refine Js.seq <| Js.seq ?_
  refine zdr [] ?_
  refine jM 0 rfl rfl ?_
  refine JH.p 1 rfl (p_neq rfl rfl) ?_
  refine jM 2 rfl rfl ?_
  refine JH.pg 3 rfl (Gd.f1 rfl rfl rfl) (fun hc => p_fieldAddr fld_28_0.h rfl) ?_
  refine JH.qg 4 rfl (Gd.f1 rfl rfl rfl) (fun hc => q_load1 ty_26.h (gvt rfl hc) (Mem.box (i := 0) rfl rfl)) ?_
  refine JH.pg 5 rfl (Gd.f1 rfl rfl rfl) (fun hc => p_fieldAddr fld_46_1.h rfl) ?_
  refine JH.qg 6 rfl (Gd.f1 rfl rfl rfl) (fun hc => q_load1 ty_2.h (gvt rfl hc) (Mem.box (i := 4) rfl rfl)) ?_
  refine JH.fact (row_some (i := 2) rfl (by omega)) (fun hf31 => ?_)
  obtain ⟨b31, rfl⟩ := hf31
  refine JH.pg 7 rfl (Gd.f1 rfl rfl rfl) (fun hc => p_indexAddr el_26 (gvt rfl hc) (gvt rfl hc) (by have hc9 := hc; (try simp only [Bool.not_eq_true', Bool.not_eq_false', decide_eq_true_eq] at hc9); omega) (by have hc9 := hc; (try simp only [Bool.not_eq_true', Bool.not_eq_false', decide_eq_true_eq] at hc9); omega) rfl) ?_
  refine JH.qg 8 rfl (Gd.f1 rfl rfl rfl) (fun hc => q_load1 ty_2.h (gvt rfl hc) (Mem.row (i := 2) rfl (ints_getI (i := f.place) (by have hc9 := hc; (try simp only [Bool.not_eq_true', Bool.not_eq_false', decide_eq_true_eq] at hc9); omega)))) ?_
  refine JH.pg 9 rfl (Gd.f1 rfl rfl rfl) (fun hc => p_fieldAddr fld_46_2.h rfl) ?_
  refine JH.qg 10 rfl (Gd.f1 rfl rfl rfl) (fun hc => q_load1 ty_2.h (gvt rfl hc) (Mem.box (i := 4) rfl rfl)) ?_
  refine JH.pg 11 rfl (Gd.f1 rfl rfl rfl) (fun hc => p_neq (gvt rfl hc) (gvt rfl hc)) ?_
  refine JH.p 12 rfl (p_pickOr rfl rfl rfl) ?_
  refine yd ?_
  refine zi (fun h32 h32' => ?_) fun h32 h32' => ?_
  ·
   have hE : M.stB r p hand f = false := by have h9 := h32; by_cases h8 : hand = 0; rw [M.stB_3 ho h8 (.inr hk3)]; simpa [h8] using h9; exact M.stB_h h8 (by omega)
   have hA := M.lsP_n hE (by omega)
   have hB := M.lsH_n hE
   have hq0 : p.pits = (M.lsP r p hand f).pits := by first | (rw [hE]; done) | (rw [hE]; exact decide_eq_true hh0) | (rw [hh0]; exact hB.symm) | (rw [hA]; done) | (rw [hB]; done) | (rw [hA]; rfl) | (rw [hB]; rfl) | (rw [hA, hB, hE]; done) | (rw [hA, hB, hE]; rfl)
   have hq1 : p.stores = (M.lsP r p hand f).stores := by first | (rw [hE]; done) | (rw [hE]; exact decide_eq_true hh0) | (rw [hh0]; exact hB.symm) | (rw [hA]; done) | (rw [hB]; done) | (rw [hA]; rfl) | (rw [hB]; rfl) | (rw [hA, hB, hE]; done) | (rw [hA, hB, hE]; rfl)
   have hq2 : p.player = (M.lsP r p hand f).player := by first | (rw [hE]; done) | (rw [hE]; exact decide_eq_true hh0) | (rw [hh0]; exact hB.symm) | (rw [hA]; done) | (rw [hB]; done) | (rw [hA]; rfl) | (rw [hB]; rfl) | (rw [hA, hB, hE]; done) | (rw [hA, hB, hE]; rfl)
   have hq3 : 0 = (M.lsH r p hand f) := by first | (rw [hE]; done) | (rw [hE]; exact decide_eq_true hh0) | (rw [hh0]; exact hB.symm) | (rw [hA]; done) | (rw [hB]; done) | (rw [hA]; rfl) | (rw [hB]; rfl) | (rw [hA, hB, hE]; done) | (rw [hA, hB, hE]; rfl)
   have hq4 : false = M.stB r p hand f := by first | (rw [hE]; done) | (rw [hE]; exact decide_eq_true hh0) | (rw [hh0]; exact hB.symm) | (rw [hA]; done) | (rw [hB]; done) | (rw [hA]; rfl) | (rw [hB]; rfl) | (rw [hA, hB, hE]; done) | (rw [hA, hB, hE]; rfl)
   refine zS <| Q9 0 rfl rfl ?_
   refine zw 3 rfl rfl rfl ?_
   refine Qa rfl <| Qa rfl <| JL.nil ?_
   exact zro (Up.refl _ _)
  obtain ⟨hh0, hc0⟩ : hand = 0 ∧ M.getI p.pits f.place = f.count := by have h9 := h32; simpa using h9
  have hE : M.stB r p hand f = true := by rw [M.stB_3 ho hh0 (.inr hk3)]; simp [hc0]
  have hA := M.lsP_y hE
  have hB := M.lsH_y hE
  obtain ⟨hC, hD⟩ := (M.stP_3 hk3 : M.stP p f = _ ∧ M.stH hand f = _)
  rw [hC] at hA
  rw [hD] at hB
  rw [hh0] at hB
  refine Js.skip <| zS <| Qf fh rfl <| Q0 0 rfl rfl rfl <| Qf fh rfl <| Q0 4 rfl rfl rfl <| Qq (p_indexAddr el_26 rfl rfl (by omega) (by omega) rfl) ?_
  refine JL.s (e_storeRow (i := 2) (xs' := ints_ (M.setI p.pits f.place 0)) ty_2.h rfl rfl rfl rfl rfl rfl (ints_lt (i := f.place.toNat) (by omega)) (ints_setL (i := f.place.toNat) (by omega))) ?_
  rintro _ _ _ ⟨rfl, rfl⟩ _
  refine znl ?_
  refine JL.nil ?_
  refine zdr [12] ?_
  refine jF 0 fld_28_1 rfl rfl ?_
  refine jB 1 0 ty_26 rfl rfl rfl rfl ?_
  refine jM 2 rfl rfl ?_
  refine jN 3 rfl rfl ?_
  refine jF 4 fld_28_2 rfl rfl ?_
  refine jW 5 ty_2 rfl rfl (fun hv => (hr4.vis hv) 2 _ rfl) ?_
  refine JH.fact (row_some (i := 1) rfl (by omega)) (fun hf35 => ?_)
  obtain ⟨b35, rfl⟩ := hf35
  refine jI 6 el_26 rfl rfl rfl rfl ?_
  refine JH.q 7 rfl (q_load1 ty_2.h rfl (Mem.row (i := 1) rfl (ints_getI (i := p.player) (by omega)))) ?_
  refine jF 8 fld_46_2 rfl rfl ?_
  refine jB 9 4 ty_2 rfl rfl rfl rfl ?_
  refine JH.p 10 rfl (p_add rfl rfl (IntWalk.i64_in _ (by omega))) ?_
  refine jI 11 el_26 rfl rfl rfl rfl ?_
  refine y1 12 ?_
  refine JHo.s rfl (e_storeRow (i := 1) (xs' := ints_ (M.setI p.stores p.player ((M.getI p.stores p.player) + f.count))) ty_2.h rfl rfl rfl rfl rfl rfl (ints_lt (i := p.player.toNat) (by omega)) (ints_setL (i := p.player.toNat) (by omega))) (.inr rfl) ?_
  rintro _ _ _ ⟨rfl, rfl⟩ _
  refine znh ?_
  refine yd ?_
  have hq0 : (M.setI p.pits f.place 0) = (M.lsP r p hand f).pits := by first | (rw [hE]; done) | (rw [hE]; exact decide_eq_true hh0) | (rw [hh0]; exact hB.symm) | (rw [hA]; done) | (rw [hB]; done) | (rw [hA]; rfl) | (rw [hB]; rfl) | (rw [hA, hB, hE]; done) | (rw [hA, hB, hE]; rfl)
  have hq1 : (M.setI p.stores p.player ((M.getI p.stores p.player) + f.count)) = (M.lsP r p hand f).stores := by first | (rw [hE]; done) | (rw [hE]; exact decide_eq_true hh0) | (rw [hh0]; exact hB.symm) | (rw [hA]; done) | (rw [hB]; done) | (rw [hA]; rfl) | (rw [hB]; rfl) | (rw [hA, hB, hE]; done) | (rw [hA, hB, hE]; rfl)
  have hq2 : p.player = (M.lsP r p hand f).player := by first | (rw [hE]; done) | (rw [hE]; exact decide_eq_true hh0) | (rw [hh0]; exact hB.symm) | (rw [hA]; done) | (rw [hB]; done) | (rw [hA]; rfl) | (rw [hB]; rfl) | (rw [hA, hB, hE]; done) | (rw [hA, hB, hE]; rfl)
  have hq3 : 0 = (M.lsH r p hand f) := by first | (rw [hE]; done) | (rw [hE]; exact decide_eq_true hh0) | (rw [hh0]; exact hB.symm) | (rw [hA]; done) | (rw [hB]; done) | (rw [hA]; rfl) | (rw [hB]; rfl) | (rw [hA, hB, hE]; done) | (rw [hA, hB, hE]; rfl)
  have hq4 : (decide (hand = 0)) = M.stB r p hand f := by first | (rw [hE]; done) | (rw [hE]; exact decide_eq_true hh0) | (rw [hh0]; exact hB.symm) | (rw [hA]; done) | (rw [hB]; done) | (rw [hA]; rfl) | (rw [hB]; rfl) | (rw [hA, hB, hE]; done) | (rw [hA, hB, hE]; rfl)
  refine Js.blockEnd <| zS <| Q9 0 rfl rfl ?_
  refine Qm rfl <| Qe rfl rfl <| zw 3 rfl rfl rfl ?_
  refine Qa rfl <| Qa rfl <| JL.nil ?_
  exact zro (Up.refl _ _)
 have hk3 : ¬ f.kind = 3 := by have := h29'; omega
 refine zS <| Qe rfl rfl <| Qa rfl <| JL.nil ?_
 refine zi (fun h37 h37' => ?_) fun h37 h37' => ?_
 ·
  have hk6 : f.kind = 6 := by have := h37'; omega
  have hA := M.lsP_6 (p := p) (h := hand) ho hk6
  obtain ⟨hC, hD⟩ := (M.stP_6 hk6 : M.stP p f = _ ∧ M.stH hand f = _)
  rw [hC] at hA
  have hE : M.stB r p hand f = decide (hand = 0) := by by_cases h8 : hand = 0; rw [M.stB_6 ho h8 hk2 (by omega), decide_eq_true h8]; rw [M.stB_h h8 hk2, decide_eq_false h8]
  have hB : M.lsH r p hand f = 0 := if h8 : hand = 0 then (M.lsH_y (by rw [hE]; exact decide_eq_true h8)).trans (hD.trans h8) else M.lsH_n (by rw [hE]; exact decide_eq_false h8)
  have hq0 : p.pits = (M.lsP r p hand f).pits := by first | (rw [hE]; done) | (rw [hE]; exact decide_eq_true hh0) | (rw [hh0]; exact hB.symm) | (rw [hA]; done) | (rw [hB]; done) | (rw [hA]; rfl) | (rw [hB]; rfl) | (rw [hA, hB, hE]; done) | (rw [hA, hB, hE]; rfl)
  have hq1 : p.stores = (M.lsP r p hand f).stores := by first | (rw [hE]; done) | (rw [hE]; exact decide_eq_true hh0) | (rw [hh0]; exact hB.symm) | (rw [hA]; done) | (rw [hB]; done) | (rw [hA]; rfl) | (rw [hB]; rfl) | (rw [hA, hB, hE]; done) | (rw [hA, hB, hE]; rfl)
  have hq2 : (1 - p.player) = (M.lsP r p hand f).player := by first | (rw [hE]; done) | (rw [hE]; exact decide_eq_true hh0) | (rw [hh0]; exact hB.symm) | (rw [hA]; done) | (rw [hB]; done) | (rw [hA]; rfl) | (rw [hB]; rfl) | (rw [hA, hB, hE]; done) | (rw [hA, hB, hE]; rfl)
  have hq3 : 0 = (M.lsH r p hand f) := by first | (rw [hE]; done) | (rw [hE]; exact decide_eq_true hh0) | (rw [hh0]; exact hB.symm) | (rw [hA]; done) | (rw [hB]; done) | (rw [hA]; rfl) | (rw [hB]; rfl) | (rw [hA, hB, hE]; done) | (rw [hA, hB, hE]; rfl)
  have hq4 : (decide (hand = 0)) = M.stB r p hand f := by first | (rw [hE]; done) | (rw [hE]; exact decide_eq_true hh0) | (rw [hh0]; exact hB.symm) | (rw [hA]; done) | (rw [hB]; done) | (rw [hA]; rfl) | (rw [hB]; rfl) | (rw [hA, hB, hE]; done) | (rw [hA, hB, hE]; rfl)
  refine Js.region <| Qm rfl <| Qc rfl <| Qf fh rfl <| QC (hr4 2 _ rfl) rfl <| Qs rfl rfl <| Qf fh rfl <| zw 0 rfl rfl rfl ?_
  refine JL.nil <| Js.blockEnd <| zS <| Q9 0 rfl rfl ?_
  refine Qm rfl <| Qe rfl rfl <| zw 3 rfl rfl rfl ?_
  refine Qa rfl <| Qa rfl <| JL.nil ?_
  exact zro (Up.refl _ _)
 have hk6 : ¬ f.kind = 6 := by have := h37'; omega
 have hE : M.stB r p hand f = decide (hand = 0) := by by_cases h8 : hand = 0; rw [M.stB_6 ho h8 hk2 (by omega), decide_eq_true h8]; rw [M.stB_h h8 hk2, decide_eq_false h8]
 obtain ⟨hC, hD⟩ := (M.stP_o hk1 hk2 hk3 hk6 : M.stP p f = _ ∧ M.stH hand f = _)
 have hA : M.lsP r p hand f = p := by unfold M.lsP; rw [hC]; split; rfl; split <;> rfl
 have hB : M.lsH r p hand f = 0 := if h8 : hand = 0 then (M.lsH_y (by rw [hE]; exact decide_eq_true h8)).trans (hD.trans h8) else M.lsH_n (by rw [hE]; exact decide_eq_false h8)
 have hq0 : p.pits = (M.lsP r p hand f).pits := by first | (rw [hE]; done) | (rw [hE]; exact decide_eq_true hh0) | (rw [hh0]; exact hB.symm) | (rw [hA]; done) | (rw [hB]; done) | (rw [hA]; rfl) | (rw [hB]; rfl) | (rw [hA, hB, hE]; done) | (rw [hA, hB, hE]; rfl)
 have hq1 : p.stores = (M.lsP r p hand f).stores := by first | (rw [hE]; done) | (rw [hE]; exact decide_eq_true hh0) | (rw [hh0]; exact hB.symm) | (rw [hA]; done) | (rw [hB]; done) | (rw [hA]; rfl) | (rw [hB]; rfl) | (rw [hA, hB, hE]; done) | (rw [hA, hB, hE]; rfl)
 have hq2 : p.player = (M.lsP r p hand f).player := by first | (rw [hE]; done) | (rw [hE]; exact decide_eq_true hh0) | (rw [hh0]; exact hB.symm) | (rw [hA]; done) | (rw [hB]; done) | (rw [hA]; rfl) | (rw [hB]; rfl) | (rw [hA, hB, hE]; done) | (rw [hA, hB, hE]; rfl)
 have hq3 : 0 = (M.lsH r p hand f) := by first | (rw [hE]; done) | (rw [hE]; exact decide_eq_true hh0) | (rw [hh0]; exact hB.symm) | (rw [hA]; done) | (rw [hB]; done) | (rw [hA]; rfl) | (rw [hB]; rfl) | (rw [hA, hB, hE]; done) | (rw [hA, hB, hE]; rfl)
 have hq4 : (decide (hand = 0)) = M.stB r p hand f := by first | (rw [hE]; done) | (rw [hE]; exact decide_eq_true hh0) | (rw [hh0]; exact hB.symm) | (rw [hA]; done) | (rw [hB]; done) | (rw [hA]; rfl) | (rw [hB]; rfl) | (rw [hA, hB, hE]; done) | (rw [hA, hB, hE]; rfl)
 refine Js.skip <| Js.blockEnd <| zS <| Q9 0 rfl rfl ?_
 refine Qm rfl <| Qe rfl rfl <| zw 3 rfl rfl rfl ?_
 refine Qa rfl <| Qa rfl <| JL.nil ?_
 exact zro (Up.refl _ _)
theorem c_spec_ApplyFacts (r : M.Rul) {v_r : Value} (p : M.Pos) {v_p : Value} (facts : List M.Fct) {v_facts : Value} {w : World} (h_r : (Ty.agg (cRules r)).ok w v_r) (h_p : (Ty.agg (cPosition p)).ok w v_p) (h_facts : (Ty.sl 46 3 facts.length (lFact facts)).ok w v_facts) (r0 : p.pits.length ≤ 4194304 := by exact om_) (r1 : p.stores.length ≤ 4194304 := by exact om_) (r2 : facts.length ≤ 4194304 := by exact om_) : Ret Try.prog 14 [v_r, v_p, v_facts] w (Ty.tup [Ty.agg (cPosition ((M.apR r p facts).1)), Ty.int ((M.apR r p facts).2)]) := by
 revert v_r; apply opn
 revert v_p; apply opn
 intro A1 c1 h1 bl1 bh1 A2 c2 h2 bl2 bh2
 revert v_facts; apply opn
 intro A3 c3 h3 bl3 bh3
 have h_facts := h3
 refine enter @Try.func14 @Try.ntmps14 rfl rfl ?_
 refine zent ?_
 refine zS <| zb rfl fun b4 => zb rfl fun b5 => za zeh fun b6 => Qa rfl <| zJ <| zS <| zv rfl (fun w hw => c_spec_l04Ok r p (ok_ hw) (ok_ hw)) <| Qt rfl <| JL.nil ?_
 refine zi (fun h7 h7' => ?_) fun h7 h7' => ?_
 ·
  have hE := M.apR_1 (l := facts) (show M.okP r p = false by simpa using h7)
  have hq0 : [] = ((M.apR r p facts).1).pits := by first | (rw [hE]; done) | (rw [hE]; rfl) | rfl
  have hq1 : [] = ((M.apR r p facts).1).stores := by first | (rw [hE]; done) | (rw [hE]; rfl) | rfl
  have hq2 : 0 = ((M.apR r p facts).1).player := by first | (rw [hE]; done) | (rw [hE]; rfl) | rfl
  have hq3 : 1 = (M.apR r p facts).2 := by first | (rw [hE]; done) | (rw [hE]; rfl) | rfl
  refine zS <| Qb ?_
  refine zw 0 rfl rfl rfl ?_
  refine Qa rfl <| JL.nil ?_
  exact zro (Up.refl _ _)
 have hok : M.okP r p = true := by simpa using h7
 obtain ⟨g1, g2, g3, g4, g5, g6, g7⟩ := M.okP_bd hok
 refine Js.skip <| Js.seq <| zS <| Qm rfl <| Qz rfl <| Qg rfl rfl <| JL.nil ?_
 refine zi (fun h8 h8' => ?_) fun h8 h8' => ?_
 ·
  have hE := M.apR_5 hok (show 3000 < facts.length by have := h8'; omega)
  have hq0 : [] = ((M.apR r p facts).1).pits := by first | (rw [hE]; done) | (rw [hE]; rfl) | rfl
  have hq1 : [] = ((M.apR r p facts).1).stores := by first | (rw [hE]; done) | (rw [hE]; rfl) | rfl
  have hq2 : 0 = ((M.apR r p facts).1).player := by first | (rw [hE]; done) | (rw [hE]; rfl) | rfl
  have hq3 : 5 = (M.apR r p facts).2 := by first | (rw [hE]; done) | (rw [hE]; rfl) | rfl
  refine zS <| Qb ?_
  refine zw 0 rfl rfl rfl ?_
  refine Qa rfl <| JL.nil ?_
  exact zro (Up.refl _ _)
 have hl9 : ¬ 3000 < facts.length := by have := h8'; omega
 refine Js.skip <| zS <| zc rfl (fun w hw => c_spec_l04Own p (ok_ hw)) ?_
 intro A10 c10 bl10 bh10 A11 c11 bl11 bh11
 refine za zeh fun b12 => zw 0 rfl rfl rfl ?_
 refine zN <| Qa rfl <| zJ <| zS <| Qa rfl <| JL.nil <| Js.block ?_
 refine zl [2, 3, 6, 8] (fun F U l os u m => ∃ (k : Nat) (q : M.Pos) (hd : Int) (A13_8_0 : Option Addr) (c13_8_0 : Nat) (g13_8_0 : List Nat) (A13_8_1 : Option Addr) (c13_8_1 : Nat) (g13_8_1 : List Nat), l = F [(9, .int .i64 hd), (10, .int .i64 (k : Int))] ∧ os = U [some (boxO b12 [.slice A13_8_0 q.pits.length c13_8_0, .slice A13_8_1 q.stores.length c13_8_1, .int .i64 q.player] 28), some (rowO 2 1 (.slice A13_8_1 q.stores.length c13_8_1) q.stores.length (ints_ q.stores) g13_8_1), some (rowO 2 1 (.slice A13_8_0 q.pits.length c13_8_0) q.pits.length (ints_ q.pits) g13_8_0)] ∧ (M.ApI r p facts k q hd) ∧ (k ≤ facts.length) ∧ (q.pits.length ≤ c13_8_0) ∧ (c13_8_0 ≤ 9223372036854775807) ∧ (q.stores.length ≤ c13_8_1) ∧ (c13_8_1 ≤ 9223372036854775807) ∧ m = facts.length - k) ⟨0, p, 0, _, _, _, _, _, _, rfl, rfl, by exact M.ApI.zero facts hok, zt, zu, zu, zu, zu, rfl⟩ ?_
 rintro _ _ u13 _ ⟨k, q, hd, A13_8_0, c13_8_0, g13_8_0, A13_8_1, c13_8_1, g13_8_1, rfl, rfl, hI, hk, f13_2, f13_3, f13_4, f13_5, rfl⟩ x13
 refine zn ?_
 have hqg := hI.g.g
 have hq1 := hqg.lp
 have hq2 := hqg.ls
 refine Js.seq <| zS <| Qm rfl <| Qm rfl <| Qz rfl <| Ql rfl rfl <| JL.nil ?_
 refine zi (fun h14 h14' => ?_) fun h14 h14' => ?_
 ·
  have hk2 : k < facts.length := by have := h14'; omega
  have hy15 : facts[k]? = some (M.fct facts k) := M.fct_get (by omega)
  obtain ⟨b15, o15, he15, hr15⟩ := elem_Fact (Ty.mono _ h3 x13.vis) hy15
  refine Js.skip <| Js.seq <| Js.block <| zS <| Qm rfl <| Qm rfl <| Qm rfl <| Qq (p_indexAddr el_31 rfl rfl (by omega) (by omega) he15) <| QS 0 hr15 rfl ?_
  refine zc rfl (fun w hw => c_spec_l11Step r q hd (M.fct facts k) (ok_ hw) (ok_ hw) (ok_ hw) (r2 := hI.g)) ?_
  intro A18 c18 bl18 bh18 A19 c19 bl19 bh19
  refine Qm rfl <| Qx rfl rfl <| Qx rfl rfl <| Qx rfl rfl <| za zeh fun b20 => zw 0 rfl rfl rfl ?_
  refine Qa rfl <| Qa rfl <| zJ <| zS <| Qm rfl <| Qt rfl <| JL.nil ?_
  refine zi (fun h21 h21' => ?_) fun h21 h21' => ?_
  ·
   have hE := hI.no hok hl9 hk2 (by simpa using h21)
   have hq0 : [] = ((M.apR r p facts).1).pits := by first | (rw [hE]; done) | (rw [hE]; rfl) | rfl
   have hq1 : [] = ((M.apR r p facts).1).stores := by first | (rw [hE]; done) | (rw [hE]; rfl) | rfl
   have hq2 : 0 = ((M.apR r p facts).1).player := by first | (rw [hE]; done) | (rw [hE]; rfl) | rfl
   have hq3 : 6 = (M.apR r p facts).2 := by first | (rw [hE]; done) | (rw [hE]; rfl) | rfl
   refine zS <| Qb ?_
   refine zw 6 rfl rfl rfl ?_
   refine Qa rfl <| JL.nil ?_
   exact zro x13
  have hB9 : M.stB r q hd (M.fct facts k) = true := by simpa using h21
  have hI2 := hI.step hk2 hB9
  have hA9 := M.lsP_y hB9
  have hH9 := M.lsH_y hB9
  rw [← hA9, ← hH9] at hI2
  refine Js.skip <| zS <| Q9 0 rfl rfl ?_
  refine zw 3 rfl rfl rfl ?_
  refine zG <| Qm rfl <| Qa rfl <| JL.nil <| Js.blockEnd <| Js.region <| Qm rfl <| Qp rfl rfl <| Qa rfl <| JL.nil ?_
  refine zd [3, 1, 1, 3, 3, 3] rfl fun u22 x22 => ?_
  exact zag ⟨k + 1, (M.lsP r q hd (M.fct facts k)), (M.lsH r q hd (M.fct facts k)), _, _, _, _, _, _, rfl, rfl, by exact hI2, zt, zu, zu, zu, zu, rfl⟩ (x13.trans x22)
 have hE := hI.all hok hl9 (by have := h14'; omega)
 have hn9 := hI.g.g.n0
 refine zx ?_
 refine Js.seq <| zS <| Qm rfl <| Qd rfl rfl <| JL.nil ?_
 refine zi (fun h23 h23' => ?_) fun h23 h23' => ?_
 ·
  rw [if_neg (by have := h23'; omega)] at hE
  have hq0 : [] = ((M.apR r p facts).1).pits := by first | (rw [hE]; done) | (rw [hE]; rfl) | rfl
  have hq1 : [] = ((M.apR r p facts).1).stores := by first | (rw [hE]; done) | (rw [hE]; rfl) | rfl
  have hq2 : 0 = ((M.apR r p facts).1).player := by first | (rw [hE]; done) | (rw [hE]; rfl) | rfl
  have hq3 : 6 = (M.apR r p facts).2 := by first | (rw [hE]; done) | (rw [hE]; rfl) | rfl
  refine zS <| Qb ?_
  refine zw 3 rfl rfl rfl ?_
  refine Qa rfl <| JL.nil ?_
  exact zro x13
 rw [if_pos (by have := h23'; omega)] at hE
 have hq0 : q.pits = ((M.apR r p facts).1).pits := by first | (rw [hE]; done) | (rw [hE]; rfl) | rfl
 have hq1 : q.stores = ((M.apR r p facts).1).stores := by first | (rw [hE]; done) | (rw [hE]; rfl) | rfl
 have hq2 : q.player = ((M.apR r p facts).1).player := by first | (rw [hE]; done) | (rw [hE]; rfl) | rfl
 have hq3 : 0 = (M.apR r p facts).2 := by first | (rw [hE]; done) | (rw [hE]; rfl) | rfl
 refine Js.skip <| zS <| Q9 0 rfl rfl ?_
 refine zw 3 rfl rfl rfl ?_
 refine Qa rfl <| JL.nil ?_
 exact zro x13
theorem c_spec_TouchedPits (r : M.Rul) {v_r : Value} (p : M.Pos) {v_p : Value} (move : Int) {w : World} (h_r : (Ty.agg (cRules r)).ok w v_r) (h_p : (Ty.agg (cPosition p)).ok w v_p) (r0 : p.pits.length ≤ 4194304 := by exact om_) (r1 : p.stores.length ≤ 4194304 := by exact om_) : Ret Try.prog 11 [v_r, v_p, .int .i64 move] w (Ty.tup [Ty.ints 2 ((M.touR r p move).1), Ty.int ((M.touR r p move).2)]) := by
 revert v_r; apply opn
 revert v_p; apply opn
 intro A1 c1 h1 bl1 bh1 A2 c2 h2 bl2 bh2
 refine enter @Try.func11 @Try.ntmps11 rfl rfl ?_
 refine zent ?_
 refine zS <| zb rfl fun b3 => zb rfl fun b4 => Qa rfl <| Qa rfl <| zN <| Q9 1 rfl rfl ?_
 refine Q9 0 rfl rfl ?_
 refine Qm rfl <| zv rfl (fun w hw => c_spec_MoveFault r p move (ok_ hw) (ok_ hw)) <| Qa rfl <| zJ <| zS <| Qm rfl <| Qd rfl rfl <| JL.nil ?_
 refine zi (fun h5 h5' => ?_) fun h5 h5' => ?_
 ·
  have hE := M.touR_n (r := r) (p := p) (move := move) (by simpa using h5)
  have hq0 : [] = (M.touR r p move).1 := by first | (rw [hE, hO]; done) | (rw [hE]; exact hO.symm) | (rw [hE]; exact hO) | (rw [hE]; done) | (rw [hE]; rfl)
  have hq1 : ((M.make r p move).2) = (M.touR r p move).2 := by first | (rw [hE, hO]; done) | (rw [hE]; exact hO.symm) | (rw [hE]; exact hO) | (rw [hE]; done) | (rw [hE]; rfl)
  refine zS <| Qm rfl <| Qa rfl <| Qa rfl <| JL.nil ?_
  exact zro (Up.refl _ _)
 have hm0 : (M.make r p move).2 = 0 := by simpa using h5
 have hE := M.touR_y hm0
 obtain ⟨hok, _, _, hok2, _⟩ := M.make_ok hm0
 obtain ⟨_, _, g3, g4, _⟩ := M.okP_bd hok
 obtain ⟨_, _, k3, k4, _⟩ := M.okP_bd hok2
 refine Js.skip <| zS <| Qm rfl <| zc rfl (fun w hw => c_spec_l07Make r p move (ok_ hw) (ok_ hw)) ?_
 intro A8 c8 bl8 bh8 A9 c9 bl9 bh9
 refine Qm rfl <| Qx rfl rfl <| Qx rfl rfl <| za zeh fun b10 => zw 0 rfl rfl rfl ?_
 refine Qa rfl <| zN <| zbs fun b11 => ?_
 refine Qa rfl <| zJ <| zS <| Qa rfl <| JL.nil <| Js.block ?_
 refine zl [4, 9] (fun F U l os u m => ∃ (k : Nat) (out : List Int) (A13_11 : Option Addr) (c13_11 : Nat) (g13_11 : List Nat), l = F [(11, .slice A13_11 out.length c13_11), (12, .int .i64 (k : Int))] ∧ os = U [some (rowO 2 1 (.slice A13_11 out.length c13_11) out.length (ints_ out) g13_11)] ∧ (out = M.touT p.pits (M.make r p move).1.next.pits k) ∧ (k ≤ p.pits.length) ∧ (out.length ≤ k) ∧ (out.length ≤ c13_11) ∧ (c13_11 ≤ 9223372036854775807) ∧ m = p.pits.length - k) ⟨0, [], _, _, _, rfl, rfl, by rfl, zt, by simp, zu, zu, rfl⟩ ?_
 rintro _ _ u13 _ ⟨k, out, A13_11, c13_11, g13_11, rfl, rfl, hO, hk, hl, f13_3, f13_4, rfl⟩ x13
 refine zn ?_
 refine Js.seq <| zS <| Qm rfl <| Qf fh rfl <| Q0 4 rfl rfl rfl <| Qz rfl <| Ql rfl rfl <| JL.nil ?_
 refine zi (fun h14 h14' => ?_) fun h14 h14' => ?_
 ·
  have hk2 : k < p.pits.length := by have := h14'; omega
  refine Js.skip <| Js.seq <| Js.block <| Js.seq ?_
  refine zdr [] ?_
  refine jF 0 fld_64_3 rfl rfl ?_
  refine jF 1 fld_28_0 rfl rfl ?_
  refine jB 2 1 ty_26 rfl rfl rfl rfl ?_
  refine jM 3 rfl rfl ?_
  refine JH.fact (row_some (i := 3) rfl (by omega)) (fun hf16 => ?_)
  obtain ⟨b16, rfl⟩ := hf16
  refine jI 4 el_26 rfl rfl rfl rfl ?_
  refine JH.q 5 rfl (q_load1 ty_2.h rfl (Mem.row (i := 3) rfl (ints_get (i := k) (by omega)))) ?_
  refine jF 6 fld_28_0 rfl rfl ?_
  refine jB 7 4 ty_26 rfl rfl rfl rfl ?_
  refine jM 8 rfl rfl ?_
  obtain ⟨b17, o17, he17, hc17⟩ := ints_elem (Ty.mono _ h1 x13.vis) (i := k) (by omega)
  refine jI 9 el_26 rfl rfl rfl he17 ?_
  refine jW 10 ty_2 rfl rfl hc17.vis ?_
  refine JH.p 11 rfl (p_neq rfl rfl) ?_
  refine yd ?_
  refine zi (fun h18 h18' => ?_) fun h18 h18' => ?_
  ·
   have hO2 : out ++ [(k : Int)] = M.touT p.pits (M.make r p move).1.next.pits (k + 1) := by rw [hO]; exact (M.touT_y (by simpa using h18)).symm
   refine Js.region <| Qm rfl <| Qm rfl <| zbs fun b19 => ?_
   refine JL.e (e_append (i := 1) (n' := (out ++ [(k : Int)]).length) (vs' := ints_ (out ++ [(k : Int)])) el_26 rfl rfl rfl rfl (src_row (i := 0) und_26 rfl rfl) (by omega) (by omega) ln2_ (by simp [ints_])) ?_
   rintro v21 _ _ ⟨⟨g22, rfl⟩, rfl⟩ _
   refine JL.fact (row_form' (i := 1) rfl) (fun hf23 => ?_)
   obtain ⟨A23, c23, rfl, bl23, bh23⟩ := hf23
   refine znl ?_
   refine Qa rfl <| JL.nil <| Js.blockEnd <| Js.region <| Qm rfl <| Qp rfl rfl <| Qa rfl <| JL.nil ?_
   refine zd [1, 1, 1, 1, 1, 1] rfl fun u24 x24 => ?_
   exact zag ⟨k + 1, out ++ [(k : Int)], _, _, _, rfl, rfl, by exact hO2, zt, by first | omega | (simp; omega), zu, zu, rfl⟩ (x13.trans x24)
  have hO2 : out = M.touT p.pits (M.make r p move).1.next.pits (k + 1) := by rw [hO]; exact (M.touT_n (by simpa using h18)).symm
  refine Js.skip <| Js.blockEnd <| Js.region <| Qm rfl <| Qp rfl rfl <| Qa rfl <| JL.nil ?_
  exact zag ⟨k + 1, out, _, _, _, rfl, rfl, by exact hO2, zt, by first | omega | (simp; omega), zu, zu, rfl⟩ x13
 have hk3 : k = p.pits.length := by have := h14'; omega
 subst hk3
 refine zx ?_
 have hq0 : out = (M.touR r p move).1 := by first | (rw [hE, hO]; done) | (rw [hE]; exact hO.symm) | (rw [hE]; exact hO) | (rw [hE]; done) | (rw [hE]; rfl)
 have hq1 : 0 = (M.touR r p move).2 := by first | (rw [hE, hO]; done) | (rw [hE]; exact hO.symm) | (rw [hE]; exact hO) | (rw [hE]; done) | (rw [hE]; rfl)
 refine zS <| Qm rfl <| Qa rfl <| Qa rfl <| JL.nil ?_
 exact zro x13
theorem c_spec_SeedsMoved (r : M.Rul) {v_r : Value} (p : M.Pos) {v_p : Value} (move : Int) {w : World} (h_r : (Ty.agg (cRules r)).ok w v_r) (h_p : (Ty.agg (cPosition p)).ok w v_p) (r0 : p.pits.length ≤ 4194304 := by exact om_) (r1 : p.stores.length ≤ 4194304 := by exact om_) : RetV Try.prog 9 [v_r, v_p, .int .i64 move] w (.tuple #[.int .i64 ((M.movR r p move).1), .int .i64 ((M.movR r p move).2)]) := by
 revert v_r; apply opn
 revert v_p; apply opn
 intro A1 c1 h1 bl1 bh1 A2 c2 h2 bl2 bh2
 refine enter @Try.func9 @Try.ntmps9 rfl rfl ?_
 refine zent ?_
 refine zS <| zb rfl fun b3 => zb rfl fun b4 => Qa rfl <| Qa rfl <| zN <| Q9 1 rfl rfl ?_
 refine Q9 0 rfl rfl ?_
 refine Qm rfl <| zv rfl (fun w hw => c_spec_MoveFault r p move (ok_ hw) (ok_ hw)) <| Qa rfl <| zJ <| zS <| Qm rfl <| Qd rfl rfl <| JL.nil ?_
 refine zi (fun h5 h5' => ?_) fun h5 h5' => ?_
 ·
  have hE := M.movR_n (r := r) (p := p) (move := move) (by simpa using h5)
  refine zS <| Qm rfl <| Qa rfl <| Qa rfl <| JL.nil ?_
  refine zR (Up.refl _ _) ?_
  first | (rw [hE]; done) | (rw [hE]; rfl) | rfl
 have hm0 : (M.make r p move).2 = 0 := by simpa using h5
 have hE := M.movR_y hm0
 have hz := M.make_sow0 hm0
 refine Js.skip <| zS <| Qm rfl <| zp rfl (fun w hw => c_spec_l05Move r p move (ok_ hw) (ok_ hw)) ?_
 intro u6 x6 A7 c7 h7 bl7 bh7 A8 c8 h8 bl8 bh8 A9 c9 h9 bl9 bh9
 refine Qm rfl <| Qx rfl rfl <| Qx rfl rfl <| Qx rfl rfl <| za zeh fun b10 => zw 0 rfl rfl rfl ?_
 refine Qa rfl <| Qa rfl <| zN <| Qm rfl <| Qz rfl <| Qa rfl <| Qa rfl <| JL.nil ?_
 refine zR x6 ?_
 first | (rw [hE]; done) | (rw [hE]; rfl) | rfl
end Go.Proofs.Ytjgohnaobbphpaa

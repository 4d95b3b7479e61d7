/- Walks: G4. -/
import Derived.Test.YtmgnckfhghibeaaGreatZaA3
import Derived.Test.YtmgnckfhghibeaaGreatZaA4
set_option linter.unusedSimpArgs false
set_option linter.unusedVariables false
set_option maxRecDepth 100000
attribute [local irreducible] Go.Proofs.YtmgnckfhghibeaaGreat.gv
set_option maxHeartbeats 4000000
namespace Go.Proofs.YtmgnckfhghibeaaGreat
open Go.RowKit
theorem c_impl_Rules_results (r : M.Rul) {v_r : Value} (p : M.Pos) {v_p : Value} {w : World} (h_r : (Ty.agg (cRules r)).ok w v_r) (h_p : (Ty.agg (cPosition p)).ok w v_p) (r0 : M.okP r p = true := by exact om_) : Ret Tryz.prog 91 [v_r, v_p] w (Ty.sl 114 6 (M.results r p).length (lResult (M.results r p))) := by
 obtain ⟨g1, g2, g3, g4, g5, g6, g7⟩ := M.okP_bd r0
 revert v_r; apply opn
 revert v_p; apply opn
 intro A1 c1 h1 bl1 bh1 A2 c2 h2 bl2 bh2
 refine enter @Tryz.func91 @Tryz.ntmps91 rfl rfl ?_
 refine zent ?_
 obtain ⟨b3, o3, rfl⟩ := ints_some h2 (by omega)
 refine zS <| zb rfl fun b4 => zb rfl fun b5 => Qa rfl <| zN <| zbs fun b6 => ?_
 refine Qa rfl <| zJ <| zS <| Qf fh rfl <| Q0 2 rfl rfl rfl <| Qm rfl <| JL.nil <| Js.block ?_
 refine Js.vals (Ts := lResult []) (vs := []) (fun w => rfl) ?_
 refine zl [2, 3, 13] (fun F U l os u m => ∃ (k : Nat) (acc : List M.Res) (A8_5 : Option Addr) (c8_5 : Nat) (g8_5 : List Nat) (vs8_5 : List Value) (fl8_5 : List Nat), l = F [(5, .slice A8_5 acc.length c8_5), (14, .int .i64 (k : Int))] ∧ os = U [some (ownC (lResult acc) vs8_5 fl8_5), some (rowO 114 6 (.slice A8_5 acc.length c8_5) acc.length vs8_5 g8_5)] ∧ (acc = M.resultsTo r p k) ∧ (k ≤ r.pits) ∧ (acc.length ≤ c8_5) ∧ (c8_5 ≤ 9223372036854775807) ∧ m = (r.pits - k).toNat) ⟨0, [], _, _, _, _, _, rfl, rfl, by rfl, zt, zu, zu, rfl⟩ ?_
 rintro _ _ u8 _ ⟨k, acc, A8_5, c8_5, g8_5, vs8_5, fl8_5, rfl, rfl, hacc, hk, f8_2, f8_3, rfl⟩ x8
 refine zn ?_
 have hlen := M.resultsTo_len (r := r) (p := p) k
 have hlacc : acc.length ≤ k := by rw [hacc]; exact hlen
 refine zS <| Ql rfl rfl <| zJ ?_
 refine zi (fun h9 h9' => ?_) fun h9 h9' => ?_
 ·
  refine Js.skip <| Js.seq <| Js.block <| zS <| Qm rfl <| Qa rfl <| zN <| Q9 3 rfl rfl ?_
  refine Q9 2 rfl rfl ?_
  refine Qm rfl <| zc rfl (fun w hw => c_impl_Rules_done r p (k : Int) (ok_ hw) (ok_ hw)) ?_
  intro A12 c12 bl12 bh12 A13 c13 bl13 bh13
  refine Qm rfl <| Qx rfl rfl <| Qx rfl rfl <| za zeh fun b14 => zw 0 rfl rfl rfl ?_
  refine Qa rfl <| zJ <| zS <| Qm rfl <| Qd rfl rfl <| JL.nil ?_
  refine zi (fun h15 h15' => ?_) fun h15 h15' => ?_
  ·
   have hacc2 := (M.resultsTo_no (r := r) (p := p) (k := k) (by simpa using h15)).symm
   refine zx ?_
   refine Js.region <| Qp rfl rfl <| Qm rfl <| JL.nil ?_
   refine zd [3, 3, 3, 3] rfl fun u16 x16 => ?_
   exact zag ⟨k + 1, acc, _, _, _, _, _, rfl, rfl, by rw [hacc]; exact hacc2, zt, zu, zu, rfl⟩ (x8.trans x16)
  have hz : (M.done r p k).2 = 0 := by simpa using h15
  obtain ⟨_, _, _, hG⟩ := M.done_good hz
  have l3 := hG.ls
  have hs1 := hG.store p.player
  have hs2 := (M.Good.of_ok r0).store p.player
  refine Js.fact (row_some (i := 1) rfl (by omega)) (fun hf17 => ?_)
  obtain ⟨b17, rfl⟩ := hf17
  refine Js.skip <| zS <| Qf fh rfl <| Q0 6 rfl rfl rfl <| Qm rfl <| zg (Gd.t1 rfl rfl rfl) (fun hc => p_fieldAddr fld_181_2.h rfl) <| zgq (Gd.t1 rfl rfl rfl) (fun hc => q_load1 ty_2.h (gh hc rfl) (Mem.box (i := 0) rfl rfl)) <| zg (Gd.t1 rfl rfl rfl) (fun hc => p_eql (gh hc rfl) rfl) <| Qq (p_pickAnd rfl rfl rfl) <| Qa rfl <| zN <| Qf fh rfl <| Q0 0 rfl rfl rfl <| Qf fh rfl ?_
  refine Q0 0 rfl rfl rfl <| Qf fh rfl <| Q0 5 rfl rfl rfl <| Qs rfl rfl <| Qb ?_
  refine za zeh fun b18 => zw 0 rfl rfl rfl ?_
  refine zJ <| zS <| Qm rfl <| JL.nil ?_
  refine zi (fun h19 h19' => ?_) fun h19 h19' => ?_
  ·
   have hacc2 := (M.resultsTo_yes hz).symm
   unfold M.resOf at hacc2
   rw [if_pos h19] at hacc2
   refine Js.region <| Qf fh rfl <| Q0 6 rfl rfl rfl <| Qf fh rfl <| zw 0 rfl rfl rfl ?_
   refine JL.nil ?_
   refine zdr [19] ?_
   refine jM 0 rfl rfl ?_
   refine jM 1 rfl rfl ?_
   refine jF 2 fld_181_1 rfl rfl ?_
   refine jB 3 1 ty_29 rfl rfl rfl rfl ?_
   refine jF 4 fld_31_2 rfl rfl ?_
   refine jB 5 6 ty_2 rfl rfl rfl rfl ?_
   refine jI 6 el_29 rfl rfl rfl rfl ?_
   refine JH.q 7 rfl (q_load1 ty_2.h rfl (Mem.row (i := 2) rfl (ints_getI (i := p.player) (by omega)))) ?_
   refine jF 8 fld_31_1 rfl rfl ?_
   refine jB 9 6 ty_29 rfl rfl rfl rfl ?_
   refine jF 10 fld_31_2 rfl rfl ?_
   refine jB 11 6 ty_2 rfl rfl rfl rfl ?_
   refine jI 12 el_29 rfl rfl rfl rfl ?_
   refine JH.w 13 rfl (fun os' u' hv => q_load1 ty_2.h rfl (Mem.pub (ints_cellI (i := p.player) (Ty.mono _ h2 (x8.vis.trans hv)) (by omega)))) ?_
   refine JH.p 14 rfl (p_sub rfl rfl (IntWalk.i64_in _ (by omega))) ?_
   refine jM 15 rfl rfl ?_
   refine JH.q 16 rfl (L9 0 rfl rfl) ?_
   refine JH.p 17 rfl (q_bld) ?_
   refine y1 18 ?_
   refine ybs rfl fun b22 => ?_
   refine y1 19 ?_
   refine JHo.e rfl (e_append (i := 6) (n' := (acc ++ [(M.Res.mk (k : Int) ((M.getI (((M.done r p (k : Int)).1).stores) p.player) - (M.getI p.stores p.player)) (r.again && (decide (((M.done r p (k : Int)).1).last = (-1)))) (M.Pos.mk (((M.done r p (k : Int)).1).pits) (((M.done r p (k : Int)).1).stores) p.player))]).length) (vs' := vs8_5 ++ [.int .i64 (k : Int), .int .i64 ((M.getI (((M.done r p (k : Int)).1).stores) p.player) - (M.getI p.stores p.player)), .bool (r.again && (decide (((M.done r p (k : Int)).1).last = (-1)))), .slice A12 ((((M.done r p (k : Int)).1).pits).length) c12, .slice (some ⟨b17, 0, none⟩) ((((M.done r p (k : Int)).1).stores).length) c13, .int .i64 p.player]) el_111 rfl rfl rfl rfl (src_row (i := 0) und_111 rfl rfl) (by omega) (by omega) ln2_ (rfl)) (.inr rfl) ?_
   rintro v24 _ _ ⟨⟨g25, rfl⟩, rfl⟩ _
   refine JH.fact (row_form' (i := 6) rfl) (fun hf26 => ?_)
   obtain ⟨A26, c26, rfl, bl26, bh26⟩ := hf26
   refine znh ?_
   refine jA 20 rfl rfl ?_
   refine yd ?_
   refine Js.pack2 (i := 4) (j := 3) (cResult (M.Res.mk (k : Int) ((M.getI (((M.done r p (k : Int)).1).stores) p.player) - (M.getI p.stores p.player)) (r.again && (decide (((M.done r p (k : Int)).1).last = (-1)))) (M.Pos.mk (((M.done r p (k : Int)).1).pits) (((M.done r p (k : Int)).1).stores) p.player))) [.int .i64 (k : Int), .int .i64 ((M.getI (((M.done r p (k : Int)).1).stores) p.player) - (M.getI p.stores p.player)), .bool (r.again && (decide (((M.done r p (k : Int)).1).last = (-1)))), .slice A12 ((((M.done r p (k : Int)).1).pits).length) c12, .slice (some ⟨b17, 0, none⟩) ((((M.done r p (k : Int)).1).stores).length) c13, .int .i64 p.player] rfl rfl (fun w h1 h2 => pack_Result (ints_row h1 rfl) (ints_row h2 rfl)) (fun f27 => ?_)
   refine Js.joinL (i := 4) (j := 0) (Vs := lResult (acc ++ [(M.Res.mk (k : Int) ((M.getI (((M.done r p (k : Int)).1).stores) p.player) - (M.getI p.stores p.player)) (r.again && (decide (((M.done r p (k : Int)).1).last = (-1)))) (M.Pos.mk (((M.done r p (k : Int)).1).pits) (((M.done r p (k : Int)).1).stores) p.player))])) rfl rfl (lResult_snoc _ _) (fun f28 => ?_)
   refine zn ?_
   refine Js.blockEnd <| Js.region <| Qp rfl rfl <| Qm rfl <| JL.nil ?_
   refine zd [0, 3, 3, 3] rfl fun u29 x29 => ?_
   exact zag ⟨k + 1, acc ++ [(M.Res.mk (k : Int) ((M.getI (((M.done r p (k : Int)).1).stores) p.player) - (M.getI p.stores p.player)) (r.again && (decide (((M.done r p (k : Int)).1).last = (-1)))) (M.Pos.mk (((M.done r p (k : Int)).1).pits) (((M.done r p (k : Int)).1).stores) p.player))], _, _, _, _, _, rfl, rfl, by rw [hacc]; exact hacc2, zt, zu, zu, rfl⟩ (x8.trans x29)
  have hacc2 := (M.resultsTo_yes hz).symm
  unfold M.resOf at hacc2
  rw [if_neg (by simpa using h19)] at hacc2
  refine Js.skip ?_
  refine zdr [19] ?_
  refine jM 0 rfl rfl ?_
  refine jM 1 rfl rfl ?_
  refine jF 2 fld_181_1 rfl rfl ?_
  refine jB 3 1 ty_29 rfl rfl rfl rfl ?_
  refine jF 4 fld_31_2 rfl rfl ?_
  refine jB 5 6 ty_2 rfl rfl rfl rfl ?_
  refine jI 6 el_29 rfl rfl rfl rfl ?_
  refine JH.q 7 rfl (q_load1 ty_2.h rfl (Mem.row (i := 2) rfl (ints_getI (i := p.player) (by omega)))) ?_
  refine jF 8 fld_31_1 rfl rfl ?_
  refine jB 9 6 ty_29 rfl rfl rfl rfl ?_
  refine jF 10 fld_31_2 rfl rfl ?_
  refine jB 11 6 ty_2 rfl rfl rfl rfl ?_
  refine jI 12 el_29 rfl rfl rfl rfl ?_
  refine JH.w 13 rfl (fun os' u' hv => q_load1 ty_2.h rfl (Mem.pub (ints_cellI (i := p.player) (Ty.mono _ h2 (x8.vis.trans hv)) (by omega)))) ?_
  refine JH.p 14 rfl (p_sub rfl rfl (IntWalk.i64_in _ (by omega))) ?_
  refine jM 15 rfl rfl ?_
  refine JH.q 16 rfl (L9 0 rfl rfl) ?_
  refine JH.p 17 rfl (q_bld) ?_
  refine y1 18 ?_
  refine ybs rfl fun b32 => ?_
  refine y1 19 ?_
  refine JHo.e rfl (e_append (i := 6) (n' := (acc ++ [(M.Res.mk (k : Int) ((M.getI (((M.done r p (k : Int)).1).stores) p.player) - (M.getI p.stores p.player)) (r.again && (decide (((M.done r p (k : Int)).1).last = (-1)))) (M.Pos.mk (((M.done r p (k : Int)).1).pits) (((M.done r p (k : Int)).1).stores) (1 - p.player)))]).length) (vs' := vs8_5 ++ [.int .i64 (k : Int), .int .i64 ((M.getI (((M.done r p (k : Int)).1).stores) p.player) - (M.getI p.stores p.player)), .bool (r.again && (decide (((M.done r p (k : Int)).1).last = (-1)))), .slice A12 ((((M.done r p (k : Int)).1).pits).length) c12, .slice (some ⟨b17, 0, none⟩) ((((M.done r p (k : Int)).1).stores).length) c13, .int .i64 (1 - p.player)]) el_111 rfl rfl rfl rfl (src_row (i := 0) und_111 rfl rfl) (by omega) (by omega) ln2_ (rfl)) (.inr rfl) ?_
  rintro v34 _ _ ⟨⟨g35, rfl⟩, rfl⟩ _
  refine JH.fact (row_form' (i := 6) rfl) (fun hf36 => ?_)
  obtain ⟨A36, c36, rfl, bl36, bh36⟩ := hf36
  refine znh ?_
  refine jA 20 rfl rfl ?_
  refine yd ?_
  refine Js.pack2 (i := 4) (j := 3) (cResult (M.Res.mk (k : Int) ((M.getI (((M.done r p (k : Int)).1).stores) p.player) - (M.getI p.stores p.player)) (r.again && (decide (((M.done r p (k : Int)).1).last = (-1)))) (M.Pos.mk (((M.done r p (k : Int)).1).pits) (((M.done r p (k : Int)).1).stores) (1 - p.player)))) [.int .i64 (k : Int), .int .i64 ((M.getI (((M.done r p (k : Int)).1).stores) p.player) - (M.getI p.stores p.player)), .bool (r.again && (decide (((M.done r p (k : Int)).1).last = (-1)))), .slice A12 ((((M.done r p (k : Int)).1).pits).length) c12, .slice (some ⟨b17, 0, none⟩) ((((M.done r p (k : Int)).1).stores).length) c13, .int .i64 (1 - p.player)] rfl rfl (fun w h1 h2 => pack_Result (ints_row h1 rfl) (ints_row h2 rfl)) (fun f37 => ?_)
  refine Js.joinL (i := 4) (j := 0) (Vs := lResult (acc ++ [(M.Res.mk (k : Int) ((M.getI (((M.done r p (k : Int)).1).stores) p.player) - (M.getI p.stores p.player)) (r.again && (decide (((M.done r p (k : Int)).1).last = (-1)))) (M.Pos.mk (((M.done r p (k : Int)).1).pits) (((M.done r p (k : Int)).1).stores) (1 - p.player)))])) rfl rfl (lResult_snoc _ _) (fun f38 => ?_)
  refine zn ?_
  refine Js.blockEnd <| Js.region <| Qp rfl rfl <| Qm rfl <| JL.nil ?_
  refine zd [0, 3, 3, 3] rfl fun u39 x39 => ?_
  exact zag ⟨k + 1, acc ++ [(M.Res.mk (k : Int) ((M.getI (((M.done r p (k : Int)).1).stores) p.player) - (M.getI p.stores p.player)) (r.again && (decide (((M.done r p (k : Int)).1).last = (-1)))) (M.Pos.mk (((M.done r p (k : Int)).1).pits) (((M.done r p (k : Int)).1).stores) (1 - p.player)))], _, _, _, _, _, rfl, rfl, by rw [hacc]; exact hacc2, zt, zu, zu, rfl⟩ (x8.trans x39)
 have hR : acc = M.results r p := by rw [hacc]; unfold M.results; rw [show k = r.pits.toNat by omega]
 refine zx ?_
 have hq0 : acc = M.results r p := by exact hR
 refine zS <| Qm rfl <| Qa rfl <| JL.nil ?_
 exact zro x8
theorem c_impl_Rules_endValue (r : M.Rul) {v_r : Value} (p : M.Pos) {v_p : Value} {w : World} (h_r : (Ty.agg (cRules r)).ok w v_r) (h_p : (Ty.agg (cPosition p)).ok w v_p) (r0 : M.okP r p = true := by exact om_) : RetV Tryz.prog 92 [v_r, v_p] w (.int .i64 (M.endV r p)) := by
 obtain ⟨g1, g2, g3, g4, g5, g6, g7⟩ := M.okP_bd r0
 have g8 := M.results_8 r0
 have b1 := M.side_bd g5 g2 p.player
 have b2 := M.side_bd g5 g2 (1 - p.player)
 revert v_r; apply opn
 revert v_p; apply opn
 intro A1 c1 h1 bl1 bh1 A2 c2 h2 bl2 bh2
 refine enter @Tryz.func92 @Tryz.ntmps92 rfl rfl ?_
 refine zent ?_
 refine zS <| zb rfl fun b3 => zb rfl fun b4 => Qa rfl <| zJ ?_
 refine zdr [] ?_
 refine JH.q 0 rfl (L9 1 rfl rfl) ?_
 refine jF 1 fld_31_0 rfl rfl ?_
 refine jB 2 0 ty_29 rfl rfl rfl rfl ?_
 refine jF 3 fld_31_2 rfl rfl ?_
 refine jB 4 0 ty_2 rfl rfl rfl rfl ?_
 refine JH.q 6 rfl (L9 1 rfl rfl) ?_
 refine jF 7 fld_31_0 rfl rfl ?_
 refine jB 8 0 ty_29 rfl rfl rfl rfl ?_
 refine jF 9 fld_31_2 rfl rfl ?_
 refine jB 10 0 ty_2 rfl rfl rfl rfl ?_
 refine JH.p 11 rfl (p_sub rfl rfl (IntWalk.i64_in _ (by omega))) ?_
 refine y1 5 ?_
 refine yv rfl rfl (fun w hw => c_impl_Rules_side r p.pits p.player (ok_ hw) (ok_ hw) (r4 := g5)) ?_
 refine y1 12 ?_
 refine yv rfl rfl (fun w hw => c_impl_Rules_side r p.pits (1 - p.player) (ok_ hw) (ok_ hw) (r4 := g5)) ?_
 refine JH.p 13 rfl (p_sub rfl rfl (IntWalk.i64_in _ (by omega))) ?_
 refine jA 14 rfl rfl ?_
 refine yd ?_
 refine zR (Up.refl _ _) ?_
 rfl
def S_impl_Rules_sizeUpTo (N : Nat) : Prop := ∀ (r : M.Rul) (v_r : Value) (p : M.Pos) (v_p : Value) (depth : Int) (w : World) (h_r : (Ty.agg (cRules r)).ok w v_r) (h_p : (Ty.agg (cPosition p)).ok w v_p) (r0 : M.okP r p = true) (r1 : 0 ≤ depth) (r2 : depth ≤ 8) (_ : depth.toNat = N), RetV Tryz.prog 89 [v_r, v_p, .int .i64 depth] w (.int .i64 (M.sizeT r depth.toNat p))
theorem c_impl_Rules_sizeUpTo_ : ∀ N, S_impl_Rules_sizeUpTo N := by
 intro N
 induction N using Nat.strongRecOn with
 | ind N ih =>
 intro r v_r p v_p depth w h_r h_p r0 r1 r2 hN
 obtain ⟨g1, g2, g3, g4, g5, g6, g7⟩ := M.okP_bd r0
 have g8 := M.results_8 r0
 revert v_r; apply opn
 revert v_p; apply opn
 intro A1 c1 h1 bl1 bh1 A2 c2 h2 bl2 bh2
 refine enter @Tryz.func89 @Tryz.ntmps89 rfl rfl ?_
 refine zent ?_
 refine zS <| zb rfl fun b3 => zb rfl fun b4 => Qa rfl <| zN <| Qa rfl <| zJ <| zS <| Qm rfl <| Qe rfl rfl <| JL.nil ?_
 refine zi (fun h5 h5' => ?_) fun h5 h5' => ?_
 ·
  have hE : M.sizeT r depth.toNat p = 1 := by rw [show depth.toNat = 0 by have := h5'; omega]; rfl
  refine zS <| Qm rfl <| Qa rfl <| JL.nil ?_
  refine zR (Up.refl _ _) ?_
  rw [hE]; rfl
 have hd : 1 ≤ depth := by have := h5'; omega
 refine Js.skip <| Js.seq <| zS <| Q9 1 rfl rfl ?_
 refine Q9 0 rfl rfl ?_
 refine zp rfl (fun w hw => c_impl_Rules_results r p (ok_ hw) (ok_ hw) (r0 := r0)) ?_
 intro u6 x6 A7 c7 h7 bl7 bh7
 refine Qz rfl <| Qm rfl <| JL.nil <| Js.block ?_
 refine zl [2, 3, 15, 16] (fun F U l os u m => ∃ (k : Nat) (z : Int), l = F [(7, .int .i64 z), (17, .int .i64 (k : Int))] ∧ os = U [] ∧ (M.szgo (M.sizeT r (depth - 1).toNat) z ((M.results r p).drop k) = M.sizeT r depth.toNat p) ∧ (1 ≤ z) ∧ (z ≤ 3000) ∧ (k ≤ (M.results r p).length) ∧ m = (M.results r p).length - k) ⟨0, 1, rfl, rfl, by exact (M.sizeT_d (by omega)).symm, zt, zt, zt, rfl⟩ ?_
 rintro _ _ u8 _ ⟨k, z, rfl, rfl, hS, z0, z1, hk, rfl⟩ x8
 refine zn ?_
 refine zS <| Ql rfl rfl <| zJ ?_
 refine zi (fun h9 h9' => ?_) fun h9 h9' => ?_
 ·
  obtain ⟨y10, hy10⟩ : ∃ x, (M.results r p)[k]? = some x := ⟨_, List.getElem?_eq_getElem (by omega)⟩
  obtain ⟨b10, o10, A10_3, c10_3, A10_4, c10_4, he10, hr10, h10_3, h10_4, bl10_3, bh10_3, bl10_4, bh10_4⟩ := elem_Result (Ty.mono _ h7 x8.vis) hy10
  have hb9 := M.sizeT_bd r (depth - 1).toNat y10.next
  refine Js.skip <| Js.seq <| Js.block <| zS <| Qq (p_indexAddr el_111 rfl rfl (by omega) (by omega) he10) <| QS 0 hr10 rfl ?_
  refine za zeh fun b11 => zw 0 rfl rfl rfl ?_
  refine zN <| Qm rfl <| Q9 2 rfl rfl ?_
  refine Qf fh rfl <| Q9 0 rfl rfl ?_
  refine Qm rfl <| Qs rfl rfl <| zv rfl (fun w hw => ih ((depth - 1).toNat) (by omega) r _ y10.next _ (depth - 1) w (ok_ hw) (ok_ hw) (M.results_ok (M.results_get0 hy10)) (by omega) (by omega) rfl) <| Qp rfl rfl <| Qa rfl <| zN <| Qm rfl <| Qg rfl rfl <| JL.nil ?_
  refine zi (fun h12 h12' => ?_) fun h12 h12' => ?_
  ·
   have hE := M.szgo_y hS hy10 (by simpa using h12)
   refine zS <| Qm rfl <| Qa rfl <| JL.nil ?_
   refine zR (x6.trans x8) ?_
   rw [hE]; rfl
  have hS2 := M.szgo_n hS hy10 (by simpa using h12)
  have hz9 := h12'
  refine Js.skip <| Js.blockEnd <| Js.region <| Qp rfl rfl <| Qm rfl <| JL.nil ?_
  refine zd [1, 1] rfl fun u13 x13 => ?_
  exact zag ⟨k + 1, z + (M.sizeT r (depth - 1).toNat y10.next), rfl, rfl, by exact hS2, zt, zt, zt, rfl⟩ (x8.trans x13)
 have hE := M.szgo_e hS (by have := h9'; omega)
 refine zx ?_
 refine zS <| Qm rfl <| Qa rfl <| JL.nil ?_
 refine zR (x6.trans x8) ?_
 rw [hE]; rfl
theorem c_impl_Rules_sizeUpTo (r : M.Rul) {v_r : Value} (p : M.Pos) {v_p : Value} (depth : Int) {w : World} (h_r : (Ty.agg (cRules r)).ok w v_r) (h_p : (Ty.agg (cPosition p)).ok w v_p) (r0 : M.okP r p = true := by exact om_) (r1 : 0 ≤ depth := by exact om_) (r2 : depth ≤ 8 := by exact om_) : RetV Tryz.prog 89 [v_r, v_p, .int .i64 depth] w (.int .i64 (M.sizeT r depth.toNat p)) := c_impl_Rules_sizeUpTo_ _ r v_r p v_p depth w h_r h_p r0 r1 r2 rfl
theorem c_impl_searchCode (r : M.Rul) {v_r : Value} (p : M.Pos) {v_p : Value} (depth : Int) {w : World} (h_r : (Ty.agg (cRules r)).ok w v_r) (h_p : (Ty.agg (cPosition p)).ok w v_p) (r0 : p.pits.length ≤ 4194304 := by exact om_) (r1 : p.stores.length ≤ 4194304 := by exact om_) : RetV Tryz.prog 44 [v_r, v_p, .int .i64 depth] w (.int .i64 (M.srchC r p depth)) := by
 revert v_r; apply opn
 revert v_p; apply opn
 intro A1 c1 h1 bl1 bh1 A2 c2 h2 bl2 bh2
 refine enter @Tryz.func44 @Tryz.ntmps44 rfl rfl ?_
 refine zent ?_
 refine zS <| zb rfl fun b3 => zb rfl fun b4 => Qa rfl <| zJ <| zS <| Q9 1 rfl rfl ?_
 refine Q9 0 rfl rfl ?_
 refine zv rfl (fun w hw => c_impl_ValidPosition r p (ok_ hw) (ok_ hw)) <| Qt rfl <| JL.nil ?_
 refine zi (fun h5 h5' => ?_) fun h5 h5' => ?_
 ·
  have hE := M.srchC_1 (depth := depth) (by simpa using h5)
  refine zS <| Qa rfl <| JL.nil ?_
  refine zR (Up.refl _ _) ?_
  rw [hE]; rfl
 have hok : M.okP r p = true := by simpa using h5
 refine Js.skip <| Js.seq <| zS <| Qm rfl <| zv rfl (fun w hw => c_impl_between depth 0 8) <| Qt rfl <| JL.nil ?_
 refine zi (fun h6 h6' => ?_) fun h6 h6' => ?_
 ·
  have hE := M.srchC_2 hok (by simpa using h6)
  refine zS <| Qa rfl <| JL.nil ?_
  refine zR (Up.refl _ _) ?_
  rw [hE]; rfl
 have hbt : M.betw depth 0 8 = true := by simpa using h6
 obtain ⟨d0, d1⟩ := M.betw_iff.1 hbt
 refine Js.skip <| Js.seq <| zS <| Q9 1 rfl rfl ?_
 refine Q9 0 rfl rfl ?_
 refine Qm rfl <| zv rfl (fun w hw => c_impl_Rules_sizeUpTo r p depth (ok_ hw) (ok_ hw) (r0 := hok)) <| Qg rfl rfl <| JL.nil ?_
 refine zi (fun h7 h7' => ?_) fun h7 h7' => ?_
 ·
  have hE := M.srchC_5 hok hbt ((M.sizeT_big _ _ _).1 (by simpa using h7))
  refine zS <| Qa rfl <| JL.nil ?_
  refine zR (Up.refl _ _) ?_
  rw [hE]; rfl
 have hE := M.srchC_0 hok hbt (fun h9 => absurd ((M.sizeT_big _ _ _).2 h9) (by simpa using h7))
 refine Js.skip <| zS <| Qa rfl <| JL.nil ?_
 refine zR (Up.refl _ _) ?_
 rw [hE]; rfl
def S_impl_visitor_visit (N : Nat) : Prop := ∀ (v_rules : M.Rul) (v_slots : List M.Slo) (v_hits : Int) (Av_9 : Option Addr) (cv_9 : Nat) (gv_9 : List Nat) (vsv_9 : List Value) (fv_9 : List Nat) (p : M.Pos) (v_p : Value) (depth : Int) (low : Int) (high : Int) (bv : Nat) (w : World) (hb : Bw w [boxO bv [.int .i64 v_rules.pits, .int .i64 v_rules.seeds, .bool v_rules.stores, .bool v_rules.skip, .bool v_rules.relay, .bool v_rules.feed, .bool v_rules.again, .int .i64 v_rules.capture, .int .i64 v_rules.slam, .slice Av_9 v_slots.length cv_9, .int .i64 v_hits] 87, rowO 49 6 (.slice Av_9 v_slots.length cv_9) v_slots.length vsv_9 gv_9, ownC (lSlot v_slots) vsv_9 fv_9]) (h_p : (Ty.agg (cPosition p)).ok (offW w (([boxO bv [.int .i64 v_rules.pits, .int .i64 v_rules.seeds, .bool v_rules.stores, .bool v_rules.skip, .bool v_rules.relay, .bool v_rules.feed, .bool v_rules.again, .int .i64 v_rules.capture, .int .i64 v_rules.slam, .slice Av_9 v_slots.length cv_9, .int .i64 v_hits] 87, rowO 49 6 (.slice Av_9 v_slots.length cv_9) v_slots.length vsv_9 gv_9, ownC (lSlot v_slots) vsv_9 fv_9] : List Own).flatMap (·.fp))) v_p) (bd0 : v_slots.length ≤ cv_9) (bd1 : cv_9 ≤ 9223372036854775807) (r0 : M.okP v_rules p = true) (r1 : 0 ≤ depth) (r2 : depth ≤ 8) (r3 : 0 < v_slots.length) (r4 : v_slots.length ≤ 4194304) (r5 : M.SzM 4194304 v_slots) (r6 : M.BdM v_slots) (r7 : 0 ≤ v_hits) (r8 : v_hits + M.e9 depth.toNat ≤ 1000000000000) (r9 : 96 * depth + low ≤ 3000) (r10 : 96 * depth - low ≤ 3000) (r11 : 96 * depth + high ≤ 3000) (r12 : 96 * depth - high ≤ 3000) (_ : depth.toNat = N), RetB Tryz.prog 46 [.pointer (some ⟨bv, 0, none⟩), v_p, .int .i64 depth, .int .i64 low, .int .i64 high] w [boxO bv [.int .i64 v_rules.pits, .int .i64 v_rules.seeds, .bool v_rules.stores, .bool v_rules.skip, .bool v_rules.relay, .bool v_rules.feed, .bool v_rules.again, .int .i64 v_rules.capture, .int .i64 v_rules.slam, .slice Av_9 v_slots.length cv_9, .int .i64 v_hits] 87, rowO 49 6 (.slice Av_9 v_slots.length cv_9) v_slots.length vsv_9 gv_9, ownC (lSlot v_slots) vsv_9 fv_9] (fun v bs' => ∃ (Axv_9 : Option Addr) (cxv_9 : Nat) (gxv_9 : List Nat) (vsxv_9 : List Value) (fxv_9 : List Nat), v = .int .i64 ((M.vis v_rules depth.toNat p low high (v_slots, v_hits)).1) ∧ bs' = [boxO bv [.int .i64 v_rules.pits, .int .i64 v_rules.seeds, .bool v_rules.stores, .bool v_rules.skip, .bool v_rules.relay, .bool v_rules.feed, .bool v_rules.again, .int .i64 v_rules.capture, .int .i64 v_rules.slam, .slice Axv_9 (((M.vis v_rules depth.toNat p low high (v_slots, v_hits)).2.1).length) cxv_9, .int .i64 ((M.vis v_rules depth.toNat p low high (v_slots, v_hits)).2.2)] 87, rowO 49 6 (.slice Axv_9 (((M.vis v_rules depth.toNat p low high (v_slots, v_hits)).2.1).length) cxv_9) (((M.vis v_rules depth.toNat p low high (v_slots, v_hits)).2.1).length) vsxv_9 gxv_9, ownC (lSlot ((M.vis v_rules depth.toNat p low high (v_slots, v_hits)).2.1)) vsxv_9 fxv_9] ∧ ((M.vis v_rules depth.toNat p low high (v_slots, v_hits)).2.1).length ≤ cxv_9 ∧ cxv_9 ≤ 9223372036854775807)
theorem c_impl_visitor_visit_ : ∀ N, S_impl_visitor_visit N := by
 intro N
 induction N using Nat.strongRecOn with
 | ind N ih =>
 intro v_rules v_slots v_hits Av_9 cv_9 gv_9 vsv_9 fv_9 p v_p depth low high bv w hb h_p bd0 bd1 r0 r1 r2 r3 r4 r5 r6 r7 r8 r9 r10 r11 r12 hN
 obtain ⟨g1, g2, g3, g4, g5, g6, g7⟩ := M.okP_bd r0
 have g8 := M.results_8 r0
 obtain ⟨hp1, hp2⟩ := M.plc_bd (n := v_slots.length) p.pits p.player r3
 have g9 := M.okP_len r0
 have g10 := M.e9_pos (depth - 1).toNat
 revert v_p; apply opn
 intro A1 c1 h1 bl1 bh1 A2 c2 h2 bl2 bh2
 refine enterB hb @Tryz.func46 @Tryz.ntmps46 rfl rfl ?_
 refine zent ?_
 refine Js.trashE ?_
 refine zn ?_
 refine zS <| zb rfl fun b3 => Qa rfl <| zN <| Qm rfl <| Qc rfl <| Qf fh rfl <| Qf fh rfl <| Q9 1 rfl rfl ?_
 refine za zeh fun b4 => zw 0 rfl rfl rfl ?_
 refine zN <| Q9 0 rfl rfl ?_
 refine Q9 1 rfl rfl ?_
 refine zp rfl (fun w hw => c_impl_Rules_results v_rules p (ok_ hw) (ok_ hw) (r0 := r0)) ?_
 intro u5 x5 A6 c6 h6 bl6 bh6
 refine Qa rfl <| zJ <| Js.block <| zS <| Qm rfl <| Qz rfl <| Qe rfl rfl <| Qa rfl <| JL.nil ?_
 refine zi (fun h7 h7' => ?_) fun h7 h7' => ?_
 ·
  have hQ : (M.vis v_rules depth.toNat p low high (v_slots, v_hits)) = _ := M.vis_end (by have := h7'; omega)
  refine zS <| Q9 0 rfl rfl ?_
  refine Q9 1 rfl rfl ?_
  refine zv rfl (fun w hw => c_impl_Rules_endValue v_rules p (ok_ hw) (ok_ hw) (r0 := r0)) <| Qa rfl <| JL.nil ?_
  refine zrb [2, 2, 2] hb x5 ?_
  have hE : (.int .i64 (M.endV v_rules p) : Value) = .int .i64 ((M.vis v_rules depth.toNat p low high (v_slots, v_hits)).1) := by first | (rw [hQ]; done) | (rw [hQ]; rfl) | (rw [M.vis_d hd hne hfu hV (M.bndV_2 (by omega))]; done) | (rw [M.vis_d hd hne hfu hV (M.bndV_1 (by omega) (by omega))]; done) | (rw [M.vis_d hd hne hfu hV (M.bndV_0 (by omega) (by omega))]; done)
  have hN10 : ((M.vis v_rules depth.toNat p low high (v_slots, v_hits)).2.1).length = v_slots.length := by first | (rw [hQ]; done) | (rw [hQ]; rfl) | (rw [M.vis_d hd hne hfu hV (M.bndV_2 (by omega))]; done) | (rw [M.vis_d hd hne hfu hV (M.bndV_1 (by omega) (by omega))]; done) | (rw [M.vis_d hd hne hfu hV (M.bndV_0 (by omega) (by omega))]; done) | (rw [M.vis_d hd hne hfu hV (M.bndV_2 (by omega)), M.stoS_len]; done) | (rw [M.vis_d hd hne hfu hV (M.bndV_1 (by omega) (by omega)), M.stoS_len]; done) | (rw [M.vis_d hd hne hfu hV (M.bndV_0 (by omega) (by omega)), M.stoS_len]; done)
  have hE10 : (M.vis v_rules depth.toNat p low high (v_slots, v_hits)).2.1 = v_slots := by first | (rw [hQ]; done) | (rw [hQ]; rfl) | (rw [M.vis_d hd hne hfu hV (M.bndV_2 (by omega))]; done) | (rw [M.vis_d hd hne hfu hV (M.bndV_1 (by omega) (by omega))]; done) | (rw [M.vis_d hd hne hfu hV (M.bndV_0 (by omega) (by omega))]; done)
  have hE11 : (M.vis v_rules depth.toNat p low high (v_slots, v_hits)).2.2 = v_hits := by first | (rw [hQ]; done) | (rw [hQ]; rfl) | (rw [M.vis_d hd hne hfu hV (M.bndV_2 (by omega))]; done) | (rw [M.vis_d hd hne hfu hV (M.bndV_1 (by omega) (by omega))]; done) | (rw [M.vis_d hd hne hfu hV (M.bndV_0 (by omega) (by omega))]; done)
  refine ⟨Av_9, cv_9, gv_9, vsv_9, fv_9, hE, ?_, ?_, ?_⟩
  · rw [hN10, hE10, hE11]
  all_goals (first | (rw [hN10, hE10, hE11]; omega) | omega | (simp only [*]; omega) | (simp; done))
 have hne : (M.results v_rules p).length ≠ 0 := by have := h7'; omega
 refine zS <| Qm rfl <| Qe rfl rfl <| Qa rfl <| JL.nil ?_
 refine zi (fun h8 h8' => ?_) fun h8 h8' => ?_
 ·
  have hQ : (M.vis v_rules depth.toNat p low high (v_slots, v_hits)) = (0, (v_slots, v_hits)) := by rw [show depth.toNat = 0 by have := h8'; omega]; exact M.vis_0 hne
  refine zS <| Qa rfl <| JL.nil ?_
  refine zrb [2, 2, 2] hb x5 ?_
  have hE : (.int .i64 0 : Value) = .int .i64 ((M.vis v_rules depth.toNat p low high (v_slots, v_hits)).1) := by first | (rw [hQ]; done) | (rw [hQ]; rfl) | (rw [M.vis_d hd hne hfu hV (M.bndV_2 (by omega))]; done) | (rw [M.vis_d hd hne hfu hV (M.bndV_1 (by omega) (by omega))]; done) | (rw [M.vis_d hd hne hfu hV (M.bndV_0 (by omega) (by omega))]; done)
  have hN10 : ((M.vis v_rules depth.toNat p low high (v_slots, v_hits)).2.1).length = v_slots.length := by first | (rw [hQ]; done) | (rw [hQ]; rfl) | (rw [M.vis_d hd hne hfu hV (M.bndV_2 (by omega))]; done) | (rw [M.vis_d hd hne hfu hV (M.bndV_1 (by omega) (by omega))]; done) | (rw [M.vis_d hd hne hfu hV (M.bndV_0 (by omega) (by omega))]; done) | (rw [M.vis_d hd hne hfu hV (M.bndV_2 (by omega)), M.stoS_len]; done) | (rw [M.vis_d hd hne hfu hV (M.bndV_1 (by omega) (by omega)), M.stoS_len]; done) | (rw [M.vis_d hd hne hfu hV (M.bndV_0 (by omega) (by omega)), M.stoS_len]; done)
  have hE10 : (M.vis v_rules depth.toNat p low high (v_slots, v_hits)).2.1 = v_slots := by first | (rw [hQ]; done) | (rw [hQ]; rfl) | (rw [M.vis_d hd hne hfu hV (M.bndV_2 (by omega))]; done) | (rw [M.vis_d hd hne hfu hV (M.bndV_1 (by omega) (by omega))]; done) | (rw [M.vis_d hd hne hfu hV (M.bndV_0 (by omega) (by omega))]; done)
  have hE11 : (M.vis v_rules depth.toNat p low high (v_slots, v_hits)).2.2 = v_hits := by first | (rw [hQ]; done) | (rw [hQ]; rfl) | (rw [M.vis_d hd hne hfu hV (M.bndV_2 (by omega))]; done) | (rw [M.vis_d hd hne hfu hV (M.bndV_1 (by omega) (by omega))]; done) | (rw [M.vis_d hd hne hfu hV (M.bndV_0 (by omega) (by omega))]; done)
  refine ⟨Av_9, cv_9, gv_9, vsv_9, fv_9, hE, ?_, ?_, ?_⟩
  · rw [hN10, hE10, hE11]
  all_goals (first | (rw [hN10, hE10, hE11]; omega) | omega | (simp only [*]; omega) | (simp; done))
 have hd : 1 ≤ depth := by have := h8'; omega
 have he9 := M.e9_step hd
 refine Js.skip <| Js.blockEnd <| Js.seq <| Js.seq ?_
 refine zk [0, 2, 3, 4, 6, 12] (fun F U l os u => ∃ (b11 : Nat) (v10 : Value), l = F [(13, .pointer (some ⟨b11, 0, none⟩)), (14, .bool (M.fndB (M.Mem.mk v_rules v_slots).slots p depth))] ∧ os = [boxO b11 [.bool ((M.fnd (M.Mem.mk v_rules v_slots).slots p).used), v10, .int .i64 ((M.fnd (M.Mem.mk v_rules v_slots).slots p).player), .int .i64 ((M.fnd (M.Mem.mk v_rules v_slots).slots p).depth), .int .i64 ((M.fnd (M.Mem.mk v_rules v_slots).slots p).value), .int .i64 ((M.fnd (M.Mem.mk v_rules v_slots).slots p).bound)] 49] ++ U []) ?_ ?_
 ·
  refine zdr [11] ?_
  refine jM 0 rfl rfl ?_
  refine jN 1 rfl rfl ?_
  refine jF 2 fld_87_0 rfl rfl ?_
  refine JH.q 3 rfl (L9 2 rfl rfl) ?_
  refine JH.q 4 rfl (L9 1 rfl rfl) ?_
  refine jM 5 rfl rfl ?_
  refine y2 6 10 ?_ ?_
  ·
   refine yp rfl rfl (fun w hw => c_impl_Memory_look (M.Mem.mk v_rules v_slots) p depth (by exact ⟨_, rfl, ⟨rfl, rfl, rfl, rfl, rfl, rfl, rfl, rfl, rfl, (srow_ok lSlot (xs := v_slots) (hw.pr (i := 3) rfl) (hw.pr (i := 4) rfl) (lSlot_length _)), trivial⟩⟩) (ok_ hw) (r1 := r5) (r4 := r0)) ?_
   intro u16 x16 v17 h17
   refine jM 7 rfl rfl ?_
   refine JH.p 8 rfl (p_extract rfl rfl) ?_
   refine JH.p 9 rfl (p_extract rfl rfl) ?_
   refine y1 10 ?_
   refine ya rfl fun b18 => ?_
   refine y1 11 ?_
   refine JHo.s rfl (e_store (i := 0) (c' := [.bool ((M.fnd (M.Mem.mk v_rules v_slots).slots p).used), v17, .int .i64 ((M.fnd (M.Mem.mk v_rules v_slots).slots p).player), .int .i64 ((M.fnd (M.Mem.mk v_rules v_slots).slots p).depth), .int .i64 ((M.fnd (M.Mem.mk v_rules v_slots).slots p).value), .int .i64 ((M.fnd (M.Mem.mk v_rules v_slots).slots p).bound)]) ty_49.h rfl rfl rfl rfl rfl (show List.all [.bool ((M.fnd (M.Mem.mk v_rules v_slots).slots p).used), v17, .int .i64 ((M.fnd (M.Mem.mk v_rules v_slots).slots p).player), .int .i64 ((M.fnd (M.Mem.mk v_rules v_slots).slots p).depth), .int .i64 ((M.fnd (M.Mem.mk v_rules v_slots).slots p).value), .int .i64 ((M.fnd (M.Mem.mk v_rules v_slots).slots p).bound)] (·.oneCell') = true by simp only [List.all_cons, List.all_nil, h17]; rfl) rfl rfl) (.inr rfl) ?_
   rintro _ _ _ ⟨rfl, rfl⟩ _
   refine znh ?_
   refine jA 12 rfl rfl ?_
   refine yd ?_
   exact zm ⟨_, _, rfl, rfl⟩ x16
  refine ya rfl fun b19 => ?_
  refine y1 6 ?_
  refine yp rfl rfl (fun w hw => c_impl_Memory_look (M.Mem.mk v_rules v_slots) p depth (by exact ⟨_, rfl, ⟨rfl, rfl, rfl, rfl, rfl, rfl, rfl, rfl, rfl, (srow_ok lSlot (xs := v_slots) (hw.pr (i := 4) rfl) (hw.pr (i := 5) rfl) (lSlot_length _)), trivial⟩⟩) (ok_ hw) (r1 := r5) (r4 := r0)) ?_
  intro u20 x20 v21 h21
  refine jM 7 rfl rfl ?_
  refine JH.p 8 rfl (p_extract rfl rfl) ?_
  refine JH.p 9 rfl (p_extract rfl rfl) ?_
  refine y1 11 ?_
  refine JHo.s rfl (e_store (i := 0) (c' := [.bool ((M.fnd (M.Mem.mk v_rules v_slots).slots p).used), v21, .int .i64 ((M.fnd (M.Mem.mk v_rules v_slots).slots p).player), .int .i64 ((M.fnd (M.Mem.mk v_rules v_slots).slots p).depth), .int .i64 ((M.fnd (M.Mem.mk v_rules v_slots).slots p).value), .int .i64 ((M.fnd (M.Mem.mk v_rules v_slots).slots p).bound)]) ty_49.h rfl rfl rfl rfl rfl (show List.all [.bool ((M.fnd (M.Mem.mk v_rules v_slots).slots p).used), v21, .int .i64 ((M.fnd (M.Mem.mk v_rules v_slots).slots p).player), .int .i64 ((M.fnd (M.Mem.mk v_rules v_slots).slots p).depth), .int .i64 ((M.fnd (M.Mem.mk v_rules v_slots).slots p).value), .int .i64 ((M.fnd (M.Mem.mk v_rules v_slots).slots p).bound)] (·.oneCell') = true by simp only [List.all_cons, List.all_nil, h21]; rfl) rfl rfl) (.inr rfl) ?_
  rintro _ _ _ ⟨rfl, rfl⟩ _
  refine znh ?_
  refine jA 12 rfl rfl ?_
  refine yd ?_
  exact zm ⟨_, _, rfl, rfl⟩ x20
 rintro _ _ u15 ⟨b11, v10, rfl, rfl⟩ x15
 refine zn ?_
 refine zS <| Qm rfl <| Qm rfl <| zg (Gd.t1 rfl rfl rfl) (fun hc => p_fieldAddr fld_49_5.h rfl) <| zgq (Gd.t1 rfl rfl rfl) (fun hc => q_load1 ty_2.h (gh hc rfl) (Mem.box (i := 0) rfl rfl)) <| zg (Gd.t1 rfl rfl rfl) (fun hc => p_eql (gh hc rfl) rfl) <| zg (Gd.t1 rfl rfl rfl) (fun hc => p_move (gh hc rfl)) <| zg (Gd.f2 rfl rfl rfl) (fun hc => p_fieldAddr fld_49_5.h rfl) <| zgq (Gd.f2 rfl rfl rfl) (fun hc => q_load1 ty_2.h (gh hc rfl) (Mem.box (i := 0) rfl rfl)) <| zg (Gd.f2 rfl rfl rfl) (fun hc => p_eql (gh hc rfl) rfl) <| zg (Gd.f2 rfl rfl rfl) (fun hc => p_move (gh hc rfl)) <| zg (Gd.t2 rfl rfl rfl) (fun hc => p_fieldAddr fld_49_4.h rfl) <| zgq (Gd.t2 rfl rfl rfl) (fun hc => q_load1 ty_2.h (gh hc rfl) (Mem.box (i := 0) rfl rfl)) <| zg (Gd.t2 rfl rfl rfl) (fun hc => p_move rfl) ?_
 refine zg (Gd.t2 rfl rfl rfl) (fun hc => p_geq (gh hc rfl) (gh hc rfl)) <| zg (Gd.f2 rfl rfl rfl) (fun hc => p_pickAnd (gh hc rfl) (gvl rfl hc) rfl) <| zg (Gd.t1 rfl rfl rfl) (fun hc => p_pickOr (gh hc rfl) rfl (gvl rfl hc)) <| zg (Gd.t1 rfl rfl rfl) (fun hc => p_move (gh hc rfl)) <| zg (Gd.f2 rfl rfl rfl) (fun hc => p_fieldAddr fld_49_5.h rfl) <| zgq (Gd.f2 rfl rfl rfl) (fun hc => q_load1 ty_2.h (gh hc rfl) (Mem.box (i := 0) rfl rfl)) <| zg (Gd.f2 rfl rfl rfl) (fun hc => p_eql (gh hc rfl) rfl) <| zg (Gd.f2 rfl rfl rfl) (fun hc => p_move (gh hc rfl)) <| zg (Gd.t2 rfl rfl rfl) (fun hc => p_fieldAddr fld_49_4.h rfl) <| zgq (Gd.t2 rfl rfl rfl) (fun hc => q_load1 ty_2.h (gh hc rfl) (Mem.box (i := 0) rfl rfl)) <| zg (Gd.t2 rfl rfl rfl) (fun hc => p_move rfl) <| zg (Gd.t2 rfl rfl rfl) (fun hc => p_leq (gh hc rfl) (gh hc rfl)) <| zg (Gd.f2 rfl rfl rfl) (fun hc => p_pickAnd (gh hc rfl) (gvl rfl hc) rfl) <| zg (Gd.t1 rfl rfl rfl) (fun hc => p_pickOr (gh hc rfl) rfl (gvl rfl hc)) ?_
 refine Qq (p_pickAnd rfl rfl rfl) <| JL.nil ?_
 refine zi (fun h22 h22' => ?_) fun h22 h22' => ?_
 ·
  have hfu : (M.fndB v_slots p depth && M.useS (M.fnd v_slots p) low high) = true := h22
  have hQ : (M.vis v_rules depth.toNat p low high (v_slots, v_hits)) = _ := M.vis_hit hd hne hfu
  have hfb := M.fnd_b (d := depth) r6 r3 (M.use_l hfu)
  refine zS <| Qm rfl <| Qc rfl <| Qf fh rfl <| Q0 3 rfl rfl rfl <| Qp rfl rfl <| Qc rfl <| Qf fh rfl <| zw 3 rfl rfl rfl ?_
  refine zN <| Qf fh rfl <| Q0 0 rfl rfl rfl <| Qa rfl <| JL.nil ?_
  refine zrb [3, 3, 3] hb (x5.trans x15) ?_
  have hE : (.int .i64 ((M.fnd (M.Mem.mk v_rules v_slots).slots p).value) : Value) = .int .i64 ((M.vis v_rules depth.toNat p low high (v_slots, v_hits)).1) := by first | (rw [hQ]; done) | (rw [hQ]; rfl) | (rw [M.vis_d hd hne hfu hV (M.bndV_2 (by omega))]; done) | (rw [M.vis_d hd hne hfu hV (M.bndV_1 (by omega) (by omega))]; done) | (rw [M.vis_d hd hne hfu hV (M.bndV_0 (by omega) (by omega))]; done)
  have hN10 : ((M.vis v_rules depth.toNat p low high (v_slots, v_hits)).2.1).length = v_slots.length := by first | (rw [hQ]; done) | (rw [hQ]; rfl) | (rw [M.vis_d hd hne hfu hV (M.bndV_2 (by omega))]; done) | (rw [M.vis_d hd hne hfu hV (M.bndV_1 (by omega) (by omega))]; done) | (rw [M.vis_d hd hne hfu hV (M.bndV_0 (by omega) (by omega))]; done) | (rw [M.vis_d hd hne hfu hV (M.bndV_2 (by omega)), M.stoS_len]; done) | (rw [M.vis_d hd hne hfu hV (M.bndV_1 (by omega) (by omega)), M.stoS_len]; done) | (rw [M.vis_d hd hne hfu hV (M.bndV_0 (by omega) (by omega)), M.stoS_len]; done)
  have hE10 : (M.vis v_rules depth.toNat p low high (v_slots, v_hits)).2.1 = v_slots := by first | (rw [hQ]; done) | (rw [hQ]; rfl) | (rw [M.vis_d hd hne hfu hV (M.bndV_2 (by omega))]; done) | (rw [M.vis_d hd hne hfu hV (M.bndV_1 (by omega) (by omega))]; done) | (rw [M.vis_d hd hne hfu hV (M.bndV_0 (by omega) (by omega))]; done)
  have hE11 : (M.vis v_rules depth.toNat p low high (v_slots, v_hits)).2.2 = (v_hits + 1) := by first | (rw [hQ]; done) | (rw [hQ]; rfl) | (rw [M.vis_d hd hne hfu hV (M.bndV_2 (by omega))]; done) | (rw [M.vis_d hd hne hfu hV (M.bndV_1 (by omega) (by omega))]; done) | (rw [M.vis_d hd hne hfu hV (M.bndV_0 (by omega) (by omega))]; done)
  refine ⟨Av_9, cv_9, gv_9, vsv_9, fv_9, hE, ?_, ?_, ?_⟩
  · rw [hN10, hE10, hE11]
  all_goals (first | (rw [hN10, hE10, hE11]; omega) | omega | (simp only [*]; omega) | (simp; done))
 have hfu0 : (M.fndB v_slots p depth && M.useS (M.fnd v_slots p) low high) = false := h22
 have hfu : ¬ (M.fndB v_slots p depth && M.useS (M.fnd v_slots p) low high) = true := by rw [hfu0]; decide
 refine Js.skip <| zS <| Qa rfl <| zJ <| zS <| Qm rfl <| Qz rfl <| Qm rfl <| JL.nil <| Js.block ?_
 refine zl [0, 2, 3, 4, 6, 86, 87] (fun F U l os u m => ∃ (k : Nat) (b h : Int) (sl : List M.Slo) (A23_0_9 : Option Addr) (c23_0_9 : Nat) (g23_0_9 : List Nat) (vs23_0_9 : List Value) (fl23_0_9 : List Nat) (G23_6 : List Nat), l = F [(15, .int .i64 b), (88, .int .i64 (k : Int))] ∧ os = U [nO, nO, nO, some (boxO bv [.int .i64 v_rules.pits, .int .i64 v_rules.seeds, .bool v_rules.stores, .bool v_rules.skip, .bool v_rules.relay, .bool v_rules.feed, .bool v_rules.again, .int .i64 v_rules.capture, .int .i64 v_rules.slam, .slice A23_0_9 sl.length c23_0_9, .int .i64 h] 87), some (rowO 49 6 (.slice A23_0_9 sl.length c23_0_9) sl.length vs23_0_9 g23_0_9), some (ownC (lSlot sl) vs23_0_9 fl23_0_9), some (anyO G23_6)] ∧ (M.vlp v_rules p depth low high b sl h k = M.vlp v_rules p depth low high (-1000) v_slots v_hits 0) ∧ (k ≤ (M.results v_rules p).length) ∧ (M.SzM 4194304 sl) ∧ (M.BdM sl) ∧ (sl.length = v_slots.length) ∧ (M.HB (M.e9 (depth - 1).toNat) v_hits k h) ∧ (-(1000 + 96 * depth) ≤ b) ∧ (b ≤ 1000 + 96 * depth) ∧ (sl.length ≤ c23_0_9) ∧ (c23_0_9 ≤ 9223372036854775807) ∧ m = (M.results v_rules p).length - k) ⟨0, (-1000), v_hits, v_slots, _, _, _, _, _, _, rfl, rfl, by rfl, zt, by exact r5, by exact r6, by rfl, by exact M.HB.zero _ _, by omega, by omega, zu, zu, rfl⟩ ?_
 rintro _ _ u23 _ ⟨k, b, h, sl, A23_0_9, c23_0_9, g23_0_9, vs23_0_9, fl23_0_9, G23_6, rfl, rfl, hS, hk, hsz, hbd, hln, hhb, b0, b1, f23_8, f23_9, rfl⟩ x23
 refine zn ?_
 have hhl := hhb.lim (by omega) g10
 refine zS <| Ql rfl rfl <| zJ ?_
 refine zi (fun h24 h24' => ?_) fun h24 h24' => ?_
 ·
  have hkk : k < (M.results v_rules p).length := by have := h24'; omega
  obtain ⟨y25, hy25⟩ : ∃ x, (M.results v_rules p)[k]? = some x := ⟨_, List.getElem?_eq_getElem (by omega)⟩
  obtain ⟨b25, o25, A25_3, c25_3, A25_4, c25_4, he25, hr25, h25_3, h25_4, bl25_3, bh25_3, bl25_4, bh25_4⟩ := elem_Result (Ty.mono _ h6 (x15.vis.trans x23.vis)) hy25
  refine Js.skip <| Js.seq <| Js.block <| zS <| Qq (p_indexAddr el_111 rfl rfl (by omega) (by omega) he25) <| QS 0 hr25 rfl ?_
  refine za zeh fun b26 => zw 0 rfl rfl rfl ?_
  refine zJ <| zS <| Qm rfl <| Qm rfl <| Qh rfl rfl <| JL.nil ?_
  refine zi (fun h27 h27' => ?_) fun h27 h27' => ?_
  ·
   have hV : M.vlp v_rules p depth low high (-1000) v_slots v_hits 0 = (b, (sl, h)) := hS.symm.trans (M.vlp_b rfl (by have := h27'; omega))
   have hln0 : 0 < sl.length := by omega
   have hps := M.okP_bare r0
   refine zx ?_
   refine zS <| Qf fh rfl <| Q0 3 rfl rfl rfl <| Qf fh rfl <| Q0 3 rfl rfl rfl <| Qm rfl <| Qm rfl <| Qb ?_
   refine za zeh fun b28 => zw 0 rfl rfl rfl ?_
   refine zJ <| Js.block <| zS <| Qm rfl <| Qm rfl <| Qk rfl rfl <| Qa rfl <| JL.nil ?_
   refine zi (fun h29 h29' => ?_) fun h29 h29' => ?_
   ·
    refine Js.region <| Qf fh rfl <| zw 0 rfl rfl rfl ?_
    refine JL.nil <| Js.blockEnd <| Js.seq ?_
    refine zdr [5] ?_
    refine jM 0 rfl rfl ?_
    refine jN 1 rfl rfl ?_
    refine jF 2 fld_87_0 rfl rfl ?_
    refine JH.q 3 rfl (L9 5 rfl rfl) ?_
    refine JH.q 4 rfl (L9 0 rfl rfl) ?_
    refine y1 5 ?_
    refine zhh [6, 6] ?_
    refine yBB 2 sp_ rfl rfl (fun w hb _ hw => c_impl_Memory_store v_rules sl (M.Slo.mk true p.pits p.player depth b 2) hb (ok_ hw) (r0 := hps)) ?_
    rintro _ _ G30 ⟨vs30mem_w0, f30mem_w0, rfl, rfl⟩
    refine znh ?_
    refine yd ?_
    refine zS <| Qm rfl <| Qa rfl <| JL.nil ?_
    refine zrb [8, 0, 0] hb ((x5.trans x15).trans x23) ?_
    have hE : (.int .i64 b : Value) = .int .i64 ((M.vis v_rules depth.toNat p low high (v_slots, v_hits)).1) := by first | (rw [hQ]; done) | (rw [hQ]; rfl) | (rw [M.vis_d hd hne hfu hV (M.bndV_2 (by omega))]; done) | (rw [M.vis_d hd hne hfu hV (M.bndV_1 (by omega) (by omega))]; done) | (rw [M.vis_d hd hne hfu hV (M.bndV_0 (by omega) (by omega))]; done)
    have hN10 : ((M.vis v_rules depth.toNat p low high (v_slots, v_hits)).2.1).length = sl.length := by first | (rw [hQ]; done) | (rw [hQ]; rfl) | (rw [M.vis_d hd hne hfu hV (M.bndV_2 (by omega))]; done) | (rw [M.vis_d hd hne hfu hV (M.bndV_1 (by omega) (by omega))]; done) | (rw [M.vis_d hd hne hfu hV (M.bndV_0 (by omega) (by omega))]; done) | (rw [M.vis_d hd hne hfu hV (M.bndV_2 (by omega)), M.stoS_len]; done) | (rw [M.vis_d hd hne hfu hV (M.bndV_1 (by omega) (by omega)), M.stoS_len]; done) | (rw [M.vis_d hd hne hfu hV (M.bndV_0 (by omega) (by omega)), M.stoS_len]; done)
    have hE10 : (M.vis v_rules depth.toNat p low high (v_slots, v_hits)).2.1 = (M.stoS sl (M.Slo.mk true p.pits p.player depth b 2)) := by first | (rw [hQ]; done) | (rw [hQ]; rfl) | (rw [M.vis_d hd hne hfu hV (M.bndV_2 (by omega))]; done) | (rw [M.vis_d hd hne hfu hV (M.bndV_1 (by omega) (by omega))]; done) | (rw [M.vis_d hd hne hfu hV (M.bndV_0 (by omega) (by omega))]; done)
    have hE11 : (M.vis v_rules depth.toNat p low high (v_slots, v_hits)).2.2 = h := by first | (rw [hQ]; done) | (rw [hQ]; rfl) | (rw [M.vis_d hd hne hfu hV (M.bndV_2 (by omega))]; done) | (rw [M.vis_d hd hne hfu hV (M.bndV_1 (by omega) (by omega))]; done) | (rw [M.vis_d hd hne hfu hV (M.bndV_0 (by omega) (by omega))]; done)
    refine ⟨A23_0_9, c23_0_9, g23_0_9, vs30mem_w0, f30mem_w0, hE, ?_, ?_, ?_⟩
    · rw [hN10, hE10, hE11]
    all_goals (first | (rw [hN10, hE10, hE11]; omega) | omega | (simp only [*]; omega) | (simp; done))
   refine zS <| Qm rfl <| Qm rfl <| Qh rfl rfl <| Qa rfl <| JL.nil ?_
   refine Js.condT rfl h27 ?_
   refine Js.region <| Qf fh rfl <| zw 0 rfl rfl rfl ?_
   refine JL.nil <| Js.blockEnd <| Js.seq ?_
   refine zdr [5] ?_
   refine jM 0 rfl rfl ?_
   refine jN 1 rfl rfl ?_
   refine jF 2 fld_87_0 rfl rfl ?_
   refine JH.q 3 rfl (L9 5 rfl rfl) ?_
   refine JH.q 4 rfl (L9 0 rfl rfl) ?_
   refine y1 5 ?_
   refine zhh [6, 6] ?_
   refine yBB 2 sp_ rfl rfl (fun w hb _ hw => c_impl_Memory_store v_rules sl (M.Slo.mk true p.pits p.player depth b 1) hb (ok_ hw) (r0 := hps)) ?_
   rintro _ _ G31 ⟨vs31mem_w0, f31mem_w0, rfl, rfl⟩
   refine znh ?_
   refine yd ?_
   refine zS <| Qm rfl <| Qa rfl <| JL.nil ?_
   refine zrb [8, 0, 0] hb ((x5.trans x15).trans x23) ?_
   have hE : (.int .i64 b : Value) = .int .i64 ((M.vis v_rules depth.toNat p low high (v_slots, v_hits)).1) := by first | (rw [hQ]; done) | (rw [hQ]; rfl) | (rw [M.vis_d hd hne hfu hV (M.bndV_2 (by omega))]; done) | (rw [M.vis_d hd hne hfu hV (M.bndV_1 (by omega) (by omega))]; done) | (rw [M.vis_d hd hne hfu hV (M.bndV_0 (by omega) (by omega))]; done)
   have hN10 : ((M.vis v_rules depth.toNat p low high (v_slots, v_hits)).2.1).length = sl.length := by first | (rw [hQ]; done) | (rw [hQ]; rfl) | (rw [M.vis_d hd hne hfu hV (M.bndV_2 (by omega))]; done) | (rw [M.vis_d hd hne hfu hV (M.bndV_1 (by omega) (by omega))]; done) | (rw [M.vis_d hd hne hfu hV (M.bndV_0 (by omega) (by omega))]; done) | (rw [M.vis_d hd hne hfu hV (M.bndV_2 (by omega)), M.stoS_len]; done) | (rw [M.vis_d hd hne hfu hV (M.bndV_1 (by omega) (by omega)), M.stoS_len]; done) | (rw [M.vis_d hd hne hfu hV (M.bndV_0 (by omega) (by omega)), M.stoS_len]; done)
   have hE10 : (M.vis v_rules depth.toNat p low high (v_slots, v_hits)).2.1 = (M.stoS sl (M.Slo.mk true p.pits p.player depth b 1)) := by first | (rw [hQ]; done) | (rw [hQ]; rfl) | (rw [M.vis_d hd hne hfu hV (M.bndV_2 (by omega))]; done) | (rw [M.vis_d hd hne hfu hV (M.bndV_1 (by omega) (by omega))]; done) | (rw [M.vis_d hd hne hfu hV (M.bndV_0 (by omega) (by omega))]; done)
   have hE11 : (M.vis v_rules depth.toNat p low high (v_slots, v_hits)).2.2 = h := by first | (rw [hQ]; done) | (rw [hQ]; rfl) | (rw [M.vis_d hd hne hfu hV (M.bndV_2 (by omega))]; done) | (rw [M.vis_d hd hne hfu hV (M.bndV_1 (by omega) (by omega))]; done) | (rw [M.vis_d hd hne hfu hV (M.bndV_0 (by omega) (by omega))]; done)
   refine ⟨A23_0_9, c23_0_9, g23_0_9, vs31mem_w0, f31mem_w0, hE, ?_, ?_, ?_⟩
   · rw [hN10, hE10, hE11]
   all_goals (first | (rw [hN10, hE10, hE11]; omega) | omega | (simp only [*]; omega) | (simp; done))
  have hbh : ¬ high ≤ b := by have := h27'; omega
  refine Js.skip <| zS <| Qm rfl <| Qm rfl <| Qq (p_cast (v' := .int .i64 (M.mx low b)) (p_max rfl rfl) rfl) <| Qa rfl <| Qa rfl <| zJ <| zS <| Qf fh rfl <| Q0 0 rfl rfl rfl <| JL.nil ?_
  refine zi (fun h32 h32' => ?_) fun h32 h32' => ?_
  ·
   have hag : y25.again = true := h32
   have hS2 := M.vlp_t hS hy25 hbh hag
   have hx1 := M.mx_le low b
   have hgb9 := M.results_gain (M.results_get0 hy25)
   have hok9 := M.results_ok (M.results_get0 hy25)
   have hv9 := M.vis_b (r := v_rules) (d := (depth - 1).toNat) (p := y25.next) (low := M.mx low b - y25.gain) (high := high - y25.gain) (sl := sl) (h := h) (M.results_ok (M.results_get0 hy25)) hbd (by omega)
   obtain ⟨w1_, w2_, w3_, w4_, w5_, w6_, w7_⟩ := hv9
   have hx2 := M.mx_le b (y25.gain + (M.vis v_rules (depth - 1).toNat y25.next (M.mx low b - y25.gain) (high - y25.gain) (sl, h)).1)
   refine zk [0, 2, 3, 4, 6, 15, 86, 87, 88] (fun F U l os u => ∃ (G33 : List Nat) (A33v_9 : Option Addr) (c33v_9 : Nat) (vs33v_9 : List Value) (g33v_9 f33v_9 : List Nat), l = F [(19, .int .i64 (y25.gain + ((M.vis v_rules (depth - 1).toNat y25.next ((M.mx low b) - y25.gain) (high - y25.gain) (sl, h)).1)))] ∧ os = [anyO G33] ++ U [nO, nO, nO, nO, some (boxO bv [.int .i64 v_rules.pits, .int .i64 v_rules.seeds, .bool v_rules.stores, .bool v_rules.skip, .bool v_rules.relay, .bool v_rules.feed, .bool v_rules.again, .int .i64 v_rules.capture, .int .i64 v_rules.slam, .slice A33v_9 (((M.vis v_rules (depth - 1).toNat y25.next ((M.mx low b) - y25.gain) (high - y25.gain) (sl, h)).2.1).length) c33v_9, .int .i64 ((M.vis v_rules (depth - 1).toNat y25.next ((M.mx low b) - y25.gain) (high - y25.gain) (sl, h)).2.2)] 87), some (rowO 49 6 (.slice A33v_9 (((M.vis v_rules (depth - 1).toNat y25.next ((M.mx low b) - y25.gain) (high - y25.gain) (sl, h)).2.1).length) c33v_9) (((M.vis v_rules (depth - 1).toNat y25.next ((M.mx low b) - y25.gain) (high - y25.gain) (sl, h)).2.1).length) vs33v_9 g33v_9), some (ownC (lSlot ((M.vis v_rules (depth - 1).toNat y25.next ((M.mx low b) - y25.gain) (high - y25.gain) (sl, h)).2.1)) vs33v_9 f33v_9)] ∧ (((M.vis v_rules (depth - 1).toNat y25.next ((M.mx low b) - y25.gain) (high - y25.gain) (sl, h)).2.1).length ≤ c33v_9) ∧ (c33v_9 ≤ 9223372036854775807)) ?_ ?_
   ·
    refine zdr [15] ?_
    refine jF 0 fld_114_1 rfl rfl ?_
    refine jM 2 rfl rfl ?_
    refine jF 3 fld_114_3 rfl rfl ?_
    refine JH.q 4 rfl (L9 0 rfl rfl) ?_
    refine jM 5 rfl rfl ?_
    refine JH.p 6 rfl (p_sub rfl rfl (IntWalk.i64_in _ (by omega))) ?_
    refine jM 7 rfl rfl ?_
    refine jF 8 fld_114_1 rfl rfl ?_
    refine jB 9 0 ty_2 rfl rfl rfl rfl ?_
    refine JH.p 10 rfl (p_sub rfl rfl (IntWalk.i64_in _ (by omega))) ?_
    refine jM 11 rfl rfl ?_
    refine jF 12 fld_114_1 rfl rfl ?_
    refine jB 13 0 ty_2 rfl rfl rfl rfl ?_
    refine JH.p 14 rfl (p_sub rfl rfl (IntWalk.i64_in _ (by omega))) ?_
    refine y2 1 15 ?_ ?_
    ·
     refine JHo.q rfl (q_load1 ty_2.h rfl (Mem.box (i := 0) rfl rfl)) ?_
     refine y1 15 ?_
     refine zhh [4, 4, 4] ?_
     refine yBB 3 sp_ rfl rfl (fun w hb _ hw => ih ((depth - 1).toNat) (by omega) v_rules sl h A23_0_9 c23_0_9 g23_0_9 vs23_0_9 fl23_0_9 y25.next _ (depth - 1) ((M.mx low b) - y25.gain) (high - y25.gain) bv w hb (ok_ hw) (by omega) (by omega) (M.results_ok (M.results_get0 hy25)) (by omega) (by omega) (by omega) (by omega) hsz hbd (by omega) (by omega) (by omega) (by omega) (by omega) (by omega) rfl) ?_
     rintro _ _ G36 ⟨A36v_9, c36v_9, g36v_9, vs36v_9, f36v_9, rfl, rfl, bl36_0, bl36_1⟩
     refine znh ?_
     refine JH.p 16 rfl (p_add rfl rfl (IntWalk.i64_in _ (by omega))) ?_
     refine jA 17 rfl rfl ?_
     refine yd ?_
     refine zh [3, 3, 3, 3, 3, 0, 0, 0, 0] ?_
     exact zm ⟨_, _, _, _, _, _, rfl, rfl, zt, zt⟩ (Up.refl _ _)
    refine zhh [4, 4, 4] ?_
    refine yBB 3 sp_ rfl rfl (fun w hb _ hw => ih ((depth - 1).toNat) (by omega) v_rules sl h A23_0_9 c23_0_9 g23_0_9 vs23_0_9 fl23_0_9 y25.next _ (depth - 1) ((M.mx low b) - y25.gain) (high - y25.gain) bv w hb (ok_ hw) (by omega) (by omega) (M.results_ok (M.results_get0 hy25)) (by omega) (by omega) (by omega) (by omega) hsz hbd (by omega) (by omega) (by omega) (by omega) (by omega) (by omega) rfl) ?_
    rintro _ _ G37 ⟨A37v_9, c37v_9, g37v_9, vs37v_9, f37v_9, rfl, rfl, bl37_0, bl37_1⟩
    refine znh ?_
    refine y1 1 ?_
    refine JHo.q rfl (q_load1 ty_2.h rfl (Mem.box (i := 4) rfl rfl)) ?_
    refine JH.p 16 rfl (p_add rfl rfl (IntWalk.i64_in _ (by omega))) ?_
    refine jA 17 rfl rfl ?_
    refine yd ?_
    refine zh [3, 3, 3, 3, 3, 0, 0, 0, 0] ?_
    exact zm ⟨_, _, _, _, _, _, rfl, rfl, zt, zt⟩ (Up.refl _ _)
   rintro _ _ u35 ⟨G33, A33v_9, c33v_9, vs33v_9, g33v_9, f33v_9, rfl, rfl, f35_0, f35_1⟩ x35
   refine zn ?_
   refine Js.region <| Qm rfl <| Qm rfl <| Qq (p_cast (v' := .int .i64 (M.mx b (y25.gain + ((M.vis v_rules (depth - 1).toNat y25.next ((M.mx low b) - y25.gain) (high - y25.gain) (sl, h)).1)))) (p_max rfl rfl) rfl) <| Qa rfl <| JL.nil <| Js.blockEnd <| Js.region <| Qp rfl rfl <| Qm rfl <| JL.nil ?_
   refine zf [2, 2, 2, 2, 2, 2] fun GG38 => ?_
   refine zn ?_
   exact zag ⟨k + 1, M.mx b (y25.gain + ((M.vis v_rules (depth - 1).toNat y25.next ((M.mx low b) - y25.gain) (high - y25.gain) (sl, h)).1)), (M.vis v_rules (depth - 1).toNat y25.next ((M.mx low b) - y25.gain) (high - y25.gain) (sl, h)).2.2, (M.vis v_rules (depth - 1).toNat y25.next ((M.mx low b) - y25.gain) (high - y25.gain) (sl, h)).2.1, _, _, _, _, _, _, rfl, rfl, by exact hS2, zt, by exact w2_ hsz, by exact w1_, by exact w7_.trans hln, by exact hhb.step w5_ w6_, by omega, by omega, zu, zu, rfl⟩ (x23.trans x35)
  have hag : y25.again = false := h32
  have hS2 := M.vlp_f hS hy25 hbh hag
  have hx1 := M.mx_le low b
  have hgb9 := M.results_gain (M.results_get0 hy25)
  have hok9 := M.results_ok (M.results_get0 hy25)
  have hv9 := M.vis_b (r := v_rules) (d := (depth - 1).toNat) (p := y25.next) (low := y25.gain - high) (high := y25.gain - M.mx low b) (sl := sl) (h := h) (M.results_ok (M.results_get0 hy25)) hbd (by omega)
  obtain ⟨w1_, w2_, w3_, w4_, w5_, w6_, w7_⟩ := hv9
  have hx2 := M.mx_le b (y25.gain - (M.vis v_rules (depth - 1).toNat y25.next (y25.gain - high) (y25.gain - M.mx low b) (sl, h)).1)
  refine zk [0, 2, 3, 4, 6, 15, 86, 87, 88] (fun F U l os u => ∃ (G39 : List Nat) (A39v_9 : Option Addr) (c39v_9 : Nat) (vs39v_9 : List Value) (g39v_9 f39v_9 : List Nat), l = F [(19, .int .i64 (y25.gain - ((M.vis v_rules (depth - 1).toNat y25.next (y25.gain - high) (y25.gain - (M.mx low b)) (sl, h)).1)))] ∧ os = [anyO G39] ++ U [nO, nO, nO, nO, some (boxO bv [.int .i64 v_rules.pits, .int .i64 v_rules.seeds, .bool v_rules.stores, .bool v_rules.skip, .bool v_rules.relay, .bool v_rules.feed, .bool v_rules.again, .int .i64 v_rules.capture, .int .i64 v_rules.slam, .slice A39v_9 (((M.vis v_rules (depth - 1).toNat y25.next (y25.gain - high) (y25.gain - (M.mx low b)) (sl, h)).2.1).length) c39v_9, .int .i64 ((M.vis v_rules (depth - 1).toNat y25.next (y25.gain - high) (y25.gain - (M.mx low b)) (sl, h)).2.2)] 87), some (rowO 49 6 (.slice A39v_9 (((M.vis v_rules (depth - 1).toNat y25.next (y25.gain - high) (y25.gain - (M.mx low b)) (sl, h)).2.1).length) c39v_9) (((M.vis v_rules (depth - 1).toNat y25.next (y25.gain - high) (y25.gain - (M.mx low b)) (sl, h)).2.1).length) vs39v_9 g39v_9), some (ownC (lSlot ((M.vis v_rules (depth - 1).toNat y25.next (y25.gain - high) (y25.gain - (M.mx low b)) (sl, h)).2.1)) vs39v_9 f39v_9)] ∧ (((M.vis v_rules (depth - 1).toNat y25.next (y25.gain - high) (y25.gain - (M.mx low b)) (sl, h)).2.1).length ≤ c39v_9) ∧ (c39v_9 ≤ 9223372036854775807)) ?_ ?_
  ·
   refine zdr [15] ?_
   refine jF 0 fld_114_1 rfl rfl ?_
   refine jM 2 rfl rfl ?_
   refine jF 3 fld_114_3 rfl rfl ?_
   refine JH.q 4 rfl (L9 0 rfl rfl) ?_
   refine jM 5 rfl rfl ?_
   refine JH.p 6 rfl (p_sub rfl rfl (IntWalk.i64_in _ (by omega))) ?_
   refine jF 7 fld_114_1 rfl rfl ?_
   refine jB 8 0 ty_2 rfl rfl rfl rfl ?_
   refine jM 9 rfl rfl ?_
   refine JH.p 10 rfl (p_sub rfl rfl (IntWalk.i64_in _ (by omega))) ?_
   refine jF 11 fld_114_1 rfl rfl ?_
   refine jB 12 0 ty_2 rfl rfl rfl rfl ?_
   refine jM 13 rfl rfl ?_
   refine JH.p 14 rfl (p_sub rfl rfl (IntWalk.i64_in _ (by omega))) ?_
   refine y2 1 15 ?_ ?_
   ·
    refine JHo.q rfl (q_load1 ty_2.h rfl (Mem.box (i := 0) rfl rfl)) ?_
    refine y1 15 ?_
    refine zhh [4, 4, 4] ?_
    refine yBB 3 sp_ rfl rfl (fun w hb _ hw => ih ((depth - 1).toNat) (by omega) v_rules sl h A23_0_9 c23_0_9 g23_0_9 vs23_0_9 fl23_0_9 y25.next _ (depth - 1) (y25.gain - high) (y25.gain - (M.mx low b)) bv w hb (ok_ hw) (by omega) (by omega) (M.results_ok (M.results_get0 hy25)) (by omega) (by omega) (by omega) (by omega) hsz hbd (by omega) (by omega) (by omega) (by omega) (by omega) (by omega) rfl) ?_
    rintro _ _ G42 ⟨A42v_9, c42v_9, g42v_9, vs42v_9, f42v_9, rfl, rfl, bl42_0, bl42_1⟩
    refine znh ?_
    refine JH.p 16 rfl (p_sub rfl rfl (IntWalk.i64_in _ (by omega))) ?_
    refine jA 17 rfl rfl ?_
    refine yd ?_
    refine zh [3, 3, 3, 3, 3, 0, 0, 0, 0] ?_
    exact zm ⟨_, _, _, _, _, _, rfl, rfl, zt, zt⟩ (Up.refl _ _)
   refine zhh [4, 4, 4] ?_
   refine yBB 3 sp_ rfl rfl (fun w hb _ hw => ih ((depth - 1).toNat) (by omega) v_rules sl h A23_0_9 c23_0_9 g23_0_9 vs23_0_9 fl23_0_9 y25.next _ (depth - 1) (y25.gain - high) (y25.gain - (M.mx low b)) bv w hb (ok_ hw) (by omega) (by omega) (M.results_ok (M.results_get0 hy25)) (by omega) (by omega) (by omega) (by omega) hsz hbd (by omega) (by omega) (by omega) (by omega) (by omega) (by omega) rfl) ?_
   rintro _ _ G43 ⟨A43v_9, c43v_9, g43v_9, vs43v_9, f43v_9, rfl, rfl, bl43_0, bl43_1⟩
   refine znh ?_
   refine y1 1 ?_
   refine JHo.q rfl (q_load1 ty_2.h rfl (Mem.box (i := 4) rfl rfl)) ?_
   refine JH.p 16 rfl (p_sub rfl rfl (IntWalk.i64_in _ (by omega))) ?_
   refine jA 17 rfl rfl ?_
   refine yd ?_
   refine zh [3, 3, 3, 3, 3, 0, 0, 0, 0] ?_
   exact zm ⟨_, _, _, _, _, _, rfl, rfl, zt, zt⟩ (Up.refl _ _)
  rintro _ _ u41 ⟨G39, A39v_9, c39v_9, vs39v_9, g39v_9, f39v_9, rfl, rfl, f41_0, f41_1⟩ x41
  refine zn ?_
  refine Js.region <| Qm rfl <| Qm rfl <| Qq (p_cast (v' := .int .i64 (M.mx b (y25.gain - ((M.vis v_rules (depth - 1).toNat y25.next (y25.gain - high) (y25.gain - (M.mx low b)) (sl, h)).1)))) (p_max rfl rfl) rfl) <| Qa rfl <| JL.nil <| Js.blockEnd <| Js.region <| Qp rfl rfl <| Qm rfl <| JL.nil ?_
  refine zf [2, 2, 2, 2, 2, 2] fun GG44 => ?_
  refine zn ?_
  exact zag ⟨k + 1, M.mx b (y25.gain - ((M.vis v_rules (depth - 1).toNat y25.next (y25.gain - high) (y25.gain - (M.mx low b)) (sl, h)).1)), (M.vis v_rules (depth - 1).toNat y25.next (y25.gain - high) (y25.gain - (M.mx low b)) (sl, h)).2.2, (M.vis v_rules (depth - 1).toNat y25.next (y25.gain - high) (y25.gain - (M.mx low b)) (sl, h)).2.1, _, _, _, _, _, _, rfl, rfl, by exact hS2, zt, by exact w2_ hsz, by exact w1_, by exact w7_.trans hln, by exact hhb.step w5_ w6_, by omega, by omega, zu, zu, rfl⟩ (x23.trans x41)
 have hV : M.vlp v_rules p depth low high (-1000) v_slots v_hits 0 = (b, (sl, h)) := hS.symm.trans (M.vlp_e rfl (by have := h24'; omega))
 have hln0 : 0 < sl.length := by omega
 have hps := M.okP_bare r0
 refine zx ?_
 refine zS <| Qf fh rfl <| Q0 2 rfl rfl rfl <| Qf fh rfl <| Q0 2 rfl rfl rfl <| Qm rfl <| Qm rfl <| Qb ?_
 refine za zeh fun b45 => zw 0 rfl rfl rfl ?_
 refine zJ <| Js.block <| zS <| Qm rfl <| Qm rfl <| Qk rfl rfl <| Qa rfl <| JL.nil ?_
 refine zi (fun h46 h46' => ?_) fun h46 h46' => ?_
 ·
  refine Js.region <| Qf fh rfl <| zw 0 rfl rfl rfl ?_
  refine JL.nil <| Js.blockEnd <| Js.seq ?_
  refine zdr [5] ?_
  refine jM 0 rfl rfl ?_
  refine jN 1 rfl rfl ?_
  refine jF 2 fld_87_0 rfl rfl ?_
  refine JH.q 3 rfl (L9 4 rfl rfl) ?_
  refine JH.q 4 rfl (L9 0 rfl rfl) ?_
  refine y1 5 ?_
  refine zhh [5, 5] ?_
  refine yBB 2 sp_ rfl rfl (fun w hb _ hw => c_impl_Memory_store v_rules sl (M.Slo.mk true p.pits p.player depth b 2) hb (ok_ hw) (r0 := hps)) ?_
  rintro _ _ G47 ⟨vs47mem_w0, f47mem_w0, rfl, rfl⟩
  refine znh ?_
  refine yd ?_
  refine zS <| Qm rfl <| Qa rfl <| JL.nil ?_
  refine zrb [7, 0, 0] hb ((x5.trans x15).trans x23) ?_
  have hE : (.int .i64 b : Value) = .int .i64 ((M.vis v_rules depth.toNat p low high (v_slots, v_hits)).1) := by first | (rw [hQ]; done) | (rw [hQ]; rfl) | (rw [M.vis_d hd hne hfu hV (M.bndV_2 (by omega))]; done) | (rw [M.vis_d hd hne hfu hV (M.bndV_1 (by omega) (by omega))]; done) | (rw [M.vis_d hd hne hfu hV (M.bndV_0 (by omega) (by omega))]; done)
  have hN10 : ((M.vis v_rules depth.toNat p low high (v_slots, v_hits)).2.1).length = sl.length := by first | (rw [hQ]; done) | (rw [hQ]; rfl) | (rw [M.vis_d hd hne hfu hV (M.bndV_2 (by omega))]; done) | (rw [M.vis_d hd hne hfu hV (M.bndV_1 (by omega) (by omega))]; done) | (rw [M.vis_d hd hne hfu hV (M.bndV_0 (by omega) (by omega))]; done) | (rw [M.vis_d hd hne hfu hV (M.bndV_2 (by omega)), M.stoS_len]; done) | (rw [M.vis_d hd hne hfu hV (M.bndV_1 (by omega) (by omega)), M.stoS_len]; done) | (rw [M.vis_d hd hne hfu hV (M.bndV_0 (by omega) (by omega)), M.stoS_len]; done)
  have hE10 : (M.vis v_rules depth.toNat p low high (v_slots, v_hits)).2.1 = (M.stoS sl (M.Slo.mk true p.pits p.player depth b 2)) := by first | (rw [hQ]; done) | (rw [hQ]; rfl) | (rw [M.vis_d hd hne hfu hV (M.bndV_2 (by omega))]; done) | (rw [M.vis_d hd hne hfu hV (M.bndV_1 (by omega) (by omega))]; done) | (rw [M.vis_d hd hne hfu hV (M.bndV_0 (by omega) (by omega))]; done)
  have hE11 : (M.vis v_rules depth.toNat p low high (v_slots, v_hits)).2.2 = h := by first | (rw [hQ]; done) | (rw [hQ]; rfl) | (rw [M.vis_d hd hne hfu hV (M.bndV_2 (by omega))]; done) | (rw [M.vis_d hd hne hfu hV (M.bndV_1 (by omega) (by omega))]; done) | (rw [M.vis_d hd hne hfu hV (M.bndV_0 (by omega) (by omega))]; done)
  refine ⟨A23_0_9, c23_0_9, g23_0_9, vs47mem_w0, f47mem_w0, hE, ?_, ?_, ?_⟩
  · rw [hN10, hE10, hE11]
  all_goals (first | (rw [hN10, hE10, hE11]; omega) | omega | (simp only [*]; omega) | (simp; done))
 refine zS <| Qm rfl <| Qm rfl <| Qh rfl rfl <| Qa rfl <| JL.nil ?_
 refine zi (fun h48 h48' => ?_) fun h48 h48' => ?_
 ·
  refine Js.region <| Qf fh rfl <| zw 0 rfl rfl rfl ?_
  refine JL.nil <| Js.blockEnd <| Js.seq ?_
  refine zdr [5] ?_
  refine jM 0 rfl rfl ?_
  refine jN 1 rfl rfl ?_
  refine jF 2 fld_87_0 rfl rfl ?_
  refine JH.q 3 rfl (L9 4 rfl rfl) ?_
  refine JH.q 4 rfl (L9 0 rfl rfl) ?_
  refine y1 5 ?_
  refine zhh [5, 5] ?_
  refine yBB 2 sp_ rfl rfl (fun w hb _ hw => c_impl_Memory_store v_rules sl (M.Slo.mk true p.pits p.player depth b 1) hb (ok_ hw) (r0 := hps)) ?_
  rintro _ _ G49 ⟨vs49mem_w0, f49mem_w0, rfl, rfl⟩
  refine znh ?_
  refine yd ?_
  refine zS <| Qm rfl <| Qa rfl <| JL.nil ?_
  refine zrb [7, 0, 0] hb ((x5.trans x15).trans x23) ?_
  have hE : (.int .i64 b : Value) = .int .i64 ((M.vis v_rules depth.toNat p low high (v_slots, v_hits)).1) := by first | (rw [hQ]; done) | (rw [hQ]; rfl) | (rw [M.vis_d hd hne hfu hV (M.bndV_2 (by omega))]; done) | (rw [M.vis_d hd hne hfu hV (M.bndV_1 (by omega) (by omega))]; done) | (rw [M.vis_d hd hne hfu hV (M.bndV_0 (by omega) (by omega))]; done)
  have hN10 : ((M.vis v_rules depth.toNat p low high (v_slots, v_hits)).2.1).length = sl.length := by first | (rw [hQ]; done) | (rw [hQ]; rfl) | (rw [M.vis_d hd hne hfu hV (M.bndV_2 (by omega))]; done) | (rw [M.vis_d hd hne hfu hV (M.bndV_1 (by omega) (by omega))]; done) | (rw [M.vis_d hd hne hfu hV (M.bndV_0 (by omega) (by omega))]; done) | (rw [M.vis_d hd hne hfu hV (M.bndV_2 (by omega)), M.stoS_len]; done) | (rw [M.vis_d hd hne hfu hV (M.bndV_1 (by omega) (by omega)), M.stoS_len]; done) | (rw [M.vis_d hd hne hfu hV (M.bndV_0 (by omega) (by omega)), M.stoS_len]; done)
  have hE10 : (M.vis v_rules depth.toNat p low high (v_slots, v_hits)).2.1 = (M.stoS sl (M.Slo.mk true p.pits p.player depth b 1)) := by first | (rw [hQ]; done) | (rw [hQ]; rfl) | (rw [M.vis_d hd hne hfu hV (M.bndV_2 (by omega))]; done) | (rw [M.vis_d hd hne hfu hV (M.bndV_1 (by omega) (by omega))]; done) | (rw [M.vis_d hd hne hfu hV (M.bndV_0 (by omega) (by omega))]; done)
  have hE11 : (M.vis v_rules depth.toNat p low high (v_slots, v_hits)).2.2 = h := by first | (rw [hQ]; done) | (rw [hQ]; rfl) | (rw [M.vis_d hd hne hfu hV (M.bndV_2 (by omega))]; done) | (rw [M.vis_d hd hne hfu hV (M.bndV_1 (by omega) (by omega))]; done) | (rw [M.vis_d hd hne hfu hV (M.bndV_0 (by omega) (by omega))]; done)
  refine ⟨A23_0_9, c23_0_9, g23_0_9, vs49mem_w0, f49mem_w0, hE, ?_, ?_, ?_⟩
  · rw [hN10, hE10, hE11]
  all_goals (first | (rw [hN10, hE10, hE11]; omega) | omega | (simp only [*]; omega) | (simp; done))
 refine Js.skip <| Js.blockEnd <| Js.seq ?_
 refine zdr [5] ?_
 refine jM 0 rfl rfl ?_
 refine jN 1 rfl rfl ?_
 refine jF 2 fld_87_0 rfl rfl ?_
 refine JH.q 3 rfl (L9 4 rfl rfl) ?_
 refine JH.q 4 rfl (L9 0 rfl rfl) ?_
 refine y1 5 ?_
 refine zhh [5, 5] ?_
 refine yBB 2 sp_ rfl rfl (fun w hb _ hw => c_impl_Memory_store v_rules sl (M.Slo.mk true p.pits p.player depth b 0) hb (ok_ hw) (r0 := hps)) ?_
 rintro _ _ G50 ⟨vs50mem_w0, f50mem_w0, rfl, rfl⟩
 refine znh ?_
 refine yd ?_
 refine zS <| Qm rfl <| Qa rfl <| JL.nil ?_
 refine zrb [7, 0, 0] hb ((x5.trans x15).trans x23) ?_
 have hE : (.int .i64 b : Value) = .int .i64 ((M.vis v_rules depth.toNat p low high (v_slots, v_hits)).1) := by first | (rw [hQ]; done) | (rw [hQ]; rfl) | (rw [M.vis_d hd hne hfu hV (M.bndV_2 (by omega))]; done) | (rw [M.vis_d hd hne hfu hV (M.bndV_1 (by omega) (by omega))]; done) | (rw [M.vis_d hd hne hfu hV (M.bndV_0 (by omega) (by omega))]; done)
 have hN10 : ((M.vis v_rules depth.toNat p low high (v_slots, v_hits)).2.1).length = sl.length := by first | (rw [hQ]; done) | (rw [hQ]; rfl) | (rw [M.vis_d hd hne hfu hV (M.bndV_2 (by omega))]; done) | (rw [M.vis_d hd hne hfu hV (M.bndV_1 (by omega) (by omega))]; done) | (rw [M.vis_d hd hne hfu hV (M.bndV_0 (by omega) (by omega))]; done) | (rw [M.vis_d hd hne hfu hV (M.bndV_2 (by omega)), M.stoS_len]; done) | (rw [M.vis_d hd hne hfu hV (M.bndV_1 (by omega) (by omega)), M.stoS_len]; done) | (rw [M.vis_d hd hne hfu hV (M.bndV_0 (by omega) (by omega)), M.stoS_len]; done)
 have hE10 : (M.vis v_rules depth.toNat p low high (v_slots, v_hits)).2.1 = (M.stoS sl (M.Slo.mk true p.pits p.player depth b 0)) := by first | (rw [hQ]; done) | (rw [hQ]; rfl) | (rw [M.vis_d hd hne hfu hV (M.bndV_2 (by omega))]; done) | (rw [M.vis_d hd hne hfu hV (M.bndV_1 (by omega) (by omega))]; done) | (rw [M.vis_d hd hne hfu hV (M.bndV_0 (by omega) (by omega))]; done)
 have hE11 : (M.vis v_rules depth.toNat p low high (v_slots, v_hits)).2.2 = h := by first | (rw [hQ]; done) | (rw [hQ]; rfl) | (rw [M.vis_d hd hne hfu hV (M.bndV_2 (by omega))]; done) | (rw [M.vis_d hd hne hfu hV (M.bndV_1 (by omega) (by omega))]; done) | (rw [M.vis_d hd hne hfu hV (M.bndV_0 (by omega) (by omega))]; done)
 refine ⟨A23_0_9, c23_0_9, g23_0_9, vs50mem_w0, f50mem_w0, hE, ?_, ?_, ?_⟩
 · rw [hN10, hE10, hE11]
 all_goals (first | (rw [hN10, hE10, hE11]; omega) | omega | (simp only [*]; omega) | (simp; done))
theorem c_impl_visitor_visit (v_rules : M.Rul) (v_slots : List M.Slo) (v_hits : Int) {Av_9 : Option Addr} {cv_9 : Nat} {gv_9 : List Nat} {vsv_9 : List Value} {fv_9 : List Nat} (p : M.Pos) {v_p : Value} (depth low high : Int) {bv : Nat} {w : World} (hb : Bw w [boxO bv [.int .i64 v_rules.pits, .int .i64 v_rules.seeds, .bool v_rules.stores, .bool v_rules.skip, .bool v_rules.relay, .bool v_rules.feed, .bool v_rules.again, .int .i64 v_rules.capture, .int .i64 v_rules.slam, .slice Av_9 v_slots.length cv_9, .int .i64 v_hits] 87, rowO 49 6 (.slice Av_9 v_slots.length cv_9) v_slots.length vsv_9 gv_9, ownC (lSlot v_slots) vsv_9 fv_9]) (h_p : (Ty.agg (cPosition p)).ok (offW w (([boxO bv [.int .i64 v_rules.pits, .int .i64 v_rules.seeds, .bool v_rules.stores, .bool v_rules.skip, .bool v_rules.relay, .bool v_rules.feed, .bool v_rules.again, .int .i64 v_rules.capture, .int .i64 v_rules.slam, .slice Av_9 v_slots.length cv_9, .int .i64 v_hits] 87, rowO 49 6 (.slice Av_9 v_slots.length cv_9) v_slots.length vsv_9 gv_9, ownC (lSlot v_slots) vsv_9 fv_9] : List Own).flatMap (·.fp))) v_p) (bd0 : v_slots.length ≤ cv_9 := by exact om_) (bd1 : cv_9 ≤ 9223372036854775807 := by exact om_) (r0 : M.okP v_rules p = true := by exact om_) (r1 : 0 ≤ depth := by exact om_) (r2 : depth ≤ 8 := by exact om_) (r3 : 0 < v_slots.length := by exact om_) (r4 : v_slots.length ≤ 4194304 := by exact om_) (r5 : M.SzM 4194304 v_slots := by exact om_) (r6 : M.BdM v_slots := by exact om_) (r7 : 0 ≤ v_hits := by exact om_) (r8 : v_hits + M.e9 depth.toNat ≤ 1000000000000 := by exact om_) (r9 : 96 * depth + low ≤ 3000 := by exact om_) (r10 : 96 * depth - low ≤ 3000 := by exact om_) (r11 : 96 * depth + high ≤ 3000 := by exact om_) (r12 : 96 * depth - high ≤ 3000 := by exact om_) : RetB Tryz.prog 46 [.pointer (some ⟨bv, 0, none⟩), v_p, .int .i64 depth, .int .i64 low, .int .i64 high] w [boxO bv [.int .i64 v_rules.pits, .int .i64 v_rules.seeds, .bool v_rules.stores, .bool v_rules.skip, .bool v_rules.relay, .bool v_rules.feed, .bool v_rules.again, .int .i64 v_rules.capture, .int .i64 v_rules.slam, .slice Av_9 v_slots.length cv_9, .int .i64 v_hits] 87, rowO 49 6 (.slice Av_9 v_slots.length cv_9) v_slots.length vsv_9 gv_9, ownC (lSlot v_slots) vsv_9 fv_9] (fun v bs' => ∃ (Axv_9 : Option Addr) (cxv_9 : Nat) (gxv_9 : List Nat) (vsxv_9 : List Value) (fxv_9 : List Nat), v = .int .i64 ((M.vis v_rules depth.toNat p low high (v_slots, v_hits)).1) ∧ bs' = [boxO bv [.int .i64 v_rules.pits, .int .i64 v_rules.seeds, .bool v_rules.stores, .bool v_rules.skip, .bool v_rules.relay, .bool v_rules.feed, .bool v_rules.again, .int .i64 v_rules.capture, .int .i64 v_rules.slam, .slice Axv_9 (((M.vis v_rules depth.toNat p low high (v_slots, v_hits)).2.1).length) cxv_9, .int .i64 ((M.vis v_rules depth.toNat p low high (v_slots, v_hits)).2.2)] 87, rowO 49 6 (.slice Axv_9 (((M.vis v_rules depth.toNat p low high (v_slots, v_hits)).2.1).length) cxv_9) (((M.vis v_rules depth.toNat p low high (v_slots, v_hits)).2.1).length) vsxv_9 gxv_9, ownC (lSlot ((M.vis v_rules depth.toNat p low high (v_slots, v_hits)).2.1)) vsxv_9 fxv_9] ∧ ((M.vis v_rules depth.toNat p low high (v_slots, v_hits)).2.1).length ≤ cxv_9 ∧ cxv_9 ≤ 9223372036854775807) := c_impl_visitor_visit_ _ v_rules v_slots v_hits Av_9 cv_9 gv_9 vsv_9 fv_9 p v_p depth low high bv w hb h_p bd0 bd1 r0 r1 r2 r3 r4 r5 r6 r7 r8 r9 r10 r11 r12 rfl
theorem c_impl_SearchWith (mem : M.Mem) {v_mem : Value} (p : M.Pos) {v_p : Value} (depth : Int) {w : World} (h_mem : (Ty.agg (cMemory mem)).ok w v_mem) (h_p : (Ty.agg (cPosition p)).ok w v_p) (r0 : mem.slots.length ≤ 4194304 := by exact om_) (r1 : ∀ x ∈ mem.slots, x.pits.length ≤ 4194304 := by exact om_) (r2 : p.pits.length ≤ 4194304 := by exact om_) (r3 : p.stores.length ≤ 4194304 := by exact om_) : Ret Tryz.prog 8 [v_mem, v_p, .int .i64 depth] w (Ty.tup [Ty.int ((M.swM mem p depth).1), Ty.int ((M.swM mem p depth).2.1), Ty.agg (cMemory ((M.swM mem p depth).2.2.1)), Ty.int ((M.swM mem p depth).2.2.2)]) := by
 revert v_mem; apply opn
 intro A1 c1 h1 bl1 bh1
 revert v_p; apply opn
 intro A2 c2 h2 bl2 bh2 A3 c3 h3 bl3 bh3
 refine enter @Tryz.func8 @Tryz.ntmps8 rfl rfl ?_
 refine zent ?_
 refine zS <| zb rfl fun b4 => zb rfl fun b5 => Qa rfl <| Qa rfl <| za zeh fun b6 => Qa rfl <| zJ <| zS <| Q9 2 rfl rfl ?_
 refine Q9 1 rfl rfl ?_
 refine zv rfl (fun w hw => c_impl_areRemembered mem p (ok_ hw) (ok_ hw) (r1 := r1)) <| Qt rfl <| JL.nil ?_
 refine zi (fun h7 h7' => ?_) fun h7 h7' => ?_
 ·
  have hE := M.swM_1 (d := depth) (M.rem_no (by have h9 := h7; simpa using h9))
  have hq0 : 0 = (M.swM mem p depth).1 := rp_ hE
  have hq1 : 0 = (M.swM mem p depth).2.1 := rp_ hE
  have hq2 : 0 = (((M.swM mem p depth).2.2.1).rules).pits := rp_ hE
  have hq3 : 0 = (((M.swM mem p depth).2.2.1).rules).seeds := rp_ hE
  have hq4 : false = (((M.swM mem p depth).2.2.1).rules).stores := rp_ hE
  have hq5 : false = (((M.swM mem p depth).2.2.1).rules).skip := rp_ hE
  have hq6 : false = (((M.swM mem p depth).2.2.1).rules).relay := rp_ hE
  have hq7 : false = (((M.swM mem p depth).2.2.1).rules).feed := rp_ hE
  have hq8 : false = (((M.swM mem p depth).2.2.1).rules).again := rp_ hE
  have hq9 : 0 = (((M.swM mem p depth).2.2.1).rules).capture := rp_ hE
  have hq10 : 0 = (((M.swM mem p depth).2.2.1).rules).slam := rp_ hE
  have hq11 : [] = ((M.swM mem p depth).2.2.1).slots := rp_ hE
  have hq12 : 1 = (M.swM mem p depth).2.2.2 := rp_ hE
  refine zS <| Qb ?_
  refine Qa rfl <| Qa rfl <| zw 0 rfl rfl rfl ?_
  refine Qa rfl <| JL.nil ?_
  exact zro (Up.refl _ _)
 have hrem : M.remB mem p = true := by simpa using h7
 obtain ⟨ho1, ho2, ho3, ho4, ho5⟩ := M.rem_parts hrem
 refine Js.skip <| Js.seq <| zS <| Qf fh rfl <| Q9 2 rfl rfl ?_
 refine Q9 1 rfl rfl ?_
 refine Qm rfl <| zv rfl (fun w hw => c_impl_searchCode mem.rules p depth (ok_ hw) (ok_ hw)) <| Qa rfl <| zN <| Qm rfl <| Qd rfl rfl <| JL.nil ?_
 refine zi (fun h8 h8' => ?_) fun h8 h8' => ?_
 ·
  have hE := M.swM_c hrem (by simpa using h8)
  have hq0 : 0 = (M.swM mem p depth).1 := rp_ hE
  have hq1 : 0 = (M.swM mem p depth).2.1 := rp_ hE
  have hq2 : 0 = (((M.swM mem p depth).2.2.1).rules).pits := rp_ hE
  have hq3 : 0 = (((M.swM mem p depth).2.2.1).rules).seeds := rp_ hE
  have hq4 : false = (((M.swM mem p depth).2.2.1).rules).stores := rp_ hE
  have hq5 : false = (((M.swM mem p depth).2.2.1).rules).skip := rp_ hE
  have hq6 : false = (((M.swM mem p depth).2.2.1).rules).relay := rp_ hE
  have hq7 : false = (((M.swM mem p depth).2.2.1).rules).feed := rp_ hE
  have hq8 : false = (((M.swM mem p depth).2.2.1).rules).again := rp_ hE
  have hq9 : 0 = (((M.swM mem p depth).2.2.1).rules).capture := rp_ hE
  have hq10 : 0 = (((M.swM mem p depth).2.2.1).rules).slam := rp_ hE
  have hq11 : [] = ((M.swM mem p depth).2.2.1).slots := rp_ hE
  have hq12 : (M.srchC mem.rules p depth) = (M.swM mem p depth).2.2.2 := rp_ hE
  refine zS <| Qb ?_
  refine Qm rfl <| Qa rfl <| Qa rfl <| zw 0 rfl rfl rfl ?_
  refine Qa rfl <| JL.nil ?_
  exact zro (Up.refl _ _)
 have hz : M.srchC mem.rules p depth = 0 := by simpa using h8
 have hsc := M.srchC_ok hz
 obtain ⟨hs1, hs2, hs3, hs4⟩ := hsc
 have hv9 := M.vis_b (d := depth.toNat) (low := -1000) (high := 1000) (h := 0) ho2 ho5 (by omega)
 obtain ⟨w1_, w2_, w3_, w4_, w5_, w6_, w7_⟩ := hv9
 have wz_ := w2_ r1
 have he8 := M.e9_8 (d := depth.toNat) (by omega)
 refine Js.skip <| zS <| Q9 2 rfl rfl ?_
 refine zc rfl (fun w hw => c_impl_Memory_copied mem (ok_ hw) (r1 := r1)) ?_
 intro A10 c10 vs10 f10 bl10 bh10
 refine Qb ?_
 refine zb rfl fun b11 => Qa rfl <| zN <| Qm rfl <| Q9 4 rfl rfl ?_
 refine Qm rfl <| zB 3 sp_ rfl (fun w hb hw => c_impl_visitor_visit mem.rules mem.slots 0 p depth (-1000) 1000 hb (ok_ hw) (r0 := ho2) (r5 := r1) (r6 := ho5)) ?_
 rintro _ _ G12 ⟨A12v_9, c12v_9, g12v_9, vs12v_9, f12v_9, rfl, rfl, bl12_0, bl12_1⟩
 refine znl ?_
 refine Qa rfl <| zJ <| zS <| Qm rfl <| zv rfl (fun w hw => c_impl_between ((M.vis mem.rules depth.toNat p (-1000) 1000 (mem.slots, 0)).1) (-96) 96) <| Qt rfl <| Qm rfl <| zg (Gd.f1 rfl rfl rfl) (fun hc => p_move rfl) <| zg (Gd.f1 rfl rfl rfl) (fun hc => p_nilCheck (gh hc rfl)) <| zg (Gd.f1 rfl rfl rfl) (fun hc => p_fieldAddr fld_87_0.h (gh hc rfl)) <| zgq (Gd.f1 rfl rfl rfl) (fun hc => L9 0 (gh hc rfl) rfl) <| zgv (Gd.f1 rfl rfl rfl) (fun hc => (opds_1 (gh hc rfl))) (fun hc => (fun w hw => c_impl_ValidMemory (M.Mem.mk mem.rules ((M.vis mem.rules depth.toNat p (-1000) 1000 (mem.slots, 0)).2.1)) (by exact ⟨_, rfl, ⟨rfl, rfl, rfl, rfl, rfl, rfl, rfl, rfl, rfl, (srow_ok lSlot (xs := ((M.vis mem.rules depth.toNat p (-1000) 1000 (mem.slots, 0)).2.1)) (hw.pr (i := 1) rfl) (hw.pr (i := 2) rfl) (lSlot_length _)), trivial⟩⟩) (r0 := (by dsimp only; omega)) (r1 := wz_))) ?_
 refine zg (Gd.f1 rfl rfl rfl) (fun hc => p_not (gh hc rfl)) <| Qq (p_pickOr rfl rfl rfl) <| JL.nil ?_
 refine zi (fun h13 h13' => ?_) fun h13 h13' => ?_
 ·
  have hE := M.swM_6 hrem hz (M.swOk_n h13)
  have hq0 : 0 = (M.swM mem p depth).1 := rp_ hE
  have hq1 : 0 = (M.swM mem p depth).2.1 := rp_ hE
  have hq2 : 0 = (((M.swM mem p depth).2.2.1).rules).pits := rp_ hE
  have hq3 : 0 = (((M.swM mem p depth).2.2.1).rules).seeds := rp_ hE
  have hq4 : false = (((M.swM mem p depth).2.2.1).rules).stores := rp_ hE
  have hq5 : false = (((M.swM mem p depth).2.2.1).rules).skip := rp_ hE
  have hq6 : false = (((M.swM mem p depth).2.2.1).rules).relay := rp_ hE
  have hq7 : false = (((M.swM mem p depth).2.2.1).rules).feed := rp_ hE
  have hq8 : false = (((M.swM mem p depth).2.2.1).rules).again := rp_ hE
  have hq9 : 0 = (((M.swM mem p depth).2.2.1).rules).capture := rp_ hE
  have hq10 : 0 = (((M.swM mem p depth).2.2.1).rules).slam := rp_ hE
  have hq11 : [] = ((M.swM mem p depth).2.2.1).slots := rp_ hE
  have hq12 : 6 = (M.swM mem p depth).2.2.2 := rp_ hE
  refine zS <| Qb ?_
  refine Qa rfl <| Qa rfl <| zw 4 rfl rfl rfl ?_
  refine Qa rfl <| JL.nil ?_
  exact zro (Up.refl _ _)
 have hE := M.swM_0 hrem hz (M.swOk_y h13)
 refine Js.skip <| Js.seq ?_
 refine zdr [11] ?_
 refine jM 0 rfl rfl ?_
 refine jM 1 rfl rfl ?_
 refine jN 2 rfl rfl ?_
 refine jF 3 fld_87_1 rfl rfl ?_
 refine jB 4 0 ty_2 rfl rfl rfl rfl ?_
 refine jM 5 rfl rfl ?_
 refine jN 6 rfl rfl ?_
 refine jF 7 fld_87_0 rfl rfl ?_
 refine JH.q 8 rfl (L9 0 rfl rfl) ?_
 refine jA 9 rfl rfl ?_
 refine jA 10 rfl rfl ?_
 refine y1 11 ?_
 refine yst rfl rfl rfl ?_
 refine jA 12 rfl rfl ?_
 refine yd ?_
 have hq0 : ((M.vis mem.rules depth.toNat p (-1000) 1000 (mem.slots, 0)).1) = (M.swM mem p depth).1 := rp_ hE
 have hq1 : ((M.vis mem.rules depth.toNat p (-1000) 1000 (mem.slots, 0)).2.2) = (M.swM mem p depth).2.1 := rp_ hE
 have hq2 : mem.rules.pits = (((M.swM mem p depth).2.2.1).rules).pits := rp_ hE
 have hq3 : mem.rules.seeds = (((M.swM mem p depth).2.2.1).rules).seeds := rp_ hE
 have hq4 : mem.rules.stores = (((M.swM mem p depth).2.2.1).rules).stores := rp_ hE
 have hq5 : mem.rules.skip = (((M.swM mem p depth).2.2.1).rules).skip := rp_ hE
 have hq6 : mem.rules.relay = (((M.swM mem p depth).2.2.1).rules).relay := rp_ hE
 have hq7 : mem.rules.feed = (((M.swM mem p depth).2.2.1).rules).feed := rp_ hE
 have hq8 : mem.rules.again = (((M.swM mem p depth).2.2.1).rules).again := rp_ hE
 have hq9 : mem.rules.capture = (((M.swM mem p depth).2.2.1).rules).capture := rp_ hE
 have hq10 : mem.rules.slam = (((M.swM mem p depth).2.2.1).rules).slam := rp_ hE
 have hq11 : ((M.vis mem.rules depth.toNat p (-1000) 1000 (mem.slots, 0)).2.1) = ((M.swM mem p depth).2.2.1).slots := rp_ hE
 have hq12 : 0 = (M.swM mem p depth).2.2.2 := rp_ hE
 exact zro (Up.refl _ _)
theorem c_spec_l00In (n low high : Int) {w : World}  : RetV Tryz.prog 102 [.int .i64 n, .int .i64 low, .int .i64 high] w (.bool (M.betw n low high)) := by
 refine enter @Tryz.func102 @Tryz.ntmps102 rfl rfl ?_
 refine zent ?_
 refine zS <| Qa rfl <| zN <| Qm rfl <| Qm rfl <| Qh rfl rfl <| Qm rfl <| zg (Gd.t1 rfl rfl rfl) (fun hc => p_move rfl) <| zg (Gd.t1 rfl rfl rfl) (fun hc => p_move rfl) <| zg (Gd.t1 rfl rfl rfl) (fun hc => p_leq (gh hc rfl) (gh hc rfl)) <| Qq (p_pickAnd rfl rfl rfl) <| Qa rfl <| JL.nil ?_
 refine zR (Up.refl _ _) ?_
 simp [outV, M.betw]
theorem c_spec_l02Ok (r : M.Rul) {v_r : Value} {w : World} (h_r : (Ty.ref (cRules r)).ok w v_r) : RetV Tryz.prog 103 [v_r] w (.bool (M.okR r)) := by
 revert v_r; apply opn
 intro b1 o1 hr1
 refine enter @Tryz.func103 @Tryz.ntmps103 rfl rfl ?_
 refine zent ?_
 refine zS <| Qa rfl <| zN <| Qm rfl <| Qc rfl <| Qf fh rfl <| QC (hr1 0 _ rfl) rfl <| zv rfl (fun w hw => c_spec_l00In r.pits 2 8) <| Qm rfl <| zg (Gd.t1 rfl rfl rfl) (fun hc => p_move rfl) <| zg (Gd.t1 rfl rfl rfl) (fun hc => p_nilCheck (gh hc rfl)) <| zg (Gd.t1 rfl rfl rfl) (fun hc => p_fieldAddr fld_25_1.h (gh hc rfl)) <| zgq (Gd.t1 rfl rfl rfl) (fun hc => q_load1 ty_2.h (gh hc rfl) (Mem.pub (hr1 1 _ rfl))) <| zgv (Gd.t1 rfl rfl rfl) (fun hc => (opds_3 (gh hc rfl) rfl rfl)) (fun hc => (fun w hw => c_spec_l00In r.seeds 1 6)) ?_
 refine Qq (p_pickAnd rfl rfl rfl) <| Qm rfl <| zg (Gd.t1 rfl rfl rfl) (fun hc => p_move rfl) <| zg (Gd.t1 rfl rfl rfl) (fun hc => p_nilCheck (gh hc rfl)) <| zg (Gd.t1 rfl rfl rfl) (fun hc => p_fieldAddr fld_25_7.h (gh hc rfl)) <| zgq (Gd.t1 rfl rfl rfl) (fun hc => q_load1 ty_2.h (gh hc rfl) (Mem.pub (hr1 7 _ rfl))) <| zgv (Gd.t1 rfl rfl rfl) (fun hc => (opds_3 (gh hc rfl) rfl rfl)) (fun hc => (fun w hw => c_spec_l00In r.capture 0 3)) ?_
 refine Qq (p_pickAnd rfl rfl rfl) <| Qm rfl <| zg (Gd.t1 rfl rfl rfl) (fun hc => p_move rfl) <| zg (Gd.t1 rfl rfl rfl) (fun hc => p_nilCheck (gh hc rfl)) <| zg (Gd.t1 rfl rfl rfl) (fun hc => p_fieldAddr fld_25_8.h (gh hc rfl)) <| zgq (Gd.t1 rfl rfl rfl) (fun hc => q_load1 ty_2.h (gh hc rfl) (Mem.pub (hr1 8 _ rfl))) <| zgv (Gd.t1 rfl rfl rfl) (fun hc => (opds_3 (gh hc rfl) rfl rfl)) (fun hc => (fun w hw => c_spec_l00In r.slam 0 2)) ?_
 refine Qq (p_pickAnd rfl rfl rfl) <| Qm rfl <| zg (Gd.t1 rfl rfl rfl) (fun hc => p_move rfl) <| zg (Gd.t1 rfl rfl rfl) (fun hc => p_nilCheck (gh hc rfl)) <| zg (Gd.t1 rfl rfl rfl) (fun hc => p_fieldAddr fld_25_2.h (gh hc rfl)) <| zgq (Gd.t1 rfl rfl rfl) (fun hc => q_load1 ty_4.h (gh hc rfl) (Mem.pub (hr1 2 _ rfl))) <| zg (Gd.t1 rfl rfl rfl) (fun hc => p_move (gh hc rfl)) <| zg (Gd.f2 rfl rfl rfl) (fun hc => p_move rfl) <| zg (Gd.f2 rfl rfl rfl) (fun hc => p_nilCheck (gh hc rfl)) <| zg (Gd.f2 rfl rfl rfl) (fun hc => p_fieldAddr fld_25_6.h (gh hc rfl)) <| zgq (Gd.f2 rfl rfl rfl) (fun hc => q_load1 ty_4.h (gh hc rfl) (Mem.pub (hr1 6 _ rfl))) <| zg (Gd.f2 rfl rfl rfl) (fun hc => p_not (gh hc rfl)) <| zg (Gd.t1 rfl rfl rfl) (fun hc => p_pickOr (gh hc rfl) rfl (gvl rfl hc)) <| Qq (p_pickAnd rfl rfl rfl) ?_
 refine Qa rfl <| JL.nil ?_
 refine zR (Up.refl _ _) ?_
 simp [outV, M.okR, Bool.and_assoc]
theorem c_spec_l04Sum (list : List Int) {v_list : Value} {w : World} (h_list : (Ty.ints 2 list).ok w v_list) (r0 : list.length ≤ 4194304 := by exact om_) : RetV Tryz.prog 109 [v_list] w (.int .i64 (M.sum4 list)) := by
 revert v_list; apply opn
 intro A1 c1 h1 bl1 bh1
 have h_list := h1
 refine enter @Tryz.func109 @Tryz.ntmps109 rfl rfl ?_
 refine zent ?_
 refine zS <| Qa rfl <| zN <| Qa rfl <| zJ <| zS <| Qa rfl <| JL.nil <| Js.block ?_
 refine zl [0] (fun F U l os u m => ∃ (k : Nat) (t : Int), l = F [(3, .int .i64 t), (4, .int .i64 (k : Int))] ∧ os = U [] ∧ (k ≤ list.length) ∧ (0 ≤ t) ∧ (t ≤ 96 * k) ∧ (M.sumFrom t (list.drop k) = M.sumFrom 0 list) ∧ m = list.length - k) ⟨0, 0, rfl, rfl, zt, zt, zt, zt, rfl⟩ ?_
 rintro _ _ u2 _ ⟨k, t, rfl, rfl, hk, t0, t9, hS, rfl⟩ x2
 refine zn ?_
 refine Js.seq <| zS <| Qm rfl <| Qm rfl <| Qz rfl <| Ql rfl rfl <| JL.nil ?_
 refine zi (fun h3 h3' => ?_) fun h3 h3' => ?_
 ·
  obtain ⟨b4, o4, he4, hc4⟩ := ints_elem (Ty.mono _ h1 x2.vis) (i := k) (by omega)
  refine Js.skip <| Js.seq <| Js.block <| Js.seq <| zS <| Qm rfl <| Qm rfl <| Qq (p_indexAddr el_29 rfl rfl (by omega) (by omega) he4) <| QC hc4 rfl <| zv rfl (fun w hw => c_spec_l00In (M.nth list k) 0 96) <| Qt rfl <| JL.nil ?_
  refine zi (fun h5 h5' => ?_) fun h5 h5' => ?_
  ·
   have e1 : M.sum4 list = -1 := M.sum4_no (by rw [M.sumFrom_step (by omega), if_neg (by simpa using h5)] at hS; exact M.sumFrom_none hS.symm)
   refine zS <| Qa rfl <| JL.nil ?_
   refine zR x2 ?_
   rw [e1]; rfl
  have hb : M.betw (M.nth list k) 0 96 = true := by simpa using h5
  obtain ⟨hb0, hb1⟩ := M.betw_iff.1 hb
  obtain ⟨b6, o6, he6, hc6⟩ := ints_elem (Ty.mono _ h1 x2.vis) (i := k) (by omega)
  refine Js.skip <| Js.region <| Qm rfl <| Qm rfl <| Qm rfl <| Qq (p_indexAddr el_29 rfl rfl (by omega) (by omega) he6) <| QC hc6 rfl <| Qp rfl rfl <| Qa rfl <| JL.nil <| Js.blockEnd <| Js.region <| Qm rfl <| Qp rfl rfl ?_
  refine Qa rfl <| JL.nil ?_
  exact zag ⟨k + 1, t + (M.nth list k), rfl, rfl, zt, zt, zt, by rw [M.sumFrom_step (by omega), if_pos hb] at hS; exact hS, rfl⟩ x2
 obtain ⟨e1, e2⟩ := M.sumFrom_some (by rw [← hS]; exact M.sumFrom_end (by omega))
 refine zx ?_
 refine Js.seq <| zS <| Qm rfl <| Qg rfl rfl <| JL.nil ?_
 refine zi (fun h7 h7' => ?_) fun h7 h7' => ?_
 ·
  have e1 : M.sum4 list = -1 := M.sum4_big (by omega)
  refine zS <| Qa rfl <| JL.nil ?_
  refine zR x2 ?_
  rw [e1]; rfl
 have e1 : M.sum4 list = t := by rw [M.sum4_ok e1 (by omega), e2]
 refine Js.skip <| zS <| Qm rfl <| Qa rfl <| JL.nil ?_
 refine zR x2 ?_
 rw [e1]; rfl
theorem c_spec_l04Ok (r : M.Rul) {v_r : Value} (p : M.Pos) {v_p : Value} {w : World} (h_r : (Ty.ref (cRules r)).ok w v_r) (h_p : (Ty.ref (cPosition p)).ok w v_p) (r0 : p.pits.length ≤ 4194304 := by exact om_) (r1 : p.stores.length ≤ 4194304 := by exact om_) : RetV Tryz.prog 57 [v_r, v_p] w (.bool (M.okP r p)) := by
 have b1 := M.sum4_bd p.pits
 have b2 := M.sum4_bd p.stores
 revert v_r; apply opn
 intro b1 o1 hr1
 revert v_p; apply opn
 intro b4 o4 A2 c2 h2 bl2 bh2 A3 c3 h3 bl3 bh3 hr4
 refine enter @Tryz.func57 @Tryz.ntmps57 rfl rfl ?_
 refine zent ?_
 refine zS <| Qa rfl <| zJ <| Js.seq ?_
 refine zdr [] ?_
 refine jM 0 rfl rfl ?_
 refine y1 1 ?_
 refine yv rfl rfl (fun w hw => c_spec_l02Ok r (ok_ hw)) ?_
 refine JH.p 2 rfl (p_not rfl) ?_
 refine jM 3 rfl rfl ?_
 refine JH.pg 4 rfl (Gd.f1 rfl rfl rfl) (fun hc => p_move rfl) ?_
 refine JH.pg 5 rfl (Gd.f1 rfl rfl rfl) (fun hc => p_nilCheck (gvt rfl hc)) ?_
 refine JH.pg 6 rfl (Gd.f1 rfl rfl rfl) (fun hc => p_fieldAddr fld_31_0.h (gvt rfl hc)) ?_
 refine JH.wg 7 rfl (Gd.f1 rfl rfl rfl) (fun hc os' u' hv => q_load1 ty_29.h (gvt rfl hc) (Mem.pub ((hr4.vis hv) 0 _ rfl))) ?_
 refine JH.pg 8 rfl (Gd.f1 rfl rfl rfl) (fun hc => p_len el_29 (gvt rfl hc)) ?_
 refine JH.pg 9 rfl (Gd.f1 rfl rfl rfl) (fun hc => p_move rfl) ?_
 refine JH.pg 10 rfl (Gd.f1 rfl rfl rfl) (fun hc => p_nilCheck (gvt rfl hc)) ?_
 refine JH.pg 11 rfl (Gd.f1 rfl rfl rfl) (fun hc => p_fieldAddr fld_25_0.h (gvt rfl hc)) ?_
 refine JH.wg 12 rfl (Gd.f1 rfl rfl rfl) (fun hc os' u' hv => q_load1 ty_2.h (gvt rfl hc) (Mem.pub ((hr1.vis hv) 0 _ rfl))) ?_
 refine JH.pg 13 rfl (Gd.f1 rfl rfl rfl) (fun hc => p_mul rfl (gvt rfl hc) (IntWalk.i64_in _ (by have := M.okR_bd (r := r) (by simpa using hc); omega))) ?_
 refine JH.pg 14 rfl (Gd.f1 rfl rfl rfl) (fun hc => p_neq (gvt rfl hc) (gvt rfl hc)) ?_
 refine JH.p 15 rfl (p_pickOr rfl rfl rfl) ?_
 refine jM 16 rfl rfl ?_
 refine JH.pg 17 rfl (Gd.f1 rfl rfl rfl) (fun hc => p_move rfl) ?_
 refine JH.pg 18 rfl (Gd.f1 rfl rfl rfl) (fun hc => p_nilCheck (gvt rfl hc)) ?_
 refine JH.pg 19 rfl (Gd.f1 rfl rfl rfl) (fun hc => p_fieldAddr fld_31_1.h (gvt rfl hc)) ?_
 refine JH.wg 20 rfl (Gd.f1 rfl rfl rfl) (fun hc os' u' hv => q_load1 ty_29.h (gvt rfl hc) (Mem.pub ((hr4.vis hv) 1 _ rfl))) ?_
 refine JH.pg 21 rfl (Gd.f1 rfl rfl rfl) (fun hc => p_len el_29 (gvt rfl hc)) ?_
 refine JH.pg 22 rfl (Gd.f1 rfl rfl rfl) (fun hc => p_neq (gvt rfl hc) rfl) ?_
 refine JH.p 23 rfl (p_pickOr rfl rfl rfl) ?_
 refine jM 24 rfl rfl ?_
 refine JH.pg 25 rfl (Gd.f1 rfl rfl rfl) (fun hc => p_move rfl) ?_
 refine JH.pg 26 rfl (Gd.f1 rfl rfl rfl) (fun hc => p_nilCheck (gvt rfl hc)) ?_
 refine JH.pg 27 rfl (Gd.f1 rfl rfl rfl) (fun hc => p_fieldAddr fld_31_2.h (gvt rfl hc)) ?_
 refine JH.wg 28 rfl (Gd.f1 rfl rfl rfl) (fun hc os' u' hv => q_load1 ty_2.h (gvt rfl hc) (Mem.pub ((hr4.vis hv) 2 _ rfl))) ?_
 refine y1 29 ?_
 refine JHo.ge rfl (Gd.f1 rfl rfl rfl) (fun hc => e_callV fn_102.h (opds_3 (gvt rfl hc) rfl rfl) (fun w hw => c_spec_l00In p.player 0 1)) ?_
 refine JH.pg 30 rfl (Gd.f1 rfl rfl rfl) (fun hc => p_not (gvt rfl hc)) ?_
 refine JH.p 31 rfl (p_pickOr rfl rfl rfl) ?_
 refine yd ?_
 refine zi (fun h5 h5' => ?_) fun h5 h5' => ?_
 ·
  refine zS <| Qa rfl <| JL.nil ?_
  refine zR (Up.refl _ _) ?_
  rw [M.okP_no (by simpa [or_assoc] using h5)]; rfl
 obtain ⟨⟨⟨q1, q2⟩, q3⟩, q4⟩ : ((M.okR r = true ∧ (p.pits.length : Int) = 2 * r.pits) ∧ (p.stores.length : Int) = 2) ∧ M.betw p.player 0 1 = true := by simpa using h5
 refine Js.skip <| zS <| Qm rfl <| Qc rfl <| Qf fh rfl <| QC (hr4 0 _ rfl) rfl <| zv rfl (fun w hw => c_spec_l04Sum p.pits (ok_ hw)) <| Qa rfl <| zN <| Qm rfl <| Qc rfl <| Qf fh rfl <| QC (hr4 1 _ rfl) rfl <| zv rfl (fun w hw => c_spec_l04Sum p.stores (ok_ hw)) ?_
 refine Qa rfl <| zN <| Qm rfl <| Qh rfl rfl <| Qm rfl <| zg (Gd.t1 rfl rfl rfl) (fun hc => p_move rfl) <| zg (Gd.t1 rfl rfl rfl) (fun hc => p_geq (gh hc rfl) rfl) <| Qq (p_pickAnd rfl rfl rfl) <| Qm rfl <| zg (Gd.t1 rfl rfl rfl) (fun hc => p_move rfl) <| zg (Gd.t1 rfl rfl rfl) (fun hc => p_move rfl) <| zg (Gd.t1 rfl rfl rfl) (fun hc => p_add (gh hc rfl) (gh hc rfl) (IntWalk.i64_in _ (by have hc9 := hc; (try simp only [Bool.and_eq_true, decide_eq_true_eq] at hc9); omega))) ?_
 refine zg (Gd.t1 rfl rfl rfl) (fun hc => p_leq (gh hc rfl) rfl) <| Qq (p_pickAnd rfl rfl rfl) <| Qa rfl <| JL.nil ?_
 refine zR (Up.refl _ _) ?_
 rw [M.okP_yes4 q1 q2 q3 q4]; rfl
theorem c_spec_l00Same (a : List Int) {v_a : Value} (b : List Int) {v_b : Value} {w : World} (h_a : (Ty.ints 2 a).ok w v_a) (h_b : (Ty.ints 2 b).ok w v_b) (r0 : a.length ≤ 4194304 := by exact om_) (r1 : b.length ≤ 4194304 := by exact om_) : RetV Tryz.prog 105 [v_a, v_b] w (.bool (decide (a = b))) := by
 revert v_a; apply opn
 intro A1 c1 h1 bl1 bh1
 have h_a := h1
 revert v_b; apply opn
 intro A2 c2 h2 bl2 bh2
 have h_b := h2
 refine enter @Tryz.func105 @Tryz.ntmps105 rfl rfl ?_
 refine zent ?_
 refine zS <| Qa rfl <| zJ <| zS <| Qm rfl <| Qz rfl <| Qm rfl <| Qz rfl <| Qd rfl rfl <| JL.nil ?_
 refine zi (fun h3 h3' => ?_) fun h3 h3' => ?_
 ·
  have e1 : decide (a = b) = false := by simp; rintro rfl; simp at h3
  refine zS <| Qa rfl <| JL.nil ?_
  refine zR (Up.refl _ _) ?_
  simp [outV, e1]
 have hlen : a.length = b.length := by have := h3'; omega
 refine Js.skip <| Js.seq <| zS <| Qa rfl <| JL.nil <| Js.block ?_
 refine zl [0, 1] (fun F U l os u m => ∃ (k : Nat), l = F [(5, .int .i64 (k : Int))] ∧ os = U [] ∧ (k ≤ a.length) ∧ (M.Upto a b k) ∧ m = a.length - k) ⟨0, rfl, rfl, zt, by exact M.Upto.zero _ _, rfl⟩ ?_
 rintro _ _ u4 _ ⟨k, rfl, rfl, hk, hU, rfl⟩ x4
 refine zn ?_
 refine Js.seq <| zS <| Qm rfl <| Qm rfl <| Qz rfl <| Ql rfl rfl <| JL.nil ?_
 refine zi (fun h5 h5' => ?_) fun h5 h5' => ?_
 ·
  refine Js.skip <| Js.seq <| Js.block <| Js.seq ?_
  refine zdr [] ?_
  refine jM 0 rfl rfl ?_
  refine jM 1 rfl rfl ?_
  obtain ⟨b6, o6, he6, hc6⟩ := ints_elem (Ty.mono _ h1 x4.vis) (i := k) (by omega)
  refine jI 2 el_29 rfl rfl rfl he6 ?_
  refine jW 3 ty_2 rfl rfl hc6.vis ?_
  refine jM 4 rfl rfl ?_
  refine jM 5 rfl rfl ?_
  obtain ⟨b7, o7, he7, hc7⟩ := ints_elem (Ty.mono _ h2 x4.vis) (i := k) (by omega)
  refine jI 6 el_29 rfl rfl rfl he7 ?_
  refine jW 7 ty_2 rfl rfl hc7.vis ?_
  refine JH.p 8 rfl (p_neq rfl rfl) ?_
  refine yd ?_
  refine zi (fun h8 h8' => ?_) fun h8 h8' => ?_
  ·
   have e1 : decide (a = b) = false := by simpa using M.ne_of_nth (a := a) (b := b) (k := k) (by simpa using h8)
   refine zS <| Qa rfl <| JL.nil ?_
   refine zR x4 ?_
   simp [outV, e1]
  have hab : M.nth a k = M.nth b k := by simpa using h8
  refine Js.skip <| Js.blockEnd <| Js.region <| Qm rfl <| Qp rfl rfl <| Qa rfl <| JL.nil ?_
  exact zag ⟨k + 1, rfl, rfl, zt, by exact hU.step (by omega) (by omega) hab, rfl⟩ x4
 have e1 : a = b := hU.done (by omega) (by omega)
 refine zx ?_
 refine zS <| Qa rfl <| JL.nil ?_
 refine zR x4 ?_
 simp [outV, e1]
theorem c_spec_l00Own (list : List Int) {v_list : Value} {w : World} (h_list : (Ty.ints 2 list).ok w v_list) (r0 : list.length ≤ 4194304 := by exact om_) : Ret Tryz.prog 97 [v_list] w (Ty.ints 2 list) := by
 revert v_list; apply opn
 intro A1 c1 h1 bl1 bh1
 have h_list := h1
 refine enter @Tryz.func97 @Tryz.ntmps97 rfl rfl ?_
 refine zent ?_
 refine zS <| Qa rfl <| zN <| zbs fun b2 => ?_
 refine Qm rfl ?_
 refine JL.e (e_append (i := 0) (n' := list.length) (vs' := ints_ list) el_29 rfl rfl rfl rfl (src_ints und_29 h1) (by omega) (by omega) ln2_ (by simp [ints_])) ?_
 rintro v4 _ _ ⟨⟨g5, rfl⟩, rfl⟩ _
 refine JL.fact (row_form' (i := 0) rfl) (fun hf6 => ?_)
 obtain ⟨A6, c6, rfl, bl6, bh6⟩ := hf6
 refine znl ?_
 refine Qa rfl <| JL.nil ?_
 exact zro (Up.refl _ _)
theorem c_spec_l02Owner (r : M.Rul) {v_r : Value} (pit : Int) {w : World} (h_r : (Ty.ref (cRules r)).ok w v_r) (r0 : 2 ≤ r.pits := by exact om_) (r1 : r.pits ≤ 8 := by exact om_) (r2 : 0 ≤ pit := by exact om_) (r3 : pit ≤ 1000 := by exact om_) : RetV Tryz.prog 151 [v_r, .int .i64 pit] w (.int .i64 (M.owner r pit)) := by
 revert v_r; apply opn
 intro b1 o1 hr1
 refine enter @Tryz.func151 @Tryz.ntmps151 rfl rfl ?_
 refine zent ?_
 refine zS <| Qa rfl <| zN <| Qm rfl <| Qm rfl <| Qc rfl <| Qf fh rfl <| QC (hr1 0 _ rfl) rfl <| Qq (p_quo rfl rfl (by omega) (wrap_quo (by omega) (by omega) (by omega))) <| Qa rfl <| JL.nil ?_
 refine zR (Up.refl _ _) ?_
 rfl
theorem c_spec_l02Opposite (r : M.Rul) {v_r : Value} (pit : Int) {w : World} (h_r : (Ty.ref (cRules r)).ok w v_r) (r0 : 2 ≤ r.pits := by exact om_) (r1 : r.pits ≤ 8 := by exact om_) (r2 : 0 ≤ pit := by exact om_) (r3 : pit ≤ 1000 := by exact om_) : RetV Tryz.prog 166 [v_r, .int .i64 pit] w (.int .i64 (M.opp r pit)) := by
 revert v_r; apply opn
 intro b1 o1 hr1
 refine enter @Tryz.func166 @Tryz.ntmps166 rfl rfl ?_
 refine zent ?_
 refine zS <| Qa rfl <| zN <| Qm rfl <| Qc rfl <| Qf fh rfl <| QC (hr1 0 _ rfl) rfl <| Qu rfl rfl <| Qs rfl rfl <| Qm rfl <| Qs rfl rfl <| Qa rfl <| JL.nil ?_
 refine zR (Up.refl _ _) ?_
 rfl
theorem c_spec_l02Next (r : M.Rul) {v_r : Value} (pit : Int) {w : World} (h_r : (Ty.ref (cRules r)).ok w v_r) (r0 : 2 ≤ r.pits := by exact om_) (r1 : r.pits ≤ 8 := by exact om_) (r2 : -1 ≤ pit := by exact om_) (r3 : pit ≤ 1000 := by exact om_) : RetV Tryz.prog 176 [v_r, .int .i64 pit] w (.int .i64 ((pit + 1) % (2 * r.pits))) := by
 revert v_r; apply opn
 intro b1 o1 hr1
 refine enter @Tryz.func176 @Tryz.ntmps176 rfl rfl ?_
 refine zent ?_
 have hrn2 := Int.emod_nonneg (pit + 1) (b := 2 * r.pits) (by omega)
 have hrl2 := Int.emod_lt_of_pos (pit + 1) (show 0 < 2 * r.pits by omega)
 refine zS <| Qa rfl <| zN <| Qm rfl <| Qp rfl rfl <| Qm rfl <| Qc rfl <| Qf fh rfl <| QC (hr1 0 _ rfl) rfl <| Qu rfl rfl <| Qq (p_rem rfl rfl (by omega) (Int.tmod_eq_emod_of_nonneg (by omega))) <| Qa rfl <| JL.nil ?_
 exact zr (Up.refl _ _)
theorem c_spec_l05Next (r : M.Rul) {v_r : Value} (player place : Int) {w : World} (h_r : (Ty.ref (cRules r)).ok w v_r) (r0 : 2 ≤ r.pits := by exact om_) (r1 : r.pits ≤ 8 := by exact om_) (r2 : player = 0 ∨ player = 1 := by exact om_) (r3 : -1 ≤ place := by exact om_) (r4 : place ≤ 1000 := by exact om_) : RetV Tryz.prog 171 [v_r, .int .i64 player, .int .i64 place] w (.int .i64 (M.after r player place)) := by
 have hq := M.mul_bd r2 r0 r1
 revert v_r; apply opn
 intro b1 o1 hr1
 refine enter @Tryz.func171 @Tryz.ntmps171 rfl rfl ?_
 refine zent ?_
 refine zS <| Qa rfl <| zN <| Qm rfl <| Qp rfl rfl <| Qm rfl <| Qc rfl <| Qf fh rfl <| QC (hr1 0 _ rfl) rfl <| Qu rfl rfl <| Qs rfl rfl <| Qa rfl <| zJ <| zS ?_
 refine Qm rfl <| Qe rfl rfl <| JL.nil ?_
 refine zi (fun h2 h2' => ?_) fun h2 h2' => ?_
 ·
  have e1 := M.after_m1 (r := r) (player := player) (place := place) (by simpa using h2) (by omega)
  refine zS <| Qm rfl <| Qm rfl <| zv rfl (fun w hw => c_spec_l02Next r (((player + 1) * r.pits) - 1) (ok_ hw)) <| Qa rfl <| JL.nil ?_
  refine zR (Up.refl _ _) ?_
  rw [e1]; rfl
 refine Js.skip <| Js.seq <| zS <| Qm rfl <| Qc rfl <| Qf fh rfl <| QC (hr1 2 _ rfl) rfl <| Qm rfl <| zg (Gd.t1 rfl rfl rfl) (fun hc => p_move rfl) <| zg (Gd.t1 rfl rfl rfl) (fun hc => p_move rfl) <| zg (Gd.t1 rfl rfl rfl) (fun hc => p_eql (gh hc rfl) (gh hc rfl)) <| Qq (p_pickAnd rfl rfl rfl) <| JL.nil ?_
 refine zi (fun h3 h3' => ?_) fun h3 h3' => ?_
 ·
  have e1 := M.after_end (r := r) (player := player) (place := place) (by simpa using h3)
  refine zS <| Qa rfl <| JL.nil ?_
  refine zR (Up.refl _ _) ?_
  rw [e1]; rfl
 have e1 := M.after_else (r := r) (player := player) (place := place) (by simpa using h3) (by omega)
 refine Js.skip <| zS <| Qm rfl <| Qm rfl <| zv rfl (fun w hw => c_spec_l02Next r place (ok_ hw)) <| Qa rfl <| JL.nil ?_
 refine zR (Up.refl _ _) ?_
 rw [e1]; rfl
theorem c_spec_l04Side (r : M.Rul) {v_r : Value} (pits : List Int) {v_pits : Value} (player : Int) {w : World} (h_r : (Ty.ref (cRules r)).ok w v_r) (h_pits : (Ty.ints 2 pits).ok w v_pits) (r0 : 2 ≤ r.pits := by exact om_) (r1 : r.pits ≤ 8 := by exact om_) (r2 : player = 0 ∨ player = 1 := by exact om_) (r3 : (pits.length : Int) = 2 * r.pits := by exact om_) (r4 : M.allOk pits = true := by exact om_) : RetV Tryz.prog 132 [v_r, v_pits, .int .i64 player] w (.int .i64 (M.side r pits player)) := by
 have hq := M.mul_bd r2 r0 r1
 have hsp := M.side_part (ps := pits) (r := r) (player := player) (by omega)
 revert v_r; apply opn
 intro b1 o1 hr1
 revert v_pits; apply opn
 intro A2 c2 h2 bl2 bh2
 have h_pits := h2
 refine enter @Tryz.func132 @Tryz.ntmps132 rfl rfl ?_
 refine zent ?_
 refine zS <| Qa rfl <| zN <| Qa rfl <| zJ <| zS <| Qm rfl <| Qm rfl <| Qc rfl <| Qf fh rfl <| QC (hr1 0 _ rfl) rfl <| Qu rfl rfl <| Qa rfl <| JL.nil ?_
 refine Js.block ?_
 refine zl [0, 1, 2] (fun F U l os u m => ∃ (k t : Int), l = F [(7, .int .i64 t), (8, .int .i64 k)] ∧ os = U [] ∧ (t + M.part pits k ((player + 1) * r.pits) = M.side r pits player) ∧ (player * r.pits ≤ k) ∧ (k ≤ (player + 1) * r.pits) ∧ (0 ≤ t) ∧ (t ≤ 96 * (k - player * r.pits)) ∧ m = ((player + 1) * r.pits - k).toNat) ⟨player * r.pits, 0, rfl, rfl, by rw [hsp]; omega, zt, zt, zt, zt, rfl⟩ ?_
 rintro _ _ u3 _ ⟨k, t, rfl, rfl, hS, k0, k1, t0, t1, rfl⟩ x3
 refine zn ?_
 have hv := M.allOk_nth r4 k.toNat
 refine Js.seq <| zS <| Qm rfl <| Qm rfl <| Qp rfl rfl <| Qm rfl <| Qc rfl <| Qf fh rfl <| QC ((hr1.vis x3.vis) 0 _ rfl) rfl <| Qu rfl rfl <| Ql rfl rfl <| JL.nil ?_
 refine zi (fun h4 h4' => ?_) fun h4 h4' => ?_
 ·
  obtain ⟨b5, o5, he5, hc5⟩ := ints_elem (Ty.mono _ h2 x3.vis) (i := k.toNat) (by omega)
  refine Js.skip <| Js.seq <| Js.block <| Js.region <| Qm rfl <| Qm rfl <| Qm rfl <| Qq (p_indexAddr el_29 rfl rfl (by omega) (by omega) he5) <| QC hc5 rfl <| Qp rfl rfl <| Qa rfl <| JL.nil <| Js.blockEnd <| Js.region ?_
  refine Qm rfl <| Qp rfl rfl <| Qa rfl <| JL.nil ?_
  exact zag ⟨k + 1, t + (M.nth pits k.toNat), rfl, rfl, by rw [M.part_step (by omega) (by omega) (by omega)] at hS; simp only [M.getI] at hS; omega, zt, zt, zt, zt, rfl⟩ x3
 have e1 : M.side r pits player = t := by rw [M.part_end (by omega)] at hS; omega
 refine zx ?_
 refine zS <| Qm rfl <| Qa rfl <| JL.nil ?_
 refine zR x3 ?_
 rw [e1]; rfl
theorem c_spec_l05Code (r : M.Rul) {v_r : Value} (p : M.Pos) {v_p : Value} (move : Int) {w : World} (h_r : (Ty.ref (cRules r)).ok w v_r) (h_p : (Ty.ref (cPosition p)).ok w v_p) (r0 : p.pits.length ≤ 4194304 := by exact om_) (r1 : p.stores.length ≤ 4194304 := by exact om_) : RetV Tryz.prog 148 [v_r, v_p, .int .i64 move] w (.int .i64 (M.sowCode r p move)) := by
 revert v_r; apply opn
 intro b1 o1 hr1
 revert v_p; apply opn
 intro b4 o4 A2 c2 h2 bl2 bh2 A3 c3 h3 bl3 bh3 hr4
 refine enter @Tryz.func148 @Tryz.ntmps148 rfl rfl ?_
 refine zent ?_
 refine zS <| Qa rfl <| zJ <| zS <| Qm rfl <| Qm rfl <| zv rfl (fun w hw => c_spec_l04Ok r p (ok_ hw) (ok_ hw)) <| Qt rfl <| JL.nil ?_
 refine zi (fun h5 h5' => ?_) fun h5 h5' => ?_
 ·
  refine zS <| Qa rfl <| JL.nil ?_
  refine zR (Up.refl _ _) ?_
  simp_all [outV, M.sowCode, M.getI]
 have hok : M.okP r p = true := by simpa using h5
 obtain ⟨g1, g2, g3, g4, g5, g6, g7⟩ := M.okP_bd hok
 have hq := M.mul_bd g7 g1 g2
 refine Js.skip <| Js.seq <| zS <| Qm rfl <| Qm rfl <| Qc rfl <| Qf fh rfl <| QC (hr1 0 _ rfl) rfl <| Qs rfl rfl <| zv rfl (fun w hw => c_spec_l00In move 0 (r.pits - 1)) <| Qt rfl <| JL.nil ?_
 refine zi (fun h6 h6' => ?_) fun h6 h6' => ?_
 ·
  refine zS <| Qa rfl <| JL.nil ?_
  refine zR (Up.refl _ _) ?_
  simp_all [outV, M.sowCode, M.getI]
 obtain ⟨m0, m1⟩ := M.betw_iff.1 (show M.betw move 0 (r.pits - 1) = true by simpa using h6)
 refine Js.skip <| Js.seq <| Js.seq ?_
 refine zdr [] ?_
 refine jM 0 rfl rfl ?_
 refine jN 1 rfl rfl ?_
 refine jF 2 fld_31_0 rfl rfl ?_
 refine jW 3 ty_29 rfl rfl (fun hv => (hr4.vis hv) 0 _ rfl) ?_
 refine jM 4 rfl rfl ?_
 refine jN 5 rfl rfl ?_
 refine jF 6 fld_31_2 rfl rfl ?_
 refine jW 7 ty_2 rfl rfl (fun hv => (hr4.vis hv) 2 _ rfl) ?_
 refine jM 8 rfl rfl ?_
 refine jN 9 rfl rfl ?_
 refine jF 10 fld_25_0 rfl rfl ?_
 refine jW 11 ty_2 rfl rfl (fun hv => (hr1.vis hv) 0 _ rfl) ?_
 refine JH.p 12 rfl (p_mul rfl rfl (IntWalk.i64_in _ (by omega))) ?_
 refine jM 13 rfl rfl ?_
 refine JH.p 14 rfl (p_add rfl rfl (IntWalk.i64_in _ (by omega))) ?_
 obtain ⟨b7, o7, he7, hc7⟩ := ints_elem h2 (i := ((p.player * r.pits) + move).toNat) (by omega)
 refine jI 15 el_29 rfl rfl rfl he7 ?_
 refine jW 16 ty_2 rfl rfl hc7.vis ?_
 refine JH.p 17 rfl (p_eql rfl rfl) ?_
 refine yd ?_
 refine zi (fun h8 h8' => ?_) fun h8 h8' => ?_
 ·
  refine zS <| Qa rfl <| JL.nil ?_
  refine zR (Up.refl _ _) ?_
  simp_all [outV, M.sowCode, M.getI]
 refine Js.skip <| zS <| Qa rfl <| JL.nil ?_
 refine zR (Up.refl _ _) ?_
 simp_all [outV, M.sowCode, M.getI]
theorem c_spec_l05Lap (r : M.Rul) {v_r : Value} (s_pits s_stores : List Int) (s_last s_laps : Int) {As_0 : Option Addr} {cs_0 : Nat} {gs_0 : List Nat} {As_1 : Option Addr} {cs_1 : Nat} {gs_1 : List Nat} (player from_ : Int) (path : List Int) {Apath_0 : Option Addr} {cpath_0 : Nat} {gpath_0 : List Nat} {bs : Nat} {w : World} (hb : Bw w [boxO bs [.slice As_0 s_pits.length cs_0, .slice As_1 s_stores.length cs_1, .int .i64 s_last, .int .i64 s_laps] 181, rowO 2 1 (.slice As_0 s_pits.length cs_0) s_pits.length (ints_ s_pits) gs_0, rowO 2 1 (.slice As_1 s_stores.length cs_1) s_stores.length (ints_ s_stores) gs_1, rowO 2 1 (.slice Apath_0 path.length cpath_0) path.length (ints_ path) gpath_0]) (h_r : (Ty.ref (cRules r)).ok (offW w (([boxO bs [.slice As_0 s_pits.length cs_0, .slice As_1 s_stores.length cs_1, .int .i64 s_last, .int .i64 s_laps] 181, rowO 2 1 (.slice As_0 s_pits.length cs_0) s_pits.length (ints_ s_pits) gs_0, rowO 2 1 (.slice As_1 s_stores.length cs_1) s_stores.length (ints_ s_stores) gs_1, rowO 2 1 (.slice Apath_0 path.length cpath_0) path.length (ints_ path) gpath_0] : List Own).flatMap (·.fp))) v_r) (bd0 : s_pits.length ≤ cs_0 := by exact om_) (bd1 : cs_0 ≤ 9223372036854775807 := by exact om_) (bd2 : s_stores.length ≤ cs_1 := by exact om_) (bd3 : cs_1 ≤ 9223372036854775807 := by exact om_) (bd4 : path.length ≤ cpath_0 := by exact om_) (bd5 : cpath_0 ≤ 9223372036854775807 := by exact om_) (r0 : 2 ≤ r.pits := by exact om_) (r1 : r.pits ≤ 8 := by exact om_) (r2 : player = 0 ∨ player = 1 := by exact om_) (r3 : 0 ≤ from_ := by exact om_) (r4 : from_ < 2 * r.pits := by exact om_) (r5 : M.Good r s_pits s_stores 0 := by exact om_) (r6 : 0 < (M.getI s_pits from_) := by exact om_) (r7 : 0 ≤ s_laps := by exact om_) (r8 : s_laps ≤ 99 := by exact om_) (r9 : path.length ≤ 10000 := by exact om_) : RetB Tryz.prog 165 [v_r, .pointer (some ⟨bs, 0, none⟩), .int .i64 player, .int .i64 from_, .slice Apath_0 path.length cpath_0] w [boxO bs [.slice As_0 s_pits.length cs_0, .slice As_1 s_stores.length cs_1, .int .i64 s_last, .int .i64 s_laps] 181, rowO 2 1 (.slice As_0 s_pits.length cs_0) s_pits.length (ints_ s_pits) gs_0, rowO 2 1 (.slice As_1 s_stores.length cs_1) s_stores.length (ints_ s_stores) gs_1, rowO 2 1 (.slice Apath_0 path.length cpath_0) path.length (ints_ path) gpath_0] (fun v bs' => ∃ (Axs_0 : Option Addr) (cxs_0 : Nat) (gxs_0 : List Nat) (Axs_1 : Option Addr) (cxs_1 : Nat) (gxs_1 : List Nat) (Axr : Option Addr) (cxr : Nat) (gxr : List Nat), v = .slice Axr (((M.lap r player from_ (M.Sw.mk s_pits s_stores s_last s_laps) path).2).length) cxr ∧ bs' = [boxO bs [.slice Axs_0 (((M.lap r player from_ (M.Sw.mk s_pits s_stores s_last s_laps) path).1.pits).length) cxs_0, .slice Axs_1 (((M.lap r player from_ (M.Sw.mk s_pits s_stores s_last s_laps) path).1.stores).length) cxs_1, .int .i64 ((M.lap r player from_ (M.Sw.mk s_pits s_stores s_last s_laps) path).1.last), .int .i64 ((M.lap r player from_ (M.Sw.mk s_pits s_stores s_last s_laps) path).1.laps)] 181, rowO 2 1 (.slice Axs_0 (((M.lap r player from_ (M.Sw.mk s_pits s_stores s_last s_laps) path).1.pits).length) cxs_0) (((M.lap r player from_ (M.Sw.mk s_pits s_stores s_last s_laps) path).1.pits).length) (ints_ ((M.lap r player from_ (M.Sw.mk s_pits s_stores s_last s_laps) path).1.pits)) gxs_0, rowO 2 1 (.slice Axs_1 (((M.lap r player from_ (M.Sw.mk s_pits s_stores s_last s_laps) path).1.stores).length) cxs_1) (((M.lap r player from_ (M.Sw.mk s_pits s_stores s_last s_laps) path).1.stores).length) (ints_ ((M.lap r player from_ (M.Sw.mk s_pits s_stores s_last s_laps) path).1.stores)) gxs_1, rowO 2 1 (.slice Axr (((M.lap r player from_ (M.Sw.mk s_pits s_stores s_last s_laps) path).2).length) cxr) (((M.lap r player from_ (M.Sw.mk s_pits s_stores s_last s_laps) path).2).length) (ints_ ((M.lap r player from_ (M.Sw.mk s_pits s_stores s_last s_laps) path).2)) gxr] ∧ ((M.lap r player from_ (M.Sw.mk s_pits s_stores s_last s_laps) path).1.pits).length ≤ cxs_0 ∧ cxs_0 ≤ 9223372036854775807 ∧ ((M.lap r player from_ (M.Sw.mk s_pits s_stores s_last s_laps) path).1.stores).length ≤ cxs_1 ∧ cxs_1 ≤ 9223372036854775807 ∧ ((M.lap r player from_ (M.Sw.mk s_pits s_stores s_last s_laps) path).2).length ≤ cxr ∧ cxr ≤ 9223372036854775807) := by
 have l1 := r5.lp
 have l2 := r5.ls
 have hk0 := r5.pit from_
 revert v_r; apply opn
 intro b1 o1 hr1
 refine enterB hb @Tryz.func165 @Tryz.ntmps165 rfl rfl ?_
 refine zent ?_
 refine Js.trashE ?_
 refine zn ?_
 refine Js.fact (row_some (i := 1) rfl (by omega)) (fun hf2 => ?_)
 obtain ⟨b2, rfl⟩ := hf2
 refine Js.fact (row_some (i := 2) rfl (by omega)) (fun hf3 => ?_)
 obtain ⟨b3, rfl⟩ := hf3
 refine zS <| Qa rfl <| zN <| Qm rfl <| Qc rfl <| Qf fh rfl <| Q0 0 rfl rfl rfl <| Qm rfl <| Qq (p_indexAddr el_29 rfl rfl (by omega) (by omega) rfl) <| Qw (q_load1 ty_2.h rfl (Mem.row (i := 1) rfl (ints_getI (i := from_) (by omega)))) <| Qa rfl <| zN <| Qm rfl <| Qc rfl ?_
 refine Qf fh rfl <| Q0 0 rfl rfl rfl <| Qm rfl <| Qq (p_indexAddr el_29 rfl rfl (by omega) (by omega) rfl) ?_
 refine JL.s (e_storeRow (i := 1) (xs' := ints_ (M.setI s_pits from_ 0)) ty_2.h rfl rfl rfl rfl rfl rfl (ints_lt (i := from_.toNat) (by omega)) (ints_setL (i := from_.toNat) (by omega))) ?_
 rintro _ _ _ ⟨rfl, rfl⟩ _
 refine znl ?_
 refine zN <| Qm rfl <| Qa rfl <| zJ <| Js.block ?_
 refine zl [0, 1, 2, 3] (fun F U l os u m => ∃ (k place : Int) (ps ss pth : List Int) (A6_4 : Option Addr) (c6_4 : Nat) (g6_4 : List Nat) (G6_4 : List Nat), l = F [(4, .slice A6_4 pth.length c6_4), (11, .int .i64 k), (12, .int .i64 place)] ∧ os = U [nO, some (rowO 2 1 (.slice (some ⟨b2, 0, none⟩) s_pits.length cs_0) s_pits.length (ints_ ps) gs_0), some (rowO 2 1 (.slice (some ⟨b3, 0, none⟩) s_stores.length cs_1) s_stores.length (ints_ ss) gs_1), some (rowO 2 1 (.slice A6_4 pth.length c6_4) pth.length (ints_ pth) g6_4), some (anyO G6_4)] ∧ (M.sow r player from_ k.toNat place ps ss pth = M.sow r player from_ (M.getI s_pits from_).toNat from_ (M.setI s_pits from_ 0) s_stores path) ∧ (M.Good r ps ss k) ∧ (-1 ≤ place) ∧ (place < 2 * r.pits) ∧ ((pth.length : Int) + k = path.length + (M.getI s_pits from_)) ∧ (0 ≤ k) ∧ (pth.length ≤ c6_4) ∧ (c6_4 ≤ 9223372036854775807) ∧ m = M.ms k place from_) ⟨M.getI s_pits from_, from_, M.setI s_pits from_ 0, s_stores, path, _, _, _, _, rfl, rfl, by rfl, by exact r5.takeUp r3 r4, zt, zt, zt, zt, zu, zu, rfl⟩ ?_
 rintro _ _ u6 _ ⟨k, place, ps, ss, pth, A6_4, c6_4, g6_4, G6_4, rfl, rfl, hS, hG, p0, p1, hl, hk, f6_6, f6_7, rfl⟩ x6
 refine zn ?_
 have l3 := hG.lp
 have l4 := hG.ls
 have hs0 := hG.store player
 have ha := M.after_bd r (player := player) (n := place) r1 r0 r2 p0
 refine Js.seq <| zS <| Qm rfl <| Qg rfl rfl <| JL.nil ?_
 refine zi (fun h7 h7' => ?_) fun h7 h7' => ?_
 ·
  refine Js.skip <| Js.block <| zS <| Qm rfl <| Qm rfl <| Qm rfl <| zv rfl (fun w hw => c_spec_l05Next r player place (ok_ hw)) <| Qa rfl <| zJ <| zS <| Qm rfl <| Qc rfl <| Qf fh rfl <| QC ((hr1.vis x6.vis) 3 _ rfl) rfl ?_
  refine Qm rfl <| zg (Gd.t1 rfl rfl rfl) (fun hc => p_move rfl) <| zg (Gd.t1 rfl rfl rfl) (fun hc => p_move rfl) <| zg (Gd.t1 rfl rfl rfl) (fun hc => p_eql (gh hc rfl) (gh hc rfl)) <| Qq (p_pickAnd rfl rfl rfl) <| JL.nil ?_
  refine zi (fun h8 h8' => ?_) fun h8 h8' => ?_
  ·
   have hc : r.skip = true ∧ M.after r player place = from_ := by simpa using h8
   have hS2 : M.sow r player from_ k.toNat (M.after r player place) ps ss pth = M.sow r player from_ (M.getI s_pits from_).toNat from_ (M.setI s_pits from_ 0) s_stores path := by rw [hc.2, ← M.sow_skip r1 r0 r3 r4 hc (by omega)]; exact hS
   have hm2 := M.ms_skip (k := k) r1 r0 r3 r4 hc.2
   refine zx ?_
   exact zag ⟨k, M.after r player place, ps, ss, pth, _, _, _, _, rfl, rfl, by exact hS2, by first | exact hG2 | exact hG, zt, zt, by first | omega | (simp only [List.length_append, List.length_cons, List.length_nil]; omega), zt, zu, zu, rfl⟩ x6 (by exact hm2)
  have hc : ¬(r.skip = true ∧ M.after r player place = from_) := by simpa using h8
  have hq := M.nxt_no hc
  have hm2 := M.ms_lt (a := (M.after r player place)) (b := place) (frm := from_) (show 0 < k by omega)
  refine Js.skip <| Js.seq <| zS <| Qm rfl <| Qe rfl rfl <| JL.nil ?_
  refine zi (fun h9 h9' => ?_) fun h9 h9' => ?_
  ·
   have hq0 : (M.after r player place) = -1 := by simpa using h9
   have hS2 : M.sow r player from_ (k - 1).toNat (M.after r player place) ps (M.setI ss player (M.getI ss player + 1)) (pth ++ [(M.after r player place)]) = M.sow r player from_ (M.getI s_pits from_).toNat from_ (M.setI s_pits from_ 0) s_stores path := by rw [← hS, show k.toNat = (k - 1).toNat + 1 by omega, M.sow_succ hq, if_pos (by omega)]
   have hG2 := hG.putStore (k := player) (by omega) (by omega) (by omega)
   refine Js.region <| Qm rfl <| Qc rfl <| Qf fh rfl <| Q0 0 rfl rfl rfl <| Qm rfl <| Qq (p_indexAddr el_29 rfl rfl (by omega) (by omega) rfl) <| Qw (q_load1 ty_2.h rfl (Mem.row (i := 2) rfl (ints_getI (i := player) (by omega)))) <| Qp rfl rfl <| Qq (p_indexAddr el_29 rfl rfl (by omega) (by omega) rfl) ?_
   refine JL.s (e_storeRow (i := 2) (xs' := ints_ (M.setI ss player ((M.getI ss player) + 1))) ty_2.h rfl rfl rfl rfl rfl rfl (ints_lt (i := player.toNat) (by omega)) (ints_setL (i := player.toNat) (by omega))) ?_
   rintro _ _ _ ⟨rfl, rfl⟩ _
   refine znl ?_
   refine zN <| Qm rfl <| Qm rfl <| zbs fun b12 => ?_
   refine JL.e (e_append (i := 4) (n' := (pth ++ [(M.after r player place)]).length) (vs' := ints_ (pth ++ [(M.after r player place)])) el_29 rfl rfl rfl rfl (src_row (i := 0) und_29 rfl rfl) (by omega) (by omega) ln2_ (by simp [ints_])) ?_
   rintro v14 _ _ ⟨⟨g15, rfl⟩, rfl⟩ _
   refine JL.fact (row_form' (i := 4) rfl) (fun hf16 => ?_)
   obtain ⟨A16, c16, rfl, bl16, bh16⟩ := hf16
   refine znl ?_
   refine Qa rfl <| zG <| Qm rfl <| Qs rfl rfl <| Qa rfl <| JL.nil <| Js.blockEnd ?_
   refine zf [1, 1, 1, 1] fun GG17 => ?_
   refine zn ?_
   exact zag ⟨k - 1, M.after r player place, ps, M.setI ss player ((M.getI ss player) + 1), pth ++ [(M.after r player place)], _, _, _, _, rfl, rfl, by exact hS2, by first | exact hG2 | exact hG, zt, zt, by first | omega | (simp only [List.length_append, List.length_cons, List.length_nil]; omega), zt, zu, zu, rfl⟩ x6 (by exact hm2)
  have hq0 : ¬ (M.after r player place) = -1 := by simpa using h9
  have hS2 : M.sow r player from_ (k - 1).toNat (M.after r player place) (M.setI ps (M.after r player place) (M.getI ps (M.after r player place) + 1)) ss (pth ++ [(M.after r player place)]) = M.sow r player from_ (M.getI s_pits from_).toNat from_ (M.setI s_pits from_ 0) s_stores path := by rw [← hS, show k.toNat = (k - 1).toNat + 1 by omega, M.sow_succ hq, if_neg (by omega)]
  have hG2 := hG.putPit (k := (M.after r player place)) (by omega) (by omega) ha.2
  have hpq := hG.pit (M.after r player place)
  refine Js.region <| Qm rfl <| Qc rfl <| Qf fh rfl <| Q0 0 rfl rfl rfl <| Qm rfl <| Qq (p_indexAddr el_29 rfl rfl (by omega) (by omega) rfl) <| Qw (q_load1 ty_2.h rfl (Mem.row (i := 1) rfl (ints_getI (i := M.after r player place) (by omega)))) <| Qp rfl rfl <| Qq (p_indexAddr el_29 rfl rfl (by omega) (by omega) rfl) ?_
  refine JL.s (e_storeRow (i := 1) (xs' := ints_ (M.setI ps (M.after r player place) ((M.getI ps (M.after r player place)) + 1))) ty_2.h rfl rfl rfl rfl rfl rfl (ints_lt (i := (M.after r player place).toNat) (by omega)) (ints_setL (i := (M.after r player place).toNat) (by omega))) ?_
  rintro _ _ _ ⟨rfl, rfl⟩ _
  refine znl ?_
  refine zN <| Qm rfl <| Qm rfl <| zbs fun b20 => ?_
  refine JL.e (e_append (i := 4) (n' := (pth ++ [(M.after r player place)]).length) (vs' := ints_ (pth ++ [(M.after r player place)])) el_29 rfl rfl rfl rfl (src_row (i := 0) und_29 rfl rfl) (by omega) (by omega) ln2_ (by simp [ints_])) ?_
  rintro v22 _ _ ⟨⟨g23, rfl⟩, rfl⟩ _
  refine JL.fact (row_form' (i := 4) rfl) (fun hf24 => ?_)
  obtain ⟨A24, c24, rfl, bl24, bh24⟩ := hf24
  refine znl ?_
  refine Qa rfl <| zG <| Qm rfl <| Qs rfl rfl <| Qa rfl <| JL.nil <| Js.blockEnd ?_
  refine zf [1, 1, 1, 1] fun GG25 => ?_
  refine zn ?_
  exact zag ⟨k - 1, M.after r player place, M.setI ps (M.after r player place) ((M.getI ps (M.after r player place)) + 1), ss, pth ++ [(M.after r player place)], _, _, _, _, rfl, rfl, by exact hS2, by first | exact hG2 | exact hG, zt, zt, by first | omega | (simp only [List.length_append, List.length_cons, List.length_nil]; omega), zt, zu, zu, rfl⟩ x6 (by exact hm2)
 have hL : M.lap r player from_ (M.Sw.mk s_pits s_stores s_last s_laps) path = (⟨ps, ss, place, s_laps + 1⟩, pth) := by unfold M.lap; dsimp only; rw [← hS]; simp [show k.toNat = 0 by omega, M.sow]
 clear hS
 refine zx ?_
 refine zS <| Qm rfl <| Qm rfl <| Qc rfl <| Qf fh rfl <| zw 0 rfl rfl rfl ?_
 refine zN <| Qm rfl <| Qc rfl <| Qf fh rfl <| Q0 0 rfl rfl rfl <| Qp rfl rfl <| Qc rfl <| Qf fh rfl <| zw 0 rfl rfl rfl ?_
 refine zN <| Qm rfl <| Qa rfl <| JL.nil ?_
 refine zrb [0, 0, 0, 0] hb x6 ?_
 have hN1 : ((M.lap r player from_ (M.Sw.mk s_pits s_stores s_last s_laps) path).1.pits).length = s_pits.length := by first | (rw [hL]; done) | (rw [hL]; show ps.length = _; omega) | (rw [hL]; show ss.length = _; omega)
 have hE1 : (M.lap r player from_ (M.Sw.mk s_pits s_stores s_last s_laps) path).1.pits = ps := by rw [hL]
 have hN2 : ((M.lap r player from_ (M.Sw.mk s_pits s_stores s_last s_laps) path).1.stores).length = s_stores.length := by first | (rw [hL]; done) | (rw [hL]; show ps.length = _; omega) | (rw [hL]; show ss.length = _; omega)
 have hE2 : (M.lap r player from_ (M.Sw.mk s_pits s_stores s_last s_laps) path).1.stores = ss := by rw [hL]
 have hE3 : (M.lap r player from_ (M.Sw.mk s_pits s_stores s_last s_laps) path).1.last = place := by rw [hL]
 have hE4 : (M.lap r player from_ (M.Sw.mk s_pits s_stores s_last s_laps) path).1.laps = (s_laps + 1) := by rw [hL]
 have hN5 : ((M.lap r player from_ (M.Sw.mk s_pits s_stores s_last s_laps) path).2).length = pth.length := by first | (rw [hL]; done) | (rw [hL]; show ps.length = _; omega) | (rw [hL]; show ss.length = _; omega)
 have hE5 : (M.lap r player from_ (M.Sw.mk s_pits s_stores s_last s_laps) path).2 = pth := by rw [hL]
 refine ⟨(some ⟨b2, 0, none⟩), cs_0, gs_0, (some ⟨b3, 0, none⟩), cs_1, gs_1, A6_4, c6_4, g6_4, (by first | rfl | (rw [hN5]; done) | (rw [hN5]; rfl) | (rw [hE5]; done) | (rw [hE5]; rfl)), ?_, ?_, ?_, ?_, ?_, ?_, ?_⟩
 · rw [hN1, hE1, hN2, hE2, hE3, hE4, hN5, hE5]
 all_goals (first | (rw [hN1, hE1, hN2, hE2, hE3, hE4, hN5, hE5]; omega) | omega | (simp only [*]; omega) | (simp; done))
theorem c_spec_l05Sow (r : M.Rul) {v_r : Value} (p : M.Pos) {v_p : Value} (from_ : Int) {w : World} (h_r : (Ty.ref (cRules r)).ok w v_r) (h_p : (Ty.ref (cPosition p)).ok w v_p) (r0 : 2 ≤ r.pits := by exact om_) (r1 : r.pits ≤ 8 := by exact om_) (r2 : p.player = 0 ∨ p.player = 1 := by exact om_) (r3 : 0 ≤ from_ := by exact om_) (r4 : from_ < 2 * r.pits := by exact om_) (r5 : M.Good r p.pits p.stores 0 := by exact om_) (r6 : 0 < M.getI p.pits from_ := by exact om_) : Ret Tryz.prog 149 [v_r, v_p, .int .i64 from_] w (Ty.tup [Ty.agg (cSown ((M.sowT r p from_).1)), Ty.ints 2 ((M.sowT r p from_).2.1), Ty.bool ((M.sowT r p from_).2.2)]) := by
 have l1 := r5.lp
 have l2 := r5.ls
 obtain ⟨ha, hb1, hc1, hd, he, hf⟩ := M.lap_keeps (s := ⟨p.pits, p.stores, 0, 0⟩) r [] r1 r0 r2 r3 r4 r5
 replace hf : (M.lap r p.player from_ (M.Sw.mk p.pits p.stores 0 0) []).1.laps = 1 := hf
 replace hd : (M.lap r p.player from_ (M.Sw.mk p.pits p.stores 0 0) []).2.length ≤ 96 := by simpa using hd
 revert v_r; apply opn
 intro b1 o1 hr1
 revert v_p; apply opn
 intro b4 o4 A2 c2 h2 bl2 bh2 A3 c3 h3 bl3 bh3 hr4
 refine enter @Tryz.func149 @Tryz.ntmps149 rfl rfl ?_
 refine zent ?_
 refine zS <| za zeh fun b5 => Qa rfl <| Qa rfl <| zJ ?_
 refine zk [0, 1, 2, 6] (fun F U l os u => ∃ (b8 : Nat) (A6 : Option Addr) (c6 : Nat) (A7 : Option Addr) (c7 : Nat), l = F [(9, .pointer (some ⟨b8, 0, none⟩))] ∧ os = [boxO b8 [.slice A6 p.pits.length c6, .slice A7 p.stores.length c7, .int .i64 0, .int .i64 0] 181, rowO 2 1 (.slice A7 p.stores.length c7) p.stores.length (ints_ p.stores) [], rowO 2 1 (.slice A6 p.pits.length c6) p.pits.length (ints_ p.pits) []] ++ U [] ∧ (p.pits.length ≤ c6) ∧ (c6 ≤ 9223372036854775807) ∧ (p.stores.length ≤ c7) ∧ (c7 ≤ 9223372036854775807)) ?_ ?_
 ·
  refine zdr [12] ?_
  refine jM 0 rfl rfl ?_
  refine jN 1 rfl rfl ?_
  refine jF 2 fld_31_0 rfl rfl ?_
  refine jW 3 ty_29 rfl rfl (fun hv => (hr4.vis hv) 0 _ rfl) ?_
  refine jM 5 rfl rfl ?_
  refine jN 6 rfl rfl ?_
  refine jF 7 fld_31_1 rfl rfl ?_
  refine jW 8 ty_29 rfl rfl (fun hv => (hr4.vis hv) 1 _ rfl) ?_
  refine y2 4 11 ?_ ?_
  ·
   refine ycs rfl rfl (fun w hw => c_spec_l00Own p.pits (ok_ hw)) ?_
   intro A15 c15 bl15 bh15
   refine y2 9 11 ?_ ?_
   ·
    refine ycs rfl rfl (fun w hw => c_spec_l00Own p.stores (ok_ hw)) ?_
    intro A16 c16 bl16 bh16
    refine JH.p 10 rfl (q_bld) ?_
    refine y1 11 ?_
    refine ya rfl fun b17 => ?_
    refine y1 12 ?_
    refine yst rfl rfl rfl ?_
    refine yd ?_
    exact zm ⟨_, _, _, _, _, rfl, rfl, zt, zt, zt, zt⟩ (Up.refl _ _)
   refine ya rfl fun b18 => ?_
   refine y1 9 ?_
   refine ycs rfl rfl (fun w hw => c_spec_l00Own p.stores (ok_ hw)) ?_
   intro A19 c19 bl19 bh19
   refine JH.p 10 rfl (q_bld) ?_
   refine y1 12 ?_
   refine yst rfl rfl rfl ?_
   refine yd ?_
   refine zh [1, 0, 0, 0] ?_
   exact zm ⟨_, _, _, _, _, rfl, rfl, zt, zt, zt, zt⟩ (Up.refl _ _)
  refine ya rfl fun b20 => ?_
  refine y1 4 ?_
  refine ycs rfl rfl (fun w hw => c_spec_l00Own p.pits (ok_ hw)) ?_
  intro A21 c21 bl21 bh21
  refine y1 9 ?_
  refine ycs rfl rfl (fun w hw => c_spec_l00Own p.stores (ok_ hw)) ?_
  intro A22 c22 bl22 bh22
  refine JH.p 10 rfl (q_bld) ?_
  refine y1 12 ?_
  refine yst rfl rfl rfl ?_
  refine yd ?_
  refine zh [2, 0, 0, 0] ?_
  exact zm ⟨_, _, _, _, _, rfl, rfl, zt, zt, zt, zt⟩ (Up.refl _ _)
 rintro _ _ u14 ⟨b8, A6, c6, A7, c7, rfl, rfl, f14_0, f14_1, f14_2, f14_3⟩ x14
 refine zn ?_
 refine zS <| Qm rfl <| Qm rfl <| Qc rfl <| Qf fh rfl <| QC ((hr4.vis x14.vis) 2 _ rfl) rfl <| Qm rfl <| zbs fun b23 => ?_
 refine zhl [1, 2, 1, 0] ?_
 refine zB 4 sp_ rfl (fun w hb hw => c_spec_l05Lap r p.pits p.stores 0 0 p.player from_ [] hb (ok_ hw) (r3 := r3) (r5 := r5) (r6 := r6) (r9 := (by simp))) ?_
 rintro _ _ G25 ⟨A25s_0, c25s_0, g25s_0, A25s_1, c25s_1, g25s_1, A25_r, c25_r, g25_r, rfl, rfl, bl25_0, bl25_1, bl25_2, bl25_3, bl25_4, bl25_5⟩
 refine znl ?_
 refine Qa rfl <| zJ <| Js.block ?_
 refine zl [0, 1, 6, 9] (fun F U l os u m => ∃ (sw : M.Sw) (path : List Int) (A26_10 : Option Addr) (c26_10 : Nat) (g26_10 : List Nat) (A26_9_0 : Option Addr) (c26_9_0 : Nat) (g26_9_0 : List Nat) (A26_9_1 : Option Addr) (c26_9_1 : Nat) (g26_9_1 : List Nat) (G26_4 : List Nat), l = F [(10, .slice A26_10 path.length c26_10)] ∧ os = U [some (boxO b8 [.slice A26_9_0 sw.pits.length c26_9_0, .slice A26_9_1 sw.stores.length c26_9_1, .int .i64 sw.last, .int .i64 sw.laps] 181), some (rowO 2 1 (.slice A26_9_0 sw.pits.length c26_9_0) sw.pits.length (ints_ sw.pits) g26_9_0), some (rowO 2 1 (.slice A26_9_1 sw.stores.length c26_9_1) sw.stores.length (ints_ sw.stores) g26_9_1), some (rowO 2 1 (.slice A26_10 path.length c26_10) path.length (ints_ path) g26_10), some (anyO G26_4)] ∧ (M.moreT r p.player sw path = (M.mvT r p.player 100 from_ ⟨p.pits, p.stores, 0, 0⟩ [])) ∧ (M.Good r sw.pits sw.stores 0) ∧ (-1 ≤ sw.last) ∧ (sw.last < 2 * r.pits) ∧ (1 ≤ sw.laps) ∧ (sw.laps ≤ 100) ∧ (path.length ≤ 96 * sw.laps) ∧ (path.length ≤ c26_10) ∧ (c26_10 ≤ 9223372036854775807) ∧ (sw.pits.length ≤ c26_9_0) ∧ (c26_9_0 ≤ 9223372036854775807) ∧ (sw.stores.length ≤ c26_9_1) ∧ (c26_9_1 ≤ 9223372036854775807) ∧ m = (101 - sw.laps).toNat) ⟨(M.lap r p.player from_ (M.Sw.mk p.pits p.stores 0 0) []).1, (M.lap r p.player from_ (M.Sw.mk p.pits p.stores 0 0) []).2, _, _, _, _, _, _, _, _, _, _, rfl, rfl, by exact (M.mvT_moreT (s := ⟨p.pits, p.stores, 0, 0⟩) (Int.le_refl 0) (show (0 : Int) ≤ 99 by decide)).symm, by exact ha, zt, zt, zt, zt, by omega, zu, zu, zu, zu, zu, zu, rfl⟩ ?_
 rintro _ _ u26 _ ⟨sw, path, A26_10, c26_10, g26_10, A26_9_0, c26_9_0, g26_9_0, A26_9_1, c26_9_1, g26_9_1, G26_4, rfl, rfl, hS, hG, q0, q1, la0, la1, hl, f26_7, f26_8, f26_9, f26_10, f26_11, f26_12, rfl⟩ x26
 refine zn ?_
 have l3 := hG.lp
 have l4 := hG.ls
 refine Js.seq <| zS <| Qm rfl <| Qc rfl <| Qf fh rfl <| QC ((hr1.vis (x14.vis.trans x26.vis)) 4 _ rfl) rfl <| Qm rfl <| zg (Gd.t1 rfl rfl rfl) (fun hc => p_fieldAddr fld_181_2.h rfl) <| zgq (Gd.t1 rfl rfl rfl) (fun hc => q_load1 ty_2.h (gh hc rfl) (Mem.box (i := 0) rfl rfl)) <| zg (Gd.t1 rfl rfl rfl) (fun hc => p_geq (gh hc rfl) rfl) <| Qq (p_pickAnd rfl rfl rfl) <| Qm rfl <| zg (Gd.t1 rfl rfl rfl) (fun hc => p_fieldAddr fld_181_0.h rfl) <| zgq (Gd.t1 rfl rfl rfl) (fun hc => q_load1 ty_29.h (gh hc rfl) (Mem.box (i := 0) rfl rfl)) ?_
 refine zg (Gd.t1 rfl rfl rfl) (fun hc => p_fieldAddr fld_181_2.h rfl) <| zgq (Gd.t1 rfl rfl rfl) (fun hc => q_load1 ty_2.h (gh hc rfl) (Mem.box (i := 0) rfl rfl)) ?_
 refine JL.fact (row_some (i := 1) rfl (by omega)) (fun hf28 => ?_)
 obtain ⟨b28, rfl⟩ := hf28
 refine zg (Gd.t1 rfl rfl rfl) (fun hc => p_indexAddr el_29 (gh hc rfl) (gh hc rfl) (by have hc9 := hc; (try simp only [Bool.and_eq_true, decide_eq_true_eq] at hc9); omega) (by have hc9 := hc; (try simp only [Bool.and_eq_true, decide_eq_true_eq] at hc9); omega) rfl) ?_
 refine zgq (Gd.t1 rfl rfl rfl) (fun hc => q_load1 ty_2.h (gh hc rfl) (Mem.row (i := 1) rfl (ints_getI (i := sw.last) (by have hc9 := hc; (try simp only [Bool.and_eq_true, decide_eq_true_eq] at hc9); omega)))) ?_
 refine zg (Gd.t1 rfl rfl rfl) (fun hc => p_gtr (gh hc rfl) rfl) <| Qq (p_pickAnd rfl rfl rfl) <| JL.nil ?_
 refine zi (fun h29 h29' => ?_) fun h29 h29' => ?_
 ·
  have hm : M.more r sw = true := h29
  have hmm := M.more_get hm
  obtain ⟨ka, kb, kc, kd, ke, kf⟩ := M.lap_keeps r path r1 r0 r2 hmm.1 q1 hG
  have hgp := hmm.2
  refine Js.skip <| Js.block <| Js.seq <| zS <| Qf fh rfl <| Q0 0 rfl rfl rfl <| Qh rfl rfl <| JL.nil ?_
  refine zi (fun h30 h30' => ?_) fun h30 h30' => ?_
  ·
   have hT := M.sowT_no (r := r) (p := p) (frm := from_) (by rw [← hS, M.moreT_yes hm, show (100 - sw.laps).toNat = 0 by omega]; rfl)
   have hq0 : [] = ((M.sowT r p from_).1).pits := rp_ hT
   have hq1 : [] = ((M.sowT r p from_).1).stores := rp_ hT
   have hq2 : 0 = ((M.sowT r p from_).1).last := rp_ hT
   have hq3 : 0 = ((M.sowT r p from_).1).laps := rp_ hT
   have hq4 : [] = (M.sowT r p from_).2.1 := rp_ hT
   have hq5 : false = (M.sowT r p from_).2.2 := rp_ hT
   refine zS <| Qb ?_
   refine zw 5 rfl rfl rfl ?_
   refine Qa rfl <| Qa rfl <| JL.nil ?_
   exact zro (x14.trans x26)
  have hS2 : M.moreT r p.player (M.lap r p.player sw.last sw path).1 (M.lap r p.player sw.last sw path).2 = (M.mvT r p.player 100 from_ ⟨p.pits, p.stores, 0, 0⟩ []) := by rw [← hS, M.moreT_yes hm, M.mvT_moreT (by omega) (by omega)]
  refine Js.skip ?_
  refine zdr [8] ?_
  refine jM 0 rfl rfl ?_
  refine jM 1 rfl rfl ?_
  refine jN 2 rfl rfl ?_
  refine jF 3 fld_31_2 rfl rfl ?_
  refine JH.w 4 rfl (fun os' u' hv => q_load1 ty_2.h rfl (Mem.pub ((hr4.vis ((x14.vis.trans x26.vis).trans hv)) 2 _ rfl))) ?_
  refine jF 5 fld_181_2 rfl rfl ?_
  refine jB 6 0 ty_2 rfl rfl rfl rfl ?_
  refine jM 7 rfl rfl ?_
  refine y1 8 ?_
  refine yB 4 sp_ rfl rfl (fun w hb hw => c_spec_l05Lap r sw.pits sw.stores sw.last sw.laps p.player sw.last path hb (ok_ hw) (r3 := hmm.1) (r5 := hG)) ?_
  rintro _ _ G31 ⟨A31s_0, c31s_0, g31s_0, A31s_1, c31s_1, g31s_1, A31_r, c31_r, g31_r, rfl, rfl, bl31_0, bl31_1, bl31_2, bl31_3, bl31_4, bl31_5⟩
  refine znh ?_
  refine jA 9 rfl rfl ?_
  refine yd ?_
  refine Js.blockEnd ?_
  refine zd [0, 0, 0, 0, 1, 1] rfl fun u32 x32 => ?_
  exact zag ⟨(M.lap r p.player sw.last sw path).1, (M.lap r p.player sw.last sw path).2, _, _, _, _, _, _, _, _, _, _, rfl, rfl, by exact hS2, by exact ka, zt, zt, zt, zt, zt, zu, zu, zu, zu, zu, zu, rfl⟩ (x26.trans x32)
 have hm : M.more r sw = false := h29
 have hT := M.sowT_done (by rw [← hS]; exact M.moreT_no hm)
 refine zx ?_
 have hq0 : sw.pits = ((M.sowT r p from_).1).pits := rp_ hT
 have hq1 : sw.stores = ((M.sowT r p from_).1).stores := rp_ hT
 have hq2 : sw.last = ((M.sowT r p from_).1).last := rp_ hT
 have hq3 : sw.laps = ((M.sowT r p from_).1).laps := rp_ hT
 have hq4 : path = (M.sowT r p from_).2.1 := rp_ hT
 have hq5 : true = (M.sowT r p from_).2.2 := rp_ hT
 refine zS <| Q9 0 rfl rfl ?_
 refine Qm rfl <| zw 5 rfl rfl rfl ?_
 refine Qa rfl <| Qa rfl <| JL.nil ?_
 exact zro (x14.trans x26)
theorem c_spec_l05Move (r : M.Rul) {v_r : Value} (p : M.Pos) {v_p : Value} (move : Int) {w : World} (h_r : (Ty.ref (cRules r)).ok w v_r) (h_p : (Ty.ref (cPosition p)).ok w v_p) (r0 : p.pits.length ≤ 4194304 := by exact om_) (r1 : p.stores.length ≤ 4194304 := by exact om_) : Ret Tryz.prog 136 [v_r, v_p, .int .i64 move] w (Ty.tup [Ty.agg (cSown ((M.sowMove r p move).2.1)), Ty.ints 2 ((M.sowMove r p move).2.2), Ty.int ((M.sowMove r p move).1)]) := by
 revert v_r; apply opn
 intro b1 o1 hr1
 revert v_p; apply opn
 intro b4 o4 A2 c2 h2 bl2 bh2 A3 c3 h3 bl3 bh3 hr4
 refine enter @Tryz.func136 @Tryz.ntmps136 rfl rfl ?_
 refine zent ?_
 refine zS <| za zeh fun b5 => Qa rfl <| Qa rfl <| zN <| Qm rfl <| Qm rfl <| Qm rfl <| zv rfl (fun w hw => c_spec_l05Code r p move (ok_ hw) (ok_ hw)) <| Qa rfl <| zJ <| zS <| Qm rfl <| Qd rfl rfl ?_
 refine JL.nil ?_
 refine zi (fun h6 h6' => ?_) fun h6 h6' => ?_
 ·
  have hT := M.sowMove_code (r := r) (p := p) (move := move) (by simpa using h6)
  have hq0 : [] = ((M.sowMove r p move).2.1).pits := rp_ hT
  have hq1 : [] = ((M.sowMove r p move).2.1).stores := rp_ hT
  have hq2 : 0 = ((M.sowMove r p move).2.1).last := rp_ hT
  have hq3 : 0 = ((M.sowMove r p move).2.1).laps := rp_ hT
  have hq4 : [] = (M.sowMove r p move).2.2 := rp_ hT
  have hq5 : (M.sowCode r p move) = (M.sowMove r p move).1 := rp_ hT
  refine zS <| Qb ?_
  refine Qm rfl <| zw 0 rfl rfl rfl ?_
  refine Qa rfl <| Qa rfl <| JL.nil ?_
  exact zro (Up.refl _ _)
 have hc : M.sowCode r p move = 0 := by simpa using h6
 obtain ⟨hok, m0, m1, hg⟩ := M.sowCode_ok hc
 obtain ⟨g1, g2, g3, g4, g5, g6, g7⟩ := M.okP_bd hok
 have hq := M.mul_bd g7 g1 g2
 have hG := M.Good.of_ok hok
 refine Js.skip <| Js.seq ?_
 refine zk [6] (fun F U l os u => ∃ (b12 : Nat) (A11 : Option Addr) (c11 : Nat) (A9 : Option Addr) (c9 : Nat) (A10 : Option Addr) (c10 : Nat), l = F [(10, .pointer (some ⟨b12, 0, none⟩)), (11, .slice A11 (((M.sowT r p ((p.player * r.pits) + move)).2.1).length) c11), (12, .bool ((M.sowT r p ((p.player * r.pits) + move)).2.2))] ∧ os = [boxO b12 [.slice A9 ((((M.sowT r p ((p.player * r.pits) + move)).1).pits).length) c9, .slice A10 ((((M.sowT r p ((p.player * r.pits) + move)).1).stores).length) c10, .int .i64 (((M.sowT r p ((p.player * r.pits) + move)).1).last), .int .i64 (((M.sowT r p ((p.player * r.pits) + move)).1).laps)] 181, rowO 2 1 (.slice A11 (((M.sowT r p ((p.player * r.pits) + move)).2.1).length) c11) (((M.sowT r p ((p.player * r.pits) + move)).2.1).length) (ints_ ((M.sowT r p ((p.player * r.pits) + move)).2.1)) [], rowO 2 1 (.slice A10 ((((M.sowT r p ((p.player * r.pits) + move)).1).stores).length) c10) ((((M.sowT r p ((p.player * r.pits) + move)).1).stores).length) (ints_ (((M.sowT r p ((p.player * r.pits) + move)).1).stores)) [], rowO 2 1 (.slice A9 ((((M.sowT r p ((p.player * r.pits) + move)).1).pits).length) c9) ((((M.sowT r p ((p.player * r.pits) + move)).1).pits).length) (ints_ (((M.sowT r p ((p.player * r.pits) + move)).1).pits)) []] ++ U [] ∧ (((M.sowT r p ((p.player * r.pits) + move)).2.1).length ≤ c11) ∧ (c11 ≤ 9223372036854775807) ∧ ((((M.sowT r p ((p.player * r.pits) + move)).1).pits).length ≤ c9) ∧ (c9 ≤ 9223372036854775807) ∧ ((((M.sowT r p ((p.player * r.pits) + move)).1).stores).length ≤ c10) ∧ (c10 ≤ 9223372036854775807)) ?_ ?_
 ·
  refine zdr [19] ?_
  refine jM 0 rfl rfl ?_
  refine jM 1 rfl rfl ?_
  refine jM 2 rfl rfl ?_
  refine jN 3 rfl rfl ?_
  refine jF 4 fld_31_2 rfl rfl ?_
  refine jW 5 ty_2 rfl rfl (fun hv => (hr4.vis hv) 2 _ rfl) ?_
  refine jM 6 rfl rfl ?_
  refine jN 7 rfl rfl ?_
  refine jF 8 fld_25_0 rfl rfl ?_
  refine jW 9 ty_2 rfl rfl (fun hv => (hr1.vis hv) 0 _ rfl) ?_
  refine JH.p 10 rfl (p_mul rfl rfl (IntWalk.i64_in _ (by omega))) ?_
  refine jM 11 rfl rfl ?_
  refine JH.p 12 rfl (p_add rfl rfl (IntWalk.i64_in _ (by omega))) ?_
  refine y2 13 18 ?_ ?_
  ·
   refine yc rfl rfl (fun w hw => c_spec_l05Sow r p ((p.player * r.pits) + move) (ok_ hw) (ok_ hw) (r5 := hG) (r6 := hg)) ?_
   intro A22 c22 bl22 bh22 A23 c23 bl23 bh23 A24 c24 bl24 bh24
   refine jM 14 rfl rfl ?_
   refine JH.p 15 rfl (p_extract rfl rfl) ?_
   refine JH.p 16 rfl (p_extract rfl rfl) ?_
   refine JH.p 17 rfl (p_extract rfl rfl) ?_
   refine y1 18 ?_
   refine ya rfl fun b25 => ?_
   refine y1 19 ?_
   refine yst rfl rfl rfl ?_
   refine jA 20 rfl rfl ?_
   refine jA 21 rfl rfl ?_
   refine yd ?_
   exact zm ⟨_, _, _, _, _, _, _, rfl, rfl, zt, zt, zt, zt, zt, zt⟩ (Up.refl _ _)
  refine ya rfl fun b26 => ?_
  refine y1 13 ?_
  refine yc rfl rfl (fun w hw => c_spec_l05Sow r p ((p.player * r.pits) + move) (ok_ hw) (ok_ hw) (r5 := hG) (r6 := hg)) ?_
  intro A29 c29 bl29 bh29 A30 c30 bl30 bh30 A31 c31 bl31 bh31
  refine jM 14 rfl rfl ?_
  refine JH.p 15 rfl (p_extract rfl rfl) ?_
  refine JH.p 16 rfl (p_extract rfl rfl) ?_
  refine JH.p 17 rfl (p_extract rfl rfl) ?_
  refine y1 19 ?_
  refine yst rfl rfl rfl ?_
  refine jA 20 rfl rfl ?_
  refine jA 21 rfl rfl ?_
  refine yd ?_
  refine zh [3, 0, 0, 0, 0] ?_
  exact zm ⟨_, _, _, _, _, _, _, rfl, rfl, zt, zt, zt, zt, zt, zt⟩ (Up.refl _ _)
 rintro _ _ u19 ⟨b12, A11, c11, A9, c9, A10, c10, rfl, rfl, f19_0, f19_1, f19_2, f19_3, f19_4, f19_5⟩ x19
 refine zn ?_
 refine Js.seq <| zS <| Qm rfl <| Qt rfl <| JL.nil ?_
 refine zi (fun h32 h32' => ?_) fun h32 h32' => ?_
 ·
  have hT := M.sowMove_fail hc (by simpa using h32)
  have hq0 : [] = ((M.sowMove r p move).2.1).pits := rp_ hT
  have hq1 : [] = ((M.sowMove r p move).2.1).stores := rp_ hT
  have hq2 : 0 = ((M.sowMove r p move).2.1).last := rp_ hT
  have hq3 : 0 = ((M.sowMove r p move).2.1).laps := rp_ hT
  have hq4 : [] = (M.sowMove r p move).2.2 := rp_ hT
  have hq5 : 10 = (M.sowMove r p move).1 := rp_ hT
  refine zS <| Qb ?_
  refine zw 4 rfl rfl rfl ?_
  refine Qa rfl <| Qa rfl <| JL.nil ?_
  exact zro x19
 have hT := M.sowMove_T2 hc (by simpa using h32)
 have hq0 : (((M.sowT r p ((p.player * r.pits) + move)).1).pits) = ((M.sowMove r p move).2.1).pits := rp_ hT
 have hq1 : (((M.sowT r p ((p.player * r.pits) + move)).1).stores) = ((M.sowMove r p move).2.1).stores := rp_ hT
 have hq2 : (((M.sowT r p ((p.player * r.pits) + move)).1).last) = ((M.sowMove r p move).2.1).last := rp_ hT
 have hq3 : (((M.sowT r p ((p.player * r.pits) + move)).1).laps) = ((M.sowMove r p move).2.1).laps := rp_ hT
 have hq4 : ((M.sowT r p ((p.player * r.pits) + move)).2.1) = (M.sowMove r p move).2.2 := rp_ hT
 have hq5 : 0 = (M.sowMove r p move).1 := rp_ hT
 refine Js.skip <| zS <| Q9 0 rfl rfl ?_
 refine Qm rfl <| zw 4 rfl rfl rfl ?_
 refine Qa rfl <| Qa rfl <| JL.nil ?_
 exact zro x19
theorem c_spec_l16Key (x : M.Slo) {bx_p ox_p : Nat} {Ax_1 : Option Addr} {cx_1 : Nat} {w : World} (hex_1 : (Ty.ints 2 x.pits).ok w (.slice Ax_1 x.pits.length cx_1)) (hrx : RowAt w bx_p ox_p [.bool x.used, .slice Ax_1 x.pits.length cx_1, .int .i64 x.player, .int .i64 x.depth, .int .i64 x.value, .int .i64 x.bound]) (bd0 : x.pits.length ≤ cx_1 := by exact om_) (bd1 : cx_1 ≤ 9223372036854775807 := by exact om_) : Ret Tryz.prog 135 [.pointer (some ⟨bx_p, ox_p, none⟩)] w (Ty.agg [Ty.val (.slice Ax_1 x.pits.length cx_1), Ty.ints 2 [0, 0], Ty.int x.player]) := by
 refine enter @Tryz.func135 @Tryz.ntmps135 rfl rfl ?_
 refine zent ?_
 refine zS <| za zeh fun b1 => zJ ?_
 refine zdr [10] ?_
 refine jM 0 rfl rfl ?_
 refine jN 1 rfl rfl ?_
 refine jF 2 fld_49_1 rfl rfl ?_
 refine jW 3 ty_29 rfl rfl (fun hv => (hrx.vis hv) 1 _ rfl) ?_
 refine jM 5 rfl rfl ?_
 refine jN 6 rfl rfl ?_
 refine jF 7 fld_49_2 rfl rfl ?_
 refine jW 8 ty_2 rfl rfl (fun hv => (hrx.vis hv) 2 _ rfl) ?_
 refine y1 4 ?_
 refine ybs rfl fun b2 => ?_
 refine JH.p 9 rfl (q_bld) ?_
 refine y1 10 ?_
 refine yst rfl rfl rfl ?_
 refine yd ?_
 exact zro (Up.refl _ _)
theorem c_spec_l16Hash (pits : List Int) {v_pits : Value} (player size : Int) {w : World} (h_pits : (Ty.ints 2 pits).ok w v_pits) (r0 : M.allOk pits = true := by exact om_) (r1 : 0 ≤ player ∧ player ≤ 1 := by exact om_) (r2 : 0 < size := by exact om_) (r3 : size ≤ 4194304 := by exact om_) (r4 : pits.length ≤ 4194304 := by exact om_) : RetV Tryz.prog 134 [v_pits, .int .i64 player, .int .i64 size] w (.int .i64 (M.hashP pits player % size)) := by
 revert v_pits; apply opn
 intro A1 c1 h1 bl1 bh1
 have h_pits := h1
 refine enter @Tryz.func134 @Tryz.ntmps134 rfl rfl ?_
 refine zent ?_
 refine zS <| Qa rfl <| zN <| Qm rfl <| Qp rfl rfl <| Qa rfl <| zJ <| zS <| Qa rfl <| JL.nil <| Js.block ?_
 refine zl [0, 2] (fun F U l os u m => ∃ (k : Nat) (h : Int), l = F [(7, .int .i64 h), (8, .int .i64 (k : Int))] ∧ os = U [] ∧ (h = (pits.take k).foldl M.hashF (player + 1)) ∧ (0 ≤ h) ∧ (h < 1000003) ∧ (k ≤ pits.length) ∧ m = pits.length - k) ⟨0, player + 1, rfl, rfl, by rfl, by omega, by omega, zt, rfl⟩ ?_
 rintro _ _ u2 _ ⟨k, h, rfl, rfl, hH, hg0, hg1, hk, rfl⟩ x2
 refine zn ?_
 refine Js.seq <| zS <| Qm rfl <| Qm rfl <| Qz rfl <| Ql rfl rfl <| JL.nil ?_
 refine zi (fun h3 h3' => ?_) fun h3 h3' => ?_
 ·
  have hkk : k < pits.length := by have := h3'; omega
  have hx9 := M.allOk_nth r0 k
  obtain ⟨b4, o4, he4, hc4⟩ := ints_elem (Ty.mono _ h1 x2.vis) (i := k) (by omega)
  refine Js.skip <| Js.seq <| Js.block <| Js.region <| Qm rfl <| Qu rfl rfl <| Qm rfl <| Qm rfl <| Qq (p_indexAddr el_29 rfl rfl (by omega) (by omega) he4) <| QC hc4 rfl <| Qp rfl rfl <| Qq (p_rem rfl rfl (by omega) (Int.tmod_eq_emod_of_nonneg (by omega))) <| Qa rfl <| JL.nil ?_
  refine Js.blockEnd <| Js.region <| Qm rfl <| Qp rfl rfl <| Qa rfl <| JL.nil ?_
  exact zag ⟨k + 1, ((31 * h) + (M.nth pits k)) % 1000003, rfl, rfl, by rw [M.hash_step (by assumption), ← hH], by omega, by omega, zt, rfl⟩ x2
 have hE : h = M.hashP pits player := by rw [hH]; exact M.hash_all (by have := h3'; omega)
 refine zx ?_
 have hrn5 := Int.emod_nonneg h (b := size) (by omega)
 have hrl5 := Int.emod_lt_of_pos h (show 0 < size by omega)
 refine zS <| Qm rfl <| Qm rfl <| Qq (p_rem rfl rfl (by omega) (Int.tmod_eq_emod_of_nonneg (by omega))) <| Qa rfl <| JL.nil ?_
 refine zR x2 ?_
 rw [hE]; rfl
theorem c_spec_l16Value (n : Int) {w : World}  : RetV Tryz.prog 52 [.int .i64 n] w (.bool (M.betw n (-96) 96)) := by
 refine enter @Tryz.func52 @Tryz.ntmps52 rfl rfl ?_
 refine zent ?_
 refine zS <| Qa rfl <| zN <| Qm rfl <| zv rfl (fun w hw => c_spec_l00In n (-96) 96) <| Qa rfl <| JL.nil ?_
 exact zr (Up.refl _ _)
end Go.Proofs.YtmgnckfhghibeaaGreat

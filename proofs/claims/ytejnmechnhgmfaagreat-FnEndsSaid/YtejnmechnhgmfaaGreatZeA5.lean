/- Walks: K4. -/
import Derived.Test.YtejnmechnhgmfaaGreatZeA2
import Derived.Test.YtejnmechnhgmfaaGreatZeA4
import Derived.Test.YtejnmechnhgmfaaGreatZeA1
import Derived.Test.YtejnmechnhgmfaaGreatZeA3
set_option linter.unusedSimpArgs false
set_option linter.unusedVariables false
set_option maxRecDepth 100000
attribute [local irreducible] Go.Proofs.YtejnmechnhgmfaaGreat.gv
namespace Go.Proofs.YtejnmechnhgmfaaGreat
open Go.RowKit

set_option maxHeartbeats 1000000 in
theorem c_spec_l08Run (r : M.Rul) {v_r : Value} (p : M.Pos) {v_p : Value} (moves : List Int) {v_moves : Value} {w : World} (h_r : (Ty.ref (cRules r)).ok w v_r) (h_p : (Ty.ref (cPosition p)).ok w v_p) (h_moves : (Ty.ints 2 moves).ok w v_moves) (r0 : p.pits.length ≤ 4194304 := by exact om_) (r1 : p.stores.length ≤ 4194304 := by exact om_) (r2 : moves.length ≤ 4194304 := by exact om_) : Ret Tryz.prog 55 [v_r, v_p, v_moves] w (Ty.tup [Ty.sl 28 3 (M.hist p (M.runs r p moves)).length (lPosition (M.hist p (M.runs r p moves))), Ty.ints 2 (M.gains (M.runs r p moves))]) := by
 revert v_r; apply opn
 intro b1 o1 hr1
 revert v_p; apply opn
 intro b4 o4 A2 c2 h2 bl2 bh2 A3 c3 h3 bl3 bh3 hr4
 revert v_moves; apply opn
 intro A5 c5 h5 bl5 bh5
 have h_moves := h5
 refine enter @Tryz.func55 @Tryz.ntmps55 rfl rfl ?_
 refine zent ?_
 refine zS <| Qa rfl <| Qa rfl <| zN <| Qm rfl <| zcs rfl (fun w hw => c_spec_l04Own p (ok_ hw)) ?_
 intro A6_0 c6_0 bl6_0 bh6_0 A6_1 c6_1 bl6_1 bh6_1 f6
 refine zbs fun b7 => ?_
 refine Qa rfl <| zN <| zbs fun b9 => ?_
 refine Qa rfl <| zN <| Qm rfl <| zp rfl (fun w hw => c_spec_l04Own p (ok_ hw)) ?_
 intro u11 x11 A12 c12 h12 bl12 bh12 A13 c13 h13 bl13 bh13
 refine za zeh fun b14 => zw 0 rfl rfl rfl ?_
 refine zJ <| zS <| Qa rfl <| JL.nil <| Js.block ?_
 refine Js.vals (Ts := lPosition []) (vs := []) (fun w => rfl) ?_
 refine Js.joinL (i := 0) (j := 3) (Vs := lPosition ([] ++ [p])) rfl rfl (lPosition_snoc _ _) (fun f17 => ?_)
 refine zn ?_
 refine zl [0, 2, 10] (fun F U l os u m => ∃ (k : Nat) (now : M.Pos) (made : List M.Res) (out : List M.Pos) (gains : List Int) (A15_8 : Option Addr) (c15_8 : Nat) (g15_8 : List Nat) (vs15_8 : List Value) (fl15_8 : List Nat) (A15_9 : Option Addr) (c15_9 : Nat) (g15_9 : List Nat) (A15_10_0 : Option Addr) (c15_10_0 : Nat) (A15_10_1 : Option Addr) (c15_10_1 : Nat), l = F [(8, .slice A15_8 out.length c15_8), (9, .slice A15_9 gains.length c15_9), (11, .int .i64 (k : Int))] ∧ os = U [some (ownC (lPosition out) vs15_8 fl15_8), some (boxO b14 [.slice A15_10_0 now.pits.length c15_10_0, .slice A15_10_1 now.stores.length c15_10_1, .int .i64 now.player] 28), some (rowO 2 1 (.slice A15_9 gains.length c15_9) gains.length (ints_ gains) g15_9), some (rowO 28 3 (.slice A15_8 out.length c15_8) out.length vs15_8 g15_8)] ∧ (M.Run r p moves k now made) ∧ (out = M.hist p made) ∧ (gains = M.gains made) ∧ (now.pits.length ≤ 4194304) ∧ (now.stores.length ≤ 4194304) ∧ (out.length ≤ c15_8) ∧ (c15_8 ≤ 9223372036854775807) ∧ (gains.length ≤ c15_9) ∧ (c15_9 ≤ 9223372036854775807) ∧ ((Ty.ints 2 now.pits).ok u (.slice A15_10_0 now.pits.length c15_10_0)) ∧ (now.pits.length ≤ c15_10_0) ∧ (c15_10_0 ≤ 9223372036854775807) ∧ ((Ty.ints 2 now.stores).ok u (.slice A15_10_1 now.stores.length c15_10_1)) ∧ (now.stores.length ≤ c15_10_1) ∧ (c15_10_1 ≤ 9223372036854775807) ∧ m = moves.length - k) ⟨0, p, [], [p], [], _, _, _, _, _, _, _, _, _, _, _, _, rfl, rfl, by exact M.Run.zero _ _ _, by rfl, by rfl, zt, zt, zu, zu, zu, zu, h12, zu, zu, h13, zu, zu, rfl⟩ ?_
 rintro _ _ u15 _ ⟨k, now, made, out, gains, A15_8, c15_8, g15_8, vs15_8, fl15_8, A15_9, c15_9, g15_9, A15_10_0, c15_10_0, A15_10_1, c15_10_1, rfl, rfl, hR, hO, hGn, n0, n1, f15_5, f15_6, f15_7, f15_8, f15_9, f15_10, f15_11, f15_12, f15_13, f15_14, rfl⟩ x15
 refine zn ?_
 have hl1 := hR.len
 have hl3 := hR.le
 have hlO : out.length = made.length + 1 := by rw [hO]; simp
 have hlG : gains.length = made.length := by rw [hGn]; simp [M.gains]
 refine Js.seq <| zS <| Qm rfl <| Qm rfl <| Qz rfl <| Ql rfl rfl <| JL.nil ?_
 refine zi (fun h18 h18' => ?_) fun h18 h18' => ?_
 ·
  obtain ⟨b19, o19, he19, hc19⟩ := ints_elem (Ty.mono _ h5 (x11.vis.trans x15.vis)) (i := k) (by omega)
  refine Js.skip <| Js.seq <| Js.block <| zS <| Qm rfl <| Qm rfl <| Qm rfl <| Qq (p_indexAddr el_26 rfl rfl (by omega) (by omega) he19) <| QC hc19 rfl <| zp rfl (fun w hw => c_spec_l07Make r now (M.nth moves k) (ok_ hw) (ok_ hw)) ?_
  intro u20 x20 A21 c21 h21 bl21 bh21 A22 c22 h22 bl22 bh22
  refine Qm rfl <| Qx rfl rfl <| Qx rfl rfl <| za zeh fun b23 => zw 0 rfl rfl rfl ?_
  refine Qa rfl <| zJ <| zS <| Qm rfl <| Qd rfl rfl <| JL.nil ?_
  refine zi (fun h24 h24' => ?_) fun h24 h24' => ?_
  ·
   have hE := (hR.fail (by omega) (by simpa using h24)).1
   have hq0 : out = M.hist p (M.runs r p moves) := by first | (rw [hE]; exact hO) | (rw [hE]; exact hGn)
   have hq1 : gains = M.gains (M.runs r p moves) := by first | (rw [hE]; exact hO) | (rw [hE]; exact hGn)
   refine zS <| Qm rfl <| Qm rfl <| Qa rfl <| Qa rfl <| JL.nil ?_
   exact zro ((x11.trans x15).trans x20)
  have hm : (M.make r now (M.nth moves k)).2 = 0 := by simpa using h24
  have hR2 := hR.step (by omega) hm
  have hl2 := M.okP_len (M.make_ok hm).2.2.2.1
  refine Js.skip <| zS <| Qf fh rfl <| Q9 0 rfl rfl ?_
  refine zw 2 rfl rfl rfl ?_
  refine zN <| Qm rfl <| zcs rfl (fun w hw => c_spec_l04Own (((M.make r now (M.nth moves k)).1).next) (ok_ hw)) ?_
  intro A25_0 c25_0 bl25_0 bh25_0 A25_1 c25_1 bl25_1 bh25_1 f25
  refine zbs fun b26 => ?_
  refine JL.e (e_append (i := 6) (n' := (out ++ [(((M.make r now (M.nth moves k)).1).next)]).length) (vs' := vs15_8 ++ [.slice A25_0 (((((M.make r now (M.nth moves k)).1).next).pits).length) c25_0, .slice A25_1 (((((M.make r now (M.nth moves k)).1).next).stores).length) c25_1, .int .i64 ((((M.make r now (M.nth moves k)).1).next).player)]) el_32 rfl rfl rfl rfl (src_row (i := 0) und_32 rfl rfl) (by omega) (by omega) (by first | omega | (simp only [List.length_append, List.length_cons, List.length_nil] <;> omega)) (rfl)) ?_
  rintro v28 _ _ ⟨⟨g29, rfl⟩, rfl⟩ _
  refine JL.fact (row_form' (i := 6) rfl) (fun hf30 => ?_)
  obtain ⟨A30, c30, rfl, bl30, bh30⟩ := hf30
  refine znl ?_
  refine Qa rfl <| JL.nil ?_
  refine Js.joinL (i := 3) (j := 1) (Vs := lPosition (out ++ [(((M.make r now (M.nth moves k)).1).next)])) rfl rfl (lPosition_snoc _ _) (fun f32 => ?_)
  refine zn ?_
  refine Js.region <| Qm rfl <| Qf fh rfl <| Q0 2 rfl rfl rfl <| zbs fun b33 => ?_
  refine JL.e (e_append (i := 5) (n' := (gains ++ [(((M.make r now (M.nth moves k)).1).gain)]).length) (vs' := ints_ (gains ++ [(((M.make r now (M.nth moves k)).1).gain)])) el_26 rfl rfl rfl rfl (src_row (i := 0) und_26 rfl rfl) (by omega) (by omega) (by first | omega | (simp only [List.length_append, List.length_cons, List.length_nil] <;> omega)) (by simp [ints_])) ?_
  rintro v35 _ _ ⟨⟨g36, rfl⟩, rfl⟩ _
  refine JL.fact (row_form' (i := 5) rfl) (fun hf37 => ?_)
  obtain ⟨A37, c37, rfl, bl37, bh37⟩ := hf37
  refine znl ?_
  refine Qa rfl <| JL.nil <| Js.blockEnd <| Js.region <| Qm rfl <| Qp rfl rfl <| Qa rfl <| JL.nil ?_
  refine zd [1, 3, 3, 3] rfl fun u38 x38 => ?_
  exact zag ⟨k + 1, (((M.make r now (M.nth moves k)).1).next), made ++ [(M.make r now (M.nth moves k)).1], out ++ [(((M.make r now (M.nth moves k)).1).next)], gains ++ [(((M.make r now (M.nth moves k)).1).gain)], _, _, _, _, _, _, _, _, _, _, _, _, rfl, rfl, by exact hR2, by rw [hO]; exact (M.hist_snoc _ _ _).symm, by rw [hGn]; simp [M.gains], by exact hl2.1, by exact hl2.2, zu, zu, zu, zu, (Ty.mono _ h21 x38.vis), zu, zu, (Ty.mono _ h22 x38.vis), zu, zu, rfl⟩ ((x15.trans x20).trans x38)
 have hE := (hR.done (by have := h18'; omega)).1
 refine zx ?_
 have hq0 : out = M.hist p (M.runs r p moves) := by first | (rw [hE]; exact hO) | (rw [hE]; exact hGn)
 have hq1 : gains = M.gains (M.runs r p moves) := by first | (rw [hE]; exact hO) | (rw [hE]; exact hGn)
 refine zS <| Qm rfl <| Qm rfl <| Qa rfl <| Qa rfl <| JL.nil ?_
 exact zro (x11.trans x15)

set_option maxHeartbeats 1000000 in
theorem c_spec_l08Ok (g : M.Gam) {v_g : Value} {w : World} (h_g : (Ty.ref (cGame g)).ok w v_g) (r0 : g.start.pits.length ≤ 4194304 := by exact om_) (r1 : g.start.stores.length ≤ 4194304 := by exact om_) (r2 : g.moves.length ≤ 4194304 := by exact om_) (r3 : g.now.pits.length ≤ 4194304 := by exact om_) (r4 : g.now.stores.length ≤ 4194304 := by exact om_) : RetV Tryz.prog 54 [v_g] w (.bool (M.okG g)) := by
 revert v_g; apply opn
 intro b6 o6 A1 c1 h1 bl1 bh1 A2 c2 h2 bl2 bh2 A3 c3 h3 bl3 bh3 A4 c4 h4 bl4 bh4 A5 c5 h5 bl5 bh5 hr6
 refine enter @Tryz.func54 @Tryz.ntmps54 rfl rfl ?_
 refine zent ?_
 refine zS <| Qa rfl <| zJ <| Js.seq ?_
 refine zdr [] ?_
 refine JH.p 0 rfl (p_move rfl) ?_
 refine JH.p 1 rfl (p_nilCheck rfl) ?_
 refine JH.p 2 rfl (p_fieldAddr fld_30_0.h rfl) ?_
 refine JH.p 3 rfl (p_move rfl) ?_
 refine JH.p 4 rfl (p_nilCheck rfl) ?_
 refine JH.p 5 rfl (p_fieldAddr fld_30_1.h rfl) ?_
 refine y1 6 ?_
 refine yv rfl rfl (fun w hw => c_spec_l04Ok g.rules g.start (ok_ hw) (ok_ hw)) ?_
 refine JH.p 7 rfl (p_not rfl) ?_
 refine JH.p 8 rfl (p_move rfl) ?_
 refine JH.pg 9 rfl (Gd.f1 rfl rfl rfl) (fun hc => p_move rfl) ?_
 refine JH.pg 10 rfl (Gd.f1 rfl rfl rfl) (fun hc => p_nilCheck (gvt rfl hc)) ?_
 refine JH.pg 11 rfl (Gd.f1 rfl rfl rfl) (fun hc => p_fieldAddr fld_30_2.h (gvt rfl hc)) ?_
 refine JH.wg 12 rfl (Gd.f1 rfl rfl rfl) (fun hc os' u' hv => q_load1 ty_26.h (gvt rfl hc) (Mem.pub ((hr6.vis hv) 12 _ rfl))) ?_
 refine JH.pg 13 rfl (Gd.f1 rfl rfl rfl) (fun hc => p_len el_26 (gvt rfl hc)) ?_
 refine JH.pg 14 rfl (Gd.f1 rfl rfl rfl) (fun hc => p_gtr (gvt rfl hc) rfl) ?_
 refine JH.p 15 rfl (p_pickOr rfl rfl rfl) ?_
 refine JH.p 16 rfl (p_move rfl) ?_
 refine JH.pg 17 rfl (Gd.f1 rfl rfl rfl) (fun hc => p_move rfl) ?_
 refine JH.pg 18 rfl (Gd.f1 rfl rfl rfl) (fun hc => p_nilCheck (gvt rfl hc)) ?_
 refine JH.pg 19 rfl (Gd.f1 rfl rfl rfl) (fun hc => p_fieldAddr fld_30_4.h (gvt rfl hc)) ?_
 refine JH.wg 20 rfl (Gd.f1 rfl rfl rfl) (fun hc os' u' hv => q_load1 ty_2.h (gvt rfl hc) (Mem.pub ((hr6.vis hv) 16 _ rfl))) ?_
 refine y1 21 ?_
 refine JHo.ge rfl (Gd.f1 rfl rfl rfl) (fun hc => e_callV fn_78.h (opds_3 (gvt rfl hc) rfl rfl) (fun w hw => c_spec_l00In g.resigned (-1) 1)) ?_
 refine JH.pg 22 rfl (Gd.f1 rfl rfl rfl) (fun hc => p_not (gvt rfl hc)) ?_
 refine JH.p 23 rfl (p_pickOr rfl rfl rfl) ?_
 refine yd ?_
 refine zi (fun h7 h7' => ?_) fun h7 h7' => ?_
 ·
  refine zS <| Qa rfl <| JL.nil ?_
  refine zR (Up.refl _ _) ?_
  exact congrArg (fun b => Ending.returned (.bool b)) (M.okG_no (by simpa [or_assoc] using h7)).symm
 have ho : M.okP g.rules g.start = true ∧ (g.moves.length : Int) ≤ 120 ∧ M.betw g.resigned (-1) 1 = true := by simpa [and_assoc] using h7
 have hl3 := M.okP_len (M.lastPos_ok _ _ ho.1 (M.runs_ok g.moves _ ho.1))
 have hrl := M.runs_len g.rules g.moves g.start
 have hhl := M.hist_length g.start (M.runs g.rules g.start g.moves)
 refine Js.skip <| Js.seq ?_
 refine zdr [] ?_
 refine JH.p 0 rfl (p_move rfl) ?_
 refine JH.p 1 rfl (p_nilCheck rfl) ?_
 refine JH.p 2 rfl (p_fieldAddr fld_30_0.h rfl) ?_
 refine JH.p 3 rfl (p_move rfl) ?_
 refine JH.p 4 rfl (p_nilCheck rfl) ?_
 refine JH.p 5 rfl (p_fieldAddr fld_30_1.h rfl) ?_
 refine JH.p 6 rfl (p_move rfl) ?_
 refine JH.p 7 rfl (p_nilCheck rfl) ?_
 refine JH.p 8 rfl (p_fieldAddr fld_30_2.h rfl) ?_
 refine JH.w 9 rfl (fun os' u' hv => q_load1 ty_26.h rfl (Mem.pub ((hr6.vis hv) 12 _ rfl))) ?_
 refine y1 10 ?_
 refine yp rfl rfl (fun w hw => c_spec_l08Run g.rules g.start g.moves (ok_ hw) (ok_ hw) (ok_ hw)) ?_
 intro u8 x8 A9 c9 h9 bl9 bh9 A10 c10 h10 bl10 bh10
 refine JH.p 11 rfl (p_move rfl) ?_
 refine JH.p 12 rfl (p_extract rfl rfl) ?_
 refine JH.p 13 rfl (p_extract rfl rfl) ?_
 refine JH.p 14 rfl (p_assign rfl) ?_
 refine JH.p 15 rfl (p_assign rfl) ?_
 refine yd ?_
 refine Js.seq ?_
 refine zdr [] ?_
 refine JH.p 0 rfl (p_move rfl) ?_
 refine JH.p 1 rfl (p_len el_26 rfl) ?_
 refine JH.p 2 rfl (p_move rfl) ?_
 refine JH.p 3 rfl (p_nilCheck rfl) ?_
 refine JH.p 4 rfl (p_fieldAddr fld_30_2.h rfl) ?_
 refine JH.w 5 rfl (fun os' u' hv => q_load1 ty_26.h rfl (Mem.pub ((hr6.vis (x8.vis.trans hv)) 12 _ rfl))) ?_
 refine JH.p 6 rfl (p_len el_26 rfl) ?_
 refine JH.p 7 rfl (p_eql rfl rfl) ?_
 refine JH.p 8 rfl (p_move rfl) ?_
 refine JH.pg 9 rfl (Gd.t1 rfl rfl rfl) (fun hc => p_move rfl) ?_
 refine JH.pg 10 rfl (Gd.t1 rfl rfl rfl) (fun hc => p_move rfl) ?_
 refine JH.pg 11 rfl (Gd.t1 rfl rfl rfl) (fun hc => p_len el_32 (gvt rfl hc)) ?_
 refine JH.pg 12 rfl (Gd.t1 rfl rfl rfl) (fun hc => p_sub (gvt rfl hc) rfl (IntWalk.i64_in _ (by have hc9 := hc; (try simp only [decide_eq_true_eq] at hc9); omega))) ?_
 obtain ⟨y11, hy11⟩ : ∃ x, (M.hist g.start (M.runs g.rules g.start g.moves))[((((M.hist g.start (M.runs g.rules g.start g.moves)).length) : Int) - 1).toNat]? = some x := ⟨_, List.getElem?_eq_getElem (by omega)⟩
 obtain ⟨b11, o11, A11_0, c11_0, A11_1, c11_1, he11, hr11, h11_0, h11_1, bl11_0, bh11_0, bl11_1, bh11_1⟩ := elem_Position h9 hy11
 refine JH.pg 13 rfl (Gd.t1 rfl rfl rfl) (fun hc => p_indexAddr el_32 (gvt rfl hc) (gvt rfl hc) (by omega) (by omega) he11) ?_
 refine JH.pg 14 rfl (Gd.t1 rfl rfl rfl) (fun hc => p_move rfl) ?_
 refine JH.pg 15 rfl (Gd.t1 rfl rfl rfl) (fun hc => p_nilCheck (gvt rfl hc)) ?_
 refine JH.pg 16 rfl (Gd.t1 rfl rfl rfl) (fun hc => p_fieldAddr fld_30_3.h (gvt rfl hc)) ?_
 refine y1 17 ?_
 refine JHo.ge rfl (Gd.t1 rfl rfl rfl) (fun hc => e_callV fn_58.h (opds_2 (gvt rfl hc) (gvt rfl hc)) (fun w hw => c_spec_l04Same y11 g.now (ok_ hw) (ok_ hw) (r0 := (M.last_len (M.hist_last g.start (M.runs g.rules g.start g.moves)) hy11 (by omega) hl3).1) (r1 := (M.last_len (M.hist_last g.start (M.runs g.rules g.start g.moves)) hy11 (by omega) hl3).2) (r2 := (by have hc9 := hc; (try simp only [decide_eq_true_eq] at hc9); omega)) (r3 := (by have hc9 := hc; (try simp only [decide_eq_true_eq] at hc9); omega)))) ?_
 refine JH.p 18 rfl (p_pickAnd rfl rfl rfl) ?_
 refine JH.p 19 rfl (p_assign rfl) ?_
 refine yd ?_
 refine zR x8 ?_
 simp only [outV, M.gains_length]; rw [M.okG_spec ho.1 ho.2.1 ho.2.2 (by assumption) (by omega)]

set_option maxHeartbeats 1000000 in
theorem c_spec_l08Repeats (g : M.Gam) {v_g : Value} {w : World} (h_g : (Ty.ref (cGame g)).ok w v_g) (r0 : g.start.pits.length ≤ 4194304 := by exact om_) (r1 : g.start.stores.length ≤ 4194304 := by exact om_) (r2 : g.moves.length ≤ 4194304 := by exact om_) (r3 : g.now.pits.length ≤ 4194304 := by exact om_) (r4 : g.now.stores.length ≤ 4194304 := by exact om_) (r5 : M.okG g = true := by exact om_) : RetV Tryz.prog 57 [v_g] w (.int .i64 (M.count g.now (M.hist g.start (M.runs g.rules g.start g.moves)))) := by
 obtain ⟨k1, k2, k3, k4, k5, k6, k7, k8, k9⟩ := M.okG_parts r5
 have hhl := M.hist_length g.start (M.runs g.rules g.start g.moves)
 revert v_g; apply opn
 intro b6 o6 A1 c1 h1 bl1 bh1 A2 c2 h2 bl2 bh2 A3 c3 h3 bl3 bh3 A4 c4 h4 bl4 bh4 A5 c5 h5 bl5 bh5 hr6
 refine enter @Tryz.func57 @Tryz.ntmps57 rfl rfl ?_
 refine zent ?_
 refine zS <| Qa rfl <| zJ ?_
 refine zdr [] ?_
 refine JH.p 0 rfl (p_move rfl) ?_
 refine JH.p 1 rfl (p_nilCheck rfl) ?_
 refine JH.p 2 rfl (p_fieldAddr fld_30_0.h rfl) ?_
 refine JH.p 3 rfl (p_move rfl) ?_
 refine JH.p 4 rfl (p_nilCheck rfl) ?_
 refine JH.p 5 rfl (p_fieldAddr fld_30_1.h rfl) ?_
 refine JH.p 6 rfl (p_move rfl) ?_
 refine JH.p 7 rfl (p_nilCheck rfl) ?_
 refine JH.p 8 rfl (p_fieldAddr fld_30_2.h rfl) ?_
 refine JH.w 9 rfl (fun os' u' hv => q_load1 ty_26.h rfl (Mem.pub ((hr6.vis hv) 12 _ rfl))) ?_
 refine y1 10 ?_
 refine yp rfl rfl (fun w hw => c_spec_l08Run g.rules g.start g.moves (ok_ hw) (ok_ hw) (ok_ hw)) ?_
 intro u7 x7 A8 c8 h8 bl8 bh8 A9 c9 h9 bl9 bh9
 refine JH.p 11 rfl (p_move rfl) ?_
 refine JH.p 12 rfl (p_extract rfl rfl) ?_
 refine JH.p 13 rfl (p_extract rfl rfl) ?_
 refine JH.p 14 rfl (p_assign rfl) ?_
 refine JH.p 15 rfl (p_assign rfl) ?_
 refine yd ?_
 refine zS <| Qa rfl <| zJ <| zS <| Qa rfl <| JL.nil <| Js.block ?_
 refine zl [0, 3] (fun F U l os u m => ∃ (k : Nat) (n : Int), l = F [(5, .int .i64 n), (6, .int .i64 (k : Int))] ∧ os = U [] ∧ (n = M.count g.now ((M.hist g.start (M.runs g.rules g.start g.moves)).take k)) ∧ (k ≤ (M.runs g.rules g.start g.moves).length + 1) ∧ (0 ≤ n) ∧ (n ≤ k) ∧ m = (M.runs g.rules g.start g.moves).length + 1 - k) ⟨0, 0, rfl, rfl, by rfl, zt, zt, zt, rfl⟩ ?_
 rintro _ _ u10 _ ⟨k, n, rfl, rfl, hn, hk, n0, n1, rfl⟩ x10
 refine zn ?_
 refine Js.seq <| zS <| Qm rfl <| Qm rfl <| Qz rfl <| Ql rfl rfl <| JL.nil ?_
 refine zi (fun h11 h11' => ?_) fun h11 h11' => ?_
 ·
  refine Js.skip <| Js.seq <| Js.block <| Js.seq ?_
  refine zdr [] ?_
  refine JH.p 0 rfl (p_move rfl) ?_
  refine JH.p 1 rfl (p_move rfl) ?_
  obtain ⟨y12, hy12⟩ : ∃ x, (M.hist g.start (M.runs g.rules g.start g.moves))[k]? = some x := ⟨_, List.getElem?_eq_getElem (by omega)⟩
  obtain ⟨b12, o12, A12_0, c12_0, A12_1, c12_1, he12, hr12, h12_0, h12_1, bl12_0, bh12_0, bl12_1, bh12_1⟩ := elem_Position (Ty.mono _ h8 x10.vis) hy12
  refine JH.p 2 rfl (p_indexAddr el_32 rfl rfl (by omega) (by omega) he12) ?_
  refine JH.p 3 rfl (p_move rfl) ?_
  refine JH.p 4 rfl (p_nilCheck rfl) ?_
  refine JH.p 5 rfl (p_fieldAddr fld_30_3.h rfl) ?_
  refine y1 6 ?_
  refine yv rfl rfl (fun w hw => c_spec_l04Same y12 g.now (ok_ hw) (ok_ hw) (r0 := (M.okP_len (M.hist_ok r5 hy12)).1) (r1 := (M.okP_len (M.hist_ok r5 hy12)).2)) ?_
  refine yd ?_
  refine zi (fun h13 h13' => ?_) fun h13 h13' => ?_
  ·
   have hs : M.sameP _ _ = true := h13
   refine Js.region <| Qm rfl <| Qp rfl rfl <| Qa rfl <| JL.nil <| Js.blockEnd <| Js.region <| Qm rfl <| Qp rfl rfl <| Qa rfl <| JL.nil ?_
   exact zag ⟨k + 1, n + 1, rfl, rfl, by rw [M.count_step (by assumption)]; simp [hs, hn], zt, zt, zt, rfl⟩ x10
  have hs : M.sameP _ _ = false := h13
  refine Js.skip <| Js.blockEnd <| Js.region <| Qm rfl <| Qp rfl rfl <| Qa rfl <| JL.nil ?_
  exact zag ⟨k + 1, n, rfl, rfl, by rw [M.count_step (by assumption)]; simp [hs, hn], zt, zt, zt, rfl⟩ x10
 have hE : M.count g.now (M.hist g.start (M.runs g.rules g.start g.moves)) = n := by rw [hn, List.take_of_length_le (by have := h11'; omega)]
 refine zx ?_
 refine zS <| Qm rfl <| Qa rfl <| JL.nil ?_
 refine zR (x7.trans x10) ?_
 rw [hE]; rfl

end Go.Proofs.YtejnmechnhgmfaaGreat

namespace Go.Proofs.YtejnmechnhgmfaaGreat
open Go.RowKit

set_option maxHeartbeats 1000000 in
theorem c_spec_l07All (r : M.Rul) {v_r : Value} (p : M.Pos) {v_p : Value} {w : World} (h_r : (Ty.ref (cRules r)).ok w v_r) (h_p : (Ty.ref (cPosition p)).ok w v_p) (r0 : M.okP r p = true := by exact om_) : Ret Tryz.prog 123 [v_r, v_p] w (Ty.sl 79 6 (M.results r p).length (lResult (M.results r p))) := by
 obtain ⟨g1, g2, g3, g4, g5, g6, g7⟩ := M.okP_bd r0
 revert v_r; apply opn
 intro b1 o1 hr1
 revert v_p; apply opn
 intro b4 o4 A2 c2 h2 bl2 bh2 A3 c3 h3 bl3 bh3 hr4
 refine enter @Tryz.func123 @Tryz.ntmps123 rfl rfl ?_
 refine zent ?_
 refine zS <| Qa rfl <| zN <| zbs fun b5 => ?_
 refine Qa rfl <| zJ <| zS <| Qa rfl <| JL.nil <| Js.block ?_
 refine Js.vals (Ts := lResult []) (vs := []) (fun w => rfl) ?_
 refine zl [0, 1] (fun F U l os u m => ∃ (k : Nat) (acc : List M.Res) (A7_5 : Option Addr) (c7_5 : Nat) (g7_5 : List Nat) (vs7_5 : List Value) (fl7_5 : List Nat), l = F [(5, .slice A7_5 acc.length c7_5), (6, .int .i64 (k : Int))] ∧ os = U [some (ownC (lResult acc) vs7_5 fl7_5), some (rowO 79 6 (.slice A7_5 acc.length c7_5) acc.length vs7_5 g7_5)] ∧ (acc = M.resultsTo r p k) ∧ (k ≤ r.pits) ∧ (acc.length ≤ c7_5) ∧ (c7_5 ≤ 9223372036854775807) ∧ m = (r.pits - k).toNat) ⟨0, [], _, _, _, _, _, rfl, rfl, by rfl, zt, zu, zu, rfl⟩ ?_
 rintro _ _ u7 _ ⟨k, acc, A7_5, c7_5, g7_5, vs7_5, fl7_5, rfl, rfl, hacc, hk, f7_2, f7_3, rfl⟩ x7
 refine zn ?_
 have hlen := M.resultsTo_len (r := r) (p := p) k
 have hlacc : acc.length ≤ k := by rw [hacc]; exact hlen
 refine Js.seq <| zS <| Qm rfl <| Qm rfl <| Qc rfl <| Qf fh rfl <| QC ((hr1.vis x7.vis) 0 _ rfl) rfl <| Ql rfl rfl <| JL.nil ?_
 refine zi (fun h8 h8' => ?_) fun h8 h8' => ?_
 ·
  refine Js.skip <| Js.seq <| Js.block <| zS <| Qm rfl <| Qm rfl <| Qm rfl <| zc rfl (fun w hw => c_spec_l07Make r p (k : Int) (ok_ hw) (ok_ hw)) ?_
  intro A11 c11 bl11 bh11 A12 c12 bl12 bh12
  refine Qm rfl <| Qx rfl rfl <| Qx rfl rfl <| za zeh fun b13 => zw 0 rfl rfl rfl ?_
  refine Qa rfl <| zN <| Qm rfl <| Qe rfl rfl <| JL.nil ?_
  refine zi (fun h14 h14' => ?_) fun h14 h14' => ?_
  ·
   have hacc2 := (M.resultsTo_yes2 (r := r) (p := p) (k := k) (by simpa using h14)).symm
   refine Js.region <| Qm rfl <| Q9 0 rfl rfl ?_
   refine zbs fun b15 => ?_
   refine JL.e (e_append (i := 5) (n' := (acc ++ [((M.make r p (k : Int)).1)]).length) (vs' := vs7_5 ++ [.int .i64 (((M.make r p (k : Int)).1).move), .int .i64 (((M.make r p (k : Int)).1).gain), .bool (((M.make r p (k : Int)).1).again), .slice A11 (((((M.make r p (k : Int)).1).next).pits).length) c11, .slice A12 (((((M.make r p (k : Int)).1).next).stores).length) c12, .int .i64 ((((M.make r p (k : Int)).1).next).player)]) el_69 rfl rfl rfl rfl (src_row (i := 0) und_69 rfl rfl) (by omega) (by omega) (by first | omega | (simp only [List.length_append, List.length_cons, List.length_nil] <;> omega)) (rfl)) ?_
   rintro v17 _ _ ⟨⟨g18, rfl⟩, rfl⟩ _
   refine JL.fact (row_form' (i := 5) rfl) (fun hf19 => ?_)
   obtain ⟨A19, c19, rfl, bl19, bh19⟩ := hf19
   refine znl ?_
   refine Qa rfl <| JL.nil ?_
   refine Js.pack2 (i := 3) (j := 2) (cResult ((M.make r p (k : Int)).1)) [.int .i64 (((M.make r p (k : Int)).1).move), .int .i64 (((M.make r p (k : Int)).1).gain), .bool (((M.make r p (k : Int)).1).again), .slice A11 (((((M.make r p (k : Int)).1).next).pits).length) c11, .slice A12 (((((M.make r p (k : Int)).1).next).stores).length) c12, .int .i64 ((((M.make r p (k : Int)).1).next).player)] rfl rfl (fun w h1 h2 => pack_Result (ints_row h1 rfl) (ints_row h2 rfl)) (fun f20 => ?_)
   refine Js.joinL (i := 3) (j := 0) (Vs := lResult (acc ++ [((M.make r p (k : Int)).1)])) rfl rfl (lResult_snoc _ _) (fun f21 => ?_)
   refine zn ?_
   refine Js.blockEnd <| Js.region <| Qm rfl <| Qp rfl rfl <| Qa rfl <| JL.nil ?_
   refine zd [0, 2] rfl fun u22 x22 => ?_
   exact zag ⟨k + 1, acc ++ [((M.make r p (k : Int)).1)], _, _, _, _, _, rfl, rfl, by rw [hacc]; exact hacc2, zt, zu, zu, rfl⟩ (x7.trans x22)
  have hacc2 := (M.resultsTo_no2 (r := r) (p := p) (k := k) (by simpa using h14)).symm
  refine Js.skip <| Js.blockEnd <| Js.region <| Qm rfl <| Qp rfl rfl <| Qa rfl <| JL.nil ?_
  refine zd [3, 3] rfl fun u23 x23 => ?_
  exact zag ⟨k + 1, acc, _, _, _, _, _, rfl, rfl, by rw [hacc]; exact hacc2, zt, zu, zu, rfl⟩ (x7.trans x23)
 have hR : acc = M.results r p := by rw [hacc]; unfold M.results; rw [show k = r.pits.toNat by have := h8'; omega]
 refine zx ?_
 have hq0 : acc = M.results r p := by exact hR
 refine zS <| Qm rfl <| Qa rfl <| JL.nil ?_
 exact zro x7

set_option maxHeartbeats 1000000 in
theorem c_spec_CanMove (r : M.Rul) {v_r : Value} (p : M.Pos) {v_p : Value} {w : World} (h_r : (Ty.agg (cRules r)).ok w v_r) (h_p : (Ty.agg (cPosition p)).ok w v_p) (r0 : p.pits.length ≤ 4194304 := by exact om_) (r1 : p.stores.length ≤ 4194304 := by exact om_) (r2 : M.okP r p = true := by exact om_) : RetV Tryz.prog 114 [v_r, v_p] w (.bool (M.okP r p && decide (0 < (M.results r p).length))) := by
 revert v_r; apply opn
 revert v_p; apply opn
 intro A1 c1 h1 bl1 bh1 A2 c2 h2 bl2 bh2
 refine enter @Tryz.func114 @Tryz.ntmps114 rfl rfl ?_
 refine zent ?_
 refine zS <| zb rfl fun b3 => zb rfl fun b4 => Qa rfl <| zN <| zv rfl (fun w hw => c_spec_l04Ok r p (ok_ hw) (ok_ hw)) <| Qm rfl <| zT (Gd.t1 rfl rfl rfl) (show (M.okP r p) = true by simp [r2]) <| zp rfl (fun w hw => c_spec_l07All r p (ok_ hw) (ok_ hw) (r0 := r2)) ?_
 intro u5 x5 A6 c6 h6 bl6 bh6
 refine zT (Gd.t1 rfl rfl rfl) (show (M.okP r p) = true by simp [r2]) <| Qz rfl <| zT (Gd.t1 rfl rfl rfl) (show (M.okP r p) = true by simp [r2]) <| Qg rfl rfl <| Qq (p_pickAnd2 rfl rfl rfl) <| Qa rfl <| JL.nil ?_
 refine zR x5 ?_
 simp [outV]

set_option maxHeartbeats 1000000 in
theorem c_spec_l09All (p : M.Pos) {v_p : Value} {w : World} (h_p : (Ty.ref (cPosition p)).ok w v_p) (r0 : p.pits.length ≤ 4194304 := by exact om_) (r1 : p.stores.length ≤ 4194304 := by exact om_) (r2 : M.sum4 p.pits = M.isum p.pits := by exact om_) (r3 : M.sum4 p.stores = M.isum p.stores := by exact om_) : RetV Tryz.prog 127 [v_p] w (.int .i64 (M.all p)) := by
 have b1 := M.sum4_bd p.pits
 have b2 := M.sum4_bd p.stores
 revert v_p; apply opn
 intro b3 o3 A1 c1 h1 bl1 bh1 A2 c2 h2 bl2 bh2 hr3
 refine enter @Tryz.func127 @Tryz.ntmps127 rfl rfl ?_
 refine zent ?_
 refine zS <| Qa rfl <| zJ ?_
 refine zdr [] ?_
 refine JH.p 0 rfl (p_move rfl) ?_
 refine JH.p 1 rfl (p_nilCheck rfl) ?_
 refine JH.p 2 rfl (p_fieldAddr fld_28_0.h rfl) ?_
 refine JH.w 3 rfl (fun os' u' hv => q_load1 ty_26.h rfl (Mem.pub ((hr3.vis hv) 0 _ rfl))) ?_
 refine JH.p 5 rfl (p_move rfl) ?_
 refine JH.p 6 rfl (p_nilCheck rfl) ?_
 refine JH.p 7 rfl (p_fieldAddr fld_28_1.h rfl) ?_
 refine JH.w 8 rfl (fun os' u' hv => q_load1 ty_26.h rfl (Mem.pub ((hr3.vis hv) 1 _ rfl))) ?_
 refine y1 4 ?_
 refine yv rfl rfl (fun w hw => c_spec_l04Sum p.pits (ok_ hw)) ?_
 refine y1 9 ?_
 refine yv rfl rfl (fun w hw => c_spec_l04Sum p.stores (ok_ hw)) ?_
 refine JH.p 10 rfl (p_add rfl rfl (IntWalk.i64_in _ (by omega))) ?_
 refine JH.p 11 rfl (p_assign rfl) ?_
 refine yd ?_
 refine zR (Up.refl _ _) ?_
 rw [r2, r3]; rfl

set_option maxHeartbeats 1000000 in
theorem c_spec_l09Majority (p : M.Pos) {v_p : Value} {w : World} (h_p : (Ty.ref (cPosition p)).ok w v_p) (r0 : p.pits.length ≤ 4194304 := by exact om_) (r1 : p.stores.length = 2 := by exact om_) (r2 : M.sum4 p.pits = M.isum p.pits := by exact om_) (r3 : M.sum4 p.stores = M.isum p.stores := by exact om_) (r4 : ∀ k : Int, 0 ≤ M.getI p.stores k ∧ M.getI p.stores k ≤ 96 := by exact om_) : RetV Tryz.prog 113 [v_p] w (.int .i64 (M.majority p)) := by
 revert v_p; apply opn
 intro b3 o3 A1 c1 h1 bl1 bh1 A2 c2 h2 bl2 bh2 hr3
 refine enter @Tryz.func113 @Tryz.ntmps113 rfl rfl ?_
 refine zent ?_
 refine zS <| Qa rfl <| zJ <| zS <| Qa rfl <| JL.nil <| Js.block ?_
 refine zl [0] (fun F U l os u m => ∃ (k : Nat), l = F [(3, .int .i64 (k : Int))] ∧ os = U [] ∧ (k ≤ 2) ∧ (M.noMaj p (k : Int)) ∧ m = 2 - k) ⟨0, rfl, rfl, zt, by exact M.noMaj_zero p, rfl⟩ ?_
 rintro _ _ u4 _ ⟨k, rfl, rfl, hk, hN, rfl⟩ x4
 refine zn ?_
 have hv := r4 (k : Int)
 rw [M.nth_getI] at hv
 refine Js.seq <| zS <| Qm rfl <| Ql rfl rfl <| JL.nil ?_
 refine zi (fun h5 h5' => ?_) fun h5 h5' => ?_
 ·
  refine Js.skip <| Js.seq <| Js.block <| Js.seq ?_
  refine zdr [] ?_
  refine JH.p 0 rfl (p_move rfl) ?_
  refine JH.p 1 rfl (p_nilCheck rfl) ?_
  refine JH.p 2 rfl (p_fieldAddr fld_28_1.h rfl) ?_
  refine JH.w 3 rfl (fun os' u' hv => q_load1 ty_26.h rfl (Mem.pub ((hr3.vis (x4.vis.trans hv)) 1 _ rfl))) ?_
  refine JH.p 4 rfl (p_move rfl) ?_
  obtain ⟨b6, o6, he6, hc6⟩ := ints_elem (Ty.mono _ h2 x4.vis) (i := k) (by omega)
  refine JH.p 5 rfl (p_indexAddr el_26 rfl rfl (by omega) (by omega) he6) ?_
  refine JH.w 6 rfl (fun os' u' hv => q_load1 ty_2.h rfl (Mem.pub (hc6.vis hv))) ?_
  refine JH.p 7 rfl (p_mul rfl rfl (IntWalk.i64_in _ (by omega))) ?_
  refine JH.p 8 rfl (p_move rfl) ?_
  refine y1 9 ?_
  refine yv rfl rfl (fun w hw => c_spec_l09All p (ok_ hw) (r2 := r2) (r3 := r3)) ?_
  refine JH.p 10 rfl (p_gtr rfl rfl) ?_
  refine yd ?_
  refine zi (fun h7 h7' => ?_) fun h7 h7' => ?_
  ·
   have hj : M.all p < 2 * M.getI p.stores (k : Int) := by rw [M.nth_getI]; simpa using h7
   have hE := M.majority_at hN (by omega) (by omega) hj
   refine zS <| Qm rfl <| Qa rfl <| JL.nil ?_
   refine zR x4 ?_
   rw [hE]; rfl
  have hj : ¬ M.all p < 2 * M.getI p.stores (k : Int) := by rw [M.nth_getI]; simpa using h7
  refine Js.skip <| Js.blockEnd <| Js.region <| Qm rfl <| Qp rfl rfl <| Qa rfl <| JL.nil ?_
  exact zag ⟨k + 1, rfl, rfl, zt, by exact M.noMaj_step hN hj, rfl⟩ x4
 have hE := M.majority_no hN (by have := h5'; omega)
 refine zx ?_
 refine zS <| Qa rfl <| JL.nil ?_
 refine zR x4 ?_
 rw [hE]; rfl

set_option maxHeartbeats 1000000 in
theorem c_spec_l09Settle (r : M.Rul) {v_r : Value} (p : M.Pos) {v_p : Value} {w : World} (h_r : (Ty.ref (cRules r)).ok w v_r) (h_p : (Ty.ref (cPosition p)).ok w v_p) (r0 : M.okP r p = true := by exact om_) : Ret Tryz.prog 116 [v_r, v_p] w (Ty.agg (cPosition (M.settle r p))) := by
 obtain ⟨g1, g2, g3, g4, g5, g6, g7⟩ := M.okP_bd r0
 revert v_r; apply opn
 intro b1 o1 hr1
 revert v_p; apply opn
 intro b4 o4 A2 c2 h2 bl2 bh2 A3 c3 h3 bl3 bh3 hr4
 refine enter @Tryz.func116 @Tryz.ntmps116 rfl rfl ?_
 refine zent ?_
 refine zS <| za zeh fun b5 => zJ ?_
 refine zk [0, 1, 4] (fun F U l os u => ∃ (b8 b6 : Nat) (A7 : Option Addr) (c7 : Nat), l = F [(5, .pointer (some ⟨b8, 0, none⟩))] ∧ os = [boxO b8 [.slice (some ⟨b6, 0, none⟩) p.pits.length p.pits.length, .slice A7 p.stores.length c7, .int .i64 p.player] 28, rowO 2 1 (.slice A7 p.stores.length c7) p.stores.length (ints_ p.stores) [], rowO 2 1 (.slice (some ⟨b6, 0, none⟩) p.pits.length p.pits.length) p.pits.length (ints_ (List.replicate p.pits.length 0)) []] ++ U [] ∧ (p.stores.length ≤ c7) ∧ (c7 ≤ 9223372036854775807)) ?_ ?_
 ·
  refine zdr [17] ?_
  refine JH.p 0 rfl (p_move rfl) ?_
  refine JH.p 1 rfl (p_nilCheck rfl) ?_
  refine JH.p 2 rfl (p_fieldAddr fld_28_0.h rfl) ?_
  refine JH.w 3 rfl (fun os' u' hv => q_load1 ty_26.h rfl (Mem.pub ((hr4.vis hv) 0 _ rfl))) ?_
  refine JH.p 4 rfl (p_len el_26 rfl) ?_
  refine JH.p 6 rfl (p_move rfl) ?_
  refine JH.p 7 rfl (p_nilCheck rfl) ?_
  refine JH.p 8 rfl (p_fieldAddr fld_28_1.h rfl) ?_
  refine JH.w 9 rfl (fun os' u' hv => q_load1 ty_26.h rfl (Mem.pub ((hr4.vis hv) 1 _ rfl))) ?_
  refine JH.p 11 rfl (p_move rfl) ?_
  refine JH.p 12 rfl (p_nilCheck rfl) ?_
  refine JH.p 13 rfl (p_fieldAddr fld_28_2.h rfl) ?_
  refine JH.w 14 rfl (fun os' u' hv => q_load1 ty_2.h rfl (Mem.pub ((hr4.vis hv) 2 _ rfl))) ?_
  refine y3 5 10 16 ?_ ?_ ?_
  ·
   refine JHo.e rfl (e_makeI (m := p.pits.length) el_26 rfl rfl rfl (by omega) (by omega)) (.inl rfl) ?_
   rintro _ _ _ ⟨b22, rfl, rfl, rfl⟩ _
   refine znh ?_
   refine y2 10 16 ?_ ?_
   ·
    refine ycs rfl rfl (fun w hw => c_spec_l00Own p.stores (ok_ hw)) ?_
    intro A23 c23 bl23 bh23
    refine JH.p 15 rfl (q_bld) ?_
    refine y1 16 ?_
    refine ya rfl fun b24 => ?_
    refine y1 17 ?_
    refine yst rfl rfl rfl ?_
    refine yd ?_
    exact zm ⟨_, _, _, _, rfl, rfl, zt, zt⟩ (Up.refl _ _)
   refine ya rfl fun b25 => ?_
   refine y1 10 ?_
   refine ycs rfl rfl (fun w hw => c_spec_l00Own p.stores (ok_ hw)) ?_
   intro A26 c26 bl26 bh26
   refine JH.p 15 rfl (q_bld) ?_
   refine y1 17 ?_
   refine yst rfl rfl rfl ?_
   refine yd ?_
   refine zh [1, 0, 0, 0] ?_
   exact zm ⟨_, _, _, _, rfl, rfl, zt, zt⟩ (Up.refl _ _)
  ·
   refine ycs rfl rfl (fun w hw => c_spec_l00Own p.stores (ok_ hw)) ?_
   intro A27 c27 bl27 bh27
   refine y2 5 16 ?_ ?_
   ·
    refine JHo.e rfl (e_makeI (m := p.pits.length) el_26 rfl rfl rfl (by omega) (by omega)) (.inl rfl) ?_
    rintro _ _ _ ⟨b28, rfl, rfl, rfl⟩ _
    refine znh ?_
    refine JH.p 15 rfl (q_bld) ?_
    refine y1 16 ?_
    refine ya rfl fun b29 => ?_
    refine y1 17 ?_
    refine yst rfl rfl rfl ?_
    refine yd ?_
    refine zh [0, 1, 0, 0] ?_
    exact zm ⟨_, _, _, _, rfl, rfl, zt, zt⟩ (Up.refl _ _)
   refine ya rfl fun b30 => ?_
   refine y1 5 ?_
   refine JHo.e rfl (e_makeI (m := p.pits.length) el_26 rfl rfl rfl (by omega) (by omega)) (.inl rfl) ?_
   rintro _ _ _ ⟨b31, rfl, rfl, rfl⟩ _
   refine znh ?_
   refine JH.p 15 rfl (q_bld) ?_
   refine y1 17 ?_
   refine yst rfl rfl rfl ?_
   refine yd ?_
   refine zh [1, 1, 0, 0] ?_
   exact zm ⟨_, _, _, _, rfl, rfl, zt, zt⟩ (Up.refl _ _)
  refine ya rfl fun b32 => ?_
  refine y2 5 10 ?_ ?_
  ·
   refine JHo.e rfl (e_makeI (m := p.pits.length) el_26 rfl rfl rfl (by omega) (by omega)) (.inl rfl) ?_
   rintro _ _ _ ⟨b33, rfl, rfl, rfl⟩ _
   refine znh ?_
   refine y1 10 ?_
   refine ycs rfl rfl (fun w hw => c_spec_l00Own p.stores (ok_ hw)) ?_
   intro A34 c34 bl34 bh34
   refine JH.p 15 rfl (q_bld) ?_
   refine y1 17 ?_
   refine yst rfl rfl rfl ?_
   refine yd ?_
   refine zh [2, 0, 0, 0] ?_
   exact zm ⟨_, _, _, _, rfl, rfl, zt, zt⟩ (Up.refl _ _)
  refine ycs rfl rfl (fun w hw => c_spec_l00Own p.stores (ok_ hw)) ?_
  intro A35 c35 bl35 bh35
  refine y1 5 ?_
  refine JHo.e rfl (e_makeI (m := p.pits.length) el_26 rfl rfl rfl (by omega) (by omega)) (.inl rfl) ?_
  rintro _ _ _ ⟨b36, rfl, rfl, rfl⟩ _
  refine znh ?_
  refine JH.p 15 rfl (q_bld) ?_
  refine y1 17 ?_
  refine yst rfl rfl rfl ?_
  refine yd ?_
  refine zh [2, 1, 0, 0] ?_
  exact zm ⟨_, _, _, _, rfl, rfl, zt, zt⟩ (Up.refl _ _)
 rintro _ _ u21 ⟨b8, b6, A7, c7, rfl, rfl, f21_0, f21_1⟩ x21
 refine zn ?_
 refine Js.seq <| zS <| Qa rfl <| JL.nil <| Js.block ?_
 refine zl [0, 1, 4, 5] (fun F U l os u m => ∃ (k : Nat) (ss : List Int), l = F [(6, .int .i64 (k : Int))] ∧ os = U [nO, some (rowO 2 1 (.slice A7 p.stores.length c7) p.stores.length (ints_ ss) [])] ∧ (ss = M.setT r p k) ∧ (k ≤ 2) ∧ (ss.length = p.stores.length) ∧ m = 2 - k) ⟨0, p.stores, rfl, rfl, by rfl, zt, by rfl, rfl⟩ ?_
 rintro _ _ u37 _ ⟨k, ss, rfl, rfl, hX, hk, hl, rfl⟩ x37
 refine zn ?_
 have hv := M.setT_bd r0 k (k : Int)
 rw [← hX, M.nth_getI] at hv
 have hw9 := M.side_bd g5 g2 (k : Int)
 refine Js.seq <| zS <| Qm rfl <| Ql rfl rfl <| JL.nil ?_
 refine zi (fun h38 h38' => ?_) fun h38 h38' => ?_
 ·
  refine Js.skip <| Js.seq <| Js.block ?_
  refine zdr [14] ?_
  refine JH.p 0 rfl (p_fieldAddr fld_28_1.h rfl) ?_
  refine JH.q 1 rfl (q_load1 ty_26.h rfl (Mem.box (i := 0) rfl rfl)) ?_
  refine JH.p 2 rfl (p_move rfl) ?_
  refine JH.fact (row_some (i := 1) rfl (by omega)) (fun hf40 => ?_)
  obtain ⟨b40, rfl⟩ := hf40
  refine JH.p 3 rfl (p_indexAddr el_26 rfl rfl (by omega) (by omega) rfl) ?_
  refine JH.q 4 rfl (q_load1 ty_2.h rfl (Mem.row (i := 1) rfl (ints_get (i := k) (by omega)))) ?_
  refine JH.p 5 rfl (p_move rfl) ?_
  refine JH.p 6 rfl (p_move rfl) ?_
  refine JH.p 7 rfl (p_nilCheck rfl) ?_
  refine JH.p 8 rfl (p_fieldAddr fld_28_0.h rfl) ?_
  refine JH.w 9 rfl (fun os' u' hv => q_load1 ty_26.h rfl (Mem.pub ((hr4.vis ((x21.vis.trans x37.vis).trans hv)) 0 _ rfl))) ?_
  refine JH.p 10 rfl (p_move rfl) ?_
  refine y1 11 ?_
  refine yv rfl rfl (fun w hw => c_spec_l04Side r p.pits (k : Int) (ok_ hw) (ok_ hw) (r4 := g5)) ?_
  refine JH.p 12 rfl (p_add rfl rfl (IntWalk.i64_in _ (by omega))) ?_
  refine JH.p 13 rfl (p_indexAddr el_26 rfl rfl (by omega) (by omega) rfl) ?_
  refine y1 14 ?_
  refine JHo.s rfl (e_storeRow (i := 1) (xs' := ints_ (ss.set k ((M.nth ss k) + (M.side r p.pits (k : Int))))) ty_2.h rfl rfl rfl rfl rfl rfl (ints_lt (i := k) (by omega)) (ints_setL (i := k) (by omega))) (.inr rfl) ?_
  rintro _ _ _ ⟨rfl, rfl⟩ _
  refine znh ?_
  refine yd ?_
  refine Js.blockEnd <| Js.region <| Qm rfl <| Qp rfl rfl <| Qa rfl <| JL.nil ?_
  exact zag ⟨k + 1, ss.set k ((M.nth ss k) + (M.side r p.pits (k : Int))), rfl, rfl, by rw [hX]; simp [M.setT, M.setI, M.getI], zt, by rw [List.length_set]; exact hl, rfl⟩ x37
 have hE : ss = (M.settle r p).stores := by rw [hX, show k = 2 by have := h38'; omega]; rfl
 refine zx ?_
 have hq0 : (List.replicate p.pits.length 0) = (M.settle r p).pits := by first | exact hE | rfl
 have hq1 : ss = (M.settle r p).stores := by first | exact hE | rfl
 have hq2 : p.player = (M.settle r p).player := by first | exact hE | rfl
 refine zS <| Q9 0 rfl rfl ?_
 refine zw 3 rfl rfl rfl ?_
 refine JL.nil ?_
 exact zro (x21.trans x37)

set_option maxHeartbeats 1000000 in
theorem c_spec_l09Give (p : M.Pos) {v_p : Value} (player : Int) {w : World} (h_p : (Ty.ref (cPosition p)).ok w v_p) (r0 : p.pits.length ≤ 4194304 := by exact om_) (r1 : p.stores.length = 2 := by exact om_) (r2 : player = 0 ∨ player = 1 := by exact om_) (r3 : M.sum4 p.pits = M.isum p.pits := by exact om_) (r4 : M.allOk p.stores = true := by exact om_) : Ret Tryz.prog 115 [v_p, .int .i64 player] w (Ty.agg (cPosition (M.give p player))) := by
 have b1 := M.sum4_bd p.pits
 have hv2 := M.allOk_getI r4 player
 revert v_p; apply opn
 intro b3 o3 A1 c1 h1 bl1 bh1 A2 c2 h2 bl2 bh2 hr3
 refine enter @Tryz.func115 @Tryz.ntmps115 rfl rfl ?_
 refine zent ?_
 refine zS <| za zeh fun b4 => zJ ?_
 refine zk [0, 1, 4] (fun F U l os u => ∃ (b7 b5 : Nat) (A6 : Option Addr) (c6 : Nat), l = F [(5, .pointer (some ⟨b7, 0, none⟩))] ∧ os = [boxO b7 [.slice (some ⟨b5, 0, none⟩) p.pits.length p.pits.length, .slice A6 p.stores.length c6, .int .i64 p.player] 28, rowO 2 1 (.slice A6 p.stores.length c6) p.stores.length (ints_ p.stores) [], rowO 2 1 (.slice (some ⟨b5, 0, none⟩) p.pits.length p.pits.length) p.pits.length (ints_ (List.replicate p.pits.length 0)) []] ++ U [] ∧ (p.stores.length ≤ c6) ∧ (c6 ≤ 9223372036854775807)) ?_ ?_
 ·
  refine zdr [17] ?_
  refine JH.p 0 rfl (p_move rfl) ?_
  refine JH.p 1 rfl (p_nilCheck rfl) ?_
  refine JH.p 2 rfl (p_fieldAddr fld_28_0.h rfl) ?_
  refine JH.w 3 rfl (fun os' u' hv => q_load1 ty_26.h rfl (Mem.pub ((hr3.vis hv) 0 _ rfl))) ?_
  refine JH.p 4 rfl (p_len el_26 rfl) ?_
  refine JH.p 6 rfl (p_move rfl) ?_
  refine JH.p 7 rfl (p_nilCheck rfl) ?_
  refine JH.p 8 rfl (p_fieldAddr fld_28_1.h rfl) ?_
  refine JH.w 9 rfl (fun os' u' hv => q_load1 ty_26.h rfl (Mem.pub ((hr3.vis hv) 1 _ rfl))) ?_
  refine JH.p 11 rfl (p_move rfl) ?_
  refine JH.p 12 rfl (p_nilCheck rfl) ?_
  refine JH.p 13 rfl (p_fieldAddr fld_28_2.h rfl) ?_
  refine JH.w 14 rfl (fun os' u' hv => q_load1 ty_2.h rfl (Mem.pub ((hr3.vis hv) 2 _ rfl))) ?_
  refine y3 5 10 16 ?_ ?_ ?_
  ·
   refine JHo.e rfl (e_makeI (m := p.pits.length) el_26 rfl rfl rfl (by omega) (by omega)) (.inl rfl) ?_
   rintro _ _ _ ⟨b21, rfl, rfl, rfl⟩ _
   refine znh ?_
   refine y2 10 16 ?_ ?_
   ·
    refine ycs rfl rfl (fun w hw => c_spec_l00Own p.stores (ok_ hw)) ?_
    intro A22 c22 bl22 bh22
    refine JH.p 15 rfl (q_bld) ?_
    refine y1 16 ?_
    refine ya rfl fun b23 => ?_
    refine y1 17 ?_
    refine yst rfl rfl rfl ?_
    refine yd ?_
    exact zm ⟨_, _, _, _, rfl, rfl, zt, zt⟩ (Up.refl _ _)
   refine ya rfl fun b24 => ?_
   refine y1 10 ?_
   refine ycs rfl rfl (fun w hw => c_spec_l00Own p.stores (ok_ hw)) ?_
   intro A25 c25 bl25 bh25
   refine JH.p 15 rfl (q_bld) ?_
   refine y1 17 ?_
   refine yst rfl rfl rfl ?_
   refine yd ?_
   refine zh [1, 0, 0, 0] ?_
   exact zm ⟨_, _, _, _, rfl, rfl, zt, zt⟩ (Up.refl _ _)
  ·
   refine ycs rfl rfl (fun w hw => c_spec_l00Own p.stores (ok_ hw)) ?_
   intro A26 c26 bl26 bh26
   refine y2 5 16 ?_ ?_
   ·
    refine JHo.e rfl (e_makeI (m := p.pits.length) el_26 rfl rfl rfl (by omega) (by omega)) (.inl rfl) ?_
    rintro _ _ _ ⟨b27, rfl, rfl, rfl⟩ _
    refine znh ?_
    refine JH.p 15 rfl (q_bld) ?_
    refine y1 16 ?_
    refine ya rfl fun b28 => ?_
    refine y1 17 ?_
    refine yst rfl rfl rfl ?_
    refine yd ?_
    refine zh [0, 1, 0, 0] ?_
    exact zm ⟨_, _, _, _, rfl, rfl, zt, zt⟩ (Up.refl _ _)
   refine ya rfl fun b29 => ?_
   refine y1 5 ?_
   refine JHo.e rfl (e_makeI (m := p.pits.length) el_26 rfl rfl rfl (by omega) (by omega)) (.inl rfl) ?_
   rintro _ _ _ ⟨b30, rfl, rfl, rfl⟩ _
   refine znh ?_
   refine JH.p 15 rfl (q_bld) ?_
   refine y1 17 ?_
   refine yst rfl rfl rfl ?_
   refine yd ?_
   refine zh [1, 1, 0, 0] ?_
   exact zm ⟨_, _, _, _, rfl, rfl, zt, zt⟩ (Up.refl _ _)
  refine ya rfl fun b31 => ?_
  refine y2 5 10 ?_ ?_
  ·
   refine JHo.e rfl (e_makeI (m := p.pits.length) el_26 rfl rfl rfl (by omega) (by omega)) (.inl rfl) ?_
   rintro _ _ _ ⟨b32, rfl, rfl, rfl⟩ _
   refine znh ?_
   refine y1 10 ?_
   refine ycs rfl rfl (fun w hw => c_spec_l00Own p.stores (ok_ hw)) ?_
   intro A33 c33 bl33 bh33
   refine JH.p 15 rfl (q_bld) ?_
   refine y1 17 ?_
   refine yst rfl rfl rfl ?_
   refine yd ?_
   refine zh [2, 0, 0, 0] ?_
   exact zm ⟨_, _, _, _, rfl, rfl, zt, zt⟩ (Up.refl _ _)
  refine ycs rfl rfl (fun w hw => c_spec_l00Own p.stores (ok_ hw)) ?_
  intro A34 c34 bl34 bh34
  refine y1 5 ?_
  refine JHo.e rfl (e_makeI (m := p.pits.length) el_26 rfl rfl rfl (by omega) (by omega)) (.inl rfl) ?_
  rintro _ _ _ ⟨b35, rfl, rfl, rfl⟩ _
  refine znh ?_
  refine JH.p 15 rfl (q_bld) ?_
  refine y1 17 ?_
  refine yst rfl rfl rfl ?_
  refine yd ?_
  refine zh [2, 1, 0, 0] ?_
  exact zm ⟨_, _, _, _, rfl, rfl, zt, zt⟩ (Up.refl _ _)
 rintro _ _ u20 ⟨b7, b5, A6, c6, rfl, rfl, f20_0, f20_1⟩ x20
 refine zn ?_
 refine Js.seq ?_
 refine zdr [12] ?_
 refine JH.p 0 rfl (p_fieldAddr fld_28_1.h rfl) ?_
 refine JH.q 1 rfl (q_load1 ty_26.h rfl (Mem.box (i := 0) rfl rfl)) ?_
 refine JH.p 2 rfl (p_move rfl) ?_
 refine JH.fact (row_some (i := 1) rfl (by omega)) (fun hf37 => ?_)
 obtain ⟨b37, rfl⟩ := hf37
 refine JH.p 3 rfl (p_indexAddr el_26 rfl rfl (by omega) (by omega) rfl) ?_
 refine JH.q 4 rfl (q_load1 ty_2.h rfl (Mem.row (i := 1) rfl (ints_getI (i := player) (by omega)))) ?_
 refine JH.p 5 rfl (p_move rfl) ?_
 refine JH.p 6 rfl (p_nilCheck rfl) ?_
 refine JH.p 7 rfl (p_fieldAddr fld_28_0.h rfl) ?_
 refine JH.w 8 rfl (fun os' u' hv => q_load1 ty_26.h rfl (Mem.pub ((hr3.vis (x20.vis.trans hv)) 0 _ rfl))) ?_
 refine y1 9 ?_
 refine yv rfl rfl (fun w hw => c_spec_l04Sum p.pits (ok_ hw)) ?_
 refine JH.p 10 rfl (p_add rfl rfl (IntWalk.i64_in _ (by omega))) ?_
 refine JH.p 11 rfl (p_indexAddr el_26 rfl rfl (by omega) (by omega) rfl) ?_
 refine y1 12 ?_
 refine JHo.s rfl (e_storeRow (i := 1) (xs' := ints_ (M.setI p.stores player ((M.getI p.stores player) + (M.sum4 p.pits)))) ty_2.h rfl rfl rfl rfl rfl rfl (ints_lt (i := player.toNat) (by omega)) (ints_setL (i := player.toNat) (by omega))) (.inr rfl) ?_
 rintro _ _ _ ⟨rfl, rfl⟩ _
 refine znh ?_
 refine yd ?_
 have hq0 : (List.replicate p.pits.length 0) = (M.give p player).pits := by first | rfl | (rw [r3]; rfl)
 have hq1 : (M.setI p.stores player ((M.getI p.stores player) + (M.sum4 p.pits))) = (M.give p player).stores := by first | rfl | (rw [r3]; rfl)
 have hq2 : p.player = (M.give p player).player := by first | rfl | (rw [r3]; rfl)
 refine zS <| Q9 0 rfl rfl ?_
 refine zw 3 rfl rfl rfl ?_
 refine JL.nil ?_
 exact zro x20

set_option maxHeartbeats 1000000 in
theorem c_spec_l09End (g : M.Gam) {v_g : Value} {w : World} (h_g : (Ty.ref (cGame g)).ok w v_g) (r0 : g.start.pits.length ≤ 4194304 := by exact om_) (r1 : g.start.stores.length ≤ 4194304 := by exact om_) (r2 : g.moves.length ≤ 4194304 := by exact om_) (r3 : g.now.pits.length ≤ 4194304 := by exact om_) (r4 : g.now.stores.length ≤ 4194304 := by exact om_) (r5 : M.okG g = true := by exact om_) : RetV Tryz.prog 87 [v_g] w (.int .i64 (M.endOf g)) := by
 have hok := r5
 obtain ⟨k1, k2, k3, k4, k5, k6, k7, k8, k9⟩ := M.okG_parts hok
 have hnow := M.okG_now hok
 have k10 := M.okP_len hnow
 have k11 := M.okP_len k1
 (have k12 : (M.playedP g).length = g.moves.length + 1 := by rw [k6, M.hist_length, k8])
 have k13 : (M.playedR g).length = g.moves.length := by rw [k7, k8]
 have hC := M.okC_yes hok
 obtain ⟨g1, g2, g3, g4, g5, g6, g7⟩ := M.okP_bd hnow
 obtain ⟨s1, s2⟩ := M.sum4_V hnow
 revert v_g; apply opn
 intro b6 o6 A1 c1 h1 bl1 bh1 A2 c2 h2 bl2 bh2 A3 c3 h3 bl3 bh3 A4 c4 h4 bl4 bh4 A5 c5 h5 bl5 bh5 hr6
 refine enter @Tryz.func87 @Tryz.ntmps87 rfl rfl ?_
 refine zent ?_
 refine zS <| Qa rfl <| zJ <| Js.block <| zS <| Qm rfl <| Qc rfl <| Qf fh rfl <| QC (hr6 16 _ rfl) rfl <| Qh rfl rfl <| Qa rfl <| JL.nil ?_
 refine zi (fun h7 h7' => ?_) fun h7 h7' => ?_
 ·
  have hE := M.endOf_1 (g := g) (by simpa using h7)
  refine zS <| Qa rfl <| JL.nil ?_
  refine zR (Up.refl _ _) ?_
  rw [hE]; rfl
 have q1 : ¬ 0 ≤ g.resigned := by simpa using h7
 refine zS <| Qm rfl <| Qc rfl <| Qf fh rfl <| zv rfl (fun w hw => c_spec_l09Majority g.now (ok_ hw) (r2 := s1) (r3 := s2) (r4 := (fun k => M.allOk_getI g6 k))) <| Qh rfl rfl <| Qa rfl <| JL.nil ?_
 refine zi (fun h8 h8' => ?_) fun h8 h8' => ?_
 ·
  have hE := M.endOf_2 q1 (by simpa using h8)
  refine zS <| Qa rfl <| JL.nil ?_
  refine zR (Up.refl _ _) ?_
  rw [hE]; rfl
 have q2 : ¬ 0 ≤ M.majority g.now := by simpa using h8
 refine Js.seq ?_
 refine zdr [] ?_
 refine JH.p 0 rfl (p_move rfl) ?_
 refine JH.p 1 rfl (p_nilCheck rfl) ?_
 refine JH.p 2 rfl (p_fieldAddr fld_30_0.h rfl) ?_
 refine JH.w 3 rfl (fun os' u' hv => LS 0 (hr6.vis hv) rfl) ?_
 refine JH.p 4 rfl (p_move rfl) ?_
 refine JH.p 5 rfl (p_nilCheck rfl) ?_
 refine JH.p 6 rfl (p_fieldAddr fld_30_3.h rfl) ?_
 refine JH.w 7 rfl (fun os' u' hv => LS 13 (hr6.vis hv) rfl) ?_
 refine y1 8 ?_
 refine yv rfl rfl (fun w hw => c_spec_CanMove g.rules g.now (ok_ hw) (ok_ hw) (r2 := hnow)) ?_
 refine JH.p 9 rfl (p_not rfl) ?_
 refine JH.p 10 rfl (p_assign rfl) ?_
 refine yd ?_
 refine zi (fun h9 h9' => ?_) fun h9 h9' => ?_
 ·
  have hE := M.endOf_3 q1 q2 (by have h9 := h9; simp only [hnow, Bool.true_and, Bool.not_eq_true', decide_eq_false_iff_not] at h9; omega)
  refine zS <| Qa rfl <| JL.nil ?_
  refine zR (Up.refl _ _) ?_
  rw [hE]; rfl
 have q3 : (M.results g.rules g.now).length ≠ 0 := by have h9 := h9; simp only [hnow, Bool.true_and, Bool.not_eq_false', decide_eq_true_eq] at h9; omega
 refine zS <| Qm rfl <| zv rfl (fun w hw => c_spec_l08Repeats g (ok_ hw) (r5 := hok)) <| Qh rfl rfl <| Qa rfl <| JL.nil ?_
 refine zi (fun h10 h10' => ?_) fun h10 h10' => ?_
 ·
  have hE := M.endOf_4 q1 q2 q3 (by rw [k6]; simpa using h10)
  refine zS <| Qa rfl <| JL.nil ?_
  refine zR (Up.refl _ _) ?_
  rw [hE]; rfl
 have q4 : ¬ 3 ≤ M.count g.now (M.playedP g) := by rw [k6]; simpa using h10
 refine zS <| Qm rfl <| Qc rfl <| Qf fh rfl <| QC (hr6 12 _ rfl) rfl <| Qz rfl <| Qh rfl rfl <| Qa rfl <| JL.nil ?_
 refine zi (fun h11 h11' => ?_) fun h11 h11' => ?_
 ·
  have hE := M.endOf_5 q1 q2 q3 q4 (by have := h11'; omega)
  refine zS <| Qa rfl <| JL.nil ?_
  refine zR (Up.refl _ _) ?_
  rw [hE]; rfl
 have hE := M.endOf_0 q1 q2 q3 q4 (by have := h11'; omega)
 refine Js.skip <| Js.blockEnd <| zS <| Qa rfl <| JL.nil ?_
 refine zR (Up.refl _ _) ?_
 rw [hE]; rfl

set_option maxHeartbeats 1000000 in
theorem c_spec_EndOf (g : M.Gam) {v_g : Value} {w : World} (h_g : (Ty.agg (cGame g)).ok w v_g) (r0 : g.start.pits.length ≤ 4194304 := by exact om_) (r1 : g.start.stores.length ≤ 4194304 := by exact om_) (r2 : g.moves.length ≤ 4194304 := by exact om_) (r3 : g.now.pits.length ≤ 4194304 := by exact om_) (r4 : g.now.stores.length ≤ 4194304 := by exact om_) : RetV Tryz.prog 40 [v_g] w (.tuple #[.int .i64 (M.endOfR g), .int .i64 (M.okC g)]) := by
 revert v_g; apply opn
 intro A1 c1 h1 bl1 bh1 A2 c2 h2 bl2 bh2 A3 c3 h3 bl3 bh3 A4 c4 h4 bl4 bh4 A5 c5 h5 bl5 bh5
 refine enter @Tryz.func40 @Tryz.ntmps40 rfl rfl ?_
 refine zent ?_
 refine zS <| zb rfl fun b6 => Qa rfl <| Qa rfl <| zJ <| zS <| zv rfl (fun w hw => c_spec_l08Ok g (ok_ hw)) <| Qt rfl <| JL.nil ?_
 refine zi (fun h7 h7' => ?_) fun h7 h7' => ?_
 ·
  have hno : M.okG g = false := by simpa using h7
  have hC := M.okC_no hno
  have hE := M.endOfR_no hno
  refine zS <| Qa rfl <| Qa rfl <| JL.nil ?_
  refine zR (Up.refl _ _) ?_
  rw [hC, hE]; rfl
 have hok : M.okG g = true := by simpa using h7
 obtain ⟨k1, k2, k3, k4, k5, k6, k7, k8, k9⟩ := M.okG_parts hok
 have hnow := M.okG_now hok
 have k10 := M.okP_len hnow
 have k11 := M.okP_len k1
 (have k12 : (M.playedP g).length = g.moves.length + 1 := by rw [k6, M.hist_length, k8])
 have k13 : (M.playedR g).length = g.moves.length := by rw [k7, k8]
 have hC := M.okC_yes hok
 obtain ⟨g1, g2, g3, g4, g5, g6, g7⟩ := M.okP_bd hnow
 have hE := M.endOfR_yes hok
 refine Js.skip <| zS <| zv rfl (fun w hw => c_spec_l09End g (ok_ hw) (r5 := hok)) <| Qa rfl <| Qa rfl <| JL.nil ?_
 refine zR (Up.refl _ _) ?_
 rw [hC, hE]; rfl

set_option maxHeartbeats 1000000 in
theorem c_spec_l09Final (g : M.Gam) {v_g : Value} {w : World} (h_g : (Ty.ref (cGame g)).ok w v_g) (r0 : M.okP g.rules g.now = true := by exact om_) (r1 : -1 ≤ g.resigned := by exact om_) (r2 : g.resigned ≤ 1 := by exact om_) : Ret Tryz.prog 89 [v_g] w (Ty.agg (cPosition (M.final g))) := by
 obtain ⟨g1, g2, g3, g4, g5, g6, g7⟩ := M.okP_bd r0
 obtain ⟨s1, s2⟩ := M.sum4_V r0
 revert v_g; apply opn
 intro b6 o6 A1 c1 h1 bl1 bh1 A2 c2 h2 bl2 bh2 A3 c3 h3 bl3 bh3 A4 c4 h4 bl4 bh4 A5 c5 h5 bl5 bh5 hr6
 refine enter @Tryz.func89 @Tryz.ntmps89 rfl rfl ?_
 refine zent ?_
 refine zS <| za zeh fun b7 => zJ <| zS <| Qm rfl <| Qc rfl <| Qf fh rfl <| QC (hr6 16 _ rfl) rfl <| Qh rfl rfl <| JL.nil ?_
 refine zi (fun h8 h8' => ?_) fun h8 h8' => ?_
 ·
  have hF := M.final_yes (g := g) (by simpa using h8)
  refine Js.seq ?_
  refine zdr [9] ?_
  refine JH.p 0 rfl (p_move rfl) ?_
  refine JH.p 1 rfl (p_nilCheck rfl) ?_
  refine JH.p 2 rfl (p_fieldAddr fld_30_3.h rfl) ?_
  refine JH.p 3 rfl (p_move rfl) ?_
  refine JH.p 4 rfl (p_nilCheck rfl) ?_
  refine JH.p 5 rfl (p_fieldAddr fld_30_4.h rfl) ?_
  refine JH.w 6 rfl (fun os' u' hv => q_load1 ty_2.h rfl (Mem.pub ((hr6.vis hv) 16 _ rfl))) ?_
  refine JH.p 7 rfl (p_sub rfl rfl (IntWalk.i64_in _ (by omega))) ?_
  refine y1 8 ?_
  refine ycs rfl rfl (fun w hw => c_spec_l09Give g.now (1 - g.resigned) (ok_ hw) (r3 := s1) (r4 := g6)) ?_
  intro A9_0 c9_0 bl9_0 bh9_0 A9_1 c9_1 bl9_1 bh9_1 f9
  refine y1 9 ?_
  refine yst rfl rfl rfl ?_
  refine yd ?_
  have hq0 : (M.give g.now (1 - g.resigned)) = M.final g := by rw [hF]
  exact zro (Up.refl _ _)
 have hF := M.final_no (g := g) (by simpa using h8)
 refine Js.skip <| Js.seq ?_
 refine zdr [7] ?_
 refine JH.p 0 rfl (p_move rfl) ?_
 refine JH.p 1 rfl (p_nilCheck rfl) ?_
 refine JH.p 2 rfl (p_fieldAddr fld_30_0.h rfl) ?_
 refine JH.p 3 rfl (p_move rfl) ?_
 refine JH.p 4 rfl (p_nilCheck rfl) ?_
 refine JH.p 5 rfl (p_fieldAddr fld_30_3.h rfl) ?_
 refine y1 6 ?_
 refine ycs rfl rfl (fun w hw => c_spec_l09Settle g.rules g.now (ok_ hw) (ok_ hw) (r0 := r0)) ?_
 intro A10_0 c10_0 bl10_0 bh10_0 A10_1 c10_1 bl10_1 bh10_1 f10
 refine y1 7 ?_
 refine yst rfl rfl rfl ?_
 refine yd ?_
 have hq0 : (M.settle g.rules g.now) = M.final g := by rw [hF]
 exact zro (Up.refl _ _)

set_option maxHeartbeats 1000000 in
theorem c_spec_l09Code (g : M.Gam) {v_g : Value} {w : World} (h_g : (Ty.ref (cGame g)).ok w v_g) (r0 : g.start.pits.length ≤ 4194304 := by exact om_) (r1 : g.start.stores.length ≤ 4194304 := by exact om_) (r2 : g.moves.length ≤ 4194304 := by exact om_) (r3 : g.now.pits.length ≤ 4194304 := by exact om_) (r4 : g.now.stores.length ≤ 4194304 := by exact om_) : RetV Tryz.prog 88 [v_g] w (.int .i64 (M.endC g)) := by
 revert v_g; apply opn
 intro b6 o6 A1 c1 h1 bl1 bh1 A2 c2 h2 bl2 bh2 A3 c3 h3 bl3 bh3 A4 c4 h4 bl4 bh4 A5 c5 h5 bl5 bh5 hr6
 refine enter @Tryz.func88 @Tryz.ntmps88 rfl rfl ?_
 refine zent ?_
 refine zS <| Qa rfl <| zJ <| zS <| Qm rfl <| zv rfl (fun w hw => c_spec_l08Ok g (ok_ hw)) <| Qt rfl <| JL.nil ?_
 refine zi (fun h7 h7' => ?_) fun h7 h7' => ?_
 ·
  have hno : M.okG g = false := by simpa using h7
  have hC := M.okC_no hno
  have hE := M.endC_no hno
  refine zS <| Qa rfl <| JL.nil ?_
  refine zR (Up.refl _ _) ?_
  rw [hE]; rfl
 have hok : M.okG g = true := by simpa using h7
 obtain ⟨k1, k2, k3, k4, k5, k6, k7, k8, k9⟩ := M.okG_parts hok
 have hnow := M.okG_now hok
 have k10 := M.okP_len hnow
 have k11 := M.okP_len k1
 (have k12 : (M.playedP g).length = g.moves.length + 1 := by rw [k6, M.hist_length, k8])
 have k13 : (M.playedR g).length = g.moves.length := by rw [k7, k8]
 have hC := M.okC_yes hok
 obtain ⟨g1, g2, g3, g4, g5, g6, g7⟩ := M.okP_bd hnow
 refine Js.skip <| Js.seq <| zS <| Qm rfl <| zv rfl (fun w hw => c_spec_l09End g (ok_ hw) (r5 := hok)) <| Qe rfl rfl <| JL.nil ?_
 refine zi (fun h8 h8' => ?_) fun h8 h8' => ?_
 ·
  have hE := M.endC_6 hok (by simpa using h8)
  refine zS <| Qa rfl <| JL.nil ?_
  refine zR (Up.refl _ _) ?_
  rw [hE]; rfl
 have hE := M.endC_0 hok (by simpa using h8)
 refine Js.skip <| zS <| Qa rfl <| JL.nil ?_
 refine zR (Up.refl _ _) ?_
 rw [hE]; rfl

set_option maxHeartbeats 1000000 in
theorem c_spec_FinalPosition (g : M.Gam) {v_g : Value} {w : World} (h_g : (Ty.agg (cGame g)).ok w v_g) (r0 : g.start.pits.length ≤ 4194304 := by exact om_) (r1 : g.start.stores.length ≤ 4194304 := by exact om_) (r2 : g.moves.length ≤ 4194304 := by exact om_) (r3 : g.now.pits.length ≤ 4194304 := by exact om_) (r4 : g.now.stores.length ≤ 4194304 := by exact om_) : Ret Tryz.prog 42 [v_g] w (Ty.tup [Ty.agg (cPosition (M.finalR g)), Ty.int (M.endC g)]) := by
 revert v_g; apply opn
 intro A1 c1 h1 bl1 bh1 A2 c2 h2 bl2 bh2 A3 c3 h3 bl3 bh3 A4 c4 h4 bl4 bh4 A5 c5 h5 bl5 bh5
 refine enter @Tryz.func42 @Tryz.ntmps42 rfl rfl ?_
 refine zent ?_
 refine zS <| zb rfl fun b6 => za zeh fun b7 => Qa rfl <| zN <| zv rfl (fun w hw => c_spec_l09Code g (ok_ hw)) <| Qa rfl <| zJ <| zS <| Qm rfl <| Qd rfl rfl <| JL.nil ?_
 refine zi (fun h8 h8' => ?_) fun h8 h8' => ?_
 ·
  have hz : M.endC g ≠ 0 := by simpa using h8
  have hE := M.finalR_no hz
  have hq0 : [] = (M.finalR g).pits := by first | (rw [hz]; done) | (rw [hE]; done) | (rw [hE]; rfl)
  have hq1 : [] = (M.finalR g).stores := by first | (rw [hz]; done) | (rw [hE]; done) | (rw [hE]; rfl)
  have hq2 : 0 = (M.finalR g).player := by first | (rw [hz]; done) | (rw [hE]; done) | (rw [hE]; rfl)
  refine zS <| Qb ?_
  refine Qm rfl <| zw 0 rfl rfl rfl ?_
  refine Qa rfl <| JL.nil ?_
  exact zro (Up.refl _ _)
 have hz : M.endC g = 0 := by simpa using h8
 have hok := M.endC_ok hz
 obtain ⟨k1, k2, k3, k4, k5, k6, k7, k8, k9⟩ := M.okG_parts hok
 have hnow := M.okG_now hok
 have k10 := M.okP_len hnow
 have k11 := M.okP_len k1
 (have k12 : (M.playedP g).length = g.moves.length + 1 := by rw [k6, M.hist_length, k8])
 have k13 : (M.playedR g).length = g.moves.length := by rw [k7, k8]
 have hC := M.okC_yes hok
 obtain ⟨g1, g2, g3, g4, g5, g6, g7⟩ := M.okP_bd hnow
 have hE := M.finalR_yes hz
 have hfs := M.final_stores g
 refine Js.skip <| zS <| zcs rfl (fun w hw => c_spec_l09Final g (ok_ hw) (r0 := hnow)) ?_
 intro A9_0 c9_0 bl9_0 bh9_0 A9_1 c9_1 bl9_1 bh9_1 f9
 have hq0 : (M.final g) = M.finalR g := by first | (rw [hz]; done) | (rw [hE]; done) | (rw [hE]; rfl)
 have hq1 : 0 = M.endC g := by first | (rw [hz]; done) | (rw [hE]; done) | (rw [hE]; rfl)
 refine zw 1 rfl rfl rfl ?_
 refine Qa rfl <| JL.nil ?_
 exact zro (Up.refl _ _)

set_option maxHeartbeats 1000000 in
theorem c_spec_ScoresOf (g : M.Gam) {v_g : Value} {w : World} (h_g : (Ty.agg (cGame g)).ok w v_g) (r0 : g.start.pits.length ≤ 4194304 := by exact om_) (r1 : g.start.stores.length ≤ 4194304 := by exact om_) (r2 : g.moves.length ≤ 4194304 := by exact om_) (r3 : g.now.pits.length ≤ 4194304 := by exact om_) (r4 : g.now.stores.length ≤ 4194304 := by exact om_) : Ret Tryz.prog 44 [v_g] w (Ty.tup [Ty.ints 2 (M.scoresR g), Ty.int (M.endC g)]) := by
 revert v_g; apply opn
 intro A1 c1 h1 bl1 bh1 A2 c2 h2 bl2 bh2 A3 c3 h3 bl3 bh3 A4 c4 h4 bl4 bh4 A5 c5 h5 bl5 bh5
 refine enter @Tryz.func44 @Tryz.ntmps44 rfl rfl ?_
 refine zent ?_
 refine zS <| zb rfl fun b6 => Qa rfl <| Qa rfl <| zN <| zv rfl (fun w hw => c_spec_l09Code g (ok_ hw)) <| Qa rfl <| zJ <| zS <| Qm rfl <| Qd rfl rfl <| JL.nil ?_
 refine zi (fun h7 h7' => ?_) fun h7 h7' => ?_
 ·
  have hz : M.endC g ≠ 0 := by simpa using h7
  have hE := M.scoresR_no hz
  have hq0 : [] = M.scoresR g := by first | (rw [hz]; done) | (rw [hE]; done)
  refine zS <| Qm rfl <| Qa rfl <| Qa rfl <| JL.nil ?_
  exact zro (Up.refl _ _)
 have hz : M.endC g = 0 := by simpa using h7
 have hok := M.endC_ok hz
 obtain ⟨k1, k2, k3, k4, k5, k6, k7, k8, k9⟩ := M.okG_parts hok
 have hnow := M.okG_now hok
 have k10 := M.okP_len hnow
 have k11 := M.okP_len k1
 (have k12 : (M.playedP g).length = g.moves.length + 1 := by rw [k6, M.hist_length, k8])
 have k13 : (M.playedR g).length = g.moves.length := by rw [k7, k8]
 have hC := M.okC_yes hok
 obtain ⟨g1, g2, g3, g4, g5, g6, g7⟩ := M.okP_bd hnow
 have hE := M.scoresR_yes hz
 have hfs := M.final_stores g
 refine Js.skip <| zS <| zc rfl (fun w hw => c_spec_l09Final g (ok_ hw) (r0 := hnow)) ?_
 intro A9 c9 bl9 bh9 A10 c10 bl10 bh10
 have hq0 : ((M.final g).stores) = M.scoresR g := by first | (rw [hz]; done) | (rw [hE]; done)
 have hq1 : 0 = M.endC g := by first | (rw [hz]; done) | (rw [hE]; done)
 refine Qi fh rfl rfl <| Qa rfl <| Qa rfl <| JL.nil ?_
 exact zro (Up.refl _ _)

set_option maxHeartbeats 1000000 in
theorem c_spec_WinnerOf (g : M.Gam) {v_g : Value} {w : World} (h_g : (Ty.agg (cGame g)).ok w v_g) (r0 : g.start.pits.length ≤ 4194304 := by exact om_) (r1 : g.start.stores.length ≤ 4194304 := by exact om_) (r2 : g.moves.length ≤ 4194304 := by exact om_) (r3 : g.now.pits.length ≤ 4194304 := by exact om_) (r4 : g.now.stores.length ≤ 4194304 := by exact om_) : RetV Tryz.prog 45 [v_g] w (.tuple #[.int .i64 (M.winner g), .int .i64 (M.endC g)]) := by
 revert v_g; apply opn
 intro A1 c1 h1 bl1 bh1 A2 c2 h2 bl2 bh2 A3 c3 h3 bl3 bh3 A4 c4 h4 bl4 bh4 A5 c5 h5 bl5 bh5
 refine enter @Tryz.func45 @Tryz.ntmps45 rfl rfl ?_
 refine zent ?_
 refine zS <| zb rfl fun b6 => Qa rfl <| Qa rfl <| zN <| zv rfl (fun w hw => c_spec_l09Code g (ok_ hw)) <| Qa rfl <| zJ <| zS <| Qm rfl <| Qd rfl rfl <| JL.nil ?_
 refine zi (fun h7 h7' => ?_) fun h7 h7' => ?_
 ·
  have hz : M.endC g ≠ 0 := by simpa using h7
  have hE := M.winner_no hz
  refine zS <| Qm rfl <| Qa rfl <| Qa rfl <| JL.nil ?_
  refine zR (Up.refl _ _) ?_
  first | (rw [hE2, hz]; rfl) | (rw [hE]; rfl)
 have hz : M.endC g = 0 := by simpa using h7
 have hok := M.endC_ok hz
 obtain ⟨k1, k2, k3, k4, k5, k6, k7, k8, k9⟩ := M.okG_parts hok
 have hnow := M.okG_now hok
 have k10 := M.okP_len hnow
 have k11 := M.okP_len k1
 (have k12 : (M.playedP g).length = g.moves.length + 1 := by rw [k6, M.hist_length, k8])
 have k13 : (M.playedR g).length = g.moves.length := by rw [k7, k8]
 have hC := M.okC_yes hok
 obtain ⟨g1, g2, g3, g4, g5, g6, g7⟩ := M.okP_bd hnow
 have hE := trivial
 have hfs := M.final_stores g
 refine Js.skip <| Js.seq <| zS <| Qf fh rfl <| Q0 0 rfl rfl rfl <| Qh rfl rfl <| JL.nil ?_
 refine zi (fun h8 h8' => ?_) fun h8 h8' => ?_
 ·
  have hE2 := M.winner_r hz (by simpa using h8)
  refine zS <| Qf fh rfl <| Q0 0 rfl rfl rfl <| Qs rfl rfl <| Qa rfl <| Qa rfl <| JL.nil ?_
  refine zR (Up.refl _ _) ?_
  first | (rw [hE2, hz]; rfl) | (rw [hE]; rfl)
 have q1 : ¬ 0 ≤ g.resigned := by simpa using h8
 refine Js.skip <| zS <| zp rfl (fun w hw => c_spec_l09Final g (ok_ hw) (r0 := hnow)) ?_
 intro u9 x9 A10 c10 h10 bl10 bh10 A11 c11 h11 bl11 bh11
 refine za zeh fun b12 => zw 0 rfl rfl rfl ?_
 refine zJ <| Js.block <| Js.seq ?_
 refine zdr [] ?_
 refine JH.p 0 rfl (p_fieldAddr fld_28_1.h rfl) ?_
 refine JH.q 1 rfl (q_load1 ty_26.h rfl (Mem.box (i := 0) rfl rfl)) ?_
 obtain ⟨b13, o13, he13, hc13⟩ := ints_elem h11 (i := 0) (by omega)
 refine JH.p 2 rfl (p_indexAddr el_26 rfl rfl (by omega) (by omega) he13) ?_
 refine JH.w 3 rfl (fun os' u' hv => q_load1 ty_2.h rfl (Mem.pub (hc13.vis hv))) ?_
 refine JH.p 4 rfl (p_fieldAddr fld_28_1.h rfl) ?_
 refine JH.q 5 rfl (q_load1 ty_26.h rfl (Mem.box (i := 0) rfl rfl)) ?_
 obtain ⟨b14, o14, he14, hc14⟩ := ints_elem h11 (i := 1) (by omega)
 refine JH.p 6 rfl (p_indexAddr el_26 rfl rfl (by omega) (by omega) he14) ?_
 refine JH.w 7 rfl (fun os' u' hv => q_load1 ty_2.h rfl (Mem.pub (hc14.vis hv))) ?_
 refine JH.p 8 rfl (p_gtr rfl rfl) ?_
 refine JH.p 9 rfl (p_assign rfl) ?_
 refine yd ?_
 refine zi (fun h15 h15' => ?_) fun h15 h15' => ?_
 ·
  have hE2 := M.winner_0 hz q1 (by simpa using h15)
  refine zS <| Qa rfl <| Qa rfl <| JL.nil ?_
  refine zR x9 ?_
  first | (rw [hE2, hz]; rfl) | (rw [hE]; rfl)
 have q2 : ¬ M.nth (M.final g).stores 1 < M.nth (M.final g).stores 0 := by simpa using h15
 refine Js.seq ?_
 refine zdr [] ?_
 refine JH.p 0 rfl (p_fieldAddr fld_28_1.h rfl) ?_
 refine JH.q 1 rfl (q_load1 ty_26.h rfl (Mem.box (i := 0) rfl rfl)) ?_
 obtain ⟨b16, o16, he16, hc16⟩ := ints_elem h11 (i := 0) (by omega)
 refine JH.p 2 rfl (p_indexAddr el_26 rfl rfl (by omega) (by omega) he16) ?_
 refine JH.w 3 rfl (fun os' u' hv => q_load1 ty_2.h rfl (Mem.pub (hc16.vis hv))) ?_
 refine JH.p 4 rfl (p_fieldAddr fld_28_1.h rfl) ?_
 refine JH.q 5 rfl (q_load1 ty_26.h rfl (Mem.box (i := 0) rfl rfl)) ?_
 obtain ⟨b17, o17, he17, hc17⟩ := ints_elem h11 (i := 1) (by omega)
 refine JH.p 6 rfl (p_indexAddr el_26 rfl rfl (by omega) (by omega) he17) ?_
 refine JH.w 7 rfl (fun os' u' hv => q_load1 ty_2.h rfl (Mem.pub (hc17.vis hv))) ?_
 refine JH.p 8 rfl (p_lss rfl rfl) ?_
 refine JH.p 9 rfl (p_assign rfl) ?_
 refine yd ?_
 refine zi (fun h18 h18' => ?_) fun h18 h18' => ?_
 ·
  have hE2 := M.winner_1 hz q1 q2 (by simpa using h18)
  refine zS <| Qa rfl <| Qa rfl <| JL.nil ?_
  refine zR x9 ?_
  first | (rw [hE2, hz]; rfl) | (rw [hE]; rfl)
 have hE2 := M.winner_n hz q1 q2 (by simpa using h18)
 refine Js.skip <| Js.blockEnd <| zS <| Qa rfl <| Qa rfl <| JL.nil ?_
 refine zR x9 ?_
 first | (rw [hE2, hz]; rfl) | (rw [hE]; rfl)

end Go.Proofs.YtejnmechnhgmfaaGreat

namespace Go.Proofs.YtejnmechnhgmfaaGreat
open Go.RowKit

set_option maxHeartbeats 1000000 in
theorem c_spec_l08Own (g : M.Gam) {v_g : Value} {w : World} (h_g : (Ty.ref (cGame g)).ok w v_g) (r0 : g.start.pits.length ≤ 4194304 := by exact om_) (r1 : g.start.stores.length ≤ 4194304 := by exact om_) (r2 : g.moves.length ≤ 4194304 := by exact om_) (r3 : g.now.pits.length ≤ 4194304 := by exact om_) (r4 : g.now.stores.length ≤ 4194304 := by exact om_) : Ret Tryz.prog 59 [v_g] w (Ty.agg (cGame g)) := by
 revert v_g; apply opn
 intro b6 o6 A1 c1 h1 bl1 bh1 A2 c2 h2 bl2 bh2 A3 c3 h3 bl3 bh3 A4 c4 h4 bl4 bh4 A5 c5 h5 bl5 bh5 hr6
 refine enter @Tryz.func59 @Tryz.ntmps59 rfl rfl ?_
 refine zent ?_
 refine zS <| za zeh fun b7 => zJ ?_
 refine zdr [22] ?_
 refine JH.p 0 rfl (p_move rfl) ?_
 refine JH.p 1 rfl (p_nilCheck rfl) ?_
 refine JH.p 2 rfl (p_fieldAddr fld_30_0.h rfl) ?_
 refine JH.w 3 rfl (fun os' u' hv => LS 0 (hr6.vis hv) rfl) ?_
 refine JH.p 4 rfl (p_move rfl) ?_
 refine JH.p 5 rfl (p_nilCheck rfl) ?_
 refine JH.p 6 rfl (p_fieldAddr fld_30_1.h rfl) ?_
 refine JH.p 8 rfl (p_move rfl) ?_
 refine JH.p 9 rfl (p_nilCheck rfl) ?_
 refine JH.p 10 rfl (p_fieldAddr fld_30_2.h rfl) ?_
 refine JH.w 11 rfl (fun os' u' hv => q_load1 ty_26.h rfl (Mem.pub ((hr6.vis hv) 12 _ rfl))) ?_
 refine JH.p 13 rfl (p_move rfl) ?_
 refine JH.p 14 rfl (p_nilCheck rfl) ?_
 refine JH.p 15 rfl (p_fieldAddr fld_30_3.h rfl) ?_
 refine JH.p 17 rfl (p_move rfl) ?_
 refine JH.p 18 rfl (p_nilCheck rfl) ?_
 refine JH.p 19 rfl (p_fieldAddr fld_30_4.h rfl) ?_
 refine JH.w 20 rfl (fun os' u' hv => q_load1 ty_2.h rfl (Mem.pub ((hr6.vis hv) 16 _ rfl))) ?_
 refine y1 7 ?_
 refine yc rfl rfl (fun w hw => c_spec_l04Own g.start (ok_ hw)) ?_
 intro A9 c9 bl9 bh9 A10 c10 bl10 bh10
 refine y1 12 ?_
 refine ycs rfl rfl (fun w hw => c_spec_l00Own g.moves (ok_ hw)) ?_
 intro A11 c11 bl11 bh11
 refine y1 16 ?_
 refine yc rfl rfl (fun w hw => c_spec_l04Own g.now (ok_ hw)) ?_
 intro A13 c13 bl13 bh13 A14 c14 bl14 bh14
 refine JH.p 21 rfl (q_bld) ?_
 refine y1 22 ?_
 refine yst rfl rfl rfl ?_
 refine yd ?_
 exact zro (Up.refl _ _)

set_option maxHeartbeats 1000000 in
theorem c_spec_l08Play (g : M.Gam) {v_g : Value} (move : Int) {w : World} (h_g : (Ty.ref (cGame g)).ok w v_g) (r0 : g.start.pits.length ≤ 4194304 := by exact om_) (r1 : g.start.stores.length ≤ 4194304 := by exact om_) (r2 : g.moves.length ≤ 4194304 := by exact om_) (r3 : g.now.pits.length ≤ 4194304 := by exact om_) (r4 : g.now.stores.length ≤ 4194304 := by exact om_) (r5 : g.moves.length ≤ 120 := by exact om_) : Ret Tryz.prog 63 [v_g, .int .i64 move] w (Ty.tup [Ty.agg (cGame ((M.play g move).1)), Ty.int ((M.play g move).2)]) := by
 revert v_g; apply opn
 intro b6 o6 A1 c1 h1 bl1 bh1 A2 c2 h2 bl2 bh2 A3 c3 h3 bl3 bh3 A4 c4 h4 bl4 bh4 A5 c5 h5 bl5 bh5 hr6
 refine enter @Tryz.func63 @Tryz.ntmps63 rfl rfl ?_
 refine zent ?_
 refine zS <| za zeh fun b7 => Qa rfl <| zJ <| zS <| Qm rfl <| Qc rfl <| Qf fh rfl <| QC (hr6 16 _ rfl) rfl <| Qh rfl rfl <| JL.nil ?_
 refine zi (fun h8 h8' => ?_) fun h8 h8' => ?_
 ·
  have hE := M.play_6 (g := g) (move := move) (by simpa using h8)
  have hq0 : 0 = (((M.play g move).1).rules).pits := by first | (rw [hE]; done) | (rw [hE]; rfl)
  have hq1 : 0 = (((M.play g move).1).rules).seeds := by first | (rw [hE]; done) | (rw [hE]; rfl)
  have hq2 : false = (((M.play g move).1).rules).stores := by first | (rw [hE]; done) | (rw [hE]; rfl)
  have hq3 : false = (((M.play g move).1).rules).skip := by first | (rw [hE]; done) | (rw [hE]; rfl)
  have hq4 : false = (((M.play g move).1).rules).relay := by first | (rw [hE]; done) | (rw [hE]; rfl)
  have hq5 : false = (((M.play g move).1).rules).feed := by first | (rw [hE]; done) | (rw [hE]; rfl)
  have hq6 : false = (((M.play g move).1).rules).again := by first | (rw [hE]; done) | (rw [hE]; rfl)
  have hq7 : 0 = (((M.play g move).1).rules).capture := by first | (rw [hE]; done) | (rw [hE]; rfl)
  have hq8 : 0 = (((M.play g move).1).rules).slam := by first | (rw [hE]; done) | (rw [hE]; rfl)
  have hq9 : [] = (((M.play g move).1).start).pits := by first | (rw [hE]; done) | (rw [hE]; rfl)
  have hq10 : [] = (((M.play g move).1).start).stores := by first | (rw [hE]; done) | (rw [hE]; rfl)
  have hq11 : 0 = (((M.play g move).1).start).player := by first | (rw [hE]; done) | (rw [hE]; rfl)
  have hq12 : [] = ((M.play g move).1).moves := by first | (rw [hE]; done) | (rw [hE]; rfl)
  have hq13 : [] = (((M.play g move).1).now).pits := by first | (rw [hE]; done) | (rw [hE]; rfl)
  have hq14 : [] = (((M.play g move).1).now).stores := by first | (rw [hE]; done) | (rw [hE]; rfl)
  have hq15 : 0 = (((M.play g move).1).now).player := by first | (rw [hE]; done) | (rw [hE]; rfl)
  have hq16 : 0 = ((M.play g move).1).resigned := by first | (rw [hE]; done) | (rw [hE]; rfl)
  have hq17 : 6 = (M.play g move).2 := by first | (rw [hE]; done) | (rw [hE]; rfl)
  refine zS <| Qb ?_
  refine zw 0 rfl rfl rfl ?_
  refine Qa rfl <| JL.nil ?_
  exact zro (Up.refl _ _)
 have q1 : ¬ 0 ≤ g.resigned := by simpa using h8
 refine Js.skip <| Js.seq <| zS <| Qm rfl <| Qc rfl <| Qf fh rfl <| QC (hr6 12 _ rfl) rfl <| Qz rfl <| Qh rfl rfl <| JL.nil ?_
 refine zi (fun h9 h9' => ?_) fun h9 h9' => ?_
 ·
  have hE := M.play_5 (move := move) q1 (by have := h9'; omega)
  have hq0 : 0 = (((M.play g move).1).rules).pits := by first | (rw [hE]; done) | (rw [hE]; rfl)
  have hq1 : 0 = (((M.play g move).1).rules).seeds := by first | (rw [hE]; done) | (rw [hE]; rfl)
  have hq2 : false = (((M.play g move).1).rules).stores := by first | (rw [hE]; done) | (rw [hE]; rfl)
  have hq3 : false = (((M.play g move).1).rules).skip := by first | (rw [hE]; done) | (rw [hE]; rfl)
  have hq4 : false = (((M.play g move).1).rules).relay := by first | (rw [hE]; done) | (rw [hE]; rfl)
  have hq5 : false = (((M.play g move).1).rules).feed := by first | (rw [hE]; done) | (rw [hE]; rfl)
  have hq6 : false = (((M.play g move).1).rules).again := by first | (rw [hE]; done) | (rw [hE]; rfl)
  have hq7 : 0 = (((M.play g move).1).rules).capture := by first | (rw [hE]; done) | (rw [hE]; rfl)
  have hq8 : 0 = (((M.play g move).1).rules).slam := by first | (rw [hE]; done) | (rw [hE]; rfl)
  have hq9 : [] = (((M.play g move).1).start).pits := by first | (rw [hE]; done) | (rw [hE]; rfl)
  have hq10 : [] = (((M.play g move).1).start).stores := by first | (rw [hE]; done) | (rw [hE]; rfl)
  have hq11 : 0 = (((M.play g move).1).start).player := by first | (rw [hE]; done) | (rw [hE]; rfl)
  have hq12 : [] = ((M.play g move).1).moves := by first | (rw [hE]; done) | (rw [hE]; rfl)
  have hq13 : [] = (((M.play g move).1).now).pits := by first | (rw [hE]; done) | (rw [hE]; rfl)
  have hq14 : [] = (((M.play g move).1).now).stores := by first | (rw [hE]; done) | (rw [hE]; rfl)
  have hq15 : 0 = (((M.play g move).1).now).player := by first | (rw [hE]; done) | (rw [hE]; rfl)
  have hq16 : 0 = ((M.play g move).1).resigned := by first | (rw [hE]; done) | (rw [hE]; rfl)
  have hq17 : 5 = (M.play g move).2 := by first | (rw [hE]; done) | (rw [hE]; rfl)
  refine zS <| Qb ?_
  refine zw 0 rfl rfl rfl ?_
  refine Qa rfl <| JL.nil ?_
  exact zro (Up.refl _ _)
 have q2 : g.moves.length ≠ 120 := by have := h9'; omega
 refine Js.skip <| Js.seq ?_
 refine zk [0, 1, 4] (fun F U l os u => ∃ (b13 : Nat) (A11 : Option Addr) (c11 : Nat) (A12 : Option Addr) (c12 : Nat), l = F [(6, .pointer (some ⟨b13, 0, none⟩)), (7, .int .i64 ((M.make g.rules g.now move).2))] ∧ os = [boxO b13 [.int .i64 (((M.make g.rules g.now move).1).move), .int .i64 (((M.make g.rules g.now move).1).gain), .bool (((M.make g.rules g.now move).1).again), .slice A11 (((((M.make g.rules g.now move).1).next).pits).length) c11, .slice A12 (((((M.make g.rules g.now move).1).next).stores).length) c12, .int .i64 ((((M.make g.rules g.now move).1).next).player)] 79] ++ U [] ∧ (((((M.make g.rules g.now move).1).next).pits).length ≤ c11) ∧ (c11 ≤ 9223372036854775807) ∧ ((Ty.ints 2 ((((M.make g.rules g.now move).1).next).pits)).ok u (.slice A11 (((((M.make g.rules g.now move).1).next).pits).length) c11)) ∧ (((((M.make g.rules g.now move).1).next).stores).length ≤ c12) ∧ (c12 ≤ 9223372036854775807) ∧ ((Ty.ints 2 ((((M.make g.rules g.now move).1).next).stores)).ok u (.slice A12 (((((M.make g.rules g.now move).1).next).stores).length) c12))) ?_ ?_
 ·
  refine zdr [12] ?_
  refine JH.p 0 rfl (p_move rfl) ?_
  refine JH.p 1 rfl (p_nilCheck rfl) ?_
  refine JH.p 2 rfl (p_fieldAddr fld_30_0.h rfl) ?_
  refine JH.p 3 rfl (p_move rfl) ?_
  refine JH.p 4 rfl (p_nilCheck rfl) ?_
  refine JH.p 5 rfl (p_fieldAddr fld_30_3.h rfl) ?_
  refine JH.p 6 rfl (p_move rfl) ?_
  refine y2 7 11 ?_ ?_
  ·
   refine yp rfl rfl (fun w hw => c_spec_l07Make g.rules g.now move (ok_ hw) (ok_ hw)) ?_
   intro u19 x19 A20 c20 h20 bl20 bh20 A21 c21 h21 bl21 bh21
   refine JH.p 8 rfl (p_move rfl) ?_
   refine JH.p 9 rfl (p_extract rfl rfl) ?_
   refine JH.p 10 rfl (p_extract rfl rfl) ?_
   refine y1 11 ?_
   refine ya rfl fun b22 => ?_
   refine y1 12 ?_
   refine yst rfl rfl rfl ?_
   refine JH.p 13 rfl (p_assign rfl) ?_
   refine yd ?_
   exact zm ⟨_, _, _, _, _, rfl, rfl, zt, zt, h20, zt, zt, h21⟩ x19
  refine ya rfl fun b23 => ?_
  refine y1 7 ?_
  refine yp rfl rfl (fun w hw => c_spec_l07Make g.rules g.now move (ok_ hw) (ok_ hw)) ?_
  intro u24 x24 A25 c25 h25 bl25 bh25 A26 c26 h26 bl26 bh26
  refine JH.p 8 rfl (p_move rfl) ?_
  refine JH.p 9 rfl (p_extract rfl rfl) ?_
  refine JH.p 10 rfl (p_extract rfl rfl) ?_
  refine y1 12 ?_
  refine yst rfl rfl rfl ?_
  refine JH.p 13 rfl (p_assign rfl) ?_
  refine yd ?_
  exact zm ⟨_, _, _, _, _, rfl, rfl, zt, zt, h25, zt, zt, h26⟩ x24
 rintro _ _ u18 ⟨b13, A11, c11, A12, c12, rfl, rfl, f18_0, f18_1, f18_2, f18_3, f18_4, f18_5⟩ x18
 refine zn ?_
 refine Js.seq <| zS <| Qm rfl <| Qd rfl rfl <| JL.nil ?_
 refine zi (fun h27 h27' => ?_) fun h27 h27' => ?_
 ·
  have hE := M.play_c q1 q2 (move := move) (by simpa using h27)
  have hq0 : 0 = (((M.play g move).1).rules).pits := by first | (rw [hE]; done) | (rw [hE]; rfl)
  have hq1 : 0 = (((M.play g move).1).rules).seeds := by first | (rw [hE]; done) | (rw [hE]; rfl)
  have hq2 : false = (((M.play g move).1).rules).stores := by first | (rw [hE]; done) | (rw [hE]; rfl)
  have hq3 : false = (((M.play g move).1).rules).skip := by first | (rw [hE]; done) | (rw [hE]; rfl)
  have hq4 : false = (((M.play g move).1).rules).relay := by first | (rw [hE]; done) | (rw [hE]; rfl)
  have hq5 : false = (((M.play g move).1).rules).feed := by first | (rw [hE]; done) | (rw [hE]; rfl)
  have hq6 : false = (((M.play g move).1).rules).again := by first | (rw [hE]; done) | (rw [hE]; rfl)
  have hq7 : 0 = (((M.play g move).1).rules).capture := by first | (rw [hE]; done) | (rw [hE]; rfl)
  have hq8 : 0 = (((M.play g move).1).rules).slam := by first | (rw [hE]; done) | (rw [hE]; rfl)
  have hq9 : [] = (((M.play g move).1).start).pits := by first | (rw [hE]; done) | (rw [hE]; rfl)
  have hq10 : [] = (((M.play g move).1).start).stores := by first | (rw [hE]; done) | (rw [hE]; rfl)
  have hq11 : 0 = (((M.play g move).1).start).player := by first | (rw [hE]; done) | (rw [hE]; rfl)
  have hq12 : [] = ((M.play g move).1).moves := by first | (rw [hE]; done) | (rw [hE]; rfl)
  have hq13 : [] = (((M.play g move).1).now).pits := by first | (rw [hE]; done) | (rw [hE]; rfl)
  have hq14 : [] = (((M.play g move).1).now).stores := by first | (rw [hE]; done) | (rw [hE]; rfl)
  have hq15 : 0 = (((M.play g move).1).now).player := by first | (rw [hE]; done) | (rw [hE]; rfl)
  have hq16 : 0 = ((M.play g move).1).resigned := by first | (rw [hE]; done) | (rw [hE]; rfl)
  have hq17 : ((M.make g.rules g.now move).2) = (M.play g move).2 := by first | (rw [hE]; done) | (rw [hE]; rfl)
  refine zS <| Qb ?_
  refine Qm rfl <| zw 1 rfl rfl rfl ?_
  refine Qa rfl <| JL.nil ?_
  exact zro x18
 have hz : (M.make g.rules g.now move).2 = 0 := by simpa using h27
 have hE := M.play_0 q1 q2 hz
 have hl2 := M.okP_len (M.make_ok hz).2.2.2.1
 refine Js.skip <| zS <| Qm rfl <| zc rfl (fun w hw => c_spec_l08Own g (ok_ hw)) ?_
 intro A29 c29 bl29 bh29 A30 c30 bl30 bh30 A31 c31 bl31 bh31 A32 c32 bl32 bh32 A33 c33 bl33 bh33
 refine za zeh fun b34 => zw 0 rfl rfl rfl ?_
 refine zN <| Qf fh rfl <| Q0 0 rfl rfl rfl <| Qm rfl <| zbs fun b35 => ?_
 refine JL.e (e_append (i := 4) (n' := (g.moves ++ [move]).length) (vs' := ints_ (g.moves ++ [move])) el_26 rfl rfl rfl rfl (src_row (i := 0) und_26 rfl rfl) (by omega) (by omega) (by first | omega | (simp only [List.length_append, List.length_cons, List.length_nil] <;> omega)) (by simp [ints_])) ?_
 rintro v37 _ _ ⟨⟨g38, rfl⟩, rfl⟩ _
 refine JL.fact (row_form' (i := 4) rfl) (fun hf39 => ?_)
 obtain ⟨A39, c39, rfl, bl39, bh39⟩ := hf39
 refine znl ?_
 refine Qf fh rfl <| zw 1 rfl rfl rfl ?_
 refine zN <| Qf fh rfl <| zc rfl (fun w hw => c_spec_l04Own (((M.make g.rules g.now move).1).next) ⟨_, _, [.slice A11 (((((M.make g.rules g.now move).1).next).pits).length) c11, .slice A12 (((((M.make g.rules g.now move).1).next).stores).length) c12, .int .i64 ((((M.make g.rules g.now move).1).next).player)], rfl, ⟨(ok_ hw), (ok_ hw), rfl, trivial⟩, Mem.boxR (i := 7) rfl 3 3 _ hw⟩) ?_
 intro A41 c41 bl41 bh41 A42 c42 bl42 bh42
 have hq0 : g.rules.pits = (((M.play g move).1).rules).pits := by first | (rw [hE]; done) | (rw [hE]; rfl)
 have hq1 : g.rules.seeds = (((M.play g move).1).rules).seeds := by first | (rw [hE]; done) | (rw [hE]; rfl)
 have hq2 : g.rules.stores = (((M.play g move).1).rules).stores := by first | (rw [hE]; done) | (rw [hE]; rfl)
 have hq3 : g.rules.skip = (((M.play g move).1).rules).skip := by first | (rw [hE]; done) | (rw [hE]; rfl)
 have hq4 : g.rules.relay = (((M.play g move).1).rules).relay := by first | (rw [hE]; done) | (rw [hE]; rfl)
 have hq5 : g.rules.feed = (((M.play g move).1).rules).feed := by first | (rw [hE]; done) | (rw [hE]; rfl)
 have hq6 : g.rules.again = (((M.play g move).1).rules).again := by first | (rw [hE]; done) | (rw [hE]; rfl)
 have hq7 : g.rules.capture = (((M.play g move).1).rules).capture := by first | (rw [hE]; done) | (rw [hE]; rfl)
 have hq8 : g.rules.slam = (((M.play g move).1).rules).slam := by first | (rw [hE]; done) | (rw [hE]; rfl)
 have hq9 : g.start.pits = (((M.play g move).1).start).pits := by first | (rw [hE]; done) | (rw [hE]; rfl)
 have hq10 : g.start.stores = (((M.play g move).1).start).stores := by first | (rw [hE]; done) | (rw [hE]; rfl)
 have hq11 : g.start.player = (((M.play g move).1).start).player := by first | (rw [hE]; done) | (rw [hE]; rfl)
 have hq12 : (g.moves ++ [move]) = ((M.play g move).1).moves := by first | (rw [hE]; done) | (rw [hE]; rfl)
 have hq13 : ((((M.make g.rules g.now move).1).next).pits) = (((M.play g move).1).now).pits := by first | (rw [hE]; done) | (rw [hE]; rfl)
 have hq14 : ((((M.make g.rules g.now move).1).next).stores) = (((M.play g move).1).now).stores := by first | (rw [hE]; done) | (rw [hE]; rfl)
 have hq15 : ((((M.make g.rules g.now move).1).next).player) = (((M.play g move).1).now).player := by first | (rw [hE]; done) | (rw [hE]; rfl)
 have hq16 : g.resigned = ((M.play g move).1).resigned := by first | (rw [hE]; done) | (rw [hE]; rfl)
 have hq17 : 0 = (M.play g move).2 := by first | (rw [hE]; done) | (rw [hE]; rfl)
 refine Qf fh rfl <| zw 3 rfl rfl rfl ?_
 refine zN <| Q9 3 rfl rfl ?_
 refine zw 10 rfl rfl rfl ?_
 refine Qa rfl <| JL.nil ?_
 exact zro x18

end Go.Proofs.YtejnmechnhgmfaaGreat

namespace Go.Proofs.YtejnmechnhgmfaaGreat
open Go.RowKit

set_option maxHeartbeats 1000000 in
theorem c_spec_l00From (code : Nat) {v_code : Value} {w : World} (h_code : (Ty.bytes 5 code).ok w v_code) : Ret Tryz.prog 52 [v_code] w (Ty.box 113 [Ty.val v_code, Ty.int 0, Ty.val (.int .u64 0)]) := by
 revert v_code; apply opn
 intro A1 c1 h1 bl1 bh1
 have h_code := h1
 refine enter @Tryz.func52 @Tryz.ntmps52 rfl rfl ?_
 refine zent ?_
 refine zS <| Qa rfl <| zN <| Qm rfl <| Qb ?_
 refine zb rfl fun b2 => Qa rfl <| JL.nil ?_
 exact zro (Up.refl _ _)

set_option maxHeartbeats 1000000 in
theorem c_spec_l00Src_next (s_code : Nat) (s_at s_seed : Int) {As_0 : Option Addr} {cs_0 bs : Nat} {w : World} (hb : Bw w [boxO bs [.slice As_0 s_code cs_0, .int .i64 s_at, .int .u64 s_seed] 113]) (hps_0 : (Ty.bytes 5 s_code).ok (offW w (([boxO bs [.slice As_0 s_code cs_0, .int .i64 s_at, .int .u64 s_seed] 113] : List Own).flatMap (·.fp))) (.slice As_0 s_code cs_0)) (r0 : 0 ≤ s_at := by exact om_) (r1 : s_at ≤ 999999999 := by exact om_) (r2 : s_code ≤ 1048576 := by exact om_) : RetB Tryz.prog 98 [.pointer (some ⟨bs, 0, none⟩)] w [boxO bs [.slice As_0 s_code cs_0, .int .i64 s_at, .int .u64 s_seed] 113] (fun v bs' => ∃ (KX AT SD : Int), v = .int .i64 KX ∧ bs' = [boxO bs [.slice As_0 s_code cs_0, .int .i64 AT, .int .u64 SD] 113] ∧ (0 ≤ KX) ∧ (KX ≤ 255) ∧ (s_at ≤ AT) ∧ (AT ≤ s_at + 1)) := by
 refine enterB hb @Tryz.func98 @Tryz.ntmps98 rfl rfl ?_
 refine zent ?_
 refine Js.trashE ?_
 refine zn ?_
 refine zS <| Qa rfl <| zN <| Qa rfl <| zJ <| Js.seq ?_
 refine zdr [] ?_
 refine JH.p 0 rfl (p_move rfl) ?_
 refine JH.p 1 rfl (p_nilCheck rfl) ?_
 refine JH.p 2 rfl (p_fieldAddr fld_113_1.h rfl) ?_
 refine JH.q 3 rfl (q_load1 ty_3.h rfl (Mem.box (i := 0) rfl rfl)) ?_
 refine JH.p 4 rfl (p_move rfl) ?_
 refine JH.p 5 rfl (p_nilCheck rfl) ?_
 refine JH.p 6 rfl (p_fieldAddr fld_113_0.h rfl) ?_
 refine JH.q 7 rfl (q_load1 ty_22.h rfl (Mem.box (i := 0) rfl rfl)) ?_
 refine JH.p 8 rfl (p_len el_22 rfl) ?_
 refine JH.p 9 rfl (p_lss rfl rfl) ?_
 refine yd ?_
 refine zi (fun h1 h1' => ?_) fun h1 h1' => ?_
 ·
  refine zdr [] ?_
  refine JH.p 0 rfl (p_move rfl) ?_
  refine JH.p 1 rfl (p_nilCheck rfl) ?_
  refine JH.p 2 rfl (p_fieldAddr fld_113_0.h rfl) ?_
  refine JH.q 3 rfl (q_load1 ty_22.h rfl (Mem.box (i := 0) rfl rfl)) ?_
  refine JH.p 4 rfl (p_move rfl) ?_
  refine JH.p 5 rfl (p_nilCheck rfl) ?_
  refine JH.p 6 rfl (p_fieldAddr fld_113_1.h rfl) ?_
  refine JH.q 7 rfl (q_load1 ty_3.h rfl (Mem.box (i := 0) rfl rfl)) ?_
  obtain ⟨b2, o2, z2, he2, hc2, hz2⟩ := bytes_elem hps_0 (i := s_at.toNat) (by omega)
  refine JH.p 8 rfl (p_indexAddr el_22 rfl rfl (by omega) (by omega) he2) ?_
  refine JH.w 9 rfl (fun os' u' hv => q_load1 ty_5.h rfl (Mem.pub (hc2.vis hv))) ?_
  refine y1 10 ?_
  refine JHo.q rfl (OpP.q (p_conv @Tryz.underlying5 @Tryz.underlying3 rfl (IntWalk.i64_in _ (by omega)))) ?_
  refine JH.p 11 rfl (p_assign rfl) ?_
  refine yd ?_
  refine zS <| Qm rfl <| Qc rfl <| Qf fh rfl <| Q0 0 rfl rfl rfl <| Qp rfl rfl <| Qc rfl <| Qf fh rfl <| zw 0 rfl rfl rfl ?_
  refine zN <| Qm rfl <| Qm rfl <| Qc rfl <| Qf fh rfl <| Q0 0 rfl rfl rfl <| Qq (p_mul rfl rfl rfl) <| Qm rfl <| Qq (p_conv @Tryz.underlying3 @Tryz.underlying48 rfl rfl) <| Qq (p_add rfl rfl rfl) <| Qq (p_add rfl rfl rfl) <| Qc rfl <| Qf fh rfl <| zw 0 rfl rfl rfl ?_
  refine zJ <| Js.seq ?_
  refine zdr [] ?_
  refine JH.p 0 rfl (p_move rfl) ?_
  refine JH.p 1 rfl (p_nilCheck rfl) ?_
  refine JH.p 2 rfl (p_fieldAddr fld_113_1.h rfl) ?_
  refine JH.q 3 rfl (q_load1 ty_3.h rfl (Mem.box (i := 0) rfl rfl)) ?_
  refine JH.p 4 rfl (p_move rfl) ?_
  refine JH.p 5 rfl (p_nilCheck rfl) ?_
  refine JH.p 6 rfl (p_fieldAddr fld_113_0.h rfl) ?_
  refine JH.q 7 rfl (q_load1 ty_22.h rfl (Mem.box (i := 0) rfl rfl)) ?_
  refine JH.p 8 rfl (p_len el_22 rfl) ?_
  refine JH.p 9 rfl (p_leq rfl rfl) ?_
  refine yd ?_
  refine zi (fun h3 h3' => ?_) fun h3 h3' => ?_
  ·
   refine zS <| Qm rfl <| Qa rfl <| JL.nil ?_
   refine zrb [0] hb (Up.refl _ _) ?_
   exact ⟨(z2), ((s_at + 1)), ((IntKind.u64.wrap ((IntKind.u64.wrap ((IntKind.u64.wrap (s_seed * 6364136223846793005)) + (IntKind.u64.wrap z2))) + 1442695040888963407))), rfl, rfl, zt, zt, zt, zt⟩
  have had4 := andI_255 ((IntKind.u64.wrap ((IntKind.u64.wrap ((IntKind.u64.wrap (s_seed * 6364136223846793005)) + (IntKind.u64.wrap z2))) + 1442695040888963407)).fdiv (2 ^ (min (40 : Int).toNat IntKind.u64.bits)))
  refine Js.skip <| zS <| Qm rfl <| Qc rfl <| Qf fh rfl <| Q0 0 rfl rfl rfl <| Qq (p_shr rfl rfl (by decide)) <| Qq (p_and rfl rfl) <| Qq (p_conv @Tryz.underlying48 @Tryz.underlying2 rfl (IntWalk.i64_in _ (by omega))) <| Qa rfl <| JL.nil ?_
  refine zrb [0] hb (Up.refl _ _) ?_
  exact ⟨(andI .u64 ((IntKind.u64.wrap ((IntKind.u64.wrap ((IntKind.u64.wrap (s_seed * 6364136223846793005)) + (IntKind.u64.wrap z2))) + 1442695040888963407)).fdiv (2 ^ (min (40 : Int).toNat IntKind.u64.bits))) 255), ((s_at + 1)), ((IntKind.u64.wrap ((IntKind.u64.wrap ((IntKind.u64.wrap (s_seed * 6364136223846793005)) + (IntKind.u64.wrap z2))) + 1442695040888963407))), rfl, rfl, zt, zt, zt, zt⟩
 refine Js.skip <| zS <| Qm rfl <| Qc rfl <| Qf fh rfl <| Q0 0 rfl rfl rfl <| Qp rfl rfl <| Qc rfl <| Qf fh rfl <| zw 0 rfl rfl rfl ?_
 refine zN <| Qm rfl <| Qm rfl <| Qc rfl <| Qf fh rfl <| Q0 0 rfl rfl rfl <| Qq (p_mul rfl rfl rfl) <| Qm rfl <| Qq (p_conv @Tryz.underlying3 @Tryz.underlying48 rfl rfl) <| Qq (p_add rfl rfl rfl) <| Qq (p_add rfl rfl rfl) <| Qc rfl <| Qf fh rfl <| zw 0 rfl rfl rfl ?_
 refine zJ <| Js.seq ?_
 refine zdr [] ?_
 refine JH.p 0 rfl (p_move rfl) ?_
 refine JH.p 1 rfl (p_nilCheck rfl) ?_
 refine JH.p 2 rfl (p_fieldAddr fld_113_1.h rfl) ?_
 refine JH.q 3 rfl (q_load1 ty_3.h rfl (Mem.box (i := 0) rfl rfl)) ?_
 refine JH.p 4 rfl (p_move rfl) ?_
 refine JH.p 5 rfl (p_nilCheck rfl) ?_
 refine JH.p 6 rfl (p_fieldAddr fld_113_0.h rfl) ?_
 refine JH.q 7 rfl (q_load1 ty_22.h rfl (Mem.box (i := 0) rfl rfl)) ?_
 refine JH.p 8 rfl (p_len el_22 rfl) ?_
 refine JH.p 9 rfl (p_leq rfl rfl) ?_
 refine yd ?_
 refine zi (fun h5 h5' => ?_) fun h5 h5' => ?_
 ·
  refine zS <| Qm rfl <| Qa rfl <| JL.nil ?_
  refine zrb [0] hb (Up.refl _ _) ?_
  exact ⟨(0), ((s_at + 1)), ((IntKind.u64.wrap ((IntKind.u64.wrap ((IntKind.u64.wrap (s_seed * 6364136223846793005)) + (IntKind.u64.wrap 0))) + 1442695040888963407))), rfl, rfl, zt, zt, zt, zt⟩
 have had6 := andI_255 ((IntKind.u64.wrap ((IntKind.u64.wrap ((IntKind.u64.wrap (s_seed * 6364136223846793005)) + (IntKind.u64.wrap 0))) + 1442695040888963407)).fdiv (2 ^ (min (40 : Int).toNat IntKind.u64.bits)))
 refine Js.skip <| zS <| Qm rfl <| Qc rfl <| Qf fh rfl <| Q0 0 rfl rfl rfl <| Qq (p_shr rfl rfl (by decide)) <| Qq (p_and rfl rfl) <| Qq (p_conv @Tryz.underlying48 @Tryz.underlying2 rfl (IntWalk.i64_in _ (by omega))) <| Qa rfl <| JL.nil ?_
 refine zrb [0] hb (Up.refl _ _) ?_
 exact ⟨(andI .u64 ((IntKind.u64.wrap ((IntKind.u64.wrap ((IntKind.u64.wrap (s_seed * 6364136223846793005)) + (IntKind.u64.wrap 0))) + 1442695040888963407)).fdiv (2 ^ (min (40 : Int).toNat IntKind.u64.bits))) 255), ((s_at + 1)), ((IntKind.u64.wrap ((IntKind.u64.wrap ((IntKind.u64.wrap (s_seed * 6364136223846793005)) + (IntKind.u64.wrap 0))) + 1442695040888963407))), rfl, rfl, zt, zt, zt, zt⟩

set_option maxHeartbeats 1000000 in
theorem c_spec_l00Src_pick (s_code : Nat) (s_at s_seed : Int) {As_0 : Option Addr} {cs_0 : Nat} (n : Int) {bs : Nat} {w : World} (hb : Bw w [boxO bs [.slice As_0 s_code cs_0, .int .i64 s_at, .int .u64 s_seed] 113]) (hps_0 : (Ty.bytes 5 s_code).ok (offW w (([boxO bs [.slice As_0 s_code cs_0, .int .i64 s_at, .int .u64 s_seed] 113] : List Own).flatMap (·.fp))) (.slice As_0 s_code cs_0)) (r0 : 0 ≤ s_at := by exact om_) (r1 : s_at ≤ 999999998 := by exact om_) (r2 : s_code ≤ 1048576 := by exact om_) (r3 : n ≤ 1000000 := by exact om_) : RetB Tryz.prog 60 [.pointer (some ⟨bs, 0, none⟩), .int .i64 n] w [boxO bs [.slice As_0 s_code cs_0, .int .i64 s_at, .int .u64 s_seed] 113] (fun v bs' => ∃ (KX AT SD : Int), v = .int .i64 KX ∧ bs' = [boxO bs [.slice As_0 s_code cs_0, .int .i64 AT, .int .u64 SD] 113] ∧ (0 ≤ KX) ∧ (KX = 0 ∨ KX < n) ∧ (s_at ≤ AT) ∧ (AT ≤ s_at + 2)) := by
 refine enterB hb @Tryz.func60 @Tryz.ntmps60 rfl rfl ?_
 refine zent ?_
 refine Js.trashE ?_
 refine zn ?_
 refine zS <| Qa rfl <| zJ <| zS <| Qm rfl <| Qk rfl rfl <| JL.nil ?_
 refine zi (fun h1 h1' => ?_) fun h1 h1' => ?_
 ·
  refine zS <| Qa rfl <| JL.nil ?_
  refine zrb [0] hb (Up.refl _ _) ?_
  exact ⟨(0), (s_at), (s_seed), rfl, rfl, zt, zt, zt, zt⟩
 refine Js.skip <| zS <| Qm rfl <| zBB 1 sp_ rfl (fun w hb _ hw => c_spec_l00Src_next s_code s_at s_seed hb (ok_ hw)) ?_
 rintro _ _ G2 ⟨X2KX, X2AT, X2SD, rfl, rfl, hX2_0, hX2_1, hX2_2, hX2_3⟩
 refine znl ?_
 refine Qa rfl <| zJ <| zS <| Qm rfl <| Qg rfl rfl <| JL.nil ?_
 refine zi (fun h3 h3' => ?_) fun h3 h3' => ?_
 ·
  refine Js.region <| Qm rfl <| Qu rfl rfl <| Qm rfl <| zBB 1 sp_ rfl (fun w hb _ hw => c_spec_l00Src_next s_code X2AT X2SD hb (ok_ hw)) ?_
  rintro _ _ G4 ⟨X4KX, X4AT, X4SD, rfl, rfl, hX4_0, hX4_1, hX4_2, hX4_3⟩
  refine znl ?_
  have hrn5 := Int.emod_nonneg ((X2KX * 256) + X4KX) (b := n) (by omega)
  have hrl5 := Int.emod_lt_of_pos ((X2KX * 256) + X4KX) (show 0 < n by omega)
  refine Qp rfl rfl <| Qa rfl <| zN <| Qm rfl <| Qm rfl <| Qq (p_rem rfl rfl (by omega) (Int.tmod_eq_emod_of_nonneg (by omega))) <| Qa rfl <| JL.nil ?_
  refine zrb [0] hb (Up.refl _ _) ?_
  exact ⟨(((X2KX * 256) + X4KX) % n), (X4AT), (X4SD), rfl, rfl, zt, zt, zt, zt⟩
 have hrn6 := Int.emod_nonneg X2KX (b := n) (by omega)
 have hrl6 := Int.emod_lt_of_pos X2KX (show 0 < n by omega)
 refine Js.skip <| zS <| Qm rfl <| Qm rfl <| Qq (p_rem rfl rfl (by omega) (Int.tmod_eq_emod_of_nonneg (by omega))) <| Qa rfl <| JL.nil ?_
 refine zrb [0] hb (Up.refl _ _) ?_
 exact ⟨(X2KX % n), (X2AT), (X2SD), rfl, rfl, zt, zt, zt, zt⟩

set_option maxHeartbeats 1000000 in
theorem c_spec_l00Src_one (s_code : Nat) (s_at s_seed : Int) {As_0 : Option Addr} {cs_0 : Nat} (n : Int) {bs : Nat} {w : World} (hb : Bw w [boxO bs [.slice As_0 s_code cs_0, .int .i64 s_at, .int .u64 s_seed] 113]) (hps_0 : (Ty.bytes 5 s_code).ok (offW w (([boxO bs [.slice As_0 s_code cs_0, .int .i64 s_at, .int .u64 s_seed] 113] : List Own).flatMap (·.fp))) (.slice As_0 s_code cs_0)) (r0 : 0 ≤ s_at := by exact om_) (r1 : s_at ≤ 999999998 := by exact om_) (r2 : s_code ≤ 1048576 := by exact om_) (r3 : n ≤ 1000000 := by exact om_) : RetB Tryz.prog 62 [.pointer (some ⟨bs, 0, none⟩), .int .i64 n] w [boxO bs [.slice As_0 s_code cs_0, .int .i64 s_at, .int .u64 s_seed] 113] (fun v bs' => ∃ (BX : Bool) (AT SD : Int), v = .bool BX ∧ bs' = [boxO bs [.slice As_0 s_code cs_0, .int .i64 AT, .int .u64 SD] 113] ∧ (s_at ≤ AT) ∧ (AT ≤ s_at + 2)) := by
 refine enterB hb @Tryz.func62 @Tryz.ntmps62 rfl rfl ?_
 refine zent ?_
 refine Js.trashE ?_
 refine zn ?_
 refine zS <| Qa rfl <| zN <| Qm rfl <| Qm rfl <| zBB 1 sp_ rfl (fun w hb _ hw => c_spec_l00Src_pick s_code s_at s_seed n hb (ok_ hw)) ?_
 rintro _ _ G1 ⟨X1KX, X1AT, X1SD, rfl, rfl, hX1_0, hX1_1, hX1_2, hX1_3⟩
 refine znl ?_
 refine Qe rfl rfl <| Qa rfl <| JL.nil ?_
 refine zrb [0] hb (Up.refl _ _) ?_
 exact ⟨(decide (X1KX = 0)), (X1AT), (X1SD), rfl, rfl, zt, zt⟩

set_option maxHeartbeats 1000000 in
theorem c_spec_l00Src_among (s_code : Nat) (s_at s_seed : Int) {As_0 : Option Addr} {cs_0 : Nat} (list : List Int) {v_list : Value} {bs : Nat} {w : World} (hb : Bw w [boxO bs [.slice As_0 s_code cs_0, .int .i64 s_at, .int .u64 s_seed] 113]) (hps_0 : (Ty.bytes 5 s_code).ok (offW w (([boxO bs [.slice As_0 s_code cs_0, .int .i64 s_at, .int .u64 s_seed] 113] : List Own).flatMap (·.fp))) (.slice As_0 s_code cs_0)) (h_list : (Ty.ints 2 list).ok (offW w (([boxO bs [.slice As_0 s_code cs_0, .int .i64 s_at, .int .u64 s_seed] 113] : List Own).flatMap (·.fp))) v_list) (r0 : 0 ≤ s_at := by exact om_) (r1 : s_at ≤ 999999998 := by exact om_) (r2 : s_code ≤ 1048576 := by exact om_) (r3 : 1 ≤ list.length := by exact om_) (r4 : list.length ≤ 1000 := by exact om_) : RetB Tryz.prog 93 [.pointer (some ⟨bs, 0, none⟩), v_list] w [boxO bs [.slice As_0 s_code cs_0, .int .i64 s_at, .int .u64 s_seed] 113] (fun v bs' => ∃ (KX AT SD : Int), v = .int .i64 KX ∧ bs' = [boxO bs [.slice As_0 s_code cs_0, .int .i64 AT, .int .u64 SD] 113] ∧ (KX ∈ list) ∧ (s_at ≤ AT) ∧ (AT ≤ s_at + 2)) := by
 revert v_list; apply opn
 intro A1 c1 h1 bl1 bh1
 have h_list := h1
 refine enterB hb @Tryz.func93 @Tryz.ntmps93 rfl rfl ?_
 refine zent ?_
 refine Js.trashE ?_
 refine zn ?_
 refine zS <| Qa rfl <| zN <| Qm rfl <| Qm rfl <| Qm rfl <| Qz rfl <| zBB 1 sp_ rfl (fun w hb _ hw => c_spec_l00Src_pick s_code s_at s_seed (list.length : Int) hb (ok_ hw)) ?_
 rintro _ _ G2 ⟨X2KX, X2AT, X2SD, rfl, rfl, hX2_0, hX2_1, hX2_2, hX2_3⟩
 refine znl ?_
 obtain ⟨b3, o3, he3, hc3⟩ := ints_elem h1 (i := X2KX.toNat) (by omega)
 refine Qq (p_indexAddr el_26 rfl rfl (by omega) (by omega) he3) <| QC hc3 rfl <| Qa rfl <| JL.nil ?_
 refine zrb [0] hb (Up.refl _ _) ?_
 refine ⟨(M.nth list X2KX.toNat), (X2AT), (X2SD), rfl, ?_, by first | trivial | omega | exact M.nth_mem (by omega), by first | trivial | omega | exact M.nth_mem (by omega), by first | trivial | omega | exact M.nth_mem (by omega)⟩
 · rfl

set_option maxHeartbeats 1000000 in
theorem c_spec_l00Src_text (s_code : Nat) (s_at s_seed : Int) {As_0 : Option Addr} {cs_0 : Nat} (list : List (List UInt8)) {v_list : Value} {bs : Nat} {w : World} (hb : Bw w [boxO bs [.slice As_0 s_code cs_0, .int .i64 s_at, .int .u64 s_seed] 113]) (hps_0 : (Ty.bytes 5 s_code).ok (offW w (([boxO bs [.slice As_0 s_code cs_0, .int .i64 s_at, .int .u64 s_seed] 113] : List Own).flatMap (·.fp))) (.slice As_0 s_code cs_0)) (h_list : (Ty.strs 9 list).ok (offW w (([boxO bs [.slice As_0 s_code cs_0, .int .i64 s_at, .int .u64 s_seed] 113] : List Own).flatMap (·.fp))) v_list) (r0 : 0 ≤ s_at := by exact om_) (r1 : s_at ≤ 999999998 := by exact om_) (r2 : s_code ≤ 1048576 := by exact om_) (r3 : 1 ≤ list.length := by exact om_) (r4 : list.length ≤ 1000 := by exact om_) : RetB Tryz.prog 107 [.pointer (some ⟨bs, 0, none⟩), v_list] w [boxO bs [.slice As_0 s_code cs_0, .int .i64 s_at, .int .u64 s_seed] 113] (fun v bs' => ∃ (TX : List UInt8) (AT SD : Int), v = .string (sB TX) ∧ bs' = [boxO bs [.slice As_0 s_code cs_0, .int .i64 AT, .int .u64 SD] 113] ∧ (TX ∈ list) ∧ (s_at ≤ AT) ∧ (AT ≤ s_at + 2)) := by
 revert v_list; apply opn
 intro A1 c1 h1 bl1 bh1
 have h_list := h1
 refine enterB hb @Tryz.func107 @Tryz.ntmps107 rfl rfl ?_
 refine zent ?_
 refine Js.trashE ?_
 refine zn ?_
 refine zS <| Qa rfl <| zN <| Qm rfl <| Qm rfl <| Qm rfl <| Qz rfl <| zBB 1 sp_ rfl (fun w hb _ hw => c_spec_l00Src_pick s_code s_at s_seed (list.length : Int) hb (ok_ hw)) ?_
 rintro _ _ G2 ⟨X2KX, X2AT, X2SD, rfl, rfl, hX2_0, hX2_1, hX2_2, hX2_3⟩
 refine znl ?_
 obtain ⟨y3, hy3⟩ : ∃ x, list[X2KX.toNat]? = some x := ⟨_, List.getElem?_eq_getElem (by omega)⟩
 obtain ⟨b3, o3, he3, hc3⟩ := strs_elem h1 hy3
 refine Qq (p_indexAddr el_108 rfl rfl (by omega) (by omega) he3) <| QC hc3 rfl <| Qa rfl <| JL.nil ?_
 refine zrb [0] hb (Up.refl _ _) ?_
 refine ⟨(y3), (X2AT), (X2SD), rfl, ?_, by first | trivial | omega | exact List.mem_of_getElem? (by assumption), by first | trivial | omega | exact List.mem_of_getElem? (by assumption), by first | trivial | omega | exact List.mem_of_getElem? (by assumption)⟩
 · rfl

set_option maxHeartbeats 1000000 in
theorem c_spec_StandardNames  {w : World}  : Ret Tryz.prog 108 [] w (Ty.strs 9 M.stdNames) := by
 refine enter @Tryz.func108 @Tryz.ntmps108 rfl rfl ?_
 refine zent ?_
 refine zS <| Qa rfl <| zN <| zbs fun b1 => ?_
 refine Qa rfl <| JL.nil ?_
 exact zro (Up.refl _ _) (g := by exact (gv_strs po_ (by rfl) (by rfl)))

set_option maxHeartbeats 1000000 in
theorem c_spec_StandardRules (name : List UInt8) {w : World} (r0 : name ∈ M.stdNames := by exact om_) : Ret Tryz.prog 106 [.string (sB name)] w (Ty.tup [Ty.ex (fun (RX : M.Rul) => (2 ≤ RX.pits ∧ RX.pits ≤ 8)) (fun RX => Ty.agg (cRules RX)), Ty.ex (fun (CX : Int) => True) (fun CX => Ty.int CX)]) := by
 refine enter @Tryz.func106 @Tryz.ntmps106 rfl rfl ?_
 refine zent ?_
 refine zS <| za zeh fun b1 => Qa rfl <| zJ <| zS <| Qm rfl <| JL.nil <| Js.block <| zS <| Qq (p_eqlT und_9 rfl rfl) <| Qa rfl <| JL.nil ?_
 refine zi (fun h2 h2' => ?_) fun h2 h2' => ?_
 ·
  refine zS <| Qb ?_
  refine zw 0 rfl rfl rfl ?_
  refine Qa rfl <| JL.nil ?_
  exact zro (Up.refl _ _) (g := by exact (gv_tup (gvc (gv_ex (M.Rul.mk 6 4 true false false false true 2 0) (by first | trivial | omega | decide | (dsimp only; omega) | (exfalso; simp only [M.stdNames, List.mem_cons, List.not_mem_nil, or_false] at r0; rcases r0 with rfl | rfl | rfl | rfl <;> simp_all)) gv_) (gvc (gv_ex 0 (by first | trivial | omega | decide | (dsimp only; omega) | (exfalso; simp only [M.stdNames, List.mem_cons, List.not_mem_nil, or_false] at r0; rcases r0 with rfl | rfl | rfl | rfl <;> simp_all)) gv_) gvn))))
 refine zS <| Qq (p_eqlT und_9 rfl rfl) <| Qa rfl <| JL.nil ?_
 refine zi (fun h3 h3' => ?_) fun h3 h3' => ?_
 ·
  refine zS <| Qb ?_
  refine zw 0 rfl rfl rfl ?_
  refine Qa rfl <| JL.nil ?_
  exact zro (Up.refl _ _) (g := by exact (gv_tup (gvc (gv_ex (M.Rul.mk 3 2 false false false true false 1 0) (by first | trivial | omega | decide | (dsimp only; omega) | (exfalso; simp only [M.stdNames, List.mem_cons, List.not_mem_nil, or_false] at r0; rcases r0 with rfl | rfl | rfl | rfl <;> simp_all)) gv_) (gvc (gv_ex 0 (by first | trivial | omega | decide | (dsimp only; omega) | (exfalso; simp only [M.stdNames, List.mem_cons, List.not_mem_nil, or_false] at r0; rcases r0 with rfl | rfl | rfl | rfl <;> simp_all)) gv_) gvn))))
 refine zS <| Qq (p_eqlT und_9 rfl rfl) <| Qa rfl <| JL.nil ?_
 refine zi (fun h4 h4' => ?_) fun h4 h4' => ?_
 ·
  refine zS <| Qb ?_
  refine zw 0 rfl rfl rfl ?_
  refine Qa rfl <| JL.nil ?_
  exact zro (Up.refl _ _) (g := by exact (gv_tup (gvc (gv_ex (M.Rul.mk 6 4 false true false true false 1 2) (by first | trivial | omega | decide | (dsimp only; omega) | (exfalso; simp only [M.stdNames, List.mem_cons, List.not_mem_nil, or_false] at r0; rcases r0 with rfl | rfl | rfl | rfl <;> simp_all)) gv_) (gvc (gv_ex 0 (by first | trivial | omega | decide | (dsimp only; omega) | (exfalso; simp only [M.stdNames, List.mem_cons, List.not_mem_nil, or_false] at r0; rcases r0 with rfl | rfl | rfl | rfl <;> simp_all)) gv_) gvn))))
 refine zS <| Qq (p_eqlT und_9 rfl rfl) <| Qa rfl <| JL.nil ?_
 refine zi (fun h5 h5' => ?_) fun h5 h5' => ?_
 ·
  refine zS <| Qb ?_
  refine zw 0 rfl rfl rfl ?_
  refine Qa rfl <| JL.nil ?_
  exact zro (Up.refl _ _) (g := by exact (gv_tup (gvc (gv_ex (M.Rul.mk 4 2 false false true false false 2 0) (by first | trivial | omega | decide | (dsimp only; omega) | (exfalso; simp only [M.stdNames, List.mem_cons, List.not_mem_nil, or_false] at r0; rcases r0 with rfl | rfl | rfl | rfl <;> simp_all)) gv_) (gvc (gv_ex 0 (by first | trivial | omega | decide | (dsimp only; omega) | (exfalso; simp only [M.stdNames, List.mem_cons, List.not_mem_nil, or_false] at r0; rcases r0 with rfl | rfl | rfl | rfl <;> simp_all)) gv_) gvn))))
 refine Js.skip <| Js.blockEnd <| zS <| Qb ?_
 refine zw 0 rfl rfl rfl ?_
 refine Qa rfl <| JL.nil ?_
 exact zro (Up.refl _ _) (g := by exact (gv_tup (gvc (gv_ex (M.Rul.mk 0 0 false false false false false 0 0) (by first | trivial | omega | decide | (dsimp only; omega) | (exfalso; simp only [M.stdNames, List.mem_cons, List.not_mem_nil, or_false] at r0; rcases r0 with rfl | rfl | rfl | rfl <;> simp_all)) gv_) (gvc (gv_ex 3 (by first | trivial | omega | decide | (dsimp only; omega) | (exfalso; simp only [M.stdNames, List.mem_cons, List.not_mem_nil, or_false] at r0; rcases r0 with rfl | rfl | rfl | rfl <;> simp_all)) gv_) gvn))))

end Go.Proofs.YtejnmechnhgmfaaGreat


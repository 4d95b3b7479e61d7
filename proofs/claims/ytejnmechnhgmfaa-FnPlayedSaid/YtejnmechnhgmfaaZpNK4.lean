/- Walks: K4. -/
import Derived.Test.YtejnmechnhgmfaaZpTn
import Derived.Test.YtejnmechnhgmfaaZpNK3
set_option linter.unusedSimpArgs false
set_option linter.unusedVariables false
set_option maxRecDepth 100000
attribute [local irreducible] Go.Proofs.Ytejnmechnhgmfaa.gv
namespace Go.Proofs.Ytejnmechnhgmfaa
open Go.RowKit

set_option maxHeartbeats 1000000 in
theorem c_spec_l08Run (r : M.Rul) {v_r : Value} (p : M.Pos) {v_p : Value} (moves : List Int) {v_moves : Value} {w : World} (h_r : (Ty.ref (cRules r)).ok w v_r) (h_p : (Ty.ref (cPosition p)).ok w v_p) (h_moves : (Ty.ints 2 moves).ok w v_moves) (r0 : p.pits.length ≤ 4194304 := by exact om_) (r1 : p.stores.length ≤ 4194304 := by exact om_) (r2 : moves.length ≤ 4194304 := by exact om_) : Ret Try.prog 75 [v_r, v_p, v_moves] w (Ty.tup [Ty.sl 33 3 (M.hist p (M.runs r p moves)).length (lPosition (M.hist p (M.runs r p moves))), Ty.ints 2 (M.gains (M.runs r p moves))]) := by
 revert v_r; apply opn
 intro b1 o1 hr1
 revert v_p; apply opn
 intro b4 o4 A2 c2 h2 bl2 bh2 A3 c3 h3 bl3 bh3 hr4
 revert v_moves; apply opn
 intro A5 c5 h5 bl5 bh5
 have h_moves := h5
 refine enter @Try.func75 @Try.ntmps75 rfl rfl ?_
 refine zent ?_
 refine zS <| Qa rfl <| Qa rfl <| zN <| Qm rfl <| zcs rfl (fun w hw => c_spec_l04Own p (ok_ hw)) ?_
 intro A6_0 c6_0 bl6_0 bh6_0 A6_1 c6_1 bl6_1 bh6_1 f6
 refine zbs fun b7 => ?_
 refine Qa rfl <| zN <| zbs fun b9 => ?_
 refine Qa rfl <| zN <| Qm rfl <| zp rfl (fun w hw => c_spec_l04Own p (ok_ hw)) ?_
 intro u11 x11 A12 c12 h12 bl12 bh12 A13 c13 h13 bl13 bh13
 refine za zeh fun b14 => zw 0 rfl rfl rfl ?_
 refine zJ <| zS <| Qa rfl <| JL.nil <| Js.block ?_
 refine Js.vals (Ts := lPosition []) (vs := []) (fun w => rfl) ?_
 refine Js.joinL (i := 0) (j := 3) (Vs := lPosition ([] ++ [p])) rfl rfl (lPosition_snoc _ _) (fun f17 => ?_)
 refine zn ?_
 refine zl [0, 2, 10] (fun F U l os u m => ∃ (k : Nat) (now : M.Pos) (made : List M.Res) (out : List M.Pos) (gains : List Int) (A15_8 : Option Addr) (c15_8 : Nat) (g15_8 : List Nat) (vs15_8 : List Value) (fl15_8 : List Nat) (A15_9 : Option Addr) (c15_9 : Nat) (g15_9 : List Nat) (A15_10_0 : Option Addr) (c15_10_0 : Nat) (A15_10_1 : Option Addr) (c15_10_1 : Nat), l = F [(8, .slice A15_8 out.length c15_8), (9, .slice A15_9 gains.length c15_9), (11, .int .i64 (k : Int))] ∧ os = U [some (ownC (lPosition out) vs15_8 fl15_8), some (boxO b14 [.slice A15_10_0 now.pits.length c15_10_0, .slice A15_10_1 now.stores.length c15_10_1, .int .i64 now.player] 33), some (rowO 2 1 (.slice A15_9 gains.length c15_9) gains.length (ints_ gains) g15_9), some (rowO 33 3 (.slice A15_8 out.length c15_8) out.length vs15_8 g15_8)] ∧ (M.Run r p moves k now made) ∧ (out = M.hist p made) ∧ (gains = M.gains made) ∧ (now.pits.length ≤ 4194304) ∧ (now.stores.length ≤ 4194304) ∧ (out.length ≤ c15_8) ∧ (c15_8 ≤ 9223372036854775807) ∧ (gains.length ≤ c15_9) ∧ (c15_9 ≤ 9223372036854775807) ∧ ((Ty.ints 2 now.pits).ok u (.slice A15_10_0 now.pits.length c15_10_0)) ∧ (now.pits.length ≤ c15_10_0) ∧ (c15_10_0 ≤ 9223372036854775807) ∧ ((Ty.ints 2 now.stores).ok u (.slice A15_10_1 now.stores.length c15_10_1)) ∧ (now.stores.length ≤ c15_10_1) ∧ (c15_10_1 ≤ 9223372036854775807) ∧ m = moves.length - k) ⟨0, p, [], [p], [], _, _, _, _, _, _, _, _, _, _, _, _, rfl, rfl, by exact M.Run.zero _ _ _, by rfl, by rfl, zt, zt, zu, zu, zu, zu, h12, zu, zu, h13, zu, zu, rfl⟩ ?_
 rintro _ _ u15 _ ⟨k, now, made, out, gains, A15_8, c15_8, g15_8, vs15_8, fl15_8, A15_9, c15_9, g15_9, A15_10_0, c15_10_0, A15_10_1, c15_10_1, rfl, rfl, hR, hO, hGn, n0, n1, f15_5, f15_6, f15_7, f15_8, f15_9, f15_10, f15_11, f15_12, f15_13, f15_14, rfl⟩ x15
 refine zn ?_
 have hl1 := hR.len
 have hl3 := hR.le
 have hlO : out.length = made.length + 1 := by rw [hO]; simp
 have hlG : gains.length = made.length := by rw [hGn]; simp [M.gains]
 refine Js.seq <| zS <| Qm rfl <| Qm rfl <| Qz rfl <| Ql rfl rfl <| JL.nil ?_
 refine zi (fun h18 h18' => ?_) fun h18 h18' => ?_
 ·
  obtain ⟨b19, o19, he19, hc19⟩ := ints_elem (Ty.mono _ h5 (x11.vis.trans x15.vis)) (i := k) (by omega)
  refine Js.skip <| Js.seq <| Js.block <| zS <| Qm rfl <| Qm rfl <| Qm rfl <| Qq (p_indexAddr el_24 rfl rfl (by omega) (by omega) he19) <| QC hc19 rfl <| zp rfl (fun w hw => c_spec_l07Make r now (M.nth moves k) (ok_ hw) (ok_ hw)) ?_
  intro u20 x20 A21 c21 h21 bl21 bh21 A22 c22 h22 bl22 bh22
  refine Qm rfl <| Qx rfl rfl <| Qx rfl rfl <| za zeh fun b23 => zw 0 rfl rfl rfl ?_
  refine Qa rfl <| zJ <| zS <| Qm rfl <| Qd rfl rfl <| JL.nil ?_
  refine zi (fun h24 h24' => ?_) fun h24 h24' => ?_
  ·
   have hE := (hR.fail (by omega) (by simpa using h24)).1
   have hq0 : out = M.hist p (M.runs r p moves) := by first | (rw [hE]; exact hO) | (rw [hE]; exact hGn)
   have hq1 : gains = M.gains (M.runs r p moves) := by first | (rw [hE]; exact hO) | (rw [hE]; exact hGn)
   refine zS <| Qm rfl <| Qm rfl <| Qa rfl <| Qa rfl <| JL.nil ?_
   exact zro ((x11.trans x15).trans x20)
  have hm : (M.make r now (M.nth moves k)).2 = 0 := by simpa using h24
  have hR2 := hR.step (by omega) hm
  have hl2 := M.okP_len (M.make_ok hm).2.2.2.1
  refine Js.skip <| zS <| Qf fh rfl <| Q9 0 rfl rfl ?_
  refine zw 2 rfl rfl rfl ?_
  refine zN <| Qm rfl <| zcs rfl (fun w hw => c_spec_l04Own (((M.make r now (M.nth moves k)).1).next) (ok_ hw)) ?_
  intro A25_0 c25_0 bl25_0 bh25_0 A25_1 c25_1 bl25_1 bh25_1 f25
  refine zbs fun b26 => ?_
  refine JL.e (e_append (i := 6) (n' := (out ++ [(((M.make r now (M.nth moves k)).1).next)]).length) (vs' := vs15_8 ++ [.slice A25_0 (((((M.make r now (M.nth moves k)).1).next).pits).length) c25_0, .slice A25_1 (((((M.make r now (M.nth moves k)).1).next).stores).length) c25_1, .int .i64 ((((M.make r now (M.nth moves k)).1).next).player)]) el_44 rfl rfl rfl rfl (src_row (i := 0) und_44 rfl rfl) (by omega) (by omega) (by first | omega | (simp only [List.length_append, List.length_cons, List.length_nil] <;> omega)) (rfl)) ?_
  rintro v28 _ _ ⟨⟨g29, rfl⟩, rfl⟩ _
  refine JL.fact (row_form' (i := 6) rfl) (fun hf30 => ?_)
  obtain ⟨A30, c30, rfl, bl30, bh30⟩ := hf30
  refine znl ?_
  refine Qa rfl <| JL.nil ?_
  refine Js.joinL (i := 3) (j := 1) (Vs := lPosition (out ++ [(((M.make r now (M.nth moves k)).1).next)])) rfl rfl (lPosition_snoc _ _) (fun f32 => ?_)
  refine zn ?_
  refine Js.region <| Qm rfl <| Qf fh rfl <| Q0 2 rfl rfl rfl <| zbs fun b33 => ?_
  refine JL.e (e_append (i := 5) (n' := (gains ++ [(((M.make r now (M.nth moves k)).1).gain)]).length) (vs' := ints_ (gains ++ [(((M.make r now (M.nth moves k)).1).gain)])) el_24 rfl rfl rfl rfl (src_row (i := 0) und_24 rfl rfl) (by omega) (by omega) (by first | omega | (simp only [List.length_append, List.length_cons, List.length_nil] <;> omega)) (by simp [ints_])) ?_
  rintro v35 _ _ ⟨⟨g36, rfl⟩, rfl⟩ _
  refine JL.fact (row_form' (i := 5) rfl) (fun hf37 => ?_)
  obtain ⟨A37, c37, rfl, bl37, bh37⟩ := hf37
  refine znl ?_
  refine Qa rfl <| JL.nil <| Js.blockEnd <| Js.region <| Qm rfl <| Qp rfl rfl <| Qa rfl <| JL.nil ?_
  refine zd [1, 3, 3, 3] rfl fun u38 x38 => ?_
  exact zag ⟨k + 1, (((M.make r now (M.nth moves k)).1).next), made ++ [(M.make r now (M.nth moves k)).1], out ++ [(((M.make r now (M.nth moves k)).1).next)], gains ++ [(((M.make r now (M.nth moves k)).1).gain)], _, _, _, _, _, _, _, _, _, _, _, _, rfl, rfl, by exact hR2, by rw [hO]; exact (M.hist_snoc _ _ _).symm, by rw [hGn]; simp [M.gains], by exact hl2.1, by exact hl2.2, zu, zu, zu, zu, (Ty.mono _ h21 x38.vis), zu, zu, (Ty.mono _ h22 x38.vis), zu, zu, rfl⟩ ((x15.trans x20).trans x38)
 have hE := (hR.done (by have := h18'; omega)).1
 refine zx ?_
 have hq0 : out = M.hist p (M.runs r p moves) := by first | (rw [hE]; exact hO) | (rw [hE]; exact hGn)
 have hq1 : gains = M.gains (M.runs r p moves) := by first | (rw [hE]; exact hO) | (rw [hE]; exact hGn)
 refine zS <| Qm rfl <| Qm rfl <| Qa rfl <| Qa rfl <| JL.nil ?_
 exact zro (x11.trans x15)

set_option maxHeartbeats 1000000 in
theorem c_spec_l08Ok (g : M.Gam) {v_g : Value} {w : World} (h_g : (Ty.ref (cGame g)).ok w v_g) (r0 : g.start.pits.length ≤ 4194304 := by exact om_) (r1 : g.start.stores.length ≤ 4194304 := by exact om_) (r2 : g.moves.length ≤ 4194304 := by exact om_) (r3 : g.now.pits.length ≤ 4194304 := by exact om_) (r4 : g.now.stores.length ≤ 4194304 := by exact om_) : RetV Try.prog 68 [v_g] w (.bool (M.okG g)) := by
 revert v_g; apply opn
 intro b6 o6 A1 c1 h1 bl1 bh1 A2 c2 h2 bl2 bh2 A3 c3 h3 bl3 bh3 A4 c4 h4 bl4 bh4 A5 c5 h5 bl5 bh5 hr6
 refine enter @Try.func68 @Try.ntmps68 rfl rfl ?_
 refine zent ?_
 refine zS <| Qa rfl <| zJ <| Js.seq ?_
 refine zdr [] ?_
 refine JH.p 0 rfl (p_move rfl) ?_
 refine JH.p 1 rfl (p_nilCheck rfl) ?_
 refine JH.p 2 rfl (p_fieldAddr fld_35_0.h rfl) ?_
 refine JH.p 3 rfl (p_move rfl) ?_
 refine JH.p 4 rfl (p_nilCheck rfl) ?_
 refine JH.p 5 rfl (p_fieldAddr fld_35_1.h rfl) ?_
 refine y1 6 ?_
 refine yv rfl rfl (fun w hw => c_spec_l04Ok g.rules g.start (ok_ hw) (ok_ hw)) ?_
 refine JH.p 7 rfl (p_not rfl) ?_
 refine JH.p 8 rfl (p_move rfl) ?_
 refine JH.pg 9 rfl (Gd.f1 rfl rfl rfl) (fun hc => p_move rfl) ?_
 refine JH.pg 10 rfl (Gd.f1 rfl rfl rfl) (fun hc => p_nilCheck (gvt rfl hc)) ?_
 refine JH.pg 11 rfl (Gd.f1 rfl rfl rfl) (fun hc => p_fieldAddr fld_35_2.h (gvt rfl hc)) ?_
 refine JH.wg 12 rfl (Gd.f1 rfl rfl rfl) (fun hc os' u' hv => q_load1 ty_24.h (gvt rfl hc) (Mem.pub ((hr6.vis hv) 12 _ rfl))) ?_
 refine JH.pg 13 rfl (Gd.f1 rfl rfl rfl) (fun hc => p_len el_24 (gvt rfl hc)) ?_
 refine JH.pg 14 rfl (Gd.f1 rfl rfl rfl) (fun hc => p_gtr (gvt rfl hc) rfl) ?_
 refine JH.p 15 rfl (p_pickOr rfl rfl rfl) ?_
 refine JH.p 16 rfl (p_move rfl) ?_
 refine JH.pg 17 rfl (Gd.f1 rfl rfl rfl) (fun hc => p_move rfl) ?_
 refine JH.pg 18 rfl (Gd.f1 rfl rfl rfl) (fun hc => p_nilCheck (gvt rfl hc)) ?_
 refine JH.pg 19 rfl (Gd.f1 rfl rfl rfl) (fun hc => p_fieldAddr fld_35_4.h (gvt rfl hc)) ?_
 refine JH.wg 20 rfl (Gd.f1 rfl rfl rfl) (fun hc os' u' hv => q_load1 ty_2.h (gvt rfl hc) (Mem.pub ((hr6.vis hv) 16 _ rfl))) ?_
 refine y1 21 ?_
 refine JHo.ge rfl (Gd.f1 rfl rfl rfl) (fun hc => e_callV fn_76.h (opds_3 (gvt rfl hc) rfl rfl) (fun w hw => c_spec_l00In g.resigned (-1) 1)) ?_
 refine JH.pg 22 rfl (Gd.f1 rfl rfl rfl) (fun hc => p_not (gvt rfl hc)) ?_
 refine JH.p 23 rfl (p_pickOr rfl rfl rfl) ?_
 refine yd ?_
 refine zi (fun h7 h7' => ?_) fun h7 h7' => ?_
 ·
  refine zS <| Qa rfl <| JL.nil ?_
  refine zR (Up.refl _ _) ?_
  exact congrArg (fun b => Ending.returned (.bool b)) (M.okG_no (by simpa [or_assoc] using h7)).symm
 have ho : M.okP g.rules g.start = true ∧ (g.moves.length : Int) ≤ 120 ∧ M.betw g.resigned (-1) 1 = true := by simpa [and_assoc] using h7
 have hl3 := M.okP_len (M.lastPos_ok _ _ ho.1 (M.runs_ok g.moves _ ho.1))
 have hrl := M.runs_len g.rules g.moves g.start
 have hhl := M.hist_length g.start (M.runs g.rules g.start g.moves)
 refine Js.skip <| Js.seq ?_
 refine zdr [] ?_
 refine JH.p 0 rfl (p_move rfl) ?_
 refine JH.p 1 rfl (p_nilCheck rfl) ?_
 refine JH.p 2 rfl (p_fieldAddr fld_35_0.h rfl) ?_
 refine JH.p 3 rfl (p_move rfl) ?_
 refine JH.p 4 rfl (p_nilCheck rfl) ?_
 refine JH.p 5 rfl (p_fieldAddr fld_35_1.h rfl) ?_
 refine JH.p 6 rfl (p_move rfl) ?_
 refine JH.p 7 rfl (p_nilCheck rfl) ?_
 refine JH.p 8 rfl (p_fieldAddr fld_35_2.h rfl) ?_
 refine JH.w 9 rfl (fun os' u' hv => q_load1 ty_24.h rfl (Mem.pub ((hr6.vis hv) 12 _ rfl))) ?_
 refine y1 10 ?_
 refine yp rfl rfl (fun w hw => c_spec_l08Run g.rules g.start g.moves (ok_ hw) (ok_ hw) (ok_ hw)) ?_
 intro u8 x8 A9 c9 h9 bl9 bh9 A10 c10 h10 bl10 bh10
 refine JH.p 11 rfl (p_move rfl) ?_
 refine JH.p 12 rfl (p_extract rfl rfl) ?_
 refine JH.p 13 rfl (p_extract rfl rfl) ?_
 refine JH.p 14 rfl (p_assign rfl) ?_
 refine JH.p 15 rfl (p_assign rfl) ?_
 refine yd ?_
 refine Js.seq ?_
 refine zdr [] ?_
 refine JH.p 0 rfl (p_move rfl) ?_
 refine JH.p 1 rfl (p_len el_24 rfl) ?_
 refine JH.p 2 rfl (p_move rfl) ?_
 refine JH.p 3 rfl (p_nilCheck rfl) ?_
 refine JH.p 4 rfl (p_fieldAddr fld_35_2.h rfl) ?_
 refine JH.w 5 rfl (fun os' u' hv => q_load1 ty_24.h rfl (Mem.pub ((hr6.vis (x8.vis.trans hv)) 12 _ rfl))) ?_
 refine JH.p 6 rfl (p_len el_24 rfl) ?_
 refine JH.p 7 rfl (p_eql rfl rfl) ?_
 refine JH.p 8 rfl (p_move rfl) ?_
 refine JH.pg 9 rfl (Gd.t1 rfl rfl rfl) (fun hc => p_move rfl) ?_
 refine JH.pg 10 rfl (Gd.t1 rfl rfl rfl) (fun hc => p_move rfl) ?_
 refine JH.pg 11 rfl (Gd.t1 rfl rfl rfl) (fun hc => p_len el_44 (gvt rfl hc)) ?_
 refine JH.pg 12 rfl (Gd.t1 rfl rfl rfl) (fun hc => p_sub (gvt rfl hc) rfl (IntWalk.i64_in _ (by have hc9 := hc; (try simp only [decide_eq_true_eq] at hc9); omega))) ?_
 obtain ⟨y11, hy11⟩ : ∃ x, (M.hist g.start (M.runs g.rules g.start g.moves))[((((M.hist g.start (M.runs g.rules g.start g.moves)).length) : Int) - 1).toNat]? = some x := ⟨_, List.getElem?_eq_getElem (by omega)⟩
 obtain ⟨b11, o11, A11_0, c11_0, A11_1, c11_1, he11, hr11, h11_0, h11_1, bl11_0, bh11_0, bl11_1, bh11_1⟩ := elem_Position h9 hy11
 refine JH.pg 13 rfl (Gd.t1 rfl rfl rfl) (fun hc => p_indexAddr el_44 (gvt rfl hc) (gvt rfl hc) (by omega) (by omega) he11) ?_
 refine JH.pg 14 rfl (Gd.t1 rfl rfl rfl) (fun hc => p_move rfl) ?_
 refine JH.pg 15 rfl (Gd.t1 rfl rfl rfl) (fun hc => p_nilCheck (gvt rfl hc)) ?_
 refine JH.pg 16 rfl (Gd.t1 rfl rfl rfl) (fun hc => p_fieldAddr fld_35_3.h (gvt rfl hc)) ?_
 refine y1 17 ?_
 refine JHo.ge rfl (Gd.t1 rfl rfl rfl) (fun hc => e_callV fn_97.h (opds_2 (gvt rfl hc) (gvt rfl hc)) (fun w hw => c_spec_l04Same y11 g.now (ok_ hw) (ok_ hw) (r0 := (M.last_len (M.hist_last g.start (M.runs g.rules g.start g.moves)) hy11 (by omega) hl3).1) (r1 := (M.last_len (M.hist_last g.start (M.runs g.rules g.start g.moves)) hy11 (by omega) hl3).2) (r2 := (by have hc9 := hc; (try simp only [decide_eq_true_eq] at hc9); omega)) (r3 := (by have hc9 := hc; (try simp only [decide_eq_true_eq] at hc9); omega)))) ?_
 refine JH.p 18 rfl (p_pickAnd rfl rfl rfl) ?_
 refine JH.p 19 rfl (p_assign rfl) ?_
 refine yd ?_
 refine zR x8 ?_
 simp only [outV, M.gains_length]; rw [M.okG_spec ho.1 ho.2.1 ho.2.2 (by assumption) (by omega)]

end Go.Proofs.Ytejnmechnhgmfaa

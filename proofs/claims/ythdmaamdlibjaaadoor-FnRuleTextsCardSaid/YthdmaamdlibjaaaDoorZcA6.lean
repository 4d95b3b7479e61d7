/- Walks: K50. -/
import Derived.Test.YthdmaamdlibjaaaDoorZcA3
import Derived.Test.YthdmaamdlibjaaaDoorZcA5
import Derived.Test.YthdmaamdlibjaaaDoorZcA2
set_option linter.unusedSimpArgs false
set_option linter.unusedVariables false
set_option maxRecDepth 100000
attribute [local irreducible] Go.Proofs.YthdmaamdlibjaaaDoor.gv
set_option maxHeartbeats 8000000
namespace Go.Proofs.YthdmaamdlibjaaaDoor
open Go.RowKit
theorem c_spec_l03Check (s : List UInt8) {w : World} (r0 : s.length ≤ 1000000 := by exact om_) : Ret Tryd.prog 47 [.string (sB s)] w (Ty.tup [Ty.agg (cRules (M.chkR s)), Ty.sl 35 3 (M.chkO s).length (lProblem (M.chkO s))]) := by
 have hwl := M.wds_len s
 have hpl := M.pls_len s
 have hl9 : M.fieldNames.length = 9 := rfl
 refine enter @Tryd.func47 @Tryd.ntmps47 rfl rfl ?_
 refine zent ?_
 refine zS <| za zeh fun b1 => Qa rfl <| zN <| Qm rfl <| zp rfl (fun w hw => c_spec_l03Parts s) ?_
 intro u2 x2 A3 c3 h3 bl3 bh3 A4 c4 h4 bl4 bh4
 refine Qm rfl <| Qx rfl rfl <| Qx rfl rfl <| Qa rfl <| Qa rfl <| zN <| zmk (a0 := 9) (m := 9) (by omega) (by omega) fun b5 => Qa rfl <| zN <| zmkF vcbool false (a0 := 9) (m := 9) (by omega) (by omega) fun b6 => Qa rfl <| zN <| zbs fun b7 => ?_
 refine Qa rfl <| zN <| Qa rfl <| zJ <| zS <| Qa rfl <| JL.nil <| Js.block ?_
 refine zl [0, 2, 4, 5, 6, 7] (fun F U l os u m => ∃ (k : Nat) (v : List Int) (seen : List Bool) (again : Int) (out : List M.Prb) (A9_8 : Option Addr) (c9_8 : Nat) (g9_8 : List Nat), l = F [(8, .slice A9_8 out.length c9_8), (9, .int .i64 again), (10, .int .i64 (k : Int))] ∧ os = U [some (rowO 35 3 (.slice A9_8 out.length c9_8) out.length (fltV vcProblem out) g9_8), some (rowO 4 1 (.slice (some ⟨b6, 0, none⟩) 9 9) 9 (fltV vcbool seen) []), some (rowO 2 1 (.slice (some ⟨b5, 0, none⟩) 9 9) 9 (ints_ v) [])] ∧ (M.chkN s k = ⟨v, seen, again, out⟩) ∧ (k ≤ (M.wds s).length) ∧ (out.length ≤ c9_8) ∧ (c9_8 ≤ 9223372036854775807) ∧ m = (M.wds s).length - k) ⟨0, List.replicate 9 0, List.replicate 9 false, 0, [], _, _, _, rfl, rfl, by rfl, zt, zu, zu, rfl⟩ ?_
 rintro _ _ u9 _ ⟨k, v, seen, again, out, A9_8, c9_8, g9_8, rfl, rfl, hC, hk, f9_2, f9_3, rfl⟩ x9
 refine zn ?_
 obtain ⟨hv9, hs9, ho9⟩ := M.chkN_len s k
 rw [hC] at hv9 hs9 ho9
 dsimp only at hv9 hs9 ho9
 refine Js.seq <| zS <| Qm rfl <| Qm rfl <| Qz rfl <| Ql rfl rfl <| JL.nil ?_
 refine zi (fun h10 h10' => ?_) fun h10 h10' => ?_
 ·
  obtain ⟨ye11, hye11⟩ : ∃ x, (M.wds s)[k]? = some x := ⟨_, List.getElem?_eq_getElem (by omega)⟩
  have hY : (M.wds s)[k]? = some ye11 := hye11
  have hw9 := M.wds_mem hY
  obtain ⟨w1, w2, w3, w4, w5, w6⟩ := M.wrd_bd ye11
  have w7 := M.wrd_ne2 ye11
  have hy12 := hye11
  obtain ⟨b12, o12, he12, hc12⟩ := strs_elem (Ty.mono _ h3 x9.vis) hy12
  have hy13 : seen[((M.wrd ye11).1).toNat]? = some (M.blt seen (((M.wrd ye11).1).toNat)) := M.blt_get len_
  refine Js.skip <| Js.seq <| Js.block <| zS <| Qm rfl <| Qm rfl <| Qq (p_indexAddr el_38 rfl rfl (by omega) (by omega) he12) <| QC hc12 rfl <| zv rfl (fun w hw => c_spec_l03Word ye11) <| Qm rfl <| Qx rfl rfl <| Qx rfl rfl <| Qx rfl rfl <| Qa rfl ?_
  refine Qa rfl <| Qa rfl <| zJ <| zS <| Qm rfl <| Qd rfl rfl <| Qm rfl <| zg (Gd.t1 rfl rfl rfl) (fun hc => p_move rfl) <| zg (Gd.t1 rfl rfl rfl) (fun hc => p_move rfl) <| zg (Gd.t1 rfl rfl rfl) (fun hc => p_indexAddr el_95 (gh hc rfl) (gh hc rfl) (by have hc9 := hc; (try simp only [Bool.not_eq_true', decide_eq_false_iff_not] at hc9); first | omega | (simp only [List.length_set, List.length_append, List.length_cons, List.length_nil, List.length_take, List.length_drop, List.length_replicate]; omega)) (by have hc9 := hc; (try simp only [Bool.not_eq_true', decide_eq_false_iff_not] at hc9); first | omega | (simp only [List.length_set, List.length_append, List.length_cons, List.length_nil, List.length_take, List.length_drop, List.length_replicate]; omega)) rfl) ?_
  refine zgq (Gd.t1 rfl rfl rfl) (fun hc => q_load1 ty_4.h (gh hc rfl) (fun w hw => (Mem.rowR' (i := 1) rfl (fltV_at (C := vcbool) (fun _ => rfl) hy13) w hw) 0 _ rfl)) <| Qq (p_pickAnd rfl rfl rfl) <| JL.nil ?_
  refine zi (fun h14 h14' => ?_) fun h14 h14' => ?_
  ·
   have hq : ¬ (M.wrd ye11).2.2 = 1 ∧ M.blt seen (M.wrd ye11).1.toNat = true := by have h9 := h14; simp at h9; exact h9
   have hE := M.chk_t hC hY hq.1 hq.2
   refine Js.region <| Qa rfl <| zJ <| zS <| Qm rfl <| Qd rfl rfl <| JL.nil ?_
   refine Js.condT rfl (by decide) ?_
   refine zdr [12] ?_
   refine jM 0 rfl rfl ?_
   refine jM 1 rfl rfl ?_
   refine jM 2 rfl rfl ?_
   refine jM 3 rfl rfl ?_
   obtain ⟨b15, o15, he15, hc15⟩ := ints_elem (Ty.mono _ h4 x9.vis) (i := k) (by omega)
   refine jI 4 el_65 rfl rfl rfl he15 ?_
   refine jW 5 ty_2 rfl rfl hc15.vis ?_
   refine jM 6 rfl rfl ?_
   refine jM 7 rfl rfl ?_
   have hy16 := hye11
   obtain ⟨b16, o16, he16, hc16⟩ := strs_elem (Ty.mono _ h3 x9.vis) hy16
   refine jI 8 el_38 rfl rfl rfl he16 ?_
   refine jW 9 ty_9 rfl rfl hc16.vis ?_
   refine JH.p 10 rfl (q_bld) ?_
   refine y1 11 ?_
   refine ybs rfl fun b17 => ?_
   refine y1 12 ?_
   refine JHo.e rfl (e_append (i := 1) (n' := (out ++ [(M.Prb.mk 2 (M.nth (M.pls s) k) ye11)]).length) (vs' := fltV vcProblem (out ++ [(M.Prb.mk 2 (M.nth (M.pls s) k) ye11)])) el_41 rfl rfl rfl rfl (src_row (i := 0) und_41 rfl rfl) (by omega) (by omega) ln2_ (by first | rfl | exact fltV_app _ _ _ | exact fltV_snoc _ _ _ | (simp [fltV]; done))) (.inr rfl) ?_
   rintro v19 _ _ ⟨⟨g20, rfl⟩, rfl⟩ _
   refine JH.fact (row_form' (i := 1) rfl) (fun hf21 => ?_)
   obtain ⟨A21, c21, rfl, bl21, bh21⟩ := hf21
   refine znh ?_
   refine jA 13 rfl rfl ?_
   refine yd ?_
   refine Js.seq <| zS <| Qm rfl <| Qe rfl rfl <| Qm rfl <| zg (Gd.f1 rfl rfl rfl) (fun hc => p_move rfl) <| zg (Gd.f1 rfl rfl rfl) (fun hc => p_eql (gh hc rfl) rfl) <| Qq (p_pickOr rfl rfl rfl) <| JL.nil ?_
   refine zi (fun h22 h22' => ?_) fun h22 h22' => ?_
   ·
    refine zx ?_
    refine Js.region <| Qm rfl <| Qp rfl rfl <| Qa rfl <| JL.nil ?_
    refine zd [1, 1, 1, 1] rfl fun u23 x23 => ?_
    exact zag ⟨k + 1, v, seen, again, out ++ [(M.Prb.mk 2 (M.nth (M.pls s) k) ye11)], _, _, _, rfl, rfl, by first | exact hE | (exfalso; omega) | (exfalso; simp at hx; done), zt, zu, zu, rfl⟩ (x9.trans x23)
   have hx := h22
   have hy24 : seen[((M.wrd ye11).1).toNat]? = some (M.blt seen (((M.wrd ye11).1).toNat)) := M.blt_get len_
   refine Js.skip <| zS <| Qm rfl <| Qm rfl <| Qq (p_indexAddr el_95 rfl rfl len_ len_ rfl) ?_
   refine JL.s (e_storeRow (i := 2) (xs' := fltV vcbool (seen.set (((M.wrd ye11).1).toNat) true)) ty_4.h rfl rfl rfl rfl rfl rfl (fltV_lt (C := vcbool) (j := 0) (fun _ => rfl) len_ (by decide)) (fltV_set (C := vcbool) (y := true) (fun _ => rfl) len_)) ?_
   rintro _ _ _ ⟨rfl, rfl⟩ _
   refine znl ?_
   refine zN <| Qm rfl <| Qm rfl <| Qm rfl <| Qq (p_indexAddr el_65 rfl rfl (by omega) (by omega) rfl) ?_
   refine JL.s (e_storeRow (i := 3) (xs' := ints_ (M.setI v ((M.wrd ye11).1) ((M.wrd ye11).2.1))) ty_2.h rfl rfl rfl rfl rfl rfl (ints_lt (i := ((M.wrd ye11).1).toNat) (by omega)) (ints_setL (i := ((M.wrd ye11).1).toNat) (by omega))) ?_
   rintro _ _ _ ⟨rfl, rfl⟩ _
   refine znl ?_
   refine zN <| Qm rfl <| Qe rfl rfl <| JL.nil ?_
   refine zi (fun h26 h26' => ?_) fun h26 h26' => ?_
   ·
    obtain ⟨b27, o27, he27, hc27⟩ := ints_elem (Ty.mono _ h4 x9.vis) (i := k) (by omega)
    refine Js.region <| Qm rfl <| Qm rfl <| Qq (p_indexAddr el_65 rfl rfl (by omega) (by omega) he27) <| QC hc27 rfl <| Qa rfl <| JL.nil <| Js.blockEnd <| Js.region <| Qm rfl <| Qp rfl rfl <| Qa rfl <| JL.nil ?_
    refine zd [1, 1, 1, 1] rfl fun u28 x28 => ?_
    exact zag ⟨k + 1, M.setI v ((M.wrd ye11).1) ((M.wrd ye11).2.1), seen.set (((M.wrd ye11).1).toNat) true, M.nth (M.pls s) k, out ++ [(M.Prb.mk 2 (M.nth (M.pls s) k) ye11)], _, _, _, rfl, rfl, by first | exact hE | (exfalso; omega) | (exfalso; simp at hx; done), zt, zu, zu, rfl⟩ (x9.trans x28)
   refine Js.skip <| Js.blockEnd <| Js.region <| Qm rfl <| Qp rfl rfl <| Qa rfl <| JL.nil ?_
   refine zd [1, 1, 1, 1] rfl fun u29 x29 => ?_
   exact zag ⟨k + 1, M.setI v ((M.wrd ye11).1) ((M.wrd ye11).2.1), seen.set (((M.wrd ye11).1).toNat) true, again, out ++ [(M.Prb.mk 2 (M.nth (M.pls s) k) ye11)], _, _, _, rfl, rfl, by first | exact hE | (exfalso; omega) | (exfalso; simp at hx; done), zt, zu, zu, rfl⟩ (x9.trans x29)
  have hq : ¬ (M.wrd ye11).2.2 = 1 → M.blt seen (M.wrd ye11).1.toNat = false := by have h9 := h14; simp at h9; exact h9
  refine Js.skip <| Js.seq <| zS <| Qm rfl <| Qd rfl rfl <| JL.nil ?_
  refine zi (fun h30 h30' => ?_) fun h30 h30' => ?_
  ·
   have h0 : ¬ (M.wrd ye11).2.2 = 0 := by simpa using h30
   have hZ := fun (h1 : ¬ (M.wrd ye11).2.2 = 1) => M.chk_o hC hY h1 (by rw [hq h1]; decide) h0
   refine zdr [12] ?_
   refine jM 0 rfl rfl ?_
   refine jM 1 rfl rfl ?_
   refine jM 2 rfl rfl ?_
   refine jM 3 rfl rfl ?_
   obtain ⟨b31, o31, he31, hc31⟩ := ints_elem (Ty.mono _ h4 x9.vis) (i := k) (by omega)
   refine jI 4 el_65 rfl rfl rfl he31 ?_
   refine jW 5 ty_2 rfl rfl hc31.vis ?_
   refine jM 6 rfl rfl ?_
   refine jM 7 rfl rfl ?_
   have hy32 := hye11
   obtain ⟨b32, o32, he32, hc32⟩ := strs_elem (Ty.mono _ h3 x9.vis) hy32
   refine jI 8 el_38 rfl rfl rfl he32 ?_
   refine jW 9 ty_9 rfl rfl hc32.vis ?_
   refine JH.p 10 rfl (q_bld) ?_
   refine y1 11 ?_
   refine ybs rfl fun b33 => ?_
   refine y1 12 ?_
   refine JHo.e rfl (e_append (i := 1) (n' := (out ++ [(M.Prb.mk ((M.wrd ye11).2.2) (M.nth (M.pls s) k) ye11)]).length) (vs' := fltV vcProblem (out ++ [(M.Prb.mk ((M.wrd ye11).2.2) (M.nth (M.pls s) k) ye11)])) el_41 rfl rfl rfl rfl (src_row (i := 0) und_41 rfl rfl) (by omega) (by omega) ln2_ (by first | rfl | exact fltV_app _ _ _ | exact fltV_snoc _ _ _ | (simp [fltV]; done))) (.inr rfl) ?_
   rintro v35 _ _ ⟨⟨g36, rfl⟩, rfl⟩ _
   refine JH.fact (row_form' (i := 1) rfl) (fun hf37 => ?_)
   obtain ⟨A37, c37, rfl, bl37, bh37⟩ := hf37
   refine znh ?_
   refine jA 13 rfl rfl ?_
   refine yd ?_
   refine Js.seq <| zS <| Qm rfl <| Qe rfl rfl <| Qm rfl <| zg (Gd.f1 rfl rfl rfl) (fun hc => p_move rfl) <| zg (Gd.f1 rfl rfl rfl) (fun hc => p_eql (gh hc rfl) rfl) <| Qq (p_pickOr rfl rfl rfl) <| JL.nil ?_
   refine zi (fun h38 h38' => ?_) fun h38 h38' => ?_
   ·
    have hu : (M.wrd ye11).2.2 = 1 ∨ (M.wrd ye11).2.2 = 2 := by have h9 := h38; simp only [Bool.or_eq_true, decide_eq_true_eq] at h9; exact h9
    have hE := M.chk_u hC hY (by omega)
    refine zx ?_
    refine Js.region <| Qm rfl <| Qp rfl rfl <| Qa rfl <| JL.nil ?_
    refine zd [1, 1, 1, 1] rfl fun u39 x39 => ?_
    exact zag ⟨k + 1, v, seen, again, out ++ [(M.Prb.mk ((M.wrd ye11).2.2) (M.nth (M.pls s) k) ye11)], _, _, _, rfl, rfl, by first | exact hE | (exfalso; omega) | (exfalso; simp at hx; done), zt, zu, zu, rfl⟩ (x9.trans x39)
   have hu : ¬ ((M.wrd ye11).2.2 = 1 ∨ (M.wrd ye11).2.2 = 2) := by have h9 := h38; simp only [Bool.or_eq_false_iff, decide_eq_false_iff_not] at h9; rintro (h8 | h8); exact h9.1 h8; exact h9.2 h8
   have hE := hZ (by omega)
   have hy40 : seen[((M.wrd ye11).1).toNat]? = some (M.blt seen (((M.wrd ye11).1).toNat)) := M.blt_get len_
   refine Js.skip <| zS <| Qm rfl <| Qm rfl <| Qq (p_indexAddr el_95 rfl rfl len_ len_ rfl) ?_
   refine JL.s (e_storeRow (i := 2) (xs' := fltV vcbool (seen.set (((M.wrd ye11).1).toNat) true)) ty_4.h rfl rfl rfl rfl rfl rfl (fltV_lt (C := vcbool) (j := 0) (fun _ => rfl) len_ (by decide)) (fltV_set (C := vcbool) (y := true) (fun _ => rfl) len_)) ?_
   rintro _ _ _ ⟨rfl, rfl⟩ _
   refine znl ?_
   refine zN <| Qm rfl <| Qm rfl <| Qm rfl <| Qq (p_indexAddr el_65 rfl rfl (by omega) (by omega) rfl) ?_
   refine JL.s (e_storeRow (i := 3) (xs' := ints_ (M.setI v ((M.wrd ye11).1) ((M.wrd ye11).2.1))) ty_2.h rfl rfl rfl rfl rfl rfl (ints_lt (i := ((M.wrd ye11).1).toNat) (by omega)) (ints_setL (i := ((M.wrd ye11).1).toNat) (by omega))) ?_
   rintro _ _ _ ⟨rfl, rfl⟩ _
   refine znl ?_
   refine zN <| Qm rfl <| Qe rfl rfl <| JL.nil ?_
   refine zi (fun h42 h42' => ?_) fun h42 h42' => ?_
   ·
    rw [if_pos (show (M.wrd ye11).1 = 6 from by simpa using h42)] at hE
    obtain ⟨b43, o43, he43, hc43⟩ := ints_elem (Ty.mono _ h4 x9.vis) (i := k) (by omega)
    refine Js.region <| Qm rfl <| Qm rfl <| Qq (p_indexAddr el_65 rfl rfl (by omega) (by omega) he43) <| QC hc43 rfl <| Qa rfl <| JL.nil <| Js.blockEnd <| Js.region <| Qm rfl <| Qp rfl rfl <| Qa rfl <| JL.nil ?_
    refine zd [1, 1, 1, 1] rfl fun u44 x44 => ?_
    exact zag ⟨k + 1, M.setI v ((M.wrd ye11).1) ((M.wrd ye11).2.1), seen.set (((M.wrd ye11).1).toNat) true, M.nth (M.pls s) k, out ++ [(M.Prb.mk ((M.wrd ye11).2.2) (M.nth (M.pls s) k) ye11)], _, _, _, rfl, rfl, by first | exact hE | (exfalso; omega) | (exfalso; simp at hx; done), zt, zu, zu, rfl⟩ (x9.trans x44)
   rw [if_neg (show ¬ (M.wrd ye11).1 = 6 from by simpa using h42)] at hE
   refine Js.skip <| Js.blockEnd <| Js.region <| Qm rfl <| Qp rfl rfl <| Qa rfl <| JL.nil ?_
   refine zd [1, 1, 1, 1] rfl fun u45 x45 => ?_
   exact zag ⟨k + 1, M.setI v ((M.wrd ye11).1) ((M.wrd ye11).2.1), seen.set (((M.wrd ye11).1).toNat) true, again, out ++ [(M.Prb.mk ((M.wrd ye11).2.2) (M.nth (M.pls s) k) ye11)], _, _, _, rfl, rfl, by first | exact hE | (exfalso; omega) | (exfalso; simp at hx; done), zt, zu, zu, rfl⟩ (x9.trans x45)
  have h0 : (M.wrd ye11).2.2 = 0 := by simpa using h30
  have hZ := fun (h1 : ¬ (M.wrd ye11).2.2 = 1) => M.chk_z hC hY (by rw [hq h1]; decide) h0
  refine Js.skip <| Js.seq <| zS <| Qm rfl <| Qe rfl rfl <| Qm rfl <| zg (Gd.f1 rfl rfl rfl) (fun hc => p_move rfl) <| zg (Gd.f1 rfl rfl rfl) (fun hc => p_eql (gh hc rfl) rfl) <| Qq (p_pickOr rfl rfl rfl) <| JL.nil ?_
  refine zi (fun h46 h46' => ?_) fun h46 h46' => ?_
  ·
   have hu : (M.wrd ye11).2.2 = 1 ∨ (M.wrd ye11).2.2 = 2 := by have h9 := h46; simp only [Bool.or_eq_true, decide_eq_true_eq] at h9; exact h9
   have hE := M.chk_u hC hY (by omega)
   refine zx ?_
   refine Js.region <| Qm rfl <| Qp rfl rfl <| Qa rfl <| JL.nil ?_
   exact zag ⟨k + 1, v, seen, again, out, _, _, _, rfl, rfl, by first | exact hE | (exfalso; omega) | (exfalso; simp at hx; done), zt, zu, zu, rfl⟩ x9
  have hu : ¬ ((M.wrd ye11).2.2 = 1 ∨ (M.wrd ye11).2.2 = 2) := by have h9 := h46; simp only [Bool.or_eq_false_iff, decide_eq_false_iff_not] at h9; rintro (h8 | h8); exact h9.1 h8; exact h9.2 h8
  have hE := hZ (by omega)
  have hy47 : seen[((M.wrd ye11).1).toNat]? = some (M.blt seen (((M.wrd ye11).1).toNat)) := M.blt_get len_
  refine Js.skip <| zS <| Qm rfl <| Qm rfl <| Qq (p_indexAddr el_95 rfl rfl len_ len_ rfl) ?_
  refine JL.s (e_storeRow (i := 1) (xs' := fltV vcbool (seen.set (((M.wrd ye11).1).toNat) true)) ty_4.h rfl rfl rfl rfl rfl rfl (fltV_lt (C := vcbool) (j := 0) (fun _ => rfl) len_ (by decide)) (fltV_set (C := vcbool) (y := true) (fun _ => rfl) len_)) ?_
  rintro _ _ _ ⟨rfl, rfl⟩ _
  refine znl ?_
  refine zN <| Qm rfl <| Qm rfl <| Qm rfl <| Qq (p_indexAddr el_65 rfl rfl (by omega) (by omega) rfl) ?_
  refine JL.s (e_storeRow (i := 2) (xs' := ints_ (M.setI v ((M.wrd ye11).1) ((M.wrd ye11).2.1))) ty_2.h rfl rfl rfl rfl rfl rfl (ints_lt (i := ((M.wrd ye11).1).toNat) (by omega)) (ints_setL (i := ((M.wrd ye11).1).toNat) (by omega))) ?_
  rintro _ _ _ ⟨rfl, rfl⟩ _
  refine znl ?_
  refine zN <| Qm rfl <| Qe rfl rfl <| JL.nil ?_
  refine zi (fun h49 h49' => ?_) fun h49 h49' => ?_
  ·
   rw [if_pos (show (M.wrd ye11).1 = 6 from by simpa using h49)] at hE
   obtain ⟨b50, o50, he50, hc50⟩ := ints_elem (Ty.mono _ h4 x9.vis) (i := k) (by omega)
   refine Js.region <| Qm rfl <| Qm rfl <| Qq (p_indexAddr el_65 rfl rfl (by omega) (by omega) he50) <| QC hc50 rfl <| Qa rfl <| JL.nil <| Js.blockEnd <| Js.region <| Qm rfl <| Qp rfl rfl <| Qa rfl <| JL.nil ?_
   exact zag ⟨k + 1, M.setI v ((M.wrd ye11).1) ((M.wrd ye11).2.1), seen.set (((M.wrd ye11).1).toNat) true, M.nth (M.pls s) k, out, _, _, _, rfl, rfl, by first | exact hE | (exfalso; omega) | (exfalso; simp at hx; done), zt, zu, zu, rfl⟩ x9
  rw [if_neg (show ¬ (M.wrd ye11).1 = 6 from by simpa using h49)] at hE
  refine Js.skip <| Js.blockEnd <| Js.region <| Qm rfl <| Qp rfl rfl <| Qa rfl <| JL.nil ?_
  exact zag ⟨k + 1, M.setI v ((M.wrd ye11).1) ((M.wrd ye11).2.1), seen.set (((M.wrd ye11).1).toNat) true, again, out, _, _, _, rfl, rfl, by first | exact hE | (exfalso; omega) | (exfalso; simp at hx; done), zt, zu, zu, rfl⟩ x9
 have hA := M.chk_e hC (by have := h10'; omega) hk
 obtain ⟨hv9, hs9, ho9⟩ := M.chkN_len s k
 rw [hC] at hv9 hs9 ho9
 dsimp only at hv9 hs9 ho9
 refine zx ?_
 refine Js.seq <| zS <| Qa rfl <| JL.nil <| Js.block ?_
 refine zl [0, 2, 6, 7, 9] (fun F U l os u m => ∃ (j : Nat) (out2 : List M.Prb) (A51_8 : Option Addr) (c51_8 : Nat) (g51_8 : List Nat), l = F [(8, .slice A51_8 out2.length c51_8), (14, .int .i64 (j : Int))] ∧ os = U [some (rowO 35 3 (.slice A51_8 out2.length c51_8) out2.length (fltV vcProblem out2) g51_8)] ∧ (out2 = M.chkM s j) ∧ (j ≤ 2) ∧ (out2.length ≤ c51_8) ∧ (c51_8 ≤ 9223372036854775807) ∧ m = 2 - j) ⟨0, out, _, _, _, rfl, rfl, by rw [M.chkM, hA], zt, zu, zu, rfl⟩ ?_
 rintro _ _ u51 _ ⟨j, out2, A51_8, c51_8, g51_8, rfl, rfl, hM, hj, f51_2, f51_3, rfl⟩ x51
 refine zn ?_
 have hml := M.chkM_len s j
 rw [← hM] at hml
 refine Js.seq <| zS <| Qm rfl <| Ql rfl rfl <| JL.nil ?_
 refine zi (fun h52 h52' => ?_) fun h52 h52' => ?_
 ·
  have hy53 : seen[j]? = some (M.blt seen j) := M.blt_get len_
  refine Js.skip <| Js.seq <| Js.block <| zS <| Qm rfl <| Qm rfl <| Qq (p_indexAddr el_95 rfl rfl len_ len_ rfl) <| Qw (q_load1 ty_4.h rfl (fun w hw => (Mem.rowR' (i := 1) rfl (fltV_at (C := vcbool) (fun _ => rfl) hy53) w hw) 0 _ rfl)) <| Qt rfl <| JL.nil ?_
  refine zi (fun h54 h54' => ?_) fun h54 h54' => ?_
  ·
   have hb9 : ¬ M.blt seen j = true := by simpa using h54
   obtain ⟨ye55, hye55⟩ : ∃ x, M.fieldNames[j]? = some x := ⟨_, List.getElem?_eq_getElem (by omega)⟩
   have hY2 : M.fieldNames[j]? = some ye55 := hye55
   refine Js.region <| Qm rfl <| Qm rfl <| Qq (p_lenS und_9 rfl) <| zp rfl (fun w hw => c_spec_FieldNames) ?_
   intro u56 x56 A57 c57 h57 bl57 bh57
   have hy58 := hye55
   obtain ⟨b58, o58, he58, hc58⟩ := strs_elem h57 hy58
   refine Qm rfl <| Qq (p_indexAddr el_38 rfl rfl (by omega) (by omega) he58) <| QC hc58 rfl <| Qb ?_
   refine zbs fun b59 => ?_
   refine JL.e (e_append (i := 1) (n' := (out2 ++ [(M.Prb.mk 5 (s.length : Int) ye55)]).length) (vs' := fltV vcProblem (out2 ++ [(M.Prb.mk 5 (s.length : Int) ye55)])) el_41 rfl rfl rfl rfl (src_row (i := 0) und_41 rfl rfl) (by omega) (by omega) ln2_ (by first | rfl | exact fltV_app _ _ _ | exact fltV_snoc _ _ _ | (simp [fltV]; done))) ?_
   rintro v61 _ _ ⟨⟨g62, rfl⟩, rfl⟩ _
   refine JL.fact (row_form' (i := 1) rfl) (fun hf63 => ?_)
   obtain ⟨A63, c63, rfl, bl63, bh63⟩ := hf63
   refine znl ?_
   refine Qa rfl <| JL.nil <| Js.blockEnd <| Js.region <| Qm rfl <| Qp rfl rfl <| Qa rfl <| JL.nil ?_
   refine zd [1, 1, 1, 1] rfl fun u64 x64 => ?_
   exact zag ⟨j + 1, out2 ++ [(M.Prb.mk 5 (s.length : Int) ye55)], _, _, _, rfl, rfl, by first | exact hM2 | exact M.chkM_f hA hM hb9 hY2, zt, zu, zu, rfl⟩ ((x51.trans x56).trans x64)
  have hM2 := M.chkM_t hA hM (by simpa using h54)
  refine Js.skip <| Js.blockEnd <| Js.region <| Qm rfl <| Qp rfl rfl <| Qa rfl <| JL.nil ?_
  exact zag ⟨j + 1, out2, _, _, _, rfl, rfl, by first | exact hM2 | exact M.chkM_f hA hM hb9 hY2, zt, zu, zu, rfl⟩ x51
 have hj2 : j = 2 := by have := h52'; omega
 have hml := M.chkM_len s j
 rw [← hM] at hml
 have hE2 := M.chkR_e hA
 refine zx ?_
 refine Js.seq <| zS <| Qm rfl <| Qq (p_indexAddr el_65 rfl rfl (by omega) (by omega) rfl) <| Qw (q_load1 ty_2.h rfl (Mem.row (i := 2) rfl (ints_get (i := 6) (by omega)))) <| Qe rfl rfl <| Qm rfl <| zg (Gd.t1 rfl rfl rfl) (fun hc => p_move rfl) <| zg (Gd.t1 rfl rfl rfl) (fun hc => p_indexAddr el_65 (gh hc rfl) rfl (oh_ hc) (oh_ hc) rfl) ?_
 refine zgq (Gd.t1 rfl rfl rfl) (fun hc => q_load1 ty_2.h (gh hc rfl) (Mem.row (i := 2) rfl (ints_get (i := 2) (oh_ hc)))) ?_
 refine zg (Gd.t1 rfl rfl rfl) (fun hc => p_eql (gh hc rfl) rfl) <| Qq (p_pickAnd rfl rfl rfl) <| JL.nil ?_
 refine zi (fun h67 h67' => ?_) fun h67 h67' => ?_
 ·
  have hq2 : M.nth v 6 = 1 ∧ M.nth v 2 = 0 := by have h9 := h67; simp at h9; exact h9
  have hE := M.chkO_t hA hM hj2 hq2.1 hq2.2
  refine Js.region <| Qm rfl <| Qm rfl <| Qb ?_
  refine zbs fun b68 => ?_
  refine JL.e (e_append (i := 1) (n' := (out2 ++ ([(M.Prb.mk 6 again ([97, 103, 97, 105, 110] : List UInt8))])).length) (vs' := fltV vcProblem (out2 ++ ([(M.Prb.mk 6 again ([97, 103, 97, 105, 110] : List UInt8))]))) el_41 rfl rfl rfl rfl (src_row (i := 0) und_41 rfl rfl) (by omega) (by omega) ln2_ (by first | rfl | exact fltV_app _ _ _ | exact fltV_snoc _ _ _ | (simp [fltV]; done))) ?_
  rintro v70 _ _ ⟨⟨g71, rfl⟩, rfl⟩ _
  refine JL.fact (row_form' (i := 1) rfl) (fun hf72 => ?_)
  obtain ⟨A72, c72, rfl, bl72, bh72⟩ := hf72
  refine znl ?_
  refine Qa rfl <| zN <| Qm rfl <| zp rfl (fun w hw => c_spec_l03Rules v (ok_ hw)) ?_
  intro u73 x73
  have hq0 : ((M.rulV v).pits) = (M.chkR s).pits := by first | (rw [hE2]; done) | exact hE | (rw [hE]; done)
  have hq1 : ((M.rulV v).seeds) = (M.chkR s).seeds := by first | (rw [hE2]; done) | exact hE | (rw [hE]; done)
  have hq2 : ((M.rulV v).stores) = (M.chkR s).stores := by first | (rw [hE2]; done) | exact hE | (rw [hE]; done)
  have hq3 : ((M.rulV v).skip) = (M.chkR s).skip := by first | (rw [hE2]; done) | exact hE | (rw [hE]; done)
  have hq4 : ((M.rulV v).relay) = (M.chkR s).relay := by first | (rw [hE2]; done) | exact hE | (rw [hE]; done)
  have hq5 : ((M.rulV v).feed) = (M.chkR s).feed := by first | (rw [hE2]; done) | exact hE | (rw [hE]; done)
  have hq6 : ((M.rulV v).again) = (M.chkR s).again := by first | (rw [hE2]; done) | exact hE | (rw [hE]; done)
  have hq7 : ((M.rulV v).capture) = (M.chkR s).capture := by first | (rw [hE2]; done) | exact hE | (rw [hE]; done)
  have hq8 : ((M.rulV v).slam) = (M.chkR s).slam := by first | (rw [hE2]; done) | exact hE | (rw [hE]; done)
  have hq9 : (out2 ++ ([(M.Prb.mk 6 again ([97, 103, 97, 105, 110] : List UInt8))])) = (M.chkO s) := by first | (rw [hE2]; done) | exact hE | (rw [hE]; done)
  refine Qm rfl <| zw 4 rfl rfl rfl ?_
  refine Qa rfl <| JL.nil ?_
  exact zro (((x2.trans x9).trans x51).trans x73) (g := by exact (gv_tup (gvc gv_ (gvc (gv_flat lProblem (xs := (out2 ++ ([(M.Prb.mk 6 again ([97, 103, 97, 105, 110] : List UInt8))]))) po_ (by first | rfl | (simp [fltV]; done)) (by first | with_reducible rfl | assumption | rfl)) gvn))))
 have hq2 : ¬ (M.nth v 6 = 1 ∧ M.nth v 2 = 0) := by have h9 := h67; simp at h9; rintro ⟨h8, h7⟩; exact h9 h8 h7
 have hE := M.chkO_f hA hM hj2 hq2
 refine Js.skip <| zS <| Qm rfl <| zp rfl (fun w hw => c_spec_l03Rules v (ok_ hw)) ?_
 intro u74 x74
 have hq0 : ((M.rulV v).pits) = (M.chkR s).pits := by first | (rw [hE2]; done) | exact hE | (rw [hE]; done)
 have hq1 : ((M.rulV v).seeds) = (M.chkR s).seeds := by first | (rw [hE2]; done) | exact hE | (rw [hE]; done)
 have hq2 : ((M.rulV v).stores) = (M.chkR s).stores := by first | (rw [hE2]; done) | exact hE | (rw [hE]; done)
 have hq3 : ((M.rulV v).skip) = (M.chkR s).skip := by first | (rw [hE2]; done) | exact hE | (rw [hE]; done)
 have hq4 : ((M.rulV v).relay) = (M.chkR s).relay := by first | (rw [hE2]; done) | exact hE | (rw [hE]; done)
 have hq5 : ((M.rulV v).feed) = (M.chkR s).feed := by first | (rw [hE2]; done) | exact hE | (rw [hE]; done)
 have hq6 : ((M.rulV v).again) = (M.chkR s).again := by first | (rw [hE2]; done) | exact hE | (rw [hE]; done)
 have hq7 : ((M.rulV v).capture) = (M.chkR s).capture := by first | (rw [hE2]; done) | exact hE | (rw [hE]; done)
 have hq8 : ((M.rulV v).slam) = (M.chkR s).slam := by first | (rw [hE2]; done) | exact hE | (rw [hE]; done)
 have hq9 : out2 = (M.chkO s) := by first | (rw [hE2]; done) | exact hE | (rw [hE]; done)
 refine Qm rfl <| zw 3 rfl rfl rfl ?_
 refine Qa rfl <| JL.nil ?_
 exact zro (((x2.trans x9).trans x51).trans x74) (g := by exact (gv_tup (gvc gv_ (gvc (gv_flat lProblem (xs := out2) po_ (by first | rfl | (simp [fltV]; done)) (by first | with_reducible rfl | assumption | rfl)) gvn))))
theorem c_spec_l00Src_textLL (s_code : Nat) (s_at s_seed : Int) {As_0 : Option Addr} {cs_0 : Nat} (list : List (List UInt8)) {v_list : Value} {bs : Nat} {w : World} (hb : Bw w [boxO bs [.slice As_0 s_code cs_0, .int .i64 s_at, .int .u64 s_seed] 87]) (hps_0 : (Ty.bytes 5 s_code).ok (offW w (([boxO bs [.slice As_0 s_code cs_0, .int .i64 s_at, .int .u64 s_seed] 87] : List Own).flatMap (·.fp))) (.slice As_0 s_code cs_0)) (h_list : (Ty.strs 9 list).ok (offW w (([boxO bs [.slice As_0 s_code cs_0, .int .i64 s_at, .int .u64 s_seed] 87] : List Own).flatMap (·.fp))) v_list) (r0 : 0 ≤ s_at := by exact om_) (r1 : s_at ≤ 999999998 := by exact om_) (r2 : s_code ≤ 1048576 := by exact om_) (r3 : 1 ≤ list.length := by exact om_) (r4 : list.length ≤ 1000 := by exact om_) (r5 : ∀ x ∈ list, x.length ≤ 40 := by exact om_) : RetB Tryd.prog 39 [.pointer (some ⟨bs, 0, none⟩), v_list] w [boxO bs [.slice As_0 s_code cs_0, .int .i64 s_at, .int .u64 s_seed] 87] (fun v bs' => ∃ (TX : List UInt8) (AT SD : Int), v = .string (sB TX) ∧ bs' = [boxO bs [.slice As_0 s_code cs_0, .int .i64 AT, .int .u64 SD] 87] ∧ (LenB TX 40) ∧ (TX.length ≤ 40) ∧ (s_at ≤ AT) ∧ (AT ≤ s_at + 2)) := by
 revert v_list; apply opn
 intro A1 c1 h1 bl1 bh1
 have h_list := h1
 refine enterB hb @Tryd.func39 @Tryd.ntmps39 rfl rfl ?_
 refine zent ?_
 refine Js.trashE ?_
 refine zn ?_
 refine zS <| Qa rfl <| zN <| Qm rfl <| Qm rfl <| Qm rfl <| Qz rfl <| zBB 1 sp_ rfl (fun w hb _ hw => c_spec_l00Src_pick s_code s_at s_seed (list.length : Int) hb (ok_ hw)) ?_
 rintro _ _ G2 ⟨X2KX, X2AT, X2SD, rfl, rfl, hX2_0, hX2_1, hX2_2, hX2_3⟩
 refine znl ?_
 obtain ⟨y3, hy3⟩ : ∃ x, list[X2KX.toNat]? = some x := ⟨_, List.getElem?_eq_getElem (by omega)⟩
 obtain ⟨b3, o3, he3, hc3⟩ := strs_elem h1 hy3
 refine Qq (p_indexAddr el_38 rfl rfl (by omega) (by omega) he3) <| QC hc3 rfl <| Qa rfl <| JL.nil ?_
 refine zrb [0] hb (Up.refl _ _) ?_
 refine ⟨(y3), (X2AT), (X2SD), rfl, ?_, by first | trivial | omega | exact ⟨r5 _ (List.mem_of_getElem? (by assumption))⟩ | exact r5 _ (List.mem_of_getElem? (by assumption)), by first | trivial | omega | exact ⟨r5 _ (List.mem_of_getElem? (by assumption))⟩ | exact r5 _ (List.mem_of_getElem? (by assumption)), by first | trivial | omega | exact ⟨r5 _ (List.mem_of_getElem? (by assumption))⟩ | exact r5 _ (List.mem_of_getElem? (by assumption)), by first | trivial | omega | exact ⟨r5 _ (List.mem_of_getElem? (by assumption))⟩ | exact r5 _ (List.mem_of_getElem? (by assumption))⟩
 · rfl
theorem c_spec_StandardRulesL (name : List UInt8) {w : World} (r0 : name ∈ M.stdNames := by exact om_) : Ret Tryd.prog 76 [.string (sB name)] w (Ty.tup [Ty.ex (fun (RX : M.Rul) => (M.okR RX = true)) (fun RX => Ty.agg (cRules RX)), Ty.ex (fun (CX : Int) => True) (fun CX => Ty.int CX)]) := by
 refine enter @Tryd.func76 @Tryd.ntmps76 rfl rfl ?_
 refine zent ?_
 refine zS <| za zeh fun b1 => Qa rfl <| zJ <| zS <| Qm rfl <| JL.nil <| Js.block <| zS <| Qq (p_eqlT und_9 rfl rfl) <| Qa rfl <| JL.nil ?_
 refine zi (fun h2 h2' => ?_) fun h2 h2' => ?_
 ·
  refine zS <| Qb ?_
  refine zw 0 rfl rfl rfl ?_
  refine Qa rfl <| JL.nil ?_
  exact zro (Up.refl _ _) (g := by exact (gv_tup (gvc (gv_ex (M.Rul.mk 6 4 true false false false true 2 0) (by first | trivial | omega | decide | assumption | rfl | (dsimp only; omega) | (exfalso; simp only [M.stdNames, List.mem_cons, List.not_mem_nil, or_false] at r0; rcases r0 with rfl | rfl | rfl | rfl <;> simp_all) | exact M.okR_mk (by omega) (by omega) (by omega) (by omega) (by first | rfl | simp_all)) gv_) (gvc (gv_ex 0 (by first | trivial | omega | decide | assumption | rfl | (dsimp only; omega) | (exfalso; simp only [M.stdNames, List.mem_cons, List.not_mem_nil, or_false] at r0; rcases r0 with rfl | rfl | rfl | rfl <;> simp_all) | exact M.okR_mk (by omega) (by omega) (by omega) (by omega) (by first | rfl | simp_all)) gv_) gvn))))
 refine zS <| Qq (p_eqlT und_9 rfl rfl) <| Qa rfl <| JL.nil ?_
 refine zi (fun h3 h3' => ?_) fun h3 h3' => ?_
 ·
  refine zS <| Qb ?_
  refine zw 0 rfl rfl rfl ?_
  refine Qa rfl <| JL.nil ?_
  exact zro (Up.refl _ _) (g := by exact (gv_tup (gvc (gv_ex (M.Rul.mk 3 2 false false false true false 1 0) (by first | trivial | omega | decide | assumption | rfl | (dsimp only; omega) | (exfalso; simp only [M.stdNames, List.mem_cons, List.not_mem_nil, or_false] at r0; rcases r0 with rfl | rfl | rfl | rfl <;> simp_all) | exact M.okR_mk (by omega) (by omega) (by omega) (by omega) (by first | rfl | simp_all)) gv_) (gvc (gv_ex 0 (by first | trivial | omega | decide | assumption | rfl | (dsimp only; omega) | (exfalso; simp only [M.stdNames, List.mem_cons, List.not_mem_nil, or_false] at r0; rcases r0 with rfl | rfl | rfl | rfl <;> simp_all) | exact M.okR_mk (by omega) (by omega) (by omega) (by omega) (by first | rfl | simp_all)) gv_) gvn))))
 refine zS <| Qq (p_eqlT und_9 rfl rfl) <| Qa rfl <| JL.nil ?_
 refine zi (fun h4 h4' => ?_) fun h4 h4' => ?_
 ·
  refine zS <| Qb ?_
  refine zw 0 rfl rfl rfl ?_
  refine Qa rfl <| JL.nil ?_
  exact zro (Up.refl _ _) (g := by exact (gv_tup (gvc (gv_ex (M.Rul.mk 6 4 false true false true false 1 2) (by first | trivial | omega | decide | assumption | rfl | (dsimp only; omega) | (exfalso; simp only [M.stdNames, List.mem_cons, List.not_mem_nil, or_false] at r0; rcases r0 with rfl | rfl | rfl | rfl <;> simp_all) | exact M.okR_mk (by omega) (by omega) (by omega) (by omega) (by first | rfl | simp_all)) gv_) (gvc (gv_ex 0 (by first | trivial | omega | decide | assumption | rfl | (dsimp only; omega) | (exfalso; simp only [M.stdNames, List.mem_cons, List.not_mem_nil, or_false] at r0; rcases r0 with rfl | rfl | rfl | rfl <;> simp_all) | exact M.okR_mk (by omega) (by omega) (by omega) (by omega) (by first | rfl | simp_all)) gv_) gvn))))
 refine zS <| Qq (p_eqlT und_9 rfl rfl) <| Qa rfl <| JL.nil ?_
 refine zi (fun h5 h5' => ?_) fun h5 h5' => ?_
 ·
  refine zS <| Qb ?_
  refine zw 0 rfl rfl rfl ?_
  refine Qa rfl <| JL.nil ?_
  exact zro (Up.refl _ _) (g := by exact (gv_tup (gvc (gv_ex (M.Rul.mk 4 2 false false true false false 2 0) (by first | trivial | omega | decide | assumption | rfl | (dsimp only; omega) | (exfalso; simp only [M.stdNames, List.mem_cons, List.not_mem_nil, or_false] at r0; rcases r0 with rfl | rfl | rfl | rfl <;> simp_all) | exact M.okR_mk (by omega) (by omega) (by omega) (by omega) (by first | rfl | simp_all)) gv_) (gvc (gv_ex 0 (by first | trivial | omega | decide | assumption | rfl | (dsimp only; omega) | (exfalso; simp only [M.stdNames, List.mem_cons, List.not_mem_nil, or_false] at r0; rcases r0 with rfl | rfl | rfl | rfl <;> simp_all) | exact M.okR_mk (by omega) (by omega) (by omega) (by omega) (by first | rfl | simp_all)) gv_) gvn))))
 refine Js.skip <| Js.blockEnd <| zS <| Qb ?_
 refine zw 0 rfl rfl rfl ?_
 refine Qa rfl <| JL.nil ?_
 exact zro (Up.refl _ _) (g := by exact (gv_tup (gvc (gv_ex (M.Rul.mk 0 0 false false false false false 0 0) (by first | trivial | omega | decide | assumption | rfl | (dsimp only; omega) | (exfalso; simp only [M.stdNames, List.mem_cons, List.not_mem_nil, or_false] at r0; rcases r0 with rfl | rfl | rfl | rfl <;> simp_all) | exact M.okR_mk (by omega) (by omega) (by omega) (by omega) (by first | rfl | simp_all)) gv_) (gvc (gv_ex 3 (by first | trivial | omega | decide | assumption | rfl | (dsimp only; omega) | (exfalso; simp only [M.stdNames, List.mem_cons, List.not_mem_nil, or_false] at r0; rcases r0 with rfl | rfl | rfl | rfl <;> simp_all) | exact M.okR_mk (by omega) (by omega) (by omega) (by omega) (by first | rfl | simp_all)) gv_) gvn))))
theorem c_spec_l02DrawL (s_code : Nat) (s_at s_seed : Int) {As_0 : Option Addr} {cs_0 bs : Nat} {w : World} (hb : Bw w [boxO bs [.slice As_0 s_code cs_0, .int .i64 s_at, .int .u64 s_seed] 87]) (hps_0 : (Ty.bytes 5 s_code).ok (offW w (([boxO bs [.slice As_0 s_code cs_0, .int .i64 s_at, .int .u64 s_seed] 87] : List Own).flatMap (·.fp))) (.slice As_0 s_code cs_0)) (r0 : 0 ≤ s_at := by exact om_) (r1 : s_at ≤ 999999960 := by exact om_) (r2 : s_code ≤ 1048576 := by exact om_) : RetB Tryd.prog 65 [.pointer (some ⟨bs, 0, none⟩)] w [boxO bs [.slice As_0 s_code cs_0, .int .i64 s_at, .int .u64 s_seed] 87] (fun v bs' => ∃ (RX : M.Rul) (AT SD : Int), v = .agg #[.int .i64 RX.pits, .int .i64 RX.seeds, .bool RX.stores, .bool RX.skip, .bool RX.relay, .bool RX.feed, .bool RX.again, .int .i64 RX.capture, .int .i64 RX.slam] ∧ bs' = [boxO bs [.slice As_0 s_code cs_0, .int .i64 AT, .int .u64 SD] 87] ∧ (M.okR RX = true) ∧ (s_at ≤ AT) ∧ (AT ≤ s_at + 40)) := by
 refine enterB hb @Tryd.func65 @Tryd.ntmps65 rfl rfl ?_
 refine zent ?_
 refine Js.trashE ?_
 refine zn ?_
 refine zS <| za zeh fun b1 => zJ <| zS <| Qm rfl ?_
 refine zhl [1] ?_
 refine zBB 1 sp_ rfl (fun w hb _ hw => c_spec_l00Src_one s_code s_at s_seed 3 hb (ok_ hw)) ?_
 rintro _ _ G2 ⟨X2BX, X2AT, X2SD, rfl, rfl, hX2_0, hX2_1⟩
 refine znl ?_
 refine JL.nil ?_
 refine zf [0, 1] fun GG3 => ?_
 refine zn ?_
 refine zi (fun h4 h4' => ?_) fun h4 h4' => ?_
 ·
  refine zS <| Qm rfl <| zp rfl (fun w hw => c_spec_StandardNames) ?_
  intro u5 x5 A6 c6 h6 bl6 bh6
  refine zBB 1 sp_ rfl (fun w hb _ hw => c_spec_l00Src_text s_code X2AT X2SD M.stdNames hb (ok_ hw) (ok_ hw) (r3 := (by decide)) (r4 := (by decide))) ?_
  rintro _ _ G7 ⟨X7TX, X7AT, X7SD, rfl, rfl, hX7_0, hX7_1, hX7_2⟩
  refine znl ?_
  refine zp rfl (fun w hw => c_spec_StandardRulesL X7TX (r0 := (by assumption))) ?_
  intro u8 x8 X9 hX9 X10 hX10
  refine Qm rfl <| Qx rfl rfl <| Qx rfl rfl <| za zeh fun b11 => zw 0 rfl rfl rfl ?_
  refine Qa rfl <| JL.nil ?_
  refine zf [0, 0, 1] fun GG12 => ?_
  refine zn ?_
  refine zS <| Q9 0 rfl rfl ?_
  refine zw 2 rfl rfl rfl ?_
  refine JL.nil ?_
  refine zf [1, 1] fun GG13 => ?_
  refine zn ?_
  refine zrb [0] hb (x5.trans x8) ?_
  refine ⟨(X9), (X7AT), (X7SD), rfl, ?_, by first | trivial | omega | decide | assumption | rfl | (dsimp only; omega) | (exfalso; simp only [M.stdNames, List.mem_cons, List.not_mem_nil, or_false] at r0; rcases r0 with rfl | rfl | rfl | rfl <;> simp_all) | exact M.okR_mk (by omega) (by omega) (by omega) (by omega) (by first | rfl | simp_all), by first | trivial | omega | decide | assumption | rfl | (dsimp only; omega) | (exfalso; simp only [M.stdNames, List.mem_cons, List.not_mem_nil, or_false] at r0; rcases r0 with rfl | rfl | rfl | rfl <;> simp_all) | exact M.okR_mk (by omega) (by omega) (by omega) (by omega) (by first | rfl | simp_all), by first | trivial | omega | decide | assumption | rfl | (dsimp only; omega) | (exfalso; simp only [M.stdNames, List.mem_cons, List.not_mem_nil, or_false] at r0; rcases r0 with rfl | rfl | rfl | rfl <;> simp_all) | exact M.okR_mk (by omega) (by omega) (by omega) (by omega) (by first | rfl | simp_all)⟩
  · rfl
 refine Js.skip <| zS <| Qm rfl <| zBB 1 sp_ rfl (fun w hb _ hw => c_spec_l00Src_pick s_code X2AT X2SD 4 hb (ok_ hw)) ?_
 rintro _ _ G14 ⟨X14KX, X14AT, X14SD, rfl, rfl, hX14_0, hX14_1, hX14_2, hX14_3⟩
 refine znl ?_
 refine Qp rfl rfl <| Qm rfl <| zBB 1 sp_ rfl (fun w hb _ hw => c_spec_l00Src_pick s_code X14AT X14SD 4 hb (ok_ hw)) ?_
 rintro _ _ G15 ⟨X15KX, X15AT, X15SD, rfl, rfl, hX15_0, hX15_1, hX15_2, hX15_3⟩
 refine znl ?_
 refine Qp rfl rfl <| Qb ?_
 refine za zeh fun b16 => zw 0 rfl rfl rfl ?_
 refine JL.nil ?_
 refine zf [0, 0, 2] fun GG17 => ?_
 refine zn ?_
 refine zS <| Qm rfl ?_
 refine zhl [1] ?_
 refine zBB 1 sp_ rfl (fun w hb _ hw => c_spec_l00Src_one s_code X15AT X15SD 2 hb (ok_ hw)) ?_
 rintro _ _ G18 ⟨X18BX, X18AT, X18SD, rfl, rfl, hX18_0, hX18_1⟩
 refine znl ?_
 refine Qf fh rfl <| zw 2 rfl rfl rfl ?_
 refine JL.nil ?_
 refine zf [0, 1, 1] fun GG19 => ?_
 refine zn ?_
 refine zS <| Qm rfl <| zBB 1 sp_ rfl (fun w hb _ hw => c_spec_l00Src_one s_code X18AT X18SD 2 hb (ok_ hw)) ?_
 rintro _ _ G20 ⟨X20BX, X20AT, X20SD, rfl, rfl, hX20_0, hX20_1⟩
 refine znl ?_
 refine Qf fh rfl <| zw 2 rfl rfl rfl ?_
 refine JL.nil ?_
 refine zf [0, 1, 1] fun GG21 => ?_
 refine zn ?_
 refine zS <| Qm rfl <| zBB 1 sp_ rfl (fun w hb _ hw => c_spec_l00Src_one s_code X20AT X20SD 4 hb (ok_ hw)) ?_
 rintro _ _ G22 ⟨X22BX, X22AT, X22SD, rfl, rfl, hX22_0, hX22_1⟩
 refine znl ?_
 refine Qf fh rfl <| zw 2 rfl rfl rfl ?_
 refine JL.nil ?_
 refine zf [0, 1, 1] fun GG23 => ?_
 refine zn ?_
 refine zS <| Qm rfl <| zBB 1 sp_ rfl (fun w hb _ hw => c_spec_l00Src_one s_code X22AT X22SD 2 hb (ok_ hw)) ?_
 rintro _ _ G24 ⟨X24BX, X24AT, X24SD, rfl, rfl, hX24_0, hX24_1⟩
 refine znl ?_
 refine Qf fh rfl <| zw 2 rfl rfl rfl ?_
 refine JL.nil ?_
 refine zf [0, 1, 1] fun GG25 => ?_
 refine zn ?_
 refine Js.seq ?_
 rcases Bool.eq_false_or_eq_true (X18BX) with h26 | h26
 ·
  refine Js.region <| Qf fh rfl <| Q0 1 rfl rfl rfl <| Qm rfl <| zT (Gd.t1 rfl rfl rfl) (show X18BX = true by first | exact h26 | (rw [h26]; rfl) | simp [h26]) <| Qm rfl <| zT (Gd.t1 rfl rfl rfl) (show X18BX = true by first | exact h26 | (rw [h26]; rfl) | simp [h26]) <| zBB 1 sp_ rfl (fun w hb _ hw => c_spec_l00Src_one s_code X24AT X24SD 2 hb (ok_ hw)) ?_
  rintro _ _ G27 ⟨X27BX, X27AT, X27SD, rfl, rfl, hX27_0, hX27_1⟩
  refine znl ?_
  refine Qq (p_pickAnd2 rfl rfl rfl) <| Qf fh rfl <| zw 2 rfl rfl rfl ?_
  refine JL.nil ?_
  refine zf [0, 1, 1] fun GG28 => ?_
  refine zn ?_
  refine zS <| Qm rfl <| zBB 1 sp_ rfl (fun w hb _ hw => c_spec_l00Src_pick s_code X27AT X27SD 4 hb (ok_ hw)) ?_
  rintro _ _ G29 ⟨X29KX, X29AT, X29SD, rfl, rfl, hX29_0, hX29_1, hX29_2, hX29_3⟩
  refine znl ?_
  refine Qf fh rfl <| zw 2 rfl rfl rfl ?_
  refine JL.nil ?_
  refine zf [0, 1, 1] fun GG30 => ?_
  refine zn ?_
  refine zS <| Qm rfl <| zBB 1 sp_ rfl (fun w hb _ hw => c_spec_l00Src_pick s_code X29AT X29SD 3 hb (ok_ hw)) ?_
  rintro _ _ G31 ⟨X31KX, X31AT, X31SD, rfl, rfl, hX31_0, hX31_1, hX31_2, hX31_3⟩
  refine znl ?_
  refine Qf fh rfl <| zw 2 rfl rfl rfl ?_
  refine JL.nil ?_
  refine zf [0, 1, 1] fun GG32 => ?_
  refine zn ?_
  refine zS <| Q9 1 rfl rfl ?_
  refine zw 2 rfl rfl rfl ?_
  refine JL.nil ?_
  refine zf [0, 1] fun GG33 => ?_
  refine zn ?_
  refine zrb [0] hb (Up.refl _ _) ?_
  refine ⟨((M.Rul.mk (2 + X14KX) (1 + X15KX) X18BX X20BX X22BX X24BX (X18BX && X27BX) X29KX X31KX)), (X31AT), (X31SD), rfl, ?_, by first | trivial | omega | decide | assumption | rfl | (dsimp only; omega) | (exfalso; simp only [M.stdNames, List.mem_cons, List.not_mem_nil, or_false] at r0; rcases r0 with rfl | rfl | rfl | rfl <;> simp_all) | exact M.okR_mk (by omega) (by omega) (by omega) (by omega) (by first | rfl | simp_all), by first | trivial | omega | decide | assumption | rfl | (dsimp only; omega) | (exfalso; simp only [M.stdNames, List.mem_cons, List.not_mem_nil, or_false] at r0; rcases r0 with rfl | rfl | rfl | rfl <;> simp_all) | exact M.okR_mk (by omega) (by omega) (by omega) (by omega) (by first | rfl | simp_all), by first | trivial | omega | decide | assumption | rfl | (dsimp only; omega) | (exfalso; simp only [M.stdNames, List.mem_cons, List.not_mem_nil, or_false] at r0; rcases r0 with rfl | rfl | rfl | rfl <;> simp_all) | exact M.okR_mk (by omega) (by omega) (by omega) (by omega) (by first | rfl | simp_all)⟩
  · rfl
 refine Js.region <| Qf fh rfl <| Q0 1 rfl rfl rfl <| Qm rfl ?_
 refine JL.g (v := undef) (Gd.t1 rfl rfl rfl) (fun hc => absurd hc (by first | (rw [h26]; simp; done) | simp [h26])) ?_
 refine JL.g (v := .bool false) (Gd.t1 rfl rfl rfl) (fun hc => absurd hc (by first | (rw [h26]; simp; done) | simp [h26])) ?_
 refine Qq (p_pickAnd rfl rfl rfl) <| Qf fh rfl <| zw 1 rfl rfl rfl ?_
 refine zN <| Qm rfl <| zBB 1 sp_ rfl (fun w hb _ hw => c_spec_l00Src_pick s_code X24AT X24SD 4 hb (ok_ hw)) ?_
 rintro _ _ G34 ⟨X34KX, X34AT, X34SD, rfl, rfl, hX34_0, hX34_1, hX34_2, hX34_3⟩
 refine znl ?_
 refine Qf fh rfl <| zw 2 rfl rfl rfl ?_
 refine JL.nil ?_
 refine zf [0, 1, 1] fun GG35 => ?_
 refine zn ?_
 refine zS <| Qm rfl <| zBB 1 sp_ rfl (fun w hb _ hw => c_spec_l00Src_pick s_code X34AT X34SD 3 hb (ok_ hw)) ?_
 rintro _ _ G36 ⟨X36KX, X36AT, X36SD, rfl, rfl, hX36_0, hX36_1, hX36_2, hX36_3⟩
 refine znl ?_
 refine Qf fh rfl <| zw 2 rfl rfl rfl ?_
 refine JL.nil ?_
 refine zf [0, 1, 1] fun GG37 => ?_
 refine zn ?_
 refine zS <| Q9 1 rfl rfl ?_
 refine zw 2 rfl rfl rfl ?_
 refine JL.nil ?_
 refine zf [0, 1] fun GG38 => ?_
 refine zn ?_
 refine zrb [0] hb (Up.refl _ _) ?_
 refine ⟨((M.Rul.mk (2 + X14KX) (1 + X15KX) X18BX X20BX X22BX X24BX (X18BX && false) X34KX X36KX)), (X36AT), (X36SD), rfl, ?_, by first | trivial | omega | decide | assumption | rfl | (dsimp only; omega) | (exfalso; simp only [M.stdNames, List.mem_cons, List.not_mem_nil, or_false] at r0; rcases r0 with rfl | rfl | rfl | rfl <;> simp_all) | exact M.okR_mk (by omega) (by omega) (by omega) (by omega) (by first | rfl | simp_all), by first | trivial | omega | decide | assumption | rfl | (dsimp only; omega) | (exfalso; simp only [M.stdNames, List.mem_cons, List.not_mem_nil, or_false] at r0; rcases r0 with rfl | rfl | rfl | rfl <;> simp_all) | exact M.okR_mk (by omega) (by omega) (by omega) (by omega) (by first | rfl | simp_all), by first | trivial | omega | decide | assumption | rfl | (dsimp only; omega) | (exfalso; simp only [M.stdNames, List.mem_cons, List.not_mem_nil, or_false] at r0; rcases r0 with rfl | rfl | rfl | rfl <;> simp_all) | exact M.okR_mk (by omega) (by omega) (by omega) (by omega) (by first | rfl | simp_all)⟩
 · rfl
theorem c_spec_l03DrawText (s_code : Nat) (s_at s_seed : Int) {As_0 : Option Addr} {cs_0 bs : Nat} {w : World} (hb : Bw w [boxO bs [.slice As_0 s_code cs_0, .int .i64 s_at, .int .u64 s_seed] 87]) (hps_0 : (Ty.bytes 5 s_code).ok (offW w (([boxO bs [.slice As_0 s_code cs_0, .int .i64 s_at, .int .u64 s_seed] 87] : List Own).flatMap (·.fp))) (.slice As_0 s_code cs_0)) (r0 : 0 ≤ s_at := by exact om_) (r1 : s_at ≤ 999999500 := by exact om_) (r2 : s_code ≤ 1048576 := by exact om_) : RetB Tryd.prog 48 [.pointer (some ⟨bs, 0, none⟩)] w [boxO bs [.slice As_0 s_code cs_0, .int .i64 s_at, .int .u64 s_seed] 87] (fun v bs' => ∃ (TX : List UInt8) (AT SD : Int), v = .string (sB TX) ∧ bs' = [boxO bs [.slice As_0 s_code cs_0, .int .i64 AT, .int .u64 SD] 87] ∧ (TX.length ≤ 300) ∧ (s_at ≤ AT) ∧ (AT ≤ s_at + 500)) := by
 refine enterB hb @Tryd.func48 @Tryd.ntmps48 rfl rfl ?_
 refine zent ?_
 refine Js.trashE ?_
 refine zn ?_
 refine zS <| Qa rfl <| zN <| Qm rfl <| zBB 1 sp_ rfl (fun w hb _ hw => c_spec_l02DrawL s_code s_at s_seed hb (ok_ hw)) ?_
 rintro _ _ G1 ⟨X1RX, X1AT, X1SD, rfl, rfl, hX1_0, hX1_1, hX1_2⟩
 refine znl ?_
 refine za zeh fun b2 => zw 0 rfl rfl rfl ?_
 refine JL.nil ?_
 refine zf [0, 0] fun GG3 => ?_
 refine zn ?_
 refine zS <| zv rfl (fun w hw => c_spec_l03Text X1RX (ok_ hw) (r0 := (by assumption))) <| Qa rfl <| JL.nil ?_
 refine zf [1] fun GG4 => ?_
 refine zn ?_
 have htl := M.rulesT_len X1RX
 refine Js.seq <| zS <| Qm rfl <| zBB 1 sp_ rfl (fun w hb _ hw => c_spec_l00Src_pick s_code X1AT X1SD 6 hb (ok_ hw)) ?_
 rintro _ _ G5 ⟨X5KX, X5AT, X5SD, rfl, rfl, hX5_0, hX5_1, hX5_2, hX5_3⟩
 refine znl ?_
 refine JL.nil ?_
 refine zf [0] fun GG6 => ?_
 refine zn ?_
 refine Js.block <| zS <| Qe rfl rfl <| Qa rfl <| JL.nil ?_
 refine zi (fun h7 h7' => ?_) fun h7 h7' => ?_
 ·
  refine zS <| Qm rfl <| Qm rfl <| zBB 1 sp_ rfl (fun w hb _ hw => c_spec_l01Spoil s_code X5AT X5SD (M.rulesT X1RX) hb (ok_ hw)) ?_
  rintro _ _ G8 ⟨X8TX, X8AT, X8SD, rfl, rfl, hX8_0, hX8_1, hX8_2⟩
  refine znl ?_
  refine Qa rfl <| JL.nil ?_
  refine zf [0] fun GG9 => ?_
  refine zn ?_
  refine zrb [0] hb (Up.refl _ _) ?_
  refine ⟨(X8TX), (X8AT), (X8SD), rfl, ?_, by first | trivial | omega | assumption | (have h9 := (by assumption : LenB _ 40).h; first | omega | (simp only [List.length_append, List.length_cons, List.length_nil]; omega)), by first | trivial | omega | assumption | (have h9 := (by assumption : LenB _ 40).h; first | omega | (simp only [List.length_append, List.length_cons, List.length_nil]; omega)), by first | trivial | omega | assumption | (have h9 := (by assumption : LenB _ 40).h; first | omega | (simp only [List.length_append, List.length_cons, List.length_nil]; omega))⟩
  · rfl
 refine zS <| Qe rfl rfl <| Qa rfl <| JL.nil ?_
 refine zi (fun h10 h10' => ?_) fun h10 h10' => ?_
 ·
  refine zS <| Qm rfl <| Qq (q_cat rfl rfl) <| Qm rfl <| zbs fun b11 => ?_
  refine zhl [1] ?_
  refine zBB 1 sp_ rfl (fun w hb _ hw => c_spec_l00Src_textLL s_code X5AT X5SD ([([112, 105, 116, 115, 61, 51] : List UInt8), ([97, 103, 97, 105, 110] : List UInt8), ([115, 116, 111, 114, 101, 115] : List UInt8), ([98, 108, 117, 101] : List UInt8), ([115, 107, 105, 112, 61, 49] : List UInt8), ([115, 108, 97, 109] : List UInt8), ([99, 97, 112, 116, 117, 114, 101, 61, 97, 108, 108] : List UInt8), ([115, 101, 101, 100, 115, 61, 115, 101, 118, 101, 110] : List UInt8), ([115, 101, 101, 100, 115, 61, 55] : List UInt8), ([61] : List UInt8), ([102, 101, 101, 100, 32, 102, 101, 101, 100] : List UInt8)]) hb (ok_ hw) (strs_rowok (xs := ([([112, 105, 116, 115, 61, 51] : List UInt8), ([97, 103, 97, 105, 110] : List UInt8), ([115, 116, 111, 114, 101, 115] : List UInt8), ([98, 108, 117, 101] : List UInt8), ([115, 107, 105, 112, 61, 49] : List UInt8), ([115, 108, 97, 109] : List UInt8), ([99, 97, 112, 116, 117, 114, 101, 61, 97, 108, 108] : List UInt8), ([115, 101, 101, 100, 115, 61, 115, 101, 118, 101, 110] : List UInt8), ([115, 101, 101, 100, 115, 61, 55] : List UInt8), ([61] : List UInt8), ([102, 101, 101, 100, 32, 102, 101, 101, 100] : List UInt8)])) (hw.pr (i := 0) rfl)) (r3 := (by decide)) (r4 := (by decide)) (r5 := (by decide))) ?_
  rintro _ _ G13 ⟨X13TX, X13AT, X13SD, rfl, rfl, hX13_0, hX13_1, hX13_2, hX13_3⟩
  refine znl ?_
  refine Qq (q_cat rfl rfl) <| Qa rfl <| JL.nil ?_
  refine zf [0] fun GG14 => ?_
  refine zn ?_
  refine zrb [0] hb (Up.refl _ _) ?_
  refine ⟨(((M.rulesT X1RX) ++ ([32] : List UInt8)) ++ X13TX), (X13AT), (X13SD), rfl, ?_, by first | trivial | omega | assumption | (have h9 := (by assumption : LenB _ 40).h; first | omega | (simp only [List.length_append, List.length_cons, List.length_nil]; omega)), by first | trivial | omega | assumption | (have h9 := (by assumption : LenB _ 40).h; first | omega | (simp only [List.length_append, List.length_cons, List.length_nil]; omega)), by first | trivial | omega | assumption | (have h9 := (by assumption : LenB _ 40).h; first | omega | (simp only [List.length_append, List.length_cons, List.length_nil]; omega))⟩
  · rfl
 refine zS <| Qe rfl rfl <| Qa rfl <| JL.nil ?_
 refine zi (fun h15 h15' => ?_) fun h15 h15' => ?_
 ·
  refine zS <| Qm rfl <| zbs fun b16 => ?_
  refine zhl [1] ?_
  refine zBB 1 sp_ rfl (fun w hb _ hw => c_spec_l00Src_textLL s_code X5AT X5SD ([([] : List UInt8), ([32] : List UInt8), ([112, 105, 116, 115, 61, 57, 32, 115, 101, 101, 100, 115, 61, 48] : List UInt8), ([115, 101, 101, 100, 115, 61, 52, 32, 112, 105, 116, 115, 61, 54] : List UInt8), ([32, 32, 112, 105, 116, 115, 61, 50, 32, 32, 32, 115, 101, 101, 100, 115, 61, 49, 32] : List UInt8), ([112, 105, 116, 115, 61, 50, 32, 115, 101, 101, 100, 115, 61, 49, 32, 97, 103, 97, 105, 110] : List UInt8), ([97, 103, 97, 105, 110, 32, 115, 116, 111, 114, 101, 115, 32, 112, 105, 116, 115, 61, 48, 51, 32, 115, 101, 101, 100, 115, 61, 49] : List UInt8)]) hb (ok_ hw) (strs_rowok (xs := ([([] : List UInt8), ([32] : List UInt8), ([112, 105, 116, 115, 61, 57, 32, 115, 101, 101, 100, 115, 61, 48] : List UInt8), ([115, 101, 101, 100, 115, 61, 52, 32, 112, 105, 116, 115, 61, 54] : List UInt8), ([32, 32, 112, 105, 116, 115, 61, 50, 32, 32, 32, 115, 101, 101, 100, 115, 61, 49, 32] : List UInt8), ([112, 105, 116, 115, 61, 50, 32, 115, 101, 101, 100, 115, 61, 49, 32, 97, 103, 97, 105, 110] : List UInt8), ([97, 103, 97, 105, 110, 32, 115, 116, 111, 114, 101, 115, 32, 112, 105, 116, 115, 61, 48, 51, 32, 115, 101, 101, 100, 115, 61, 49] : List UInt8)])) (hw.pr (i := 0) rfl)) (r3 := (by decide)) (r4 := (by decide)) (r5 := (by decide))) ?_
  rintro _ _ G18 ⟨X18TX, X18AT, X18SD, rfl, rfl, hX18_0, hX18_1, hX18_2, hX18_3⟩
  refine znl ?_
  refine Qa rfl <| JL.nil ?_
  refine zf [0] fun GG19 => ?_
  refine zn ?_
  refine zrb [0] hb (Up.refl _ _) ?_
  refine ⟨(X18TX), (X18AT), (X18SD), rfl, ?_, by first | trivial | omega | assumption | (have h9 := (by assumption : LenB _ 40).h; first | omega | (simp only [List.length_append, List.length_cons, List.length_nil]; omega)), by first | trivial | omega | assumption | (have h9 := (by assumption : LenB _ 40).h; first | omega | (simp only [List.length_append, List.length_cons, List.length_nil]; omega)), by first | trivial | omega | assumption | (have h9 := (by assumption : LenB _ 40).h; first | omega | (simp only [List.length_append, List.length_cons, List.length_nil]; omega))⟩
  · rfl
 refine zS <| Qe rfl rfl <| Qa rfl <| JL.nil ?_
 refine zi (fun h20 h20' => ?_) fun h20 h20' => ?_
 ·
  refine Js.block ?_
  refine zl [0] (fun F U l os u m => ∃ (t2 : List UInt8) (at1 sd1 : Int) (G21_1 : List Nat), l = F [(4, .string (sB t2))] ∧ os = U [some (boxO bs [.slice As_0 s_code cs_0, .int .i64 at1, .int .u64 sd1] 87), some (anyO G21_1)] ∧ (t2.length ≤ 202) ∧ (s_at ≤ at1) ∧ (at1 ≤ s_at + 60 + 2 * t2.length) ∧ m = 202 - t2.length) ⟨M.rulesT X1RX, X5AT, X5SD, _, rfl, rfl, zt, zt, zt, rfl⟩ ?_
  rintro _ _ u21 _ ⟨t2, at1, sd1, G21_1, rfl, rfl, hT, ha0, ha1, rfl⟩ x21
  refine zn ?_
  have lb9 : LenB t2 202 := ⟨hT⟩
  refine Js.seq <| zS <| Qm rfl <| Qq (p_lenS und_9 rfl) <| Qm rfl <| zBB 1 sp_ rfl (fun w hb _ hw => c_spec_l00Src_pick s_code at1 sd1 2 hb (ok_ hw)) ?_
  rintro _ _ G22 ⟨X22KX, X22AT, X22SD, rfl, rfl, hX22_0, hX22_1, hX22_2, hX22_3⟩
  refine znl ?_
  refine Qp rfl rfl <| Ql rfl rfl <| JL.nil ?_
  refine zf [0] fun GG23 => ?_
  refine zn ?_
  refine zi (fun h24 h24' => ?_) fun h24 h24' => ?_
  ·
   refine Js.skip <| Js.block <| Js.region <| Qm rfl <| Qq (q_cat rfl rfl) <| Qa rfl <| JL.nil <| Js.blockEnd ?_
   exact zag ⟨t2 ++ ([32] : List UInt8), X22AT, X22SD, _, rfl, rfl, by simp only [List.length_append, List.length_cons, List.length_nil]; omega, zt, by simp only [List.length_append, List.length_cons, List.length_nil]; omega, rfl⟩ x21 (by simp only [List.length_append, List.length_cons, List.length_nil]; omega)
  refine zx ?_
  refine Js.blockEnd <| zS <| Qm rfl <| Qa rfl <| JL.nil ?_
  refine zrb [0] hb x21 ?_
  refine ⟨(t2), (X22AT), (X22SD), rfl, ?_, by first | trivial | omega | assumption | (have h9 := (by assumption : LenB _ 40).h; first | omega | (simp only [List.length_append, List.length_cons, List.length_nil]; omega)), by first | trivial | omega | assumption | (have h9 := (by assumption : LenB _ 40).h; first | omega | (simp only [List.length_append, List.length_cons, List.length_nil]; omega)), by first | trivial | omega | assumption | (have h9 := (by assumption : LenB _ 40).h; first | omega | (simp only [List.length_append, List.length_cons, List.length_nil]; omega))⟩
  · rfl
 refine Js.skip <| Js.blockEnd <| zS <| Qm rfl <| Qa rfl <| JL.nil ?_
 refine zrb [0] hb (Up.refl _ _) ?_
 refine ⟨(M.rulesT X1RX), (X5AT), (X5SD), rfl, ?_, by first | trivial | omega | assumption | (have h9 := (by assumption : LenB _ 40).h; first | omega | (simp only [List.length_append, List.length_cons, List.length_nil]; omega)), by first | trivial | omega | assumption | (have h9 := (by assumption : LenB _ 40).h; first | omega | (simp only [List.length_append, List.length_cons, List.length_nil]; omega)), by first | trivial | omega | assumption | (have h9 := (by assumption : LenB _ 40).h; first | omega | (simp only [List.length_append, List.length_cons, List.length_nil]; omega))⟩
 · rfl
theorem c_spec_DrawRulesText (code : Nat) {v_code : Value} {w : World} (h_code : (Ty.bytes 5 code).ok w v_code) (r0 : code ≤ 1048576 := by exact om_) : Ret Tryd.prog 28 [v_code] w (Ty.ex (fun (RX : M.Rul) => True) (fun RX => Ty.agg (cRules RX))) := by
 revert v_code; apply opn
 intro A1 c1 h1 bl1 bh1
 have h_code := h1
 refine enter @Tryd.func28 @Tryd.ntmps28 rfl rfl ?_
 refine zent ?_
 refine zS <| za zeh fun b2 => zN <| Qm rfl <| zcs rfl (fun w hw => c_spec_l00From code (ok_ hw)) ?_
 intro b3
 refine zB 1 sp_ rfl (fun w hb hw => c_spec_l02Bent code 0 0 hb (ok_ hw)) ?_
 rintro _ _ G4 ⟨X4RX, X4AT, X4SD, rfl, rfl, hX4_0, hX4_1, hX4_2⟩
 refine znl ?_
 refine zw 2 rfl rfl rfl ?_
 refine JL.nil ?_
 exact zro (Up.refl _ _) (g := by exact (gv_ex X4RX (by first | trivial | assumption | omega) gv_))
theorem c_spec_DrawCheckRules (code : Nat) {v_code : Value} {w : World} (h_code : (Ty.bytes 5 code).ok w v_code) (r0 : code ≤ 1048576 := by exact om_) : Ret Tryd.prog 31 [v_code] w (Ty.ex (fun (TX : List UInt8) => (TX.length ≤ 300)) (fun TX => Ty.str TX)) := by
 revert v_code; apply opn
 intro A1 c1 h1 bl1 bh1
 have h_code := h1
 refine enter @Tryd.func31 @Tryd.ntmps31 rfl rfl ?_
 refine zent ?_
 refine zS <| Qa rfl <| zN <| Qm rfl <| zcs rfl (fun w hw => c_spec_l00From code (ok_ hw)) ?_
 intro b2
 refine zB 1 sp_ rfl (fun w hb hw => c_spec_l03DrawText code 0 0 hb (ok_ hw)) ?_
 rintro _ _ G3 ⟨X3TX, X3AT, X3SD, rfl, rfl, hX3_0, hX3_1, hX3_2⟩
 refine znl ?_
 refine Qa rfl <| JL.nil ?_
 exact zro (Up.refl _ _) (g := by exact (gv_ex X3TX (by first | trivial | assumption | omega) gv_))
theorem c_impl_Decimal (n : Int) {w : World} (h_tab : tabT.ok w undef) (r0 : -9223372036854775808 ≤ n := by exact om_) (r1 : n ≤ 9223372036854775807 := by exact om_) : RetV Tryd.prog 52 [.int .i64 n] w (.string (sB (M.dec n))) := by
 refine enter @Tryd.func52 @Tryd.ntmps52 rfl rfl ?_
 refine zent ?_
 refine zS <| Qa rfl <| zN <| Qm rfl <| zv rfl (fun w hw => c_strconv_FormatInt n 10 (ok_ hw)) <| Qa rfl <| JL.nil ?_
 exact zr (Up.refl _ _)
theorem c_impl_CaptureName (kind : Int) {w : World}  : RetV Tryd.prog 59 [.int .i64 kind] w (.string (sB (M.capName kind))) := by
 refine enter @Tryd.func59 @Tryd.ntmps59 rfl rfl ?_
 refine zent ?_
 refine zS <| Qa rfl <| zJ <| zS <| Qm rfl <| JL.nil <| Js.block <| zS <| Qe rfl rfl <| Qa rfl <| JL.nil ?_
 refine zi (fun h1 h1' => ?_) fun h1 h1' => ?_
 ·
  refine zS <| Qa rfl <| JL.nil ?_
  refine zR (Up.refl _ _) ?_
  first | (simp only [outV, M.capName, *, if_true, if_false]; done) | (simp [outV, M.capName, *])
 refine zS <| Qe rfl rfl <| Qa rfl <| JL.nil ?_
 refine zi (fun h2 h2' => ?_) fun h2 h2' => ?_
 ·
  refine zS <| Qa rfl <| JL.nil ?_
  refine zR (Up.refl _ _) ?_
  first | (simp only [outV, M.capName, *, if_true, if_false]; done) | (simp [outV, M.capName, *])
 refine zS <| Qe rfl rfl <| Qa rfl <| JL.nil ?_
 refine zi (fun h3 h3' => ?_) fun h3 h3' => ?_
 ·
  refine zS <| Qa rfl <| JL.nil ?_
  refine zR (Up.refl _ _) ?_
  first | (simp only [outV, M.capName, *, if_true, if_false]; done) | (simp [outV, M.capName, *])
 refine zS <| Qe rfl rfl <| Qa rfl <| JL.nil ?_
 refine zi (fun h4 h4' => ?_) fun h4 h4' => ?_
 ·
  refine zS <| Qa rfl <| JL.nil ?_
  refine zR (Up.refl _ _) ?_
  first | (simp only [outV, M.capName, *, if_true, if_false]; done) | (simp [outV, M.capName, *])
 refine Js.skip <| Js.blockEnd <| zS <| Qa rfl <| JL.nil ?_
 refine zR (Up.refl _ _) ?_
 first | (simp only [outV, M.capName, *, if_true, if_false]; done) | (simp [outV, M.capName, *])
theorem c_impl_SlamName (kind : Int) {w : World}  : RetV Tryd.prog 8 [.int .i64 kind] w (.string (sB (M.slamName kind))) := by
 refine enter @Tryd.func8 @Tryd.ntmps8 rfl rfl ?_
 refine zent ?_
 refine zS <| Qa rfl <| zJ <| zS <| Qm rfl <| JL.nil <| Js.block <| zS <| Qe rfl rfl <| Qa rfl <| JL.nil ?_
 refine zi (fun h1 h1' => ?_) fun h1 h1' => ?_
 ·
  refine zS <| Qa rfl <| JL.nil ?_
  refine zR (Up.refl _ _) ?_
  first | (simp only [outV, M.slamName, *, if_true, if_false]; done) | (simp [outV, M.slamName, *])
 refine zS <| Qe rfl rfl <| Qa rfl <| JL.nil ?_
 refine zi (fun h2 h2' => ?_) fun h2 h2' => ?_
 ·
  refine zS <| Qa rfl <| JL.nil ?_
  refine zR (Up.refl _ _) ?_
  first | (simp only [outV, M.slamName, *, if_true, if_false]; done) | (simp [outV, M.slamName, *])
 refine zS <| Qe rfl rfl <| Qa rfl <| JL.nil ?_
 refine zi (fun h3 h3' => ?_) fun h3 h3' => ?_
 ·
  refine zS <| Qa rfl <| JL.nil ?_
  refine zR (Up.refl _ _) ?_
  first | (simp only [outV, M.slamName, *, if_true, if_false]; done) | (simp [outV, M.slamName, *])
 refine Js.skip <| Js.blockEnd <| zS <| Qa rfl <| JL.nil ?_
 refine zR (Up.refl _ _) ?_
 first | (simp only [outV, M.slamName, *, if_true, if_false]; done) | (simp [outV, M.slamName, *])
theorem c_impl_flagNames  {w : World}  : Ret Tryd.prog 60 [] w (Ty.strs 9 M.fNames) := by
 refine enter @Tryd.func60 @Tryd.ntmps60 rfl rfl ?_
 refine zent ?_
 refine zS <| Qa rfl <| zN <| zbs fun b1 => ?_
 refine Qa rfl <| JL.nil ?_
 exact zro (Up.refl _ _) (g := by exact (gv_strs po_ (by rfl) (by rfl)))
theorem c_impl_Rules_flag (r : M.Rul) {v_r : Value} (y : List UInt8) {w : World} (h_r : (Ty.ref (cRules r)).ok w v_r) (r0 : y ∈ M.fNames := by exact om_) : RetV Tryd.prog 61 [v_r, .string (sB y)] w (addO v_r (M.flagIx y)) := by
 revert v_r; apply opn
 intro b1 o1 hr1
 refine enter @Tryd.func61 @Tryd.ntmps61 rfl rfl ?_
 refine zent ?_
 refine zS <| Qa rfl <| zJ <| zS <| Qm rfl <| JL.nil <| Js.block <| zS <| Qq (p_eqlT und_9 rfl rfl) <| Qa rfl <| JL.nil ?_
 refine zi (fun h2 h2' => ?_) fun h2 h2' => ?_
 ·
  have e52 := h2'
  refine zS <| Qm rfl <| Qc rfl <| Qf fh rfl <| Qa rfl <| JL.nil ?_
  refine zR (Up.refl _ _) ?_
  first | (rw [e52]; rfl) | (rw [e54]; rfl) | (rw [e56]; rfl) | (rw [e58]; rfl) | (rw [e60]; rfl) | (exfalso; simp only [M.fNames, List.mem_cons, List.not_mem_nil, or_false] at r0; rcases r0 with h | h | h | h | h <;> contradiction)
 have e52 := h2'
 refine zS <| Qq (p_eqlT und_9 rfl rfl) <| Qa rfl <| JL.nil ?_
 refine zi (fun h3 h3' => ?_) fun h3 h3' => ?_
 ·
  have e54 := h3'
  refine zS <| Qm rfl <| Qc rfl <| Qf fh rfl <| Qa rfl <| JL.nil ?_
  refine zR (Up.refl _ _) ?_
  first | (rw [e52]; rfl) | (rw [e54]; rfl) | (rw [e56]; rfl) | (rw [e58]; rfl) | (rw [e60]; rfl) | (exfalso; simp only [M.fNames, List.mem_cons, List.not_mem_nil, or_false] at r0; rcases r0 with h | h | h | h | h <;> contradiction)
 have e54 := h3'
 refine zS <| Qq (p_eqlT und_9 rfl rfl) <| Qa rfl <| JL.nil ?_
 refine zi (fun h4 h4' => ?_) fun h4 h4' => ?_
 ·
  have e56 := h4'
  refine zS <| Qm rfl <| Qc rfl <| Qf fh rfl <| Qa rfl <| JL.nil ?_
  refine zR (Up.refl _ _) ?_
  first | (rw [e52]; rfl) | (rw [e54]; rfl) | (rw [e56]; rfl) | (rw [e58]; rfl) | (rw [e60]; rfl) | (exfalso; simp only [M.fNames, List.mem_cons, List.not_mem_nil, or_false] at r0; rcases r0 with h | h | h | h | h <;> contradiction)
 have e56 := h4'
 refine zS <| Qq (p_eqlT und_9 rfl rfl) <| Qa rfl <| JL.nil ?_
 refine zi (fun h5 h5' => ?_) fun h5 h5' => ?_
 ·
  have e58 := h5'
  refine zS <| Qm rfl <| Qc rfl <| Qf fh rfl <| Qa rfl <| JL.nil ?_
  refine zR (Up.refl _ _) ?_
  first | (rw [e52]; rfl) | (rw [e54]; rfl) | (rw [e56]; rfl) | (rw [e58]; rfl) | (rw [e60]; rfl) | (exfalso; simp only [M.fNames, List.mem_cons, List.not_mem_nil, or_false] at r0; rcases r0 with h | h | h | h | h <;> contradiction)
 have e58 := h5'
 refine zS <| Qq (p_eqlT und_9 rfl rfl) <| Qa rfl <| JL.nil ?_
 refine zi (fun h6 h6' => ?_) fun h6 h6' => ?_
 ·
  have e60 := h6'
  refine zS <| Qm rfl <| Qc rfl <| Qf fh rfl <| Qa rfl <| JL.nil ?_
  refine zR (Up.refl _ _) ?_
  first | (rw [e52]; rfl) | (rw [e54]; rfl) | (rw [e56]; rfl) | (rw [e58]; rfl) | (rw [e60]; rfl) | (exfalso; simp only [M.fNames, List.mem_cons, List.not_mem_nil, or_false] at r0; rcases r0 with h | h | h | h | h <;> contradiction)
 have e60 := h6'
 refine Js.skip <| Js.blockEnd <| zS <| Qa rfl <| JL.nil ?_
 refine zR (Up.refl _ _) ?_
 first | (rw [e52]; rfl) | (rw [e54]; rfl) | (rw [e56]; rfl) | (rw [e58]; rfl) | (rw [e60]; rfl) | (exfalso; simp only [M.fNames, List.mem_cons, List.not_mem_nil, or_false] at r0; rcases r0 with h | h | h | h | h <;> contradiction)
theorem c_impl_RulesText (r : M.Rul) {v_r : Value} {w : World} (h_r : (Ty.agg (cRules r)).ok w v_r) (h_tab : tabT.ok w undef) : RetV Tryd.prog 29 [v_r] w (.string (sB (M.rulesTR r))) := by
 revert v_r; apply opn
 refine enter @Tryd.func29 @Tryd.ntmps29 rfl rfl ?_
 refine zent ?_
 refine zS <| zb rfl fun b1 => Qa rfl <| zJ <| zS <| Q9 0 rfl rfl ?_
 refine zv rfl (fun w hw => c_impl_ValidRules r (ok_ hw)) <| Qt rfl <| JL.nil ?_
 refine zi (fun h2 h2' => ?_) fun h2 h2' => ?_
 ·
  have hno : M.okR r = false := by simpa using h2
  have hE := M.rulesTR_no hno
  refine zS <| Qa rfl <| JL.nil ?_
  refine zR (Up.refl _ _) ?_
  first | (rw [hE]; rfl) | (rw [hE, ← hJ3]; rfl)
 have hok : M.okR r = true := by simpa using h2
 have hE := M.rulesTR_yes hok
 have hbd := M.okR_bd hok
 have hl5 : M.fNames.length = 5 := rfl
 refine Js.skip <| Js.seq ?_
 refine zdr [] ?_
 refine jF 0 fld_30_0 rfl rfl ?_
 refine jB 1 0 ty_2 rfl rfl rfl rfl ?_
 refine jF 5 fld_30_1 rfl rfl ?_
 refine jB 6 0 ty_2 rfl rfl rfl rfl ?_
 refine jF 10 fld_30_7 rfl rfl ?_
 refine jB 11 0 ty_2 rfl rfl rfl rfl ?_
 refine jF 15 fld_30_8 rfl rfl ?_
 refine jB 16 0 ty_2 rfl rfl rfl rfl ?_
 refine y1 2 ?_
 refine yv rfl rfl (fun w hw => c_impl_Decimal r.pits (ok_ hw)) ?_
 refine JH.p 3 rfl (q_cat rfl rfl) ?_
 refine JH.p 4 rfl (q_cat rfl rfl) ?_
 refine y1 7 ?_
 refine yv rfl rfl (fun w hw => c_impl_Decimal r.seeds (ok_ hw)) ?_
 refine JH.p 8 rfl (q_cat rfl rfl) ?_
 refine JH.p 9 rfl (q_cat rfl rfl) ?_
 refine y1 12 ?_
 refine yv rfl rfl (fun w hw => c_impl_CaptureName r.capture) ?_
 refine JH.p 13 rfl (q_cat rfl rfl) ?_
 refine JH.p 14 rfl (q_cat rfl rfl) ?_
 refine y1 17 ?_
 refine yv rfl rfl (fun w hw => c_impl_SlamName r.slam) ?_
 refine JH.p 18 rfl (q_cat rfl rfl) ?_
 refine jA 19 rfl rfl ?_
 refine yd ?_
 refine Js.seq <| zS <| zp rfl (fun w hw => c_impl_flagNames) ?_
 intro u3 x3 A4 c4 h4 bl4 bh4
 refine Qz rfl <| Qm rfl <| JL.nil <| Js.block ?_
 refine zl [1, 28, 29] (fun F U l os u m => ∃ (k : Nat) (out : List UInt8), l = F [(3, .string (sB out)), (30, .int .i64 (k : Int))] ∧ os = U [] ∧ (out = M.rulesN r k) ∧ (k ≤ 5) ∧ m = 5 - k) ⟨0, ((((((([112, 105, 116, 115, 61] : List UInt8) ++ (M.dec r.pits)) ++ ([32, 115, 101, 101, 100, 115, 61] : List UInt8)) ++ (M.dec r.seeds)) ++ ([32, 99, 97, 112, 116, 117, 114, 101, 61] : List UInt8)) ++ (M.capName r.capture)) ++ ([32, 115, 108, 97, 109, 61] : List UInt8)) ++ (M.slamName r.slam), rfl, rfl, by rfl, zt, rfl⟩ ?_
 rintro _ _ u5 _ ⟨k, out, rfl, rfl, hJ, hk, rfl⟩ x5
 refine zn ?_
 have lb9 : LenB out 155 := ⟨by rw [hJ]; have := M.rulesN_len r k hk; omega⟩
 refine zS <| Ql rfl rfl <| zJ ?_
 refine zi (fun h6 h6' => ?_) fun h6 h6' => ?_
 ·
  obtain ⟨y7, hy7⟩ : ∃ x, M.fNames[k]? = some x := ⟨_, List.getElem?_eq_getElem (by omega)⟩
  obtain ⟨b7, o7, he7, hc7⟩ := strs_elem (Ty.mono _ h4 x5.vis) hy7
  have lb8 : LenB y7 6 := ⟨M.fNames_len (List.mem_of_getElem? hy7)⟩
  refine Js.skip <| Js.seq <| Js.block <| zS <| Qq (p_indexAddr el_38 rfl rfl (by omega) (by omega) he7) <| QC hc7 rfl <| Qa rfl <| zN <| Qm rfl <| zv rfl (fun w hw => c_impl_Rules_flag r y7 (ok_ hw) (r0 := (List.mem_of_getElem? hy7))) <| Qc rfl <| Qw (q_load1 ty_4.h rfl (Mem.box (i := 0) rfl (flag_get (List.mem_of_getElem? hy7)))) <| JL.nil ?_
  refine zi (fun h8 h8' => ?_) fun h8 h8' => ?_
  ·
   have hJ2 := M.rulesN_t hJ hy7 (by simpa using h8)
   refine Js.region <| Qm rfl <| Qm rfl <| Qq (q_cat rfl rfl) <| Qq (q_cat rfl rfl) <| Qa rfl <| JL.nil <| Js.blockEnd <| Js.region <| Qp rfl rfl <| Qm rfl <| JL.nil ?_
   exact zag ⟨k + 1, out ++ (([32] : List UInt8) ++ y7), rfl, rfl, by exact hJ2, zt, rfl⟩ x5
  have hJ2 := M.rulesN_f hJ hy7 (by simpa using h8)
  refine Js.skip <| Js.blockEnd <| Js.region <| Qp rfl rfl <| Qm rfl <| JL.nil ?_
  exact zag ⟨k + 1, out, rfl, rfl, by exact hJ2, zt, rfl⟩ x5
 have hJ3 := M.rulesN_e hJ (by have := h6'; omega) hk
 refine zx ?_
 refine zS <| Qm rfl <| Qa rfl <| JL.nil ?_
 refine zR (x3.trans x5) ?_
 first | (rw [hE]; rfl) | (rw [hE, ← hJ3]; rfl)
theorem c_impl_SlamNamed (y : List UInt8) {w : World}  : RetV Tryd.prog 9 [.string (sB y)] w (.tuple #[.int .i64 ((M.namedBy M.slamNames y).1), .int .i64 ((M.namedBy M.slamNames y).2)]) := by
 refine enter @Tryd.func9 @Tryd.ntmps9 rfl rfl ?_
 refine zent ?_
 refine zS <| Qa rfl <| Qa rfl <| zJ <| zS <| Qa rfl <| JL.nil <| Js.block ?_
 refine zl [0] (fun F U l os u m => ∃ (k : Nat), l = F [(4, .int .i64 (k : Int))] ∧ os = U [] ∧ (k ≤ 3) ∧ (M.Nix M.slamNames y k) ∧ m = 3 - k) ⟨0, rfl, rfl, zt, by exact M.Nix.zero _ _, rfl⟩ ?_
 rintro _ _ u1 _ ⟨k, rfl, rfl, hk, hN, rfl⟩ x1
 refine zn ?_
 refine Js.seq <| zS <| Qm rfl <| Qk rfl rfl <| JL.nil ?_
 refine zi (fun h2 h2' => ?_) fun h2 h2' => ?_
 ·
  have hY := M.slam_at (k := k) (by have := h2'; omega)
  refine Js.skip <| Js.seq <| Js.block <| zS <| Qm rfl <| zv rfl (fun w hw => c_impl_SlamName (k : Int)) <| Qm rfl <| Qq (p_eqlT und_9 rfl rfl) <| JL.nil ?_
  refine zi (fun h3 h3' => ?_) fun h3 h3' => ?_
  ·
   have hE := M.named_hit hN hY (by simpa using h3)
   refine zS <| Qm rfl <| Qa rfl <| Qa rfl <| JL.nil ?_
   refine zR x1 ?_
   rw [hE]; rfl
  have hN2 := hN.step hY (by simpa using h3)
  refine Js.skip <| Js.blockEnd <| Js.region <| Qm rfl <| Qp rfl rfl <| Qa rfl <| JL.nil ?_
  exact zag ⟨k + 1, rfl, rfl, zt, by exact hN2, rfl⟩ x1
 have hE := M.named_miss hN (show 3 ≤ k by have := h2'; omega)
 refine zx ?_
 refine zS <| Qa rfl <| Qa rfl <| JL.nil ?_
 refine zR x1 ?_
 rw [hE]; rfl
theorem c_impl_Rules_number (r : M.Rul) {v_r : Value} (y : List UInt8) {w : World} (h_r : (Ty.ref (cRules r)).ok w v_r) (r0 : M.isNum y = true := by exact om_) : RetV Tryd.prog 67 [v_r, .string (sB y)] w (addO v_r (M.numIx y)) := by
 revert v_r; apply opn
 intro b1 o1 hr1
 refine enter @Tryd.func67 @Tryd.ntmps67 rfl rfl ?_
 refine zent ?_
 refine zS <| Qa rfl <| zJ <| zS <| Qm rfl <| JL.nil <| Js.block <| zS <| Qq (p_eqlT und_9 rfl rfl) <| Qa rfl <| JL.nil ?_
 refine zi (fun h2 h2' => ?_) fun h2 h2' => ?_
 ·
  have e69 := h2'
  refine zS <| Qm rfl <| Qc rfl <| Qf fh rfl <| Qa rfl <| JL.nil ?_
  refine zR (Up.refl _ _) ?_
  first | (rw [e69]; rfl) | (rw [e71]; rfl) | (rw [e73]; rfl) | (rw [e75]; rfl) | (exfalso; rcases M.isNum_iff r0 with h | h | h | h <;> contradiction)
 have e69 := h2'
 refine zS <| Qq (p_eqlT und_9 rfl rfl) <| Qa rfl <| JL.nil ?_
 refine zi (fun h3 h3' => ?_) fun h3 h3' => ?_
 ·
  have e71 := h3'
  refine zS <| Qm rfl <| Qc rfl <| Qf fh rfl <| Qa rfl <| JL.nil ?_
  refine zR (Up.refl _ _) ?_
  first | (rw [e69]; rfl) | (rw [e71]; rfl) | (rw [e73]; rfl) | (rw [e75]; rfl) | (exfalso; rcases M.isNum_iff r0 with h | h | h | h <;> contradiction)
 have e71 := h3'
 refine zS <| Qq (p_eqlT und_9 rfl rfl) <| Qa rfl <| JL.nil ?_
 refine zi (fun h4 h4' => ?_) fun h4 h4' => ?_
 ·
  have e73 := h4'
  refine zS <| Qm rfl <| Qc rfl <| Qf fh rfl <| Qa rfl <| JL.nil ?_
  refine zR (Up.refl _ _) ?_
  first | (rw [e69]; rfl) | (rw [e71]; rfl) | (rw [e73]; rfl) | (rw [e75]; rfl) | (exfalso; rcases M.isNum_iff r0 with h | h | h | h <;> contradiction)
 have e73 := h4'
 refine zS <| Qq (p_eqlT und_9 rfl rfl) <| Qa rfl <| JL.nil ?_
 refine zi (fun h5 h5' => ?_) fun h5 h5' => ?_
 ·
  have e75 := h5'
  refine zS <| Qm rfl <| Qc rfl <| Qf fh rfl <| Qa rfl <| JL.nil ?_
  refine zR (Up.refl _ _) ?_
  first | (rw [e69]; rfl) | (rw [e71]; rfl) | (rw [e73]; rfl) | (rw [e75]; rfl) | (exfalso; rcases M.isNum_iff r0 with h | h | h | h <;> contradiction)
 have e75 := h5'
 refine Js.skip <| Js.blockEnd <| zS <| Qa rfl <| JL.nil ?_
 refine zR (Up.refl _ _) ?_
 first | (rw [e69]; rfl) | (rw [e71]; rfl) | (rw [e73]; rfl) | (rw [e75]; rfl) | (exfalso; rcases M.isNum_iff r0 with h | h | h | h <;> contradiction)
theorem c_impl_Rules_numberL (r : M.Rul) {v_r : Value} (y : List UInt8) {w : World} (h_r : (Ty.ref (cRules r)).ok w v_r) (r0 : M.isNum y = false := by exact om_) : RetV Tryd.prog 67 [v_r, .string (sB y)] w (.pointer none) := by
 obtain ⟨q1, q2, q3, q4⟩ := M.isNum_no r0
 revert v_r; apply opn
 intro b1 o1 hr1
 refine enter @Tryd.func67 @Tryd.ntmps67 rfl rfl ?_
 refine zent ?_
 refine zS <| Qa rfl <| zJ <| zS <| Qm rfl <| JL.nil <| Js.block <| zS <| Qq (p_eqlT und_9 rfl rfl) <| Qa rfl <| JL.nil ?_
 refine zi (fun h2 h2' => ?_) fun h2 h2' => ?_
 · exact absurd h2' (by assumption)
 refine zS <| Qq (p_eqlT und_9 rfl rfl) <| Qa rfl <| JL.nil ?_
 refine zi (fun h3 h3' => ?_) fun h3 h3' => ?_
 · exact absurd h3' (by assumption)
 refine zS <| Qq (p_eqlT und_9 rfl rfl) <| Qa rfl <| JL.nil ?_
 refine zi (fun h4 h4' => ?_) fun h4 h4' => ?_
 · exact absurd h4' (by assumption)
 refine zS <| Qq (p_eqlT und_9 rfl rfl) <| Qa rfl <| JL.nil ?_
 refine zi (fun h5 h5' => ?_) fun h5 h5' => ?_
 · exact absurd h5' (by assumption)
 refine Js.skip <| Js.blockEnd <| zS <| Qa rfl <| JL.nil ?_
 refine zR (Up.refl _ _) ?_
 rfl
theorem c_impl_Rules_flagL (r : M.Rul) {v_r : Value} (y : List UInt8) {w : World} (h_r : (Ty.ref (cRules r)).ok w v_r) (r0 : M.isFlg y = false := by exact om_) : RetV Tryd.prog 61 [v_r, .string (sB y)] w (.pointer none) := by
 obtain ⟨q1, q2, q3, q4, q5⟩ := M.isFlg_no r0
 revert v_r; apply opn
 intro b1 o1 hr1
 refine enter @Tryd.func61 @Tryd.ntmps61 rfl rfl ?_
 refine zent ?_
 refine zS <| Qa rfl <| zJ <| zS <| Qm rfl <| JL.nil <| Js.block <| zS <| Qq (p_eqlT und_9 rfl rfl) <| Qa rfl <| JL.nil ?_
 refine zi (fun h2 h2' => ?_) fun h2 h2' => ?_
 · exact absurd h2' (by assumption)
 refine zS <| Qq (p_eqlT und_9 rfl rfl) <| Qa rfl <| JL.nil ?_
 refine zi (fun h3 h3' => ?_) fun h3 h3' => ?_
 · exact absurd h3' (by assumption)
 refine zS <| Qq (p_eqlT und_9 rfl rfl) <| Qa rfl <| JL.nil ?_
 refine zi (fun h4 h4' => ?_) fun h4 h4' => ?_
 · exact absurd h4' (by assumption)
 refine zS <| Qq (p_eqlT und_9 rfl rfl) <| Qa rfl <| JL.nil ?_
 refine zi (fun h5 h5' => ?_) fun h5 h5' => ?_
 · exact absurd h5' (by assumption)
 refine zS <| Qq (p_eqlT und_9 rfl rfl) <| Qa rfl <| JL.nil ?_
 refine zi (fun h6 h6' => ?_) fun h6 h6' => ?_
 · exact absurd h6' (by assumption)
 refine Js.skip <| Js.blockEnd <| zS <| Qa rfl <| JL.nil ?_
 refine zR (Up.refl _ _) ?_
 rfl
theorem c_impl_ProblemText (p : M.Prb) {v_p : Value} {w : World} (h_p : (Ty.agg (cProblem p)).ok w v_p) (h_tab : tabT.ok w undef) (r0 : p.word.length ≤ 1000000 := by exact om_) (r1 : -9223372036854775808 ≤ p.at1 := by exact om_) (r2 : p.at1 ≤ 9223372036854775807 := by exact om_) : RetV Tryd.prog 20 [v_p] w (.string (sB (M.prbT p))) := by
 have lb0 : LenB p.word 1000000 := ⟨by omega⟩
 have hl6 : M.prbNames.length = 6 := rfl
 revert v_p; apply opn
 refine enter @Tryd.func20 @Tryd.ntmps20 rfl rfl ?_
 refine zent ?_
 refine zS <| zb rfl fun b1 => Qa rfl <| zN <| Qq (q_bldA) <| za zeh fun b2 => zw 0 rfl rfl rfl ?_
 refine zJ <| zS <| Qf fh rfl <| Q0 1 rfl rfl rfl <| zv rfl (fun w hw => c_impl_between p.kind 1 6) <| Qt rfl <| JL.nil ?_
 refine zi (fun h3 h3' => ?_) fun h3 h3' => ?_
 ·
  have hE := M.prbT_n (p := p) (by simpa using h3)
  refine zS <| Qa rfl <| JL.nil ?_
  refine zR (Up.refl _ _) ?_
  rw [hE]; rfl
 have hb : M.betw p.kind 1 6 = true := by simpa using h3
 obtain ⟨hb0, hb1⟩ := M.betw_iff.1 hb
 obtain ⟨ye4, hye4⟩ : ∃ x, M.prbNames[(p.kind - 1).toNat]? = some x := ⟨_, List.getElem?_eq_getElem (by omega)⟩
 have lb7 : LenB ye4 12 := ⟨M.prbName_len hye4⟩
 have hE := M.prbT_y hb hye4
 refine Js.skip <| Js.seq ?_
 refine zdr [] ?_
 refine jF 0 fld_35_1 rfl rfl ?_
 refine jB 1 1 ty_2 rfl rfl rfl rfl ?_
 refine jF 4 fld_35_2 rfl rfl ?_
 refine jB 5 1 ty_9 rfl rfl rfl rfl ?_
 refine jF 8 fld_35_0 rfl rfl ?_
 refine jB 9 1 ty_2 rfl rfl rfl rfl ?_
 refine JH.p 10 rfl (p_sub rfl rfl (IntWalk.i64_in _ (by omega))) ?_
 have hye4 : ([([117, 110, 107, 110, 111, 119, 110, 32, 119, 111, 114, 100] : List UInt8), ([103, 105, 118, 101, 110, 32, 116, 119, 105, 99, 101] : List UInt8), ([110, 111, 116, 32, 97, 32, 110, 117, 109, 98, 101, 114] : List UInt8), ([110, 111, 116, 32, 97, 108, 108, 111, 119, 101, 100] : List UInt8), ([109, 105, 115, 115, 105, 110, 103] : List UInt8), ([110, 101, 101, 100, 115, 32, 115, 116, 111, 114, 101, 115] : List UInt8)] : List (List UInt8))[(p.kind - 1).toNat]? = some ye4 := hye4
 refine JH.p 11 rfl (p_indexAddrA (kk := (p.kind - 1).toNat) ArrI.h rfl rfl (by omega) (by omega) (show 0 + ((p.kind - 1).toNat) * 1 = (p.kind - 1).toNat by omega)) ?_
 refine JH.q 12 rfl (q_load1 ty_9.h rfl (Mem.box (i := 0) rfl (txs_get (xs := [([117, 110, 107, 110, 111, 119, 110, 32, 119, 111, 114, 100] : List UInt8), ([103, 105, 118, 101, 110, 32, 116, 119, 105, 99, 101] : List UInt8), ([110, 111, 116, 32, 97, 32, 110, 117, 109, 98, 101, 114] : List UInt8), ([110, 111, 116, 32, 97, 108, 108, 111, 119, 101, 100] : List UInt8), ([109, 105, 115, 115, 105, 110, 103] : List UInt8), ([110, 101, 101, 100, 115, 32, 115, 116, 111, 114, 101, 115] : List UInt8)]) hye4))) ?_
 refine y1 2 ?_
 refine yv rfl rfl (fun w hw => c_impl_Decimal p.at1 (ok_ hw)) ?_
 refine JH.p 3 rfl (q_cat rfl rfl) ?_
 refine JH.p 6 rfl (q_cat rfl rfl) ?_
 refine JH.p 7 rfl (q_cat rfl rfl) ?_
 refine JH.p 13 rfl (q_cat rfl rfl) ?_
 refine jA 14 rfl rfl ?_
 refine yd ?_
 refine zR (Up.refl _ _) ?_
 rw [hE]; rfl
theorem c_impl_isDigit (c : Int) {w : World}  : RetV Tryd.prog 88 [.int .u8 c] w (.bool (M.isDig c)) := by
 refine enter @Tryd.func88 @Tryd.ntmps88 rfl rfl ?_
 refine zent ?_
 refine zS <| Qa rfl <| zN <| Qm rfl <| Qh rfl rfl <| Qm rfl <| zg (Gd.t1 rfl rfl rfl) (fun hc => p_move rfl) <| zg (Gd.t1 rfl rfl rfl) (fun hc => p_leq (gh hc rfl) rfl) <| Qq (p_pickAnd rfl rfl rfl) <| Qa rfl <| JL.nil ?_
 exact zr (Up.refl _ _)
theorem c_impl_ReadDecimal (t : List UInt8) {w : World} (h_tab : tabT.ok w undef) (r0 : t.length ≤ 4194304 := by exact om_) : RetV Tryd.prog 82 [.string (sB t)] w (.tuple #[.int .i64 ((M.num t).1), .bool ((M.num t).2)]) := by
 refine enter @Tryd.func82 @Tryd.ntmps82 rfl rfl ?_
 refine zent ?_
 have hbt1 := M.bat_bd t 0
 refine zS <| Qa rfl <| Qa rfl <| zN <| Qm rfl <| Qa rfl <| zJ <| zS <| Qm rfl <| Qq (p_lenS und_9 rfl) <| Qg rfl rfl <| Qm rfl <| zg (Gd.t1 rfl rfl rfl) (fun hc => p_move rfl) <| zg (Gd.t1 rfl rfl rfl) (fun hc => p_byteS (i := 0) und_9 (gh hc rfl) rfl (by first | have hc9 := hc; (try simp only [decide_eq_true_eq] at hc9); omega | (have h9 := List.length_pos_iff.2 (by simpa using hc); omega))) ?_
 refine zg (Gd.t1 rfl rfl rfl) (fun hc => p_eql (gh hc rfl) rfl) <| Qq (p_pickAnd rfl rfl rfl) <| JL.nil ?_
 refine zi (fun h2 h2' => ?_) fun h2 h2' => ?_
 ·
  have h8 : t ≠ [] := by have h9 := h2; simp at h9; exact List.length_pos_iff.1 (by omega)
  have hT : M.numT t = t.drop 1 := by have h9 := h2; simp at h9; exact M.numT_y h8 h9.2
  have hln : 1 ≤ t.length := List.length_pos_iff.2 h8
  refine Js.region <| Qm rfl <| Qq (p_dropS (i := 1) und_9 rfl rfl (by omega)) <| Qa rfl <| zJ <| zS <| Qm rfl <| Qq (p_lenS und_9 rfl) <| Qe rfl rfl <| Qm rfl <| zg (Gd.f1 rfl rfl rfl) (fun hc => p_move rfl) <| zg (Gd.f1 rfl rfl rfl) (fun hc => p_lenS und_9 (gh hc rfl)) <| zg (Gd.f1 rfl rfl rfl) (fun hc => p_gtr (gh hc rfl) rfl) <| Qq (p_pickOr rfl rfl rfl) ?_
  refine JL.nil ?_
  refine zi (fun h3 h3' => ?_) fun h3 h3' => ?_
  ·
   have hE := M.num_len (s := t) (by rw [hT]; have h9 := h3; simp at h9; omega)
   refine zS <| Qa rfl <| Qa rfl <| JL.nil ?_
   refine zR (Up.refl _ _) ?_
   first | (rw [hE]; rfl) | (rw [hE, hS]; rfl)
  have hl9 : ¬ ((M.numT t).length < 1 ∨ 18 < (M.numT t).length) := by rw [hT]; have h9 := h3; simp at h9; omega
  refine Js.skip <| zS <| Qa rfl <| zJ <| zS <| Qm rfl <| Qq (p_lenS und_9 rfl) <| Qm rfl <| JL.nil <| Js.block ?_
  refine zl [0, 4, 27] (fun F U l os u m => ∃ (k : Nat) (n : Int), l = F [(5, .int .i64 n), (28, .int .i64 (k : Int))] ∧ os = U [] ∧ (n = M.numN (M.numT t) k) ∧ (M.Digs (M.numT t) k) ∧ (k ≤ (M.numT t).length) ∧ m = (M.numT t).length - k) ⟨0, 0, rfl, rfl, by rfl, by exact M.Digs.zero _, zt, rfl⟩ ?_
  rintro _ _ u4 _ ⟨k, n, rfl, rfl, hN, hD, hk, rfl⟩ x4
  refine zn ?_
  obtain ⟨n1, n2⟩ := M.numN_18 hD (by omega)
  rw [← hN] at n1 n2
  refine zS <| Ql rfl rfl <| zJ ?_
  refine zi (fun h5 h5' => ?_) fun h5 h5' => ?_
  ·
   have hkk : k < (M.numT t).length := by rw [hT]; have := h5'; omega
   obtain ⟨n3, n4⟩ := M.numN_17 hD (by omega)
   rw [← hN] at n3 n4
   have hbt6 := M.bat_bd (t.drop 1) k
   refine Js.skip <| Js.seq <| Js.block <| zS <| Qm rfl <| Qa rfl <| zJ <| zS <| Qm rfl <| Qm rfl <| Qq (p_byteS (i := k) und_9 rfl rfl (by omega)) <| zv rfl (fun w hw => c_impl_isDigit (M.bat (t.drop 1) k)) <| Qt rfl <| JL.nil ?_
   refine zi (fun h7 h7' => ?_) fun h7 h7' => ?_
   ·
    have hE := M.num_dig (M.digs_no hkk (by rw [hT]; simpa using h7))
    refine zS <| Qa rfl <| Qa rfl <| JL.nil ?_
    refine zR x4 ?_
    first | (rw [hE]; rfl) | (rw [hE, hS]; rfl)
   have hd : M.isDig (M.bat (M.numT t) k) = true := by rw [hT]; simpa using h7
   have hD2 := hD.step hd
   obtain ⟨d1, d2⟩ := M.dig_bd hd
   rw [hT] at d1 d2
   have hbt8 := M.bat_bd (t.drop 1) k
   refine Js.skip <| Js.region <| Qm rfl <| Qu rfl rfl <| Qm rfl <| Qm rfl <| Qq (p_byteS (i := k) und_9 rfl rfl (by omega)) <| Qq (p_sub rfl rfl (IntWalk.u8_in _ (by omega))) <| Qq (p_conv @Tryd.underlying5 @Tryd.underlying2 rfl (IntWalk.i64_in _ (by omega))) <| Qp rfl rfl <| Qa rfl <| JL.nil <| Js.blockEnd <| Js.region ?_
   refine Qp rfl rfl <| Qm rfl <| JL.nil ?_
   exact zag ⟨k + 1, (10 * n) + ((M.bat (t.drop 1) k) - 48), rfl, rfl, by rw [hN, M.numN, hT], by exact hD2, zt, rfl⟩ x4
  have hke : k = (M.numT t).length := Nat.le_antisymm hk (by rw [hT]; have := h5'; omega)
  have hdg := M.digs_yes hD (by omega)
  rw [hke] at hN
  refine zx ?_
  refine Js.seq <| zS <| Qm rfl <| Qq (p_lenS und_9 rfl) <| Qm rfl <| Qq (p_lenS und_9 rfl) <| Ql rfl rfl <| JL.nil ?_
  refine zi (fun h9 h9' => ?_) fun h9 h9' => ?_
  ·
   have hS : M.numS t = -n := by rw [hN]; exact M.numS_neg (by rw [hT]; have := h9'; omega)
   refine Js.region <| Qm rfl <| Qq (p_neg (r := -n) rfl (by rw [Int.zero_sub]; exact IntWalk.i64_in _ (by omega))) <| Qa rfl <| zJ <| zS <| Qm rfl <| zv rfl (fun w hw => c_impl_Decimal (-n) (ok_ hw)) <| Qm rfl <| Qq (p_neqT und_9 rfl rfl) <| JL.nil ?_
   refine zi (fun h10 h10' => ?_) fun h10 h10' => ?_
   ·
    have hE := M.num_no (s := t) (by rw [hS]; simpa using h10)
    refine zS <| Qa rfl <| Qa rfl <| JL.nil ?_
    refine zR x4 ?_
    first | (rw [hE]; rfl) | (rw [hE, hS]; rfl)
   have hE := M.num_yes hl9 hdg (by rw [hS]; simpa using h10)
   refine Js.skip <| zS <| Qm rfl <| Qa rfl <| Qa rfl <| JL.nil ?_
   refine zR x4 ?_
   first | (rw [hE]; rfl) | (rw [hE, hS]; rfl)
  have hS : M.numS t = n := by rw [hN]; exact M.numS_pos (by rw [hT]; have := h9'; omega)
  refine Js.skip <| Js.seq <| zS <| Qm rfl <| zv rfl (fun w hw => c_impl_Decimal n (ok_ hw)) <| Qm rfl <| Qq (p_neqT und_9 rfl rfl) <| JL.nil ?_
  refine zi (fun h11 h11' => ?_) fun h11 h11' => ?_
  ·
   have hE := M.num_no (s := t) (by rw [hS]; simpa using h11)
   refine zS <| Qa rfl <| Qa rfl <| JL.nil ?_
   refine zR x4 ?_
   first | (rw [hE]; rfl) | (rw [hE, hS]; rfl)
  have hE := M.num_yes hl9 hdg (by rw [hS]; simpa using h11)
  refine Js.skip <| zS <| Qm rfl <| Qa rfl <| Qa rfl <| JL.nil ?_
  refine zR x4 ?_
  first | (rw [hE]; rfl) | (rw [hE, hS]; rfl)
 have hT : M.numT t = t := M.numT_n (by have h9 := h2; simp at h9; intro ⟨a, b⟩; exact h9 (List.length_pos_iff.2 a) b)
 refine Js.skip <| Js.seq <| zS <| Qm rfl <| Qq (p_lenS und_9 rfl) <| Qe rfl rfl <| Qm rfl <| zg (Gd.f1 rfl rfl rfl) (fun hc => p_move rfl) <| zg (Gd.f1 rfl rfl rfl) (fun hc => p_lenS und_9 (gh hc rfl)) <| zg (Gd.f1 rfl rfl rfl) (fun hc => p_gtr (gh hc rfl) rfl) <| Qq (p_pickOr rfl rfl rfl) <| JL.nil ?_
 refine zi (fun h12 h12' => ?_) fun h12 h12' => ?_
 ·
  have hE := M.num_len (s := t) (by rw [hT]; have h9 := h12; simp at h9; omega)
  refine zS <| Qa rfl <| Qa rfl <| JL.nil ?_
  refine zR (Up.refl _ _) ?_
  first | (rw [hE]; rfl) | (rw [hE, hS]; rfl)
 have hl9 : ¬ ((M.numT t).length < 1 ∨ 18 < (M.numT t).length) := by rw [hT]; have h9 := h12; simp at h9; omega
 refine Js.skip <| zS <| Qa rfl <| zJ <| zS <| Qm rfl <| Qq (p_lenS und_9 rfl) <| Qm rfl <| JL.nil <| Js.block ?_
 refine zl [0, 4, 27] (fun F U l os u m => ∃ (k : Nat) (n : Int), l = F [(5, .int .i64 n), (28, .int .i64 (k : Int))] ∧ os = U [] ∧ (n = M.numN (M.numT t) k) ∧ (M.Digs (M.numT t) k) ∧ (k ≤ (M.numT t).length) ∧ m = (M.numT t).length - k) ⟨0, 0, rfl, rfl, by rfl, by exact M.Digs.zero _, zt, rfl⟩ ?_
 rintro _ _ u13 _ ⟨k, n, rfl, rfl, hN, hD, hk, rfl⟩ x13
 refine zn ?_
 obtain ⟨n1, n2⟩ := M.numN_18 hD (by omega)
 rw [← hN] at n1 n2
 refine zS <| Ql rfl rfl <| zJ ?_
 refine zi (fun h14 h14' => ?_) fun h14 h14' => ?_
 ·
  have hkk : k < (M.numT t).length := by rw [hT]; have := h14'; omega
  obtain ⟨n3, n4⟩ := M.numN_17 hD (by omega)
  rw [← hN] at n3 n4
  have hbt15 := M.bat_bd t k
  refine Js.skip <| Js.seq <| Js.block <| zS <| Qm rfl <| Qa rfl <| zJ <| zS <| Qm rfl <| Qm rfl <| Qq (p_byteS (i := k) und_9 rfl rfl (by omega)) <| zv rfl (fun w hw => c_impl_isDigit (M.bat t k)) <| Qt rfl <| JL.nil ?_
  refine zi (fun h16 h16' => ?_) fun h16 h16' => ?_
  ·
   have hE := M.num_dig (M.digs_no hkk (by rw [hT]; simpa using h16))
   refine zS <| Qa rfl <| Qa rfl <| JL.nil ?_
   refine zR x13 ?_
   first | (rw [hE]; rfl) | (rw [hE, hS]; rfl)
  have hd : M.isDig (M.bat (M.numT t) k) = true := by rw [hT]; simpa using h16
  have hD2 := hD.step hd
  obtain ⟨d1, d2⟩ := M.dig_bd hd
  rw [hT] at d1 d2
  have hbt17 := M.bat_bd t k
  refine Js.skip <| Js.region <| Qm rfl <| Qu rfl rfl <| Qm rfl <| Qm rfl <| Qq (p_byteS (i := k) und_9 rfl rfl (by omega)) <| Qq (p_sub rfl rfl (IntWalk.u8_in _ (by omega))) <| Qq (p_conv @Tryd.underlying5 @Tryd.underlying2 rfl (IntWalk.i64_in _ (by omega))) <| Qp rfl rfl <| Qa rfl <| JL.nil <| Js.blockEnd <| Js.region ?_
  refine Qp rfl rfl <| Qm rfl <| JL.nil ?_
  exact zag ⟨k + 1, (10 * n) + ((M.bat t k) - 48), rfl, rfl, by rw [hN, M.numN, hT], by exact hD2, zt, rfl⟩ x13
 have hke : k = (M.numT t).length := Nat.le_antisymm hk (by rw [hT]; have := h14'; omega)
 have hdg := M.digs_yes hD (by omega)
 rw [hke] at hN
 refine zx ?_
 refine Js.seq <| zS <| Qm rfl <| Qq (p_lenS und_9 rfl) <| Qm rfl <| Qq (p_lenS und_9 rfl) <| Ql rfl rfl <| JL.nil ?_
 refine zi (fun h18 h18' => ?_) fun h18 h18' => ?_
 ·
  have hS : M.numS t = -n := by rw [hN]; exact M.numS_neg (by rw [hT]; have := h18'; omega)
  refine Js.region <| Qm rfl <| Qq (p_neg (r := -n) rfl (by rw [Int.zero_sub]; exact IntWalk.i64_in _ (by omega))) <| Qa rfl <| zJ <| zS <| Qm rfl <| zv rfl (fun w hw => c_impl_Decimal (-n) (ok_ hw)) <| Qm rfl <| Qq (p_neqT und_9 rfl rfl) <| JL.nil ?_
  refine zi (fun h19 h19' => ?_) fun h19 h19' => ?_
  ·
   have hE := M.num_no (s := t) (by rw [hS]; simpa using h19)
   refine zS <| Qa rfl <| Qa rfl <| JL.nil ?_
   refine zR x13 ?_
   first | (rw [hE]; rfl) | (rw [hE, hS]; rfl)
  have hE := M.num_yes hl9 hdg (by rw [hS]; simpa using h19)
  refine Js.skip <| zS <| Qm rfl <| Qa rfl <| Qa rfl <| JL.nil ?_
  refine zR x13 ?_
  first | (rw [hE]; rfl) | (rw [hE, hS]; rfl)
 have hS : M.numS t = n := by rw [hN]; exact M.numS_pos (by rw [hT]; have := h18'; omega)
 refine Js.skip <| Js.seq <| zS <| Qm rfl <| zv rfl (fun w hw => c_impl_Decimal n (ok_ hw)) <| Qm rfl <| Qq (p_neqT und_9 rfl rfl) <| JL.nil ?_
 refine zi (fun h20 h20' => ?_) fun h20 h20' => ?_
 ·
  have hE := M.num_no (s := t) (by rw [hS]; simpa using h20)
  refine zS <| Qa rfl <| Qa rfl <| JL.nil ?_
  refine zR x13 ?_
  first | (rw [hE]; rfl) | (rw [hE, hS]; rfl)
 have hE := M.num_yes hl9 hdg (by rw [hS]; simpa using h20)
 refine Js.skip <| zS <| Qm rfl <| Qa rfl <| Qa rfl <| JL.nil ?_
 refine zR x13 ?_
 first | (rw [hE]; rfl) | (rw [hE, hS]; rfl)
theorem c_impl_cut (s sep : List UInt8) {w : World} (r0 : s.length ≤ 4194304 := by exact om_) (r1 : sep.length ≤ 4194304 := by exact om_) : RetV Tryd.prog 73 [.string (sB s), .string (sB sep)] w (.tuple #[.string (sB ((M.cutS s sep).1)), .string (sB ((M.cutS s sep).2.1)), .bool ((M.cutS s sep).2.2)]) := by
 refine enter @Tryd.func73 @Tryd.ntmps73 rfl rfl ?_
 refine zent ?_
 refine zS <| Qa rfl <| Qa rfl <| Qa rfl <| zJ <| zS <| Qa rfl <| JL.nil <| Js.block ?_
 refine zl [0, 1] (fun F U l os u m => ∃ (k : Nat), l = F [(7, .int .i64 (k : Int))] ∧ os = U [] ∧ (k ≤ s.length + 1) ∧ (∀ i, i < k → (s.drop i).take sep.length ≠ sep) ∧ m = s.length + 1 - k) ⟨0, rfl, rfl, zt, by exact fun i h => absurd h (by omega), rfl⟩ ?_
 rintro _ _ u1 _ ⟨k, rfl, rfl, hk, hn, rfl⟩ x1
 refine zn ?_
 refine Js.seq <| zS <| Qm rfl <| Qm rfl <| Qq (p_lenS und_9 rfl) <| Qp rfl rfl <| Qm rfl <| Qq (p_lenS und_9 rfl) <| Qk rfl rfl <| JL.nil ?_
 refine zi (fun h2 h2' => ?_) fun h2 h2' => ?_
 ·
  have hks : k + sep.length ≤ s.length := by have := h2'; omega
  refine Js.skip <| Js.seq <| Js.block <| zS <| Qm rfl <| Qm rfl <| Qm rfl <| Qm rfl <| Qq (p_lenS und_9 rfl) <| Qp rfl rfl <| Qq (p_midS (i := k) (j := k + sep.length) und_9 rfl rfl rfl (by omega) (by omega)) <| Qm rfl <| Qq (p_eqlT und_9 rfl rfl) <| JL.nil ?_
  refine zi (fun h3 h3' => ?_) fun h3 h3' => ?_
  ·
   have hE := M.cutS_yes hks (by have h9 := h3; simp at h9; exact h9) hn
   refine Js.seq ?_
   refine zdr [] ?_
   refine jM 0 rfl rfl ?_
   refine jM 1 rfl rfl ?_
   refine JH.p 2 rfl (p_takeS (i := k) und_9 rfl rfl (by omega)) ?_
   refine jM 3 rfl rfl ?_
   refine jM 4 rfl rfl ?_
   refine jM 5 rfl rfl ?_
   refine JH.p 6 rfl (p_lenS und_9 rfl) ?_
   refine JH.p 7 rfl (p_add rfl rfl (IntWalk.i64_in _ (by omega))) ?_
   refine JH.p 8 rfl (p_dropS (i := k + sep.length) und_9 rfl rfl (by omega)) ?_
   refine jA 9 rfl rfl ?_
   refine jA 10 rfl rfl ?_
   refine jA 11 rfl rfl ?_
   refine yd ?_
   refine zR x1 ?_
   rw [hE]; rfl
  have hn2 := M.miss_step hn (by have h9 := h3; simp at h9; exact h9)
  refine Js.skip <| Js.blockEnd <| Js.region <| Qm rfl <| Qp rfl rfl <| Qa rfl <| JL.nil ?_
  exact zag ⟨k + 1, rfl, rfl, zt, by exact hn2, rfl⟩ x1
 have hE := M.cutS_no (k := k) (by have := h2'; omega) hn
 refine zx ?_
 refine zS <| Qm rfl <| Qa rfl <| Qa rfl <| Qa rfl <| JL.nil ?_
 refine zR x1 ?_
 rw [hE]; rfl
theorem c_impl_parts (s : List UInt8) {w : World} (r0 : s.length ≤ 4194304 := by exact om_) : Ret Tryd.prog 54 [.string (sB s)] w (Ty.strs 9 (M.split 32 s)) := by
 refine enter @Tryd.func54 @Tryd.ntmps54 rfl rfl ?_
 refine zent ?_
 refine zS <| Qa rfl <| zN <| zbs fun b1 => ?_
 refine Qa rfl <| JL.nil <| Js.block ?_
 refine zl [] (fun F U l os u m => ∃ (cur : List UInt8) (out : List (List UInt8)) (A3_3 : Option Addr) (c3_3 : Nat) (g3_3 : List Nat), l = F [(0, .string (sB cur)), (3, .slice A3_3 out.length c3_3)] ∧ os = U [some (rowO 9 1 (.slice A3_3 out.length c3_3) out.length (txs_ out) g3_3)] ∧ (out ++ M.split 32 cur = M.split 32 s) ∧ (cur.length ≤ s.length) ∧ (out.length ≤ c3_3) ∧ (c3_3 ≤ 9223372036854775807) ∧ m = cur.length) ⟨s, [], _, _, _, rfl, rfl, by rfl, by exact Nat.le_refl _, zu, zu, rfl⟩ ?_
 rintro _ _ u3 _ ⟨cur, out, A3_3, c3_3, g3_3, rfl, rfl, hP, hl, f3_2, f3_3, rfl⟩ x3
 refine zn ?_
 have hl3 := M.parts_len hP
 have hcl := M.cutS_len cur [32]
 refine Js.block <| zS <| Qm rfl <| zv rfl (fun w hw => c_impl_cut cur ([32] : List UInt8)) <| Qm rfl <| Qx rfl rfl <| Qx rfl rfl <| Qx rfl rfl <| Qa rfl <| Qa rfl <| Qa rfl <| zN <| Qm rfl <| Qm rfl ?_
 refine zbs fun b4 => ?_
 refine JL.e (e_append (i := 1) (n' := (out ++ ([(M.cutS cur ([32] : List UInt8)).1])).length) (vs' := txs_ (out ++ ([(M.cutS cur ([32] : List UInt8)).1]))) el_38 rfl rfl rfl rfl (src_row (i := 0) und_38 rfl rfl) (by omega) (by omega) ln2_ (by first | rfl | (simp [txs_]; done))) ?_
 rintro v6 _ _ ⟨⟨g7, rfl⟩, rfl⟩ _
 refine JL.fact (row_form' (i := 1) rfl) (fun hf8 => ?_)
 obtain ⟨A8, c8, rfl, bl8, bh8⟩ := hf8
 refine znl ?_
 refine Qa rfl <| zJ <| zS <| Qm rfl <| Qt rfl <| JL.nil ?_
 refine zi (fun h9 h9' => ?_) fun h9 h9' => ?_
 ·
  have hE := M.parts_last hP (by simpa using h9)
  have hq0 : (out ++ ([(M.cutS cur ([32] : List UInt8)).1])) = M.split 32 s := by exact hE
  refine zS <| Qm rfl <| Qa rfl <| JL.nil ?_
  exact zro x3 (g := by exact (gv_strsE (ys := out ++ ([(M.cutS cur ([32] : List UInt8)).1])) po_ (by assumption) (by rfl)))
 have hP2 := M.parts_more hP (by simpa using h9)
 have hP3 := hP2.2
 refine Js.skip <| Js.region <| Qm rfl <| Qa rfl <| JL.nil <| Js.blockEnd ?_
 refine zd [1] rfl fun u10 x10 => ?_
 exact zag ⟨(M.cutS cur ([32] : List UInt8)).2.1, out ++ ([(M.cutS cur ([32] : List UInt8)).1]), _, _, _, rfl, rfl, by exact hP2.1, by omega, zu, zu, rfl⟩ (x3.trans x10)
end Go.Proofs.YthdmaamdlibjaaaDoor

/- Walks: LF. -/
import Derived.Test.YtjdhgkdimanabaaGreatDoorZfA3
import Derived.Test.YtjdhgkdimanabaaGreatDoorZfA1
import Derived.Test.YtjdhgkdimanabaaGreatDoorZfA0
import Derived.Test.YtjdhgkdimanabaaGreatDoorZfA7
import Derived.Test.YtjdhgkdimanabaaGreatDoorZfA8
set_option linter.unusedSimpArgs false
set_option linter.unusedVariables false
set_option maxRecDepth 100000
attribute [local irreducible] Go.Proofs.YtjdhgkdimanabaaGreatDoor.gv
set_option maxHeartbeats 16000000
namespace Go.Proofs.YtjdhgkdimanabaaGreatDoor
open Go.RowKit
theorem c_laws_f6ints (a : List Int) {v_a : Value} (b : List Int) {v_b : Value} {w : World} (h_a : (Ty.ints 2 a).ok w v_a) (h_b : (Ty.ints 2 b).ok w v_b) (r0 : a.length ≤ 4194304 := by exact om_) (r1 : b.length ≤ 4194304 := by exact om_) : RetV Tryz.prog 22 [v_a, v_b] w (.bool (decide (a = b))) := by
 revert v_a; apply opn
 intro A1 c1 h1 bl1 bh1
 have h_a := h1
 revert v_b; apply opn
 intro A2 c2 h2 bl2 bh2
 have h_b := h2
 refine enter @Tryz.func22 @Tryz.ntmps22 rfl rfl ?_
 refine zent ?_
 refine zS <| Qa rfl <| zJ <| zS <| Qm rfl <| Qz rfl <| Qm rfl <| Qz rfl <| Qd rfl rfl <| JL.nil ?_
 refine zi (fun h3 h3' => ?_) fun h3 h3' => ?_
 ·
  have e1 : decide (a = b) = false := by simp; rintro rfl; simp at h3
  refine zS <| Qa rfl <| JL.nil ?_
  refine zR (Up.refl _ _) ?_
  simp [outV, e1]
 have hlen : a.length = b.length := by have := h3'; omega
 refine Js.skip <| Js.seq <| zS <| Qa rfl <| JL.nil <| Js.block ?_
 refine zl [0, 1] (fun F U l os u m => ∃ (k : Nat), l = F [(5, .int .i64 (k : Int))] ∧ os = U [] ∧ (k ≤ a.length) ∧ (M.Upto a b k) ∧ m = a.length - k) ⟨0, rfl, rfl, zt, by exact M.Upto.zero _ _, rfl⟩ ?_
 rintro _ _ u4 _ ⟨k, rfl, rfl, hk, hU, rfl⟩ x4
 refine zn ?_
 refine Js.seq <| zS <| Qm rfl <| Qm rfl <| Qz rfl <| Ql rfl rfl <| JL.nil ?_
 refine zi (fun h5 h5' => ?_) fun h5 h5' => ?_
 ·
  refine Js.skip <| Js.seq <| Js.block <| Js.seq ?_
  refine zdr [] ?_
  refine jM 0 rfl rfl ?_
  refine jM 1 rfl rfl ?_
  obtain ⟨b6, o6, he6, hc6⟩ := ints_elem (Ty.mono _ h1 x4.vis) (i := k) (by omega)
  refine jI 2 el_26 rfl rfl rfl he6 ?_
  refine jW 3 ty_2 rfl rfl hc6.vis ?_
  refine jM 4 rfl rfl ?_
  refine jM 5 rfl rfl ?_
  obtain ⟨b7, o7, he7, hc7⟩ := ints_elem (Ty.mono _ h2 x4.vis) (i := k) (by omega)
  refine jI 6 el_26 rfl rfl rfl he7 ?_
  refine jW 7 ty_2 rfl rfl hc7.vis ?_
  refine JH.p 8 rfl (p_neq rfl rfl) ?_
  refine yd ?_
  refine zi (fun h8 h8' => ?_) fun h8 h8' => ?_
  ·
   have e1 : decide (a = b) = false := by simpa using M.ne_of_nth (a := a) (b := b) (k := k) (by simpa using h8)
   refine zS <| Qa rfl <| JL.nil ?_
   refine zR x4 ?_
   simp [outV, e1]
  have hab : M.nth a k = M.nth b k := by simpa using h8
  refine Js.skip <| Js.blockEnd <| Js.region <| Qm rfl <| Qp rfl rfl <| Qa rfl <| JL.nil ?_
  exact zag ⟨k + 1, rfl, rfl, zt, by exact hU.step (by omega) (by omega) hab, rfl⟩ x4
 have e1 : a = b := hU.done (by omega) (by omega)
 refine zx ?_
 refine zS <| Qa rfl <| JL.nil ?_
 refine zR x4 ?_
 simp [outV, e1]
theorem c_laws_f6texts (a : List (List UInt8)) {v_a : Value} (b : List (List UInt8)) {v_b : Value} {w : World} (h_a : (Ty.strs 9 a).ok w v_a) (h_b : (Ty.strs 9 b).ok w v_b) (r0 : a.length ≤ 4194304 := by exact om_) (r1 : b.length ≤ 4194304 := by exact om_) : RetV Tryz.prog 35 [v_a, v_b] w (.bool (decide (a = b))) := by
 revert v_a; apply opn
 intro A1 c1 h1 bl1 bh1
 have h_a := h1
 revert v_b; apply opn
 intro A2 c2 h2 bl2 bh2
 have h_b := h2
 refine enter @Tryz.func35 @Tryz.ntmps35 rfl rfl ?_
 refine zent ?_
 refine zS <| Qa rfl <| zJ <| zS <| Qm rfl <| Qz rfl <| Qm rfl <| Qz rfl <| Qd rfl rfl <| JL.nil ?_
 refine zi (fun h3 h3' => ?_) fun h3 h3' => ?_
 ·
  have e1 : decide (a = b) = false := by simp; rintro rfl; simp at h3
  refine zS <| Qa rfl <| JL.nil ?_
  refine zR (Up.refl _ _) ?_
  simp [outV, e1]
 have hlen : a.length = b.length := by have := h3'; omega
 refine Js.skip <| Js.seq <| zS <| Qa rfl <| JL.nil <| Js.block ?_
 refine zl [0, 1] (fun F U l os u m => ∃ (k : Nat), l = F [(5, .int .i64 (k : Int))] ∧ os = U [] ∧ (k ≤ a.length) ∧ (a.take k = b.take k) ∧ m = a.length - k) ⟨0, rfl, rfl, zt, by rfl, rfl⟩ ?_
 rintro _ _ u4 _ ⟨k, rfl, rfl, hk, hU, rfl⟩ x4
 refine zn ?_
 refine Js.seq <| zS <| Qm rfl <| Qm rfl <| Qz rfl <| Ql rfl rfl <| JL.nil ?_
 refine zi (fun h5 h5' => ?_) fun h5 h5' => ?_
 ·
  obtain ⟨ye6, hye6⟩ : ∃ x, a[k]? = some x := ⟨_, List.getElem?_eq_getElem (by omega)⟩
  have hY := hye6
  obtain ⟨ye7, hye7⟩ : ∃ x, b[k]? = some x := ⟨_, List.getElem?_eq_getElem (by omega)⟩
  have hZ := hye7
  refine Js.skip <| Js.seq <| Js.block <| Js.seq ?_
  refine zdr [] ?_
  refine jM 0 rfl rfl ?_
  refine jM 1 rfl rfl ?_
  have hy8 := hye6
  obtain ⟨b8, o8, he8, hc8⟩ := strs_elem (Ty.mono _ h1 x4.vis) hy8
  refine jI 2 el_50 rfl rfl rfl he8 ?_
  refine jW 3 ty_9 rfl rfl hc8.vis ?_
  refine jM 4 rfl rfl ?_
  refine jM 5 rfl rfl ?_
  have hy9 := hye7
  obtain ⟨b9, o9, he9, hc9⟩ := strs_elem (Ty.mono _ h2 x4.vis) hy9
  refine jI 6 el_50 rfl rfl rfl he9 ?_
  refine jW 7 ty_9 rfl rfl hc9.vis ?_
  refine JH.p 8 rfl (p_neqT und_9 rfl rfl) ?_
  refine yd ?_
  refine zi (fun h10 h10' => ?_) fun h10 h10' => ?_
  ·
   have e1 := M.eqT_no hY hZ (by simpa using h10)
   refine zS <| Qa rfl <| JL.nil ?_
   refine zR x4 ?_
   simp [outV, e1]
  have hab := M.not_ne h10
  refine Js.skip <| Js.blockEnd <| Js.region <| Qm rfl <| Qp rfl rfl <| Qa rfl <| JL.nil ?_
  exact zag ⟨k + 1, rfl, rfl, zt, by exact M.eqT_step hU hY hZ hab, rfl⟩ x4
 have e1 : a = b := M.eqT_end hU (by have := h5'; omega) hlen
 refine zx ?_
 refine zS <| Qa rfl <| JL.nil ?_
 refine zR x4 ?_
 simp [outV, e1]
theorem c_laws_FnNotes (code : Nat) {v_code : Value} {w : World} (h_code : (Ty.bytes 5 code).ok w v_code) (h_tab : tabT.ok w undef) : RetV Tryz.prog 4 [v_code] w (.bool true) := by
 revert v_code; apply opn
 intro A1 c1 h1 bl1 bh1
 have h_code := h1
 refine enter @Tryz.func4 @Tryz.ntmps4 rfl rfl ?_
 refine zent ?_
 refine zS <| Qa rfl <| zJ <| zS <| Qm rfl <| zv rfl (fun w hw => c_laws_f6big code (ok_ hw)) <| JL.nil ?_
 refine zi (fun h2 h2' => ?_) fun h2 h2' => ?_
 ·
  refine zS <| Qa rfl <| JL.nil ?_
  refine zR (Up.refl _ _) ?_
  first | rfl | exact congrArg _ (congrArg _ (M.notes_law _)) | (simp only [outV]; rw [M.notes_law]; done)
 refine Js.skip <| zS <| Qm rfl <| zp rfl (fun w hw => c_spec_DrawNotesOn code (ok_ hw)) ?_
 intro u3 x3 X4 hX4 A5 c5 h5 bl5 bh5 A6 c6 h6 bl6 bh6 A7 c7 h7 bl7 bh7 A8 c8 h8 bl8 bh8 A9 c9 h9 bl9 bh9
 refine za zeh fun b10 => zw 0 rfl rfl rfl ?_
 refine zN <| Q9 0 rfl rfl ?_
 refine zp rfl (fun w hw => c_impl_NotesOn X4 (ok_ hw) (ok_ hw)) ?_
 intro u11 x11 A12 c12 h12 bl12 bh12
 refine Qm rfl <| Qx rfl rfl <| Qx rfl rfl <| Qa rfl <| Qa rfl <| zN <| Q9 0 rfl rfl ?_
 refine zp rfl (fun w hw => c_spec_NotesOn X4 (ok_ hw)) ?_
 intro u13 x13 A14 c14 h14 bl14 bh14
 refine Qm rfl <| Qx rfl rfl <| Qx rfl rfl <| Qa rfl <| Qa rfl <| zN <| Qm rfl <| zp rfl (fun w hw => c_spec_DrawSummaryOf code (ok_ hw)) ?_
 intro u15 x15 X16 hX16 A17 c17 h17 bl17 bh17 A18 c18 h18 bl18 bh18 A19 c19 h19 bl19 bh19 A20 c20 h20 bl20 bh20 A21 c21 h21 bl21 bh21
 refine za zeh fun b22 => zw 0 rfl rfl rfl ?_
 refine zN <| Q9 0 rfl rfl ?_
 refine zv rfl (fun w hw => c_impl_SummaryOf X16 (ok_ hw) (ok_ hw)) <| Qm rfl <| Qx rfl rfl <| Qx rfl rfl <| Qa rfl <| Qa rfl <| zN <| Q9 0 rfl rfl ?_
 refine zv rfl (fun w hw => c_spec_SummaryOf X16 (ok_ hw)) <| Qm rfl <| Qx rfl rfl <| Qx rfl rfl <| Qa rfl <| Qa rfl <| zN <| Qm rfl <| zp rfl (fun w hw => c_spec_DrawMovesText code (ok_ hw)) ?_
 intro u23 x23 X24 hX24 A25 c25 h25 bl25 bh25
 have hmt := M.movT_len X24
 refine Qa rfl <| zN <| Qm rfl <| zv rfl (fun w hw => c_impl_MovesText X24 (ok_ hw) (ok_ hw)) <| Qa rfl <| zN <| Qm rfl <| zp rfl (fun w hw => c_impl_ReadMoves (M.movT X24) (ok_ hw)) ?_
 intro u26 x26 A27 c27 h27 bl27 bh27
 refine Qm rfl <| Qx rfl rfl <| Qx rfl rfl <| Qa rfl <| Qa rfl <| zN <| Qm rfl <| zp rfl (fun w hw => c_spec_DrawReadMoves code (ok_ hw)) ?_
 intro u28 x28 X29 hX29
 refine Qa rfl <| zN <| Qm rfl <| zp rfl (fun w hw => c_impl_ReadMoves X29 (ok_ hw)) ?_
 intro u30 x30 A31 c31 h31 bl31 bh31
 refine Qm rfl <| Qx rfl rfl <| Qx rfl rfl <| Qa rfl <| Qa rfl <| zN <| Qm rfl <| zp rfl (fun w hw => c_spec_ReadMoves X29) ?_
 intro u32 x32 A33 c33 h33 bl33 bh33
 refine Qm rfl <| Qx rfl rfl <| Qx rfl rfl <| Qa rfl <| Qa rfl <| zN <| Qm rfl <| zp rfl (fun w hw => c_spec_DrawLineFault code (ok_ hw)) ?_
 intro u34 x34 X35 hX35
 have hl1 := M.gameNotesR_len X4
 have hl2 := M.readM_len X29
 have hl3 := M.readM_len (M.movT X24)
 refine Qa rfl <| zJ <| zS <| Qm rfl <| Qm rfl <| Qd rfl rfl <| Qm rfl <| zg (Gd.f1 rfl rfl rfl) (fun hc => p_move rfl) <| zg (Gd.f1 rfl rfl rfl) (fun hc => p_move rfl) <| zgv (Gd.f1 rfl rfl rfl) (fun hc => (opds_2 (gh hc rfl) (gh hc rfl))) (fun hc => (fun w hw => c_laws_f6texts (M.gameNotesR X4) (M.gameNotesR X4) (ok_ hw) (ok_ hw) (r0 := (by have hc9 := hc; (try simp only [Bool.not_eq_true', Bool.not_eq_false', decide_eq_true_eq] at hc9); omega)) (r1 := (by have hc9 := hc; (try simp only [Bool.not_eq_true', Bool.not_eq_false', decide_eq_true_eq] at hc9); omega)))) ?_
 refine zg (Gd.f1 rfl rfl rfl) (fun hc => p_not (gh hc rfl)) <| Qq (p_pickOr rfl rfl rfl) <| Qm rfl <| zg (Gd.f1 rfl rfl rfl) (fun hc => p_move rfl) <| zg (Gd.f1 rfl rfl rfl) (fun hc => p_move rfl) <| zg (Gd.f1 rfl rfl rfl) (fun hc => p_neq (gh hc rfl) (gh hc rfl)) <| Qq (p_pickOr rfl rfl rfl) <| Qm rfl <| zg (Gd.f1 rfl rfl rfl) (fun hc => p_move rfl) <| zg (Gd.f1 rfl rfl rfl) (fun hc => p_move rfl) <| zg (Gd.f1 rfl rfl rfl) (fun hc => p_neqT und_9 (gh hc rfl) (gh hc rfl)) <| Qq (p_pickOr rfl rfl rfl) <| Qm rfl <| zg (Gd.f1 rfl rfl rfl) (fun hc => p_move rfl) ?_
 refine zg (Gd.f1 rfl rfl rfl) (fun hc => p_move rfl) <| zgv (Gd.f1 rfl rfl rfl) (fun hc => (opds_1 (gh hc rfl))) (fun hc => (fun w hw => c_spec_MovesText X24 (ok_ hw) (r0 := (by have hc9 := hc; (try simp only [Bool.not_eq_true', Bool.or_eq_false_iff, Bool.not_eq_false', decide_eq_true_eq] at hc9); omega)))) ?_
 refine zg (Gd.f1 rfl rfl rfl) (fun hc => p_neqT und_9 (gh hc rfl) (gh hc rfl)) <| Qq (p_pickOr rfl rfl rfl) <| Qm rfl <| zg (Gd.f1 rfl rfl rfl) (fun hc => p_move rfl) <| zg (Gd.f1 rfl rfl rfl) (fun hc => p_move rfl) <| zg (Gd.f1 rfl rfl rfl) (fun hc => p_neqB und_4 (gh hc rfl) (gh hc rfl)) <| Qq (p_pickOr rfl rfl rfl) <| Qm rfl <| zg (Gd.f1 rfl rfl rfl) (fun hc => p_move rfl) <| zg (Gd.f1 rfl rfl rfl) (fun hc => p_move rfl) <| zgv (Gd.f1 rfl rfl rfl) (fun hc => (opds_2 (gh hc rfl) (gh hc rfl))) (fun hc => (fun w hw => c_laws_f6ints ((M.readM X29).1) ((M.readM X29).1) (ok_ hw) (ok_ hw) (r0 := (by have hc9 := hc; (try simp only [Bool.not_eq_true', Bool.or_eq_false_iff, Bool.not_eq_false', decide_eq_true_eq] at hc9); omega)) (r1 := (by have hc9 := hc; (try simp only [Bool.not_eq_true', Bool.or_eq_false_iff, Bool.not_eq_false', decide_eq_true_eq] at hc9); omega)))) ?_
 refine zg (Gd.f1 rfl rfl rfl) (fun hc => p_not (gh hc rfl)) <| Qq (p_pickOr rfl rfl rfl) <| Qm rfl <| zg (Gd.f1 rfl rfl rfl) (fun hc => p_move rfl) <| zgv (Gd.f1 rfl rfl rfl) (fun hc => (opds_1 (gh hc rfl))) (fun hc => (fun w hw => c_impl_LineFault X35)) ?_
 refine zg (Gd.f1 rfl rfl rfl) (fun hc => p_move rfl) <| zgv (Gd.f1 rfl rfl rfl) (fun hc => (opds_1 (gh hc rfl))) (fun hc => (fun w hw => c_spec_LineFault X35)) ?_
 refine zg (Gd.f1 rfl rfl rfl) (fun hc => p_neqT und_9 (gh hc rfl) (gh hc rfl)) <| Qq (p_pickOr rfl rfl rfl) <| JL.nil ?_
 refine zi (fun h36 h36' => ?_) fun h36 h36' => ?_
 · exact absurd h36 (by simp)
 refine Js.skip <| Js.seq <| zS <| Qm rfl <| Qq (p_neqT und_9 rfl rfl) <| Qm rfl <| zg (Gd.t1 rfl rfl rfl) (fun hc => p_move rfl) <| zg (Gd.t1 rfl rfl rfl) (fun hc => p_not (gh hc rfl)) <| zg (Gd.t1 rfl rfl rfl) (fun hc => p_move (gh hc rfl)) <| zg (Gd.f2 rfl rfl rfl) (fun hc => p_move rfl) <| zg (Gd.f2 rfl rfl rfl) (fun hc => p_move rfl) <| zgv (Gd.f2 rfl rfl rfl) (fun hc => (opds_2 (gh hc rfl) (gh hc rfl))) (fun hc => (fun w hw => c_laws_f6ints ((M.readM (M.movT X24)).1) X24 (ok_ hw) (ok_ hw) (r0 := (by have hc9 := hc; (try simp only [Bool.and_eq_true, Bool.not_eq_true', decide_eq_false_iff_not, Bool.not_eq_false'] at hc9); omega)) (r1 := (by have hc9 := hc; (try simp only [Bool.and_eq_true, Bool.not_eq_true', decide_eq_false_iff_not, Bool.not_eq_false'] at hc9); omega)))) ?_
 refine zg (Gd.f2 rfl rfl rfl) (fun hc => p_not (gh hc rfl)) <| zg (Gd.t1 rfl rfl rfl) (fun hc => p_pickOr (gh hc rfl) rfl (gvl rfl hc)) <| Qq (p_pickAnd rfl rfl rfl) <| JL.nil ?_
 refine zi (fun h37 h37' => ?_) fun h37 h37' => ?_
 · exact absurd h37 (by rw [M.readM_dead]; decide)
 refine Js.skip <| zS <| Qm rfl <| Qd rfl rfl <| Qm rfl <| zg (Gd.f1 rfl rfl rfl) (fun hc => p_move rfl) <| zg (Gd.f1 rfl rfl rfl) (fun hc => p_len el_50 (gh hc rfl)) <| zg (Gd.f1 rfl rfl rfl) (fun hc => p_fieldAddr fld_48_2.h rfl) <| zgq (Gd.f1 rfl rfl rfl) (fun hc => q_load1 ty_26.h (gh hc rfl) (Mem.box (i := 1) rfl rfl)) <| zg (Gd.f1 rfl rfl rfl) (fun hc => p_len el_26 (gh hc rfl)) <| zg (Gd.f1 rfl rfl rfl) (fun hc => p_eql (gh hc rfl) (gh hc rfl)) <| Qq (p_pickOr rfl rfl rfl) <| Qa rfl <| JL.nil ?_
 refine zR (((((((((x3.trans x11).trans x13).trans x15).trans x23).trans x26).trans x28).trans x30).trans x32).trans x34) ?_
 first | rfl | exact congrArg _ (congrArg _ (M.notes_law _)) | (simp only [outV]; rw [M.notes_law]; done)
end Go.Proofs.YtjdhgkdimanabaaGreatDoor

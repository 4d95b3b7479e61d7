/- Walks: L10. -/
import Derived.Test.YtinkeciedmjjmaaTy
import Derived.Test.YtinkeciedmjjmaaG9
import Derived.Test.YtinkeciedmjjmaaK7
import Derived.Test.YtinkeciedmjjmaaL8
import Derived.Test.YtinkeciedmjjmaaM7
set_option linter.unusedSimpArgs false
set_option linter.unusedVariables false
namespace Go.Proofs.Ytinkeciedmjjmaa
open Go.RowKit

set_option maxRecDepth 100000 in
set_option maxHeartbeats 400000 in
theorem c_laws_eqOption (a : M.Opt) (v_a : Value) (b : M.Opt) (v_b : Value) (w : World) (h_a : (Ty.agg (cOption a)).ok w v_a) (h_b : (Ty.agg (cOption b)).ok w v_b) : RetV Try.prog 45 [v_a, v_b] w (.bool (decide (a = b))) := by
  obtain rfl := open_Option h_a
  obtain rfl := open_Option h_b
  refine enter @Try.func45 @Try.ntmps45 rfl rfl ?_
  refine Js.seq ?_
  refine Js.region ?_
  refine JL.e (e_box (c := [.int .i64 a.move, .int .i64 a.value]) rfl rfl) ?_
  rintro _ _ _ ⟨b3, rfl, rfl, rfl⟩ _
  refine JL.e (e_box (c := [.int .i64 b.move, .int .i64 b.value]) rfl rfl) ?_
  rintro _ _ _ ⟨b4, rfl, rfl, rfl⟩ _
  refine JL.q (OpP.q (p_assign rfl)) ?_
  refine JL.nil ?_
  refine Js.seq ?_
  refine Js.seq ?_
  refine Js.region ?_
  refine JL.q (OpP.q (p_fieldAddr fld_69_0 rfl)) ?_
  refine JL.q (q_load1 ty_2 rfl (Mem.box (i := 1) rfl rfl)) ?_
  refine JL.q (OpP.q (p_fieldAddr fld_69_0 rfl)) ?_
  refine JL.q (q_load1 ty_2 rfl (Mem.box (i := 0) rfl rfl)) ?_
  refine JL.q (OpP.q (p_neq rfl rfl)) ?_
  refine JL.nil ?_
  refine Js.cond rfl (fun h5 => ?_) (fun h5 => ?_)
  ·
    have h5' := h5
    try simp only [Bool.not_eq_true', decide_eq_false_iff_not] at h5'
    have hne : a ≠ b := by rintro rfl; simp at h5
    refine Js.seq ?_
    refine Js.region ?_
    refine JL.q (OpP.q (p_assign rfl)) ?_
    refine JL.nil ?_
    refine Js.ret (R := RV w (.bool (decide (a = b)))) @Try.results45 (fun _ _ => rfl) (ResOk.tmp rfl ResOk.nil) (fun w1 hw => ?_)
    refine ⟨?_, hw.ext (Up.refl _ _)⟩
    first | (rw [decide_eq_false hne]; rfl) | (rw [decide_eq_true (show a = b by cases a; cases b; simp_all)]; rfl)
  ·
    have h5' := h5
    try simp only [Bool.not_eq_false', decide_eq_true_eq] at h5'
    have q0 : a.move = b.move := by simpa using h5
    refine Js.skip ?_
    refine Js.seq ?_
    refine Js.seq ?_
    refine Js.region ?_
    refine JL.q (OpP.q (p_fieldAddr fld_69_1 rfl)) ?_
    refine JL.q (q_load1 ty_2 rfl (Mem.box (i := 1) rfl rfl)) ?_
    refine JL.q (OpP.q (p_fieldAddr fld_69_1 rfl)) ?_
    refine JL.q (q_load1 ty_2 rfl (Mem.box (i := 0) rfl rfl)) ?_
    refine JL.q (OpP.q (p_neq rfl rfl)) ?_
    refine JL.nil ?_
    refine Js.cond rfl (fun h6 => ?_) (fun h6 => ?_)
    ·
      have h6' := h6
      try simp only [Bool.not_eq_true', decide_eq_false_iff_not] at h6'
      have hne : a ≠ b := by rintro rfl; simp at h6
      refine Js.seq ?_
      refine Js.region ?_
      refine JL.q (OpP.q (p_assign rfl)) ?_
      refine JL.nil ?_
      refine Js.ret (R := RV w (.bool (decide (a = b)))) @Try.results45 (fun _ _ => rfl) (ResOk.tmp rfl ResOk.nil) (fun w1 hw => ?_)
      refine ⟨?_, hw.ext (Up.refl _ _)⟩
      first | (rw [decide_eq_false hne]; rfl) | (rw [decide_eq_true (show a = b by cases a; cases b; simp_all)]; rfl)
    ·
      have h6' := h6
      try simp only [Bool.not_eq_false', decide_eq_true_eq] at h6'
      have q1 : a.value = b.value := by simpa using h6
      refine Js.skip ?_
      refine Js.seq ?_
      refine Js.region ?_
      refine JL.q (OpP.q (p_assign rfl)) ?_
      refine JL.nil ?_
      refine Js.ret (R := RV w (.bool (decide (a = b)))) @Try.results45 (fun _ _ => rfl) (ResOk.tmp rfl ResOk.nil) (fun w1 hw => ?_)
      refine ⟨?_, hw.ext (Up.refl _ _)⟩
      first | (rw [decide_eq_false hne]; rfl) | (rw [decide_eq_true (show a = b by cases a; cases b; simp_all)]; rfl)

set_option maxRecDepth 100000 in
set_option maxHeartbeats 400000 in
theorem c_laws_eqOptionS (a : List M.Opt) (v_a : Value) (b : List M.Opt) (v_b : Value) (w : World) (h_a : (Ty.sl 69 2 a.length (lOption a)).ok w v_a) (h_b : (Ty.sl 69 2 b.length (lOption b)).ok w v_b) (r0 : a.length ≤ 4194304) (r1 : b.length ≤ 4194304) : RetV Try.prog 15 [v_a, v_b] w (.bool (decide (a = b))) := by
  obtain ⟨A1, c1, rfl, bl1, bh1⟩ := sl_form h_a
  obtain ⟨A2, c2, rfl, bl2, bh2⟩ := sl_form h_b
  refine enter @Try.func15 @Try.ntmps15 rfl rfl ?_
  refine Js.seq ?_
  refine Js.region ?_
  refine JL.q (OpP.q (p_assign rfl)) ?_
  refine JL.nil ?_
  refine Js.seq ?_
  refine Js.seq ?_
  refine Js.region ?_
  refine JL.q (OpP.q (p_move rfl)) ?_
  refine JL.q (OpP.q (p_len el_28 rfl)) ?_
  refine JL.q (OpP.q (p_move rfl)) ?_
  refine JL.q (OpP.q (p_len el_28 rfl)) ?_
  refine JL.q (OpP.q (p_neq rfl rfl)) ?_
  refine JL.nil ?_
  refine Js.cond rfl (fun h3 => ?_) (fun h3 => ?_)
  ·
    have h3' := h3
    try simp only [Bool.not_eq_true', decide_eq_false_iff_not] at h3'
    have e1 : decide (a = b) = false := by simp; rintro rfl; simp at h3
    refine Js.seq ?_
    refine Js.region ?_
    refine JL.q (OpP.q (p_assign rfl)) ?_
    refine JL.nil ?_
    refine Js.ret (R := RV w (.bool (decide (a = b)))) @Try.results15 (fun _ _ => rfl) (ResOk.tmp rfl ResOk.nil) (fun w1 hw => ?_)
    refine ⟨?_, hw.ext (Up.refl _ _)⟩
    simp [outV, e1]
  ·
    have h3' := h3
    try simp only [Bool.not_eq_false', decide_eq_true_eq] at h3'
    have hlen : a.length = b.length := by have := h3'; omega
    refine Js.skip ?_
    refine Js.seq ?_
    refine Js.seq ?_
    refine Js.region ?_
    refine JL.q (OpP.q (p_assign rfl)) ?_
    refine JL.nil ?_
    refine Js.block ?_
    refine Js.loop (fun l os u m => ∃ (k : Nat), l = [(0, .slice A1 a.length c1), (1, .slice A2 b.length c2), (5, .int .i64 (k : Int))] ∧ os = [] ∧ Up w.heap.size w u ∧ (k ≤ a.length) ∧ (a.take k = b.take k) ∧ m = a.length - k) ⟨0, rfl, rfl, Up.refl _ _, by first | assumption | omega | rfl | (simp; done), by rfl, rfl⟩ ⟨rfl, rfl, rfl, trivial⟩ ?_
    · rintro _ _ u4 _ ⟨k, rfl, rfl, x4, hk, hU, rfl⟩
      refine Js.seq ?_
      refine Js.seq ?_
      refine Js.region ?_
      refine JL.q (OpP.q (p_move rfl)) ?_
      refine JL.q (OpP.q (p_move rfl)) ?_
      refine JL.q (OpP.q (p_len el_28 rfl)) ?_
      refine JL.q (OpP.q (p_lss rfl rfl)) ?_
      refine JL.nil ?_
      refine Js.cond rfl (fun h5 => ?_) (fun h5 => ?_)
      ·
        have h5' := h5
        try simp only [decide_eq_true_eq] at h5'
        refine Js.skip ?_
        refine Js.seq ?_
        refine Js.block ?_
        refine Js.seq ?_
        obtain ⟨y6, hy6⟩ : ∃ x, a[k]? = some x := ⟨_, List.getElem?_eq_getElem (by omega)⟩
        obtain ⟨y7, hy7⟩ : ∃ x, b[k]? = some x := ⟨_, List.getElem?_eq_getElem (by omega)⟩
        refine Js.drawn _ [] mixed_ (fun _ h => h) ?_
        refine JH.p 0 rfl (p_move rfl) ?_
        refine JH.p 1 rfl (p_move rfl) ?_
        have hy8 := hy6
        obtain ⟨b8, o8, he8, hr8⟩ := elem_Option (Ty.mono _ h_a x4.vis) hy8
        refine JH.p 2 rfl (p_indexAddr el_28 rfl rfl (by omega) (by omega) he8) ?_
        refine JH.q 3 rfl (q_loadN ty_69 rfl (Mem.pubR (hr8.sub 0 2)) rfl rfl) ?_
        refine JH.p 4 rfl (p_move rfl) ?_
        refine JH.p 5 rfl (p_move rfl) ?_
        have hy9 := hy7
        obtain ⟨b9, o9, he9, hr9⟩ := elem_Option (Ty.mono _ h_b x4.vis) hy9
        refine JH.p 6 rfl (p_indexAddr el_28 rfl rfl (by omega) (by omega) he9) ?_
        refine JH.q 7 rfl (q_loadN ty_69 rfl (Mem.pubR (hr9.sub 0 2)) rfl rfl) ?_
        refine JH.one (i := 8) (by kernel_rfl) ?_
        refine JHo.e rfl (e_callV fn_45 rfl (fun w hw => c_laws_eqOption y6 _ y7 _ w ⟨_, rfl, ⟨rfl, rfl, trivial⟩⟩ ⟨_, rfl, ⟨rfl, rfl, trivial⟩⟩)) (.inl rfl) ?_
        rintro _ _ _ ⟨rfl, rfl, rfl⟩ _
        refine JH.p 9 rfl (p_not rfl) ?_
        refine JH.done (by kernel_rfl) ?_
        refine Js.cond rfl (fun h10 => ?_) (fun h10 => ?_)
        ·
          have h10' := h10
          try simp only [Bool.not_eq_true', decide_eq_false_iff_not] at h10'
          have e1 : decide (a = b) = false := decide_eq_false (M.upto_ne hy6 hy7 (by simpa using h10))
          refine Js.seq ?_
          refine Js.region ?_
          refine JL.q (OpP.q (p_assign rfl)) ?_
          refine JL.nil ?_
          refine Js.ret (R := RV w (.bool (decide (a = b)))) @Try.results15 (fun _ _ => rfl) (ResOk.tmp rfl ResOk.nil) (fun w1 hw => ?_)
          refine ⟨?_, hw.ext (x4)⟩
          simp [outV, e1]
        ·
          have h10' := h10
          try simp only [Bool.not_eq_false', decide_eq_true_eq] at h10'
          have hab : y6 = y7 := by simpa using h10
          rw [← hab] at hy7
          have hU2 := M.upto_step hU hy6 hy7
          refine Js.skip ?_
          refine Js.blockEnd ?_
          refine Js.region ?_
          refine JL.q (OpP.q (p_move rfl)) ?_
          refine JL.q (OpP.q (p_add rfl rfl (IntWalk.i64_in _ (by omega)))) ?_
          refine JL.q (OpP.q (p_assign rfl)) ?_
          refine JL.nil ?_
          exact Js.again ⟨k + 1, rfl, rfl, x4, by first | assumption | omega | rfl | (simp; done), by exact hU2, rfl⟩ (by omega) ⟨rfl, rfl, rfl, trivial⟩
      ·
        have h5' := h5
        try simp only [decide_eq_false_iff_not, Int.not_lt] at h5'
        have e1 : a = b := M.upto_done hU (by have := h5'; omega) (by have := h5'; omega)
        refine Js.exit (fun _ _ => rfl) ?_
        refine Js.seq ?_
        refine Js.region ?_
        refine JL.q (OpP.q (p_assign rfl)) ?_
        refine JL.nil ?_
        refine Js.ret (R := RV w (.bool (decide (a = b)))) @Try.results15 (fun _ _ => rfl) (ResOk.tmp rfl ResOk.nil) (fun w1 hw => ?_)
        refine ⟨?_, hw.ext (x4)⟩
        simp [outV, e1]

set_option maxRecDepth 100000 in
set_option maxHeartbeats 400000 in
theorem c_laws_markOptionS (a : List M.Opt) (Aa_0 : Option Addr) (ca_0 : Nat) (ga_0 : List Nat) (vsa_0 : List Value) (fa_0 : List Nat) (k : Int) (w : World) (hb : Bw w [rowO 69 2 (.slice Aa_0 a.length ca_0) a.length vsa_0 ga_0, ownC (lOption a) vsa_0 fa_0]) (bd0 : a.length ≤ ca_0) (bd1 : ca_0 ≤ 9223372036854775807) (r0 : a.length ≤ 4194304) (r1 : 0 ≤ k) (r2 : k ≤ 50000000) : RetB Try.prog 18 [.slice Aa_0 a.length ca_0, .int .i64 k] w [rowO 69 2 (.slice Aa_0 a.length ca_0) a.length vsa_0 ga_0, ownC (lOption a) vsa_0 fa_0] (fun v bs' => ∃ vsxa fxa, v = .int .i64 (k + 2 * (a.length : Int)) ∧ bs' = [rowO 69 2 (.slice Aa_0 a.length ca_0) a.length vsxa ga_0, ownC (lOption (M.mkL M.fO M.sO k a)) vsxa fxa]) := by
  refine enterB hb @Try.func18 @Try.ntmps18 rfl rfl ?_
  refine Js.trashE ?_
  refine Js.seq ?_
  refine Js.region ?_
  refine JL.q (OpP.q (p_assign rfl)) ?_
  refine JL.nil ?_
  refine Js.seq ?_
  refine Js.seq ?_
  refine Js.region ?_
  refine JL.q (OpP.q (p_assign rfl)) ?_
  refine JL.nil ?_
  refine Js.block ?_
  refine Js.loop (fun l os u m => ∃ (i : Nat) (kk : Int) (xs : List M.Opt) (vs1_0 : List Value) (fl1_0 : List Nat) (G1_2 : List Nat), l = [(0, .slice Aa_0 a.length ca_0), (1, .int .i64 kk), (5, .int .i64 (i : Int))] ∧ os = [rowO 69 2 (.slice Aa_0 a.length ca_0) a.length vs1_0 ga_0, ownC (lOption xs) vs1_0 fl1_0, anyO G1_2] ∧ Up w.heap.size (offW w (([rowO 69 2 (.slice Aa_0 a.length ca_0) a.length vsa_0 ga_0, ownC (lOption a) vsa_0 fa_0] : List Own).flatMap (·.fp))) u ∧ (xs = M.mkd2 M.fO M.sO k a i) ∧ (i ≤ a.length) ∧ (xs.length = a.length) ∧ (kk = k + 2 * (i : Int)) ∧ m = a.length - i) ⟨0, k, a, _, _, _, rfl, rfl, Up.refl _ _, by exact M.mkd2_zero _ _ k a, by first | assumption | omega | rfl | (simp; done), by rfl, by simp, rfl⟩ ⟨rfl, rfl, rfl, trivial⟩ ?_
  · rintro _ _ u1 _ ⟨i, kk, xs, vs1_0, fl1_0, G1_2, rfl, rfl, x1, hX, hi, hl, hkk, rfl⟩
    refine Js.seq ?_
    refine Js.seq ?_
    refine Js.region ?_
    refine JL.q (OpP.q (p_move rfl)) ?_
    refine JL.q (OpP.q (p_move rfl)) ?_
    refine JL.q (OpP.q (p_len el_28 rfl)) ?_
    refine JL.q (OpP.q (p_lss rfl rfl)) ?_
    refine JL.nil ?_
    refine Js.cond rfl (fun h2 => ?_) (fun h2 => ?_)
    ·
      have h2' := h2
      try simp only [decide_eq_true_eq] at h2'
      refine Js.skip ?_
      refine Js.seq ?_
      refine Js.block ?_
      refine Js.seq ?_
      obtain ⟨y3, hy3⟩ : ∃ x, xs[i]? = some x := ⟨_, List.getElem?_eq_getElem (by omega)⟩
      have hya9 := M.mkd2_get M.fO M.sO (k := k) (by rw [← hX]; exact hy3)
      have hs9 : M.szs M.sO (a.take i) = 2 * (i : Int) := by rw [M.szs_O, List.length_take]; omega
      have hq9 : xs.set i ⟨kk, kk + 1⟩ = M.mkd2 M.fO M.sO k a (i + 1) := by rw [hkk, ← hs9, hX]; exact M.mkd2_step M.fO M.sO (k := k) hya9
      refine Js.region ?_
      refine JL.q (OpP.q (p_move rfl)) ?_
      refine JL.q (OpP.q (p_move rfl)) ?_
      refine JL.q (OpP.q (p_move rfl)) ?_
      refine JL.fact (row_some (i := 0) rfl (by omega)) (fun hf5 => ?_)
      obtain ⟨b5, rfl⟩ := hf5
      have hy4 := hy3
      refine JL.fact (fun w hw => elemv_Option (Mem.ownC (i := 1) rfl w hw) hy4) (fun hf4 => ?_)
      have he4 := hf4
      refine JL.q (OpP.q (p_indexAddr el_28 rfl rfl (by omega) (by omega) rfl)) ?_
      refine JL.q (OpP.q (p_fieldAddr fld_69_0 rfl)) ?_
      refine JL.fact (fun w hw => elem_in cOption (m := 2) (k := i) (xs := xs) (fun _ => rfl) (Mem.ownC (i := 1) rfl w hw) (by omega)) (fun hl6 => ?_)
      refine JL.ex3 (fun w hw => St.elemS cOption (m := 2) (i := 1) (xs := xs) (fun _ => rfl) rfl hy4 he4 hw) (fun f6_1 f6_2 f6_3 => ?_)
      refine JL.s (e_storeRow (i := 3) (xs' := setL vs1_0 (0 + i * 2) [.int .i64 kk, .int .i64 y3.value]) ty_2 rfl rfl rfl rfl rfl rfl (by omega) (setL_at (j := 0) he4 (by decide) hl6 rfl)) ?_
      rintro _ _ _ ⟨rfl, rfl⟩ _
      refine JL.nil ?_
      refine Js.seq ?_
      refine Js.region ?_
      refine JL.q (OpP.q (p_move rfl)) ?_
      refine JL.q (OpP.q (p_add rfl rfl (IntWalk.i64_in _ (by omega)))) ?_
      refine JL.q (OpP.q (p_assign rfl)) ?_
      refine JL.nil ?_
      refine Js.seq ?_
      refine Js.region ?_
      refine JL.q (OpP.q (p_move rfl)) ?_
      refine JL.q (OpP.q (p_move rfl)) ?_
      refine JL.q (OpP.q (p_move rfl)) ?_
      refine JL.q (OpP.q (p_indexAddr el_28 rfl rfl (by omega) (by omega) rfl)) ?_
      refine JL.q (OpP.q (p_fieldAddr fld_69_1 rfl)) ?_
      refine JL.s (e_storeRow (i := 3) (xs' := setL vs1_0 (0 + i * 2) [.int .i64 kk, .int .i64 (kk + 1)]) ty_2 rfl rfl rfl rfl rfl rfl (by rw [setL_len hl6]; omega) ((setL_at (j := 1) (setL_get (c := [.int .i64 kk, .int .i64 y3.value]) (m := 2) rfl hl6) (by decide) (by rw [setL_len hl6]; exact hl6) rfl).trans (setL_twice rfl hl6))) ?_
      rintro _ _ _ ⟨rfl, rfl⟩ _
      refine JL.nil ?_
      refine Js.region ?_
      refine JL.q (OpP.q (p_move rfl)) ?_
      refine JL.q (OpP.q (p_add rfl rfl (IntWalk.i64_in _ (by omega)))) ?_
      refine JL.q (OpP.q (p_assign rfl)) ?_
      refine JL.nil ?_
      refine Js.blockEnd ?_
      refine Js.region ?_
      refine JL.q (OpP.q (p_move rfl)) ?_
      refine JL.q (OpP.q (p_add rfl rfl (IntWalk.i64_in _ (by omega)))) ?_
      refine JL.q (OpP.q (p_assign rfl)) ?_
      refine JL.nil ?_
      refine Js.conv (fun w hw => St.retype (i := 0) (Us := cOption (M.Opt.mk kk (kk + 1))) (us := [.int .i64 kk, .int .i64 (kk + 1)]) rfl (fun w h => reval_Option h) hw) ?_
      refine Js.front (i := 1) rfl ?_
      refine Js.front (i := 1) rfl ?_
      refine Js.front (i := 2) rfl ?_
      refine Js.conv (fun w hw => St.closeE cOption (k := i) (m := 2) (xs := xs) (y := (M.Opt.mk kk (kk + 1))) (vs := vs1_0) (vs' := (setL vs1_0 (0 + i * 2) [.int .i64 kk, .int .i64 (kk + 1)])) (by omega) rfl rfl hw) ?_
      refine Js.front (i := 2) rfl ?_
      refine Js.front (i := 1) rfl ?_
      refine Js.front (i := 2) rfl ?_
      exact Js.again ⟨i + 1, (kk + 1) + 1, xs.set i (M.Opt.mk kk (kk + 1)), _, _, _, rfl, rfl, x1, by exact hq9, by first | assumption | omega | rfl | (simp; done), by rw [List.length_set]; exact hl, by first | assumption | omega | rfl | (simp; done), rfl⟩ (by omega) ⟨rfl, rfl, rfl, trivial⟩
    ·
      have h2' := h2
      try simp only [decide_eq_false_iff_not, Int.not_lt] at h2'
      have hi2 : i = a.length := by have := h2'; omega
      have hM : M.mkL M.fO M.sO k a = xs := by rw [hX]; exact (M.mkd2_end _ _ hi2).symm
      refine Js.exit (fun _ _ => rfl) ?_
      refine Js.seq ?_
      refine Js.region ?_
      refine JL.q (OpP.q (p_move rfl)) ?_
      refine JL.q (OpP.q (p_assign rfl)) ?_
      refine JL.nil ?_
      refine Js.ret (R := RB w [rowO 69 2 (.slice Aa_0 a.length ca_0) a.length vsa_0 ga_0, ownC (lOption a) vsa_0 fa_0] (fun v bs' => ∃ vsxa fxa, v = .int .i64 (k + 2 * (a.length : Int)) ∧ bs' = [rowO 69 2 (.slice Aa_0 a.length ca_0) a.length vsxa ga_0, ownC (lOption (M.mkL M.fO M.sO k a)) vsxa fxa])) @Try.results18 (fun _ _ => rfl) (ResOk.tmp rfl ResOk.nil) (fun w1 hw => ?_)
      have hE : (.int .i64 kk : Value) = .int .i64 (k + 2 * (a.length : Int)) := by first | exact hM | (refine congrArg (Value.int .i64) ?_; omega)
      have hE1 : M.mkL M.fO M.sO k a = xs := by first | exact hM | (refine congrArg (Value.int .i64) ?_; omega)
      refine ⟨_, [rowO 69 2 (.slice Aa_0 a.length ca_0) a.length vs1_0 ga_0, ownC (lOption xs) vs1_0 fl1_0], _, rfl, ⟨vs1_0, fl1_0, hE, ?_⟩, hw.giveBack hb (x1)⟩
      · rw [hE1]

set_option maxRecDepth 100000 in
set_option maxHeartbeats 400000 in
theorem c_laws_heldOptionS (a : List M.Opt) (v_a : Value) (k : Int) (w : World) (h_a : (Ty.sl 69 2 a.length (lOption a)).ok w v_a) (r0 : a.length ≤ 4194304) (r1 : 0 ≤ k) (r2 : k ≤ 50000000) : RetV Try.prog 19 [v_a, .int .i64 k] w (.int .i64 (M.heldL M.hO k a)) := by
  obtain ⟨A1, c1, rfl, bl1, bh1⟩ := sl_form h_a
  refine enter @Try.func19 @Try.ntmps19 rfl rfl ?_
  refine Js.seq ?_
  refine Js.region ?_
  refine JL.q (OpP.q (p_assign rfl)) ?_
  refine JL.nil ?_
  refine Js.seq ?_
  refine Js.seq ?_
  refine Js.region ?_
  refine JL.q (OpP.q (p_assign rfl)) ?_
  refine JL.nil ?_
  refine Js.block ?_
  refine Js.loop (fun l os u m => ∃ (i : Nat) (kk : Int), l = [(0, .slice A1 a.length c1), (1, .int .i64 kk), (5, .int .i64 (i : Int))] ∧ os = [] ∧ Up w.heap.size w u ∧ (M.heldL M.hO kk (a.drop i) = M.heldL M.hO k a) ∧ (i ≤ a.length) ∧ (kk = k + 2 * (i : Int)) ∧ m = a.length - i) ⟨0, k, rfl, rfl, Up.refl _ _, by rfl, by first | assumption | omega | rfl | (simp; done), by simp, rfl⟩ ⟨rfl, rfl, rfl, trivial⟩ ?_
  · rintro _ _ u2 _ ⟨i, kk, rfl, rfl, x2, hS, hi, hkk, rfl⟩
    refine Js.seq ?_
    refine Js.seq ?_
    refine Js.region ?_
    refine JL.q (OpP.q (p_move rfl)) ?_
    refine JL.q (OpP.q (p_move rfl)) ?_
    refine JL.q (OpP.q (p_len el_28 rfl)) ?_
    refine JL.q (OpP.q (p_lss rfl rfl)) ?_
    refine JL.nil ?_
    refine Js.cond rfl (fun h3 => ?_) (fun h3 => ?_)
    ·
      have h3' := h3
      try simp only [decide_eq_true_eq] at h3'
      refine Js.skip ?_
      refine Js.seq ?_
      refine Js.block ?_
      refine Js.seq ?_
      refine Js.seq ?_
      obtain ⟨y4, hy4⟩ : ∃ x, a[i]? = some x := ⟨_, List.getElem?_eq_getElem (by omega)⟩
      refine Js.region ?_
      refine JL.q (OpP.q (p_move rfl)) ?_
      refine JL.q (OpP.q (p_move rfl)) ?_
      have hy5 := hy4
      obtain ⟨b5, o5, he5, hr5⟩ := elem_Option (Ty.mono _ h_a x2.vis) hy5
      refine JL.q (OpP.q (p_indexAddr el_28 rfl rfl (by omega) (by omega) he5)) ?_
      refine JL.q (OpP.q (p_fieldAddr fld_69_0 rfl)) ?_
      refine JL.q (q_load1 ty_2 rfl (Mem.pub (hr5 0 _ rfl))) ?_
      refine JL.q (OpP.q (p_move rfl)) ?_
      refine JL.q (OpP.q (p_neq rfl rfl)) ?_
      refine JL.nil ?_
      refine Js.cond rfl (fun h6 => ?_) (fun h6 => ?_)
      ·
        have h6' := h6
        try simp only [Bool.not_eq_true', decide_eq_false_iff_not] at h6'
        have hE := M.heldL_no M.hO hS hy4 (by rw [M.hO_1 (by simpa using h6)]; decide)
        refine Js.seq ?_
        refine Js.region ?_
        refine JL.q (OpP.q (p_assign rfl)) ?_
        refine JL.nil ?_
        refine Js.ret (R := RV w (.int .i64 (M.heldL M.hO k a))) @Try.results19 (fun _ _ => rfl) (ResOk.tmp rfl ResOk.nil) (fun w1 hw => ?_)
        refine ⟨?_, hw.ext (x2)⟩
        first | (rw [hE]; rfl)
      ·
        have h6' := h6
        try simp only [Bool.not_eq_false', decide_eq_true_eq] at h6'
        have q1 : y4.move = kk := by simpa using h6
        refine Js.skip ?_
        refine Js.seq ?_
        refine Js.region ?_
        refine JL.q (OpP.q (p_move rfl)) ?_
        refine JL.q (OpP.q (p_add rfl rfl (IntWalk.i64_in _ (by omega)))) ?_
        refine JL.q (OpP.q (p_assign rfl)) ?_
        refine JL.nil ?_
        refine Js.seq ?_
        refine Js.seq ?_
        refine Js.region ?_
        refine JL.q (OpP.q (p_move rfl)) ?_
        refine JL.q (OpP.q (p_move rfl)) ?_
        have hy7 := hy4
        obtain ⟨b7, o7, he7, hr7⟩ := elem_Option (Ty.mono _ h_a x2.vis) hy7
        refine JL.q (OpP.q (p_indexAddr el_28 rfl rfl (by omega) (by omega) he7)) ?_
        refine JL.q (OpP.q (p_fieldAddr fld_69_1 rfl)) ?_
        refine JL.q (q_load1 ty_2 rfl (Mem.pub (hr7 1 _ rfl))) ?_
        refine JL.q (OpP.q (p_move rfl)) ?_
        refine JL.q (OpP.q (p_neq rfl rfl)) ?_
        refine JL.nil ?_
        refine Js.cond rfl (fun h8 => ?_) (fun h8 => ?_)
        ·
          have h8' := h8
          try simp only [Bool.not_eq_true', decide_eq_false_iff_not] at h8'
          have hE := M.heldL_no M.hO hS hy4 (by rw [M.hO_2 q1 (by simpa using h8)]; decide)
          refine Js.seq ?_
          refine Js.region ?_
          refine JL.q (OpP.q (p_assign rfl)) ?_
          refine JL.nil ?_
          refine Js.ret (R := RV w (.int .i64 (M.heldL M.hO k a))) @Try.results19 (fun _ _ => rfl) (ResOk.tmp rfl ResOk.nil) (fun w1 hw => ?_)
          refine ⟨?_, hw.ext (x2)⟩
          first | (rw [hE]; rfl)
        ·
          have h8' := h8
          try simp only [Bool.not_eq_false', decide_eq_true_eq] at h8'
          have q2 : y4.value = kk + 1 := by simpa using h8
          have q3 := M.hO_0 q1 q2
          have hS2 := M.heldL_step M.hO hS hy4 (by omega)
          rw [q3] at hS2
          have q4 : kk + 1 + 1 = kk + 2 := by omega
          rw [← q4] at hS2
          refine Js.skip ?_
          refine Js.region ?_
          refine JL.q (OpP.q (p_move rfl)) ?_
          refine JL.q (OpP.q (p_add rfl rfl (IntWalk.i64_in _ (by omega)))) ?_
          refine JL.q (OpP.q (p_assign rfl)) ?_
          refine JL.nil ?_
          refine Js.blockEnd ?_
          refine Js.region ?_
          refine JL.q (OpP.q (p_move rfl)) ?_
          refine JL.q (OpP.q (p_add rfl rfl (IntWalk.i64_in _ (by omega)))) ?_
          refine JL.q (OpP.q (p_assign rfl)) ?_
          refine JL.nil ?_
          exact Js.again ⟨i + 1, (kk + 1) + 1, rfl, rfl, x2, by exact hS2, by first | assumption | omega | rfl | (simp; done), by first | assumption | omega | rfl | (simp; done), rfl⟩ (by omega) ⟨rfl, rfl, rfl, trivial⟩
    ·
      have h3' := h3
      try simp only [decide_eq_false_iff_not, Int.not_lt] at h3'
      have hE := M.heldL_end M.hO hS (by have := h3'; omega)
      refine Js.exit (fun _ _ => rfl) ?_
      refine Js.seq ?_
      refine Js.region ?_
      refine JL.q (OpP.q (p_move rfl)) ?_
      refine JL.q (OpP.q (p_assign rfl)) ?_
      refine JL.nil ?_
      refine Js.ret (R := RV w (.int .i64 (M.heldL M.hO k a))) @Try.results19 (fun _ _ => rfl) (ResOk.tmp rfl ResOk.nil) (fun w1 hw => ?_)
      refine ⟨?_, hw.ext (x2)⟩
      first | (rw [hE]; rfl)

set_option maxRecDepth 100000 in
set_option maxHeartbeats 2000000 in
theorem c_laws_FnExactSearchOptions (aR : M.Rul) (v_aR : Value) (aP : M.Pos) (v_aP : Value) (aDepth : Int) (w : World) (h_aR : (Ty.agg (cRules aR)).ok w v_aR) (h_aP : (Ty.agg (cPosition aP)).ok w v_aP) : RetV Try.prog 3 [v_aR, v_aP, .int .i64 aDepth] w (.bool true) := by
  have q4 := M.szL_cases (aP.pits.length + aP.stores.length) 1048576
  change (1048576 < _ ∧ M.szP aP 1048576 = -1) ∨ (_ ≤ _ ∧ M.szP aP 1048576 = _) at q4
  have z3 := M.optsR_len aR aP aDepth
  have z4 := M.mkL_len M.fO M.sO 1 (M.optsR aR aP aDepth)
  obtain rfl := open_Rules h_aR
  obtain ⟨A2_0, c2_0, A2_1, c2_1, rfl, h2_0, h2_1, bl2_0, bh2_0, bl2_1, bh2_1⟩ := open_Position h_aP
  refine enter @Try.func3 @Try.ntmps3 rfl rfl ?_
  refine Js.seq ?_
  refine Js.region ?_
  refine JL.e (e_box (c := [.int .i64 aR.pits, .int .i64 aR.seeds, .bool aR.stores, .bool aR.skip, .bool aR.relay, .bool aR.feed, .bool aR.again, .int .i64 aR.capture, .int .i64 aR.slam]) rfl rfl) ?_
  rintro _ _ _ ⟨b3, rfl, rfl, rfl⟩ _
  refine JL.e (e_box (c := [.slice A2_0 aP.pits.length c2_0, .slice A2_1 aP.stores.length c2_1, .int .i64 aP.player]) rfl rfl) ?_
  rintro _ _ _ ⟨b4, rfl, rfl, rfl⟩ _
  refine JL.q (OpP.q (p_assign rfl)) ?_
  refine JL.nil ?_
  refine Js.seq ?_
  refine Js.region ?_
  refine JL.q (OpP.q (p_assign rfl)) ?_
  refine JL.nil ?_
  refine Js.seq ?_
  refine Js.region ?_
  refine JL.q (q_loadN ty_26 rfl (Mem.boxR (i := 0) rfl 0 3) rfl rfl) ?_
  refine JL.q (OpP.q (p_move rfl)) ?_
  refine JL.e (e_callV fn_10 rfl (fun w hw => c_laws_szPosition aP _ 1048576 w ⟨_, rfl, ⟨(Ty.mono _ h2_0 hw.vis), (Ty.mono _ h2_1 hw.vis), rfl, trivial⟩⟩ (by omega) (by omega))) ?_
  rintro _ _ _ ⟨rfl, rfl, rfl⟩ _
  refine JL.q (OpP.q (p_assign rfl)) ?_
  refine JL.nil ?_
  refine Js.seq ?_
  refine Js.seq ?_
  refine Js.region ?_
  refine JL.q (OpP.q (p_move rfl)) ?_
  refine JL.q (OpP.q (p_lss rfl rfl)) ?_
  refine JL.nil ?_
  refine Js.cond rfl (fun h5 => ?_) (fun h5 => ?_)
  ·
    have h5' := h5
    try simp only [decide_eq_true_eq] at h5'
    refine Js.seq ?_
    refine Js.region ?_
    refine JL.q (OpP.q (p_assign rfl)) ?_
    refine JL.nil ?_
    refine Js.ret (R := RV w (.bool true)) @Try.results3 (fun _ _ => rfl) (ResOk.tmp rfl ResOk.nil) (fun w1 hw => ?_)
    refine ⟨?_, hw.ext (Up.refl _ _)⟩
    first | rfl | (simp [outV]; done)
  ·
    have h5' := h5
    try simp only [decide_eq_false_iff_not, Int.not_lt] at h5'
    refine Js.skip ?_
    refine Js.seq ?_
    refine Js.drawn _ [] mixed_ (fun _ h => h) ?_
    refine JH.q 0 rfl (q_loadN ty_23 rfl (Mem.boxR (i := 1) rfl 0 9) rfl rfl) ?_
    refine JH.q 2 rfl (q_loadN ty_26 rfl (Mem.boxR (i := 0) rfl 0 3) rfl rfl) ?_
    refine JH.p 4 rfl (p_move rfl) ?_
    refine JH.one (i := 1) (by kernel_rfl) ?_
    refine JHo.e rfl (e_callP fn_12 rfl (fun w hw => c_laws_toRules aR _ w ⟨_, rfl, ⟨rfl, rfl, rfl, rfl, rfl, rfl, rfl, rfl, rfl, trivial⟩⟩)) (.inl rfl) ?_
    rintro v6 _ u8 ⟨h7, rfl⟩ x8
    obtain rfl := open_Rules h7
    refine JH.one (i := 3) (by kernel_rfl) ?_
    refine JHo.e rfl (e_callP fn_13 rfl (fun w hw => c_laws_toPosition aP _ w ⟨_, rfl, ⟨(Ty.mono _ h2_0 (x8.vis.trans hw.vis)), (Ty.mono _ h2_1 (x8.vis.trans hw.vis)), rfl, trivial⟩⟩ (by omega) (by omega))) (.inl rfl) ?_
    rintro v10 _ u12 ⟨h11, rfl⟩ x12
    obtain ⟨A13_0, c13_0, A13_1, c13_1, rfl, h13_0, h13_1, bl13_0, bh13_0, bl13_1, bh13_1⟩ := open_Position h11
    refine JH.one (i := 5) (by kernel_rfl) ?_
    refine JHo.e rfl (e_callP fn_11 rfl (fun w hw => c_spec_SearchOptions aR _ aP _ aDepth w ⟨_, rfl, ⟨rfl, rfl, rfl, rfl, rfl, rfl, rfl, rfl, rfl, trivial⟩⟩ ⟨_, rfl, ⟨(Ty.mono _ h13_0 hw.vis), (Ty.mono _ h13_1 hw.vis), rfl, trivial⟩⟩ (by omega) (by omega))) (.inl rfl) ?_
    rintro v14 _ u16 ⟨h15, rfl⟩ x16
    obtain ⟨vs17, rfl, hv17⟩ := h15
    obtain ⟨v17_0, vs17, rfl, hw17_0, hv17⟩ := cellsOk_cons hv17
    obtain ⟨v17_1, vs17, rfl, hw17_1, hv17⟩ := cellsOk_cons hv17
    obtain rfl := cellsOk_nil hv17
    obtain ⟨A18, c18, rfl, bl18, bh18⟩ := sl_form hw17_0
    obtain rfl : v17_1 = .int .i64 (M.optsC aR aP aDepth) := hw17_1
    refine JH.p 6 rfl (p_move rfl) ?_
    refine JH.p 7 rfl (p_extract rfl rfl) ?_
    refine JH.p 8 rfl (p_extract rfl rfl) ?_
    refine JH.p 9 rfl (p_assign rfl) ?_
    refine JH.p 10 rfl (p_assign rfl) ?_
    refine JH.done (by kernel_rfl) ?_
    refine Js.seq ?_
    refine Js.region ?_
    refine JL.q (q_loadN ty_26 rfl (Mem.boxR (i := 0) rfl 0 3) rfl rfl) ?_
    refine JL.e (e_callO fn_13 rfl (Spl.agg (Spls.cons (Spl.ints _ _) (Spls.cons (Spl.ints _ _) (Spls.cons (Spl.val _) Spls.nil)))) (fun w hw => c_laws_toPosition aP _ w ⟨_, rfl, ⟨(Ty.mono _ h2_0 (((x8.vis.trans x12.vis).trans x16.vis).trans hw.vis)), (Ty.mono _ h2_1 (((x8.vis.trans x12.vis).trans x16.vis).trans hw.vis)), rfl, trivial⟩⟩ (by omega) (by omega))) ?_
    rintro v19 _ _ ⟨_, hR20, rfl, rfl⟩ _
    obtain ⟨vs21, rfl, hr21⟩ := hR20
    obtain ⟨v21_0, vs21_0, o21_0, ow21_0, rfl, hR21_0, hs21_0, rfl⟩ := RL_cons hr21
    obtain ⟨v21_1, vs21_1, o21_1, ow21_1, rfl, hR21_1, hs21_1, rfl⟩ := RL_cons hs21_0
    obtain ⟨v21_2, vs21_2, o21_2, ow21_2, rfl, hR21_2, hs21_2, rfl⟩ := RL_cons hs21_1
    obtain ⟨rfl, rfl⟩ := RL_nil hs21_2
    obtain ⟨A22, c22, rfl, rfl, bl22, bh22⟩ := hR21_0
    obtain ⟨A23, c23, rfl, rfl, bl23, bh23⟩ := hR21_1
    obtain ⟨rfl, rfl⟩ : v21_2 = .int .i64 aP.player ∧ _ := hR21_2
    refine JL.e (e_alloc zero_33) ?_
    rintro _ _ _ ⟨b24, rfl, rfl, rfl⟩ _
    refine JL.s (e_store (i := 0) (c' := [.slice A22 aP.pits.length c22, .slice A23 aP.stores.length c23, .int .i64 aP.player]) ty_33 rfl rfl rfl rfl rfl rfl rfl rfl) ?_
    rintro _ _ _ ⟨rfl, rfl⟩ _
    refine JL.nil ?_
    refine Js.seq ?_
    refine Js.drawn _ [] mixed_ (fun _ h => h) ?_
    refine JH.q 0 rfl (q_loadN ty_23 rfl (Mem.boxR (i := 4) rfl 0 9) rfl rfl) ?_
    refine JH.q 2 rfl (q_loadN ty_33 rfl (Mem.boxR (i := 0) rfl 0 3) rfl rfl) ?_
    refine JH.p 3 rfl (p_move rfl) ?_
    refine JH.one (i := 1) (by kernel_rfl) ?_
    refine JHo.e rfl (e_callP fn_12 rfl (fun w hw => c_laws_toRules aR _ w ⟨_, rfl, ⟨rfl, rfl, rfl, rfl, rfl, rfl, rfl, rfl, rfl, trivial⟩⟩)) (.inl rfl) ?_
    rintro v25 _ u27 ⟨h26, rfl⟩ x27
    obtain rfl := open_Rules h26
    refine JH.one (i := 4) (by kernel_rfl) ?_
    refine JHo.e rfl (e_callO fn_14 rfl (Spl.tup (Spls.cons (Spl.sl _ _ _ _) (Spls.cons (Spl.val _) Spls.nil))) (fun w hw => c_impl_SearchOptions aR _ aP _ aDepth w ⟨_, rfl, ⟨rfl, rfl, rfl, rfl, rfl, rfl, rfl, rfl, rfl, trivial⟩⟩ ⟨_, rfl, ⟨(ints_rowok (xs := aP.pits) (hw.pr (i := 1) rfl)), (ints_rowok (xs := aP.stores) (hw.pr (i := 2) rfl)), rfl, trivial⟩⟩ (by omega) (by omega))) (.inl rfl) ?_
    rintro v29 _ _ ⟨_, hR30, rfl, rfl⟩ _
    obtain ⟨vs31, rfl, hr31⟩ := hR30
    obtain ⟨v31_0, vs31_0, o31_0, ow31_0, rfl, hR31_0, hs31_0, rfl⟩ := RL_cons hr31
    obtain ⟨v31_1, vs31_1, o31_1, ow31_1, rfl, hR31_1, hs31_1, rfl⟩ := RL_cons hs31_0
    obtain ⟨rfl, rfl⟩ := RL_nil hs31_1
    obtain ⟨A32, c32, vs32, f32, rfl, rfl, bl32, bh32⟩ := hR31_0
    obtain ⟨rfl, rfl⟩ : v31_1 = .int .i64 (M.optsC aR aP aDepth) ∧ _ := hR31_1
    refine JH.p 5 rfl (p_move rfl) ?_
    refine JH.p 6 rfl (p_extract rfl rfl) ?_
    refine JH.p 7 rfl (p_extract rfl rfl) ?_
    refine JH.p 8 rfl (p_assign rfl) ?_
    refine JH.p 9 rfl (p_assign rfl) ?_
    refine JH.done (by kernel_rfl) ?_
    refine Js.seq ?_
    refine Js.seq ?_
    refine Js.region ?_
    refine JL.q (OpP.q (p_move rfl)) ?_
    refine JL.q (OpP.q (p_move rfl)) ?_
    refine JL.e (e_callV fn_15 rfl (fun w hw => c_laws_eqOptionS (M.optsR aR aP aDepth) _ (M.optsR aR aP aDepth) _ w (srow_ok lOption (xs := (M.optsR aR aP aDepth)) (hw.pr (i := 0) rfl) (hw.pr (i := 1) rfl) (lOption_length _)) (Ty.mono _ hw17_0 (x27.vis.trans hw.vis)) (by omega) (by omega))) ?_
    rintro _ _ _ ⟨rfl, rfl, rfl⟩ _
    refine JL.q (OpP.q (p_not rfl)) ?_
    refine JL.q (OpP.q (p_move rfl)) ?_
    refine JL.g (Gd.f1 rfl rfl rfl) (fun hc => OpP.q (p_move rfl)) ?_
    refine JL.g (Gd.f1 rfl rfl rfl) (fun hc => OpP.q (p_move rfl)) ?_
    refine JL.g (Gd.f1 rfl rfl rfl) (fun hc => OpP.q (p_neq (gvt rfl hc) (gvt rfl hc))) ?_
    refine JL.q (OpP.q (p_pickOr rfl rfl rfl)) ?_
    refine JL.nil ?_
    refine Js.cond rfl (fun h33 => ?_) (fun h33 => ?_)
    ·
      exact absurd h33 (by simp)
    ·
      have h33' := h33
      try simp only [Bool.or_eq_false_iff, Bool.not_eq_false', decide_eq_true_eq] at h33'
      refine Js.skip ?_
      refine Js.seq ?_
      refine Js.seq ?_
      refine Js.drawn _ [] mixed_ (fun _ h => h) ?_
      refine JH.q 0 rfl (q_loadN ty_33 rfl (Mem.boxR (i := 2) rfl 0 3) rfl rfl) ?_
      refine JH.q 1 rfl (q_loadN ty_26 rfl (Mem.boxR (i := 5) rfl 0 3) rfl rfl) ?_
      refine JH.one (i := 2) (by kernel_rfl) ?_
      refine JHo.e rfl (e_callP fn_13 rfl (fun w hw => c_laws_toPosition aP _ w ⟨_, rfl, ⟨(Ty.mono _ h2_0 ((((x8.vis.trans x12.vis).trans x16.vis).trans x27.vis).trans hw.vis)), (Ty.mono _ h2_1 ((((x8.vis.trans x12.vis).trans x16.vis).trans x27.vis).trans hw.vis)), rfl, trivial⟩⟩ (by omega) (by omega))) (.inl rfl) ?_
      rintro v34 _ u36 ⟨h35, rfl⟩ x36
      obtain ⟨A37_0, c37_0, A37_1, c37_1, rfl, h37_0, h37_1, bl37_0, bh37_0, bl37_1, bh37_1⟩ := open_Position h35
      refine JH.one (i := 3) (by kernel_rfl) ?_
      refine JHo.e rfl (e_callV fn_16 rfl (fun w hw => c_laws_eqPosition aP _ aP _ w ⟨_, rfl, ⟨(ints_rowok (xs := aP.pits) (hw.pr (i := 3) rfl)), (ints_rowok (xs := aP.stores) (hw.pr (i := 4) rfl)), rfl, trivial⟩⟩ ⟨_, rfl, ⟨(Ty.mono _ h37_0 hw.vis), (Ty.mono _ h37_1 hw.vis), rfl, trivial⟩⟩ (by omega) (by omega) (by omega) (by omega))) (.inl rfl) ?_
      rintro _ _ _ ⟨rfl, rfl, rfl⟩ _
      refine JH.p 4 rfl (p_not rfl) ?_
      refine JH.done (by kernel_rfl) ?_
      refine Js.cond rfl (fun h38 => ?_) (fun h38 => ?_)
      ·
        exact absurd h38 (by simp)
      ·
        have h38' := h38
        try simp only [Bool.not_eq_false', decide_eq_true_eq] at h38'
        refine Js.skip ?_
        refine Js.seq ?_
        refine Js.region ?_
        refine JL.q (OpP.q (p_assign rfl)) ?_
        refine JL.nil ?_
        refine Js.seq ?_
        refine Js.region ?_
        refine JL.q (q_loadN ty_33 rfl (Mem.boxR (i := 2) rfl 0 3) rfl rfl) ?_
        refine JL.q (OpP.q (p_move rfl)) ?_
        refine JL.conv (fun _ h => h.front (i := 4) rfl) ?_
        refine JL.conv (fun _ h => h.front (i := 4) rfl) ?_
        refine JL.e (e_callB (bs := [rowO 2 1 (.slice A22 aP.pits.length c22) aP.pits.length (ints_ aP.pits) [], rowO 2 1 (.slice A23 aP.stores.length c23) aP.stores.length (ints_ aP.stores) []]) (rest := [rowO 69 2 (.slice A32 ((M.optsR aR aP aDepth).length) c32) ((M.optsR aR aP aDepth).length) vs32 [], ownC (lOption (M.optsR aR aP aDepth)) vs32 f32, boxO b24 [.slice A22 aP.pits.length c22, .slice A23 aP.stores.length c23, .int .i64 aP.player] 33, boxO b4 [.slice A2_0 aP.pits.length c2_0, .slice A2_1 aP.stores.length c2_1, .int .i64 aP.player] 26, boxO b3 [.int .i64 aR.pits, .int .i64 aR.seeds, .bool aR.stores, .bool aR.skip, .bool aR.relay, .bool aR.feed, .bool aR.again, .int .i64 aR.capture, .int .i64 aR.slam] 23]) fn_17 rfl (fun w hb hw => c_laws_markPosition aP.pits aP.stores aP.player A22 c22 [] A23 c23 [] 1 w hb (by omega) (by omega) (by omega) (by omega) (by omega) (by omega) (by omega) (by omega)) rfl) ?_
        rintro _ _ _ ⟨_, G39, ⟨rfl, rfl⟩, rfl, rfl⟩ _
        refine JL.q (OpP.q (p_assign rfl)) ?_
        refine JL.nil ?_
        refine Js.seq ?_
        refine Js.seq ?_
        refine Js.region ?_
        refine JL.q (OpP.q (p_move rfl)) ?_
        refine JL.q (OpP.q (p_lss rfl rfl)) ?_
        refine JL.q (OpP.q (p_move rfl)) ?_
        refine JL.g (Gd.f1 rfl rfl rfl) (fun hc => OpP.q (p_move rfl)) ?_
        refine JL.g (Gd.f1 rfl rfl rfl) (fun hc => OpP.q (p_move rfl)) ?_
        refine JL.ge (Gd.f1 rfl rfl rfl) (fun hc => e_callV fn_15 (opds_2 (gvt rfl hc) (gvt rfl hc)) (fun w hw => c_laws_eqOptionS (M.optsR aR aP aDepth) _ (M.optsR aR aP aDepth) _ w (srow_ok lOption (xs := (M.optsR aR aP aDepth)) (hw.pr (i := 3) rfl) (hw.pr (i := 4) rfl) (lOption_length _)) (Ty.mono _ hw17_0 ((x27.vis.trans x36.vis).trans hw.vis)) (by have hc9 := hc; (try simp only [Bool.not_eq_true', decide_eq_false_iff_not, Int.not_lt] at hc9); omega) (by have hc9 := hc; (try simp only [Bool.not_eq_true', decide_eq_false_iff_not, Int.not_lt] at hc9); omega))) ?_
        refine JL.g (Gd.f1 rfl rfl rfl) (fun hc => OpP.q (p_not (gvt rfl hc))) ?_
        refine JL.q (OpP.q (p_pickOr rfl rfl rfl)) ?_
        refine JL.q (OpP.q (p_move rfl)) ?_
        refine JL.g (Gd.f1 rfl rfl rfl) (fun hc => OpP.q (p_move rfl)) ?_
        refine JL.g (Gd.f1 rfl rfl rfl) (fun hc => OpP.q (p_move rfl)) ?_
        refine JL.g (Gd.f1 rfl rfl rfl) (fun hc => OpP.q (p_neq (gvt rfl hc) (gvt rfl hc))) ?_
        refine JL.q (OpP.q (p_pickOr rfl rfl rfl)) ?_
        refine JL.nil ?_
        refine Js.cond rfl (fun h40 => ?_) (fun h40 => ?_)
        ·
          exact absurd h40 (by simp only [decide_true, Bool.not_true, Bool.or_false, decide_eq_true_eq]; omega)
        ·
          have h40' := h40
          try simp only [Bool.or_eq_false_iff, decide_eq_false_iff_not, Int.not_lt, Bool.not_eq_false', decide_eq_true_eq] at h40'
          refine Js.skip ?_
          refine Js.seq ?_
          refine Js.region ?_
          refine JL.q (OpP.q (p_assign rfl)) ?_
          refine JL.nil ?_
          refine Js.seq ?_
          refine Js.region ?_
          refine JL.q (OpP.q (p_move rfl)) ?_
          refine JL.q (OpP.q (p_move rfl)) ?_
          refine JL.conv (fun _ h => h.front (i := 4) rfl) ?_
          refine JL.conv (fun _ h => h.front (i := 4) rfl) ?_
          refine JL.e (e_callB (bs := [rowO 69 2 (.slice A32 ((M.optsR aR aP aDepth).length) c32) ((M.optsR aR aP aDepth).length) vs32 [], ownC (lOption (M.optsR aR aP aDepth)) vs32 f32]) (rest := [rowO 2 1 (.slice A22 aP.pits.length c22) aP.pits.length (ints_ (M.up 1 aP.pits.length)) [], rowO 2 1 (.slice A23 aP.stores.length c23) aP.stores.length (ints_ (M.up (1 + (aP.pits.length : Int)) aP.stores.length)) [], anyO G39, boxO b24 [.slice A22 aP.pits.length c22, .slice A23 aP.stores.length c23, .int .i64 aP.player] 33, boxO b4 [.slice A2_0 aP.pits.length c2_0, .slice A2_1 aP.stores.length c2_1, .int .i64 aP.player] 26, boxO b3 [.int .i64 aR.pits, .int .i64 aR.seeds, .bool aR.stores, .bool aR.skip, .bool aR.relay, .bool aR.feed, .bool aR.again, .int .i64 aR.capture, .int .i64 aR.slam] 23]) fn_18 rfl (fun w hb hw => c_laws_markOptionS (M.optsR aR aP aDepth) A32 c32 [] vs32 f32 1 w hb (by omega) (by omega) (by omega) (by omega) (by omega)) rfl) ?_
          rintro _ _ _ ⟨_, G41, ⟨vs41_a, f41_a, rfl, rfl⟩, rfl, rfl⟩ _
          refine JL.q (OpP.q (p_assign rfl)) ?_
          refine JL.nil ?_
          refine Js.seq ?_
          refine Js.region ?_
          refine JL.q (OpP.q (p_assign rfl)) ?_
          refine JL.nil ?_
          refine Js.seq ?_
          refine Js.region ?_
          refine JL.q (OpP.q (p_move rfl)) ?_
          refine JL.q (OpP.q (p_move rfl)) ?_
          refine JL.e (e_callV fn_19 rfl (fun w hw => c_laws_heldOptionS (M.mkL M.fO M.sO 1 (M.optsR aR aP aDepth)) _ 1 w (srow_ok lOption (xs := (M.mkL M.fO M.sO 1 (M.optsR aR aP aDepth))) (hw.pr (i := 0) rfl) (hw.pr (i := 1) rfl) (lOption_length _)) (by omega) (by omega) (by omega))) ?_
          rintro _ _ _ ⟨rfl, rfl, rfl⟩ _
          refine JL.q (OpP.q (p_assign rfl)) ?_
          refine JL.nil ?_
          refine Js.seq ?_
          refine Js.seq ?_
          refine Js.region ?_
          refine JL.q (OpP.q (p_move rfl)) ?_
          refine JL.q (OpP.q (p_lss rfl rfl)) ?_
          refine JL.nil ?_
          refine Js.cond rfl (fun h42 => ?_) (fun h42 => ?_)
          ·
            exact absurd h42 (by rw [M.held_O _ (by decide)]; simp only [decide_eq_true_eq]; omega)
          ·
            have h42' := h42
            try simp only [decide_eq_false_iff_not, Int.not_lt] at h42'
            refine Js.skip ?_
            refine Js.seq ?_
            refine Js.seq ?_
            refine Js.region ?_
            refine JL.q (OpP.q (p_move rfl)) ?_
            refine JL.q (OpP.q (p_move rfl)) ?_
            refine JL.q (OpP.q (p_neq rfl rfl)) ?_
            refine JL.nil ?_
            refine Js.cond rfl (fun h43 => ?_) (fun h43 => ?_)
            ·
              exact absurd h43 (by rw [M.held_O _ (by decide)]; simp)
            ·
              have h43' := h43
              try simp only [Bool.not_eq_false', decide_eq_true_eq] at h43'
              refine Js.skip ?_
              refine Js.seq ?_
              refine Js.drawn _ [] mixed_ (fun _ h => h) ?_
              refine JH.q 0 rfl (q_loadN ty_23 rfl (Mem.boxR (i := 8) rfl 0 9) rfl rfl) ?_
              refine JH.q 2 rfl (q_loadN ty_26 rfl (Mem.boxR (i := 7) rfl 0 3) rfl rfl) ?_
              refine JH.p 4 rfl (p_move rfl) ?_
              refine JH.one (i := 1) (by kernel_rfl) ?_
              refine JHo.e rfl (e_callP fn_12 rfl (fun w hw => c_laws_toRules aR _ w ⟨_, rfl, ⟨rfl, rfl, rfl, rfl, rfl, rfl, rfl, rfl, rfl, trivial⟩⟩)) (.inl rfl) ?_
              rintro v44 _ u46 ⟨h45, rfl⟩ x46
              obtain rfl := open_Rules h45
              refine JH.one (i := 3) (by kernel_rfl) ?_
              refine JHo.e rfl (e_callP fn_13 rfl (fun w hw => c_laws_toPosition aP _ w ⟨_, rfl, ⟨(Ty.mono _ h2_0 ((((((x8.vis.trans x12.vis).trans x16.vis).trans x27.vis).trans x36.vis).trans x46.vis).trans hw.vis)), (Ty.mono _ h2_1 ((((((x8.vis.trans x12.vis).trans x16.vis).trans x27.vis).trans x36.vis).trans x46.vis).trans hw.vis)), rfl, trivial⟩⟩ (by omega) (by omega))) (.inl rfl) ?_
              rintro v48 _ u50 ⟨h49, rfl⟩ x50
              obtain ⟨A51_0, c51_0, A51_1, c51_1, rfl, h51_0, h51_1, bl51_0, bh51_0, bl51_1, bh51_1⟩ := open_Position h49
              refine JH.one (i := 5) (by kernel_rfl) ?_
              refine JHo.e rfl (e_callP fn_14 rfl (fun w hw => c_impl_SearchOptions aR _ aP _ aDepth w ⟨_, rfl, ⟨rfl, rfl, rfl, rfl, rfl, rfl, rfl, rfl, rfl, trivial⟩⟩ ⟨_, rfl, ⟨(Ty.mono _ h51_0 hw.vis), (Ty.mono _ h51_1 hw.vis), rfl, trivial⟩⟩ (by omega) (by omega))) (.inl rfl) ?_
              rintro v52 _ u54 ⟨h53, rfl⟩ x54
              obtain ⟨vs55, rfl, hv55⟩ := h53
              obtain ⟨v55_0, vs55, rfl, hw55_0, hv55⟩ := cellsOk_cons hv55
              obtain ⟨v55_1, vs55, rfl, hw55_1, hv55⟩ := cellsOk_cons hv55
              obtain rfl := cellsOk_nil hv55
              obtain ⟨A56, c56, rfl, bl56, bh56⟩ := sl_form hw55_0
              obtain rfl : v55_1 = .int .i64 (M.optsC aR aP aDepth) := hw55_1
              refine JH.p 6 rfl (p_move rfl) ?_
              refine JH.p 7 rfl (p_extract rfl rfl) ?_
              refine JH.p 8 rfl (p_extract rfl rfl) ?_
              refine JH.p 9 rfl (p_assign rfl) ?_
              refine JH.p 10 rfl (p_assign rfl) ?_
              refine JH.done (by kernel_rfl) ?_
              refine Js.seq ?_
              refine Js.seq ?_
              refine Js.region ?_
              refine JL.q (OpP.q (p_move rfl)) ?_
              refine JL.q (OpP.q (p_move rfl)) ?_
              refine JL.e (e_callV fn_15 rfl (fun w hw => c_laws_eqOptionS (M.optsR aR aP aDepth) _ (M.optsR aR aP aDepth) _ w (Ty.mono _ hw55_0 hw.vis) (Ty.mono _ hw17_0 (((((x27.vis.trans x36.vis).trans x46.vis).trans x50.vis).trans x54.vis).trans hw.vis)) (by omega) (by omega))) ?_
              rintro _ _ _ ⟨rfl, rfl, rfl⟩ _
              refine JL.q (OpP.q (p_not rfl)) ?_
              refine JL.q (OpP.q (p_move rfl)) ?_
              refine JL.g (Gd.f1 rfl rfl rfl) (fun hc => OpP.q (p_move rfl)) ?_
              refine JL.g (Gd.f1 rfl rfl rfl) (fun hc => OpP.q (p_move rfl)) ?_
              refine JL.g (Gd.f1 rfl rfl rfl) (fun hc => OpP.q (p_neq (gvt rfl hc) (gvt rfl hc))) ?_
              refine JL.q (OpP.q (p_pickOr rfl rfl rfl)) ?_
              refine JL.nil ?_
              refine Js.condF rfl h33 ?_
              refine Js.skip ?_
              refine Js.seq ?_
              refine Js.region ?_
              refine JL.q (OpP.q (p_assign rfl)) ?_
              refine JL.nil ?_
              refine Js.seq ?_
              refine Js.region ?_
              refine JL.q (OpP.q (p_move rfl)) ?_
              refine JL.q (OpP.q (p_move rfl)) ?_
              refine JL.e (e_callV fn_19 rfl (fun w hw => c_laws_heldOptionS (M.mkL M.fO M.sO 1 (M.optsR aR aP aDepth)) _ 1 w (srow_ok lOption (xs := (M.mkL M.fO M.sO 1 (M.optsR aR aP aDepth))) (hw.pr (i := 0) rfl) (hw.pr (i := 1) rfl) (lOption_length _)) (by omega) (by omega) (by omega))) ?_
              rintro _ _ _ ⟨rfl, rfl, rfl⟩ _
              refine JL.q (OpP.q (p_assign rfl)) ?_
              refine JL.nil ?_
              refine Js.seq ?_
              refine Js.seq ?_
              refine Js.region ?_
              refine JL.q (OpP.q (p_move rfl)) ?_
              refine JL.q (OpP.q (p_lss rfl rfl)) ?_
              refine JL.nil ?_
              refine Js.condF rfl h42 ?_
              refine Js.skip ?_
              refine Js.seq ?_
              refine Js.seq ?_
              refine Js.region ?_
              refine JL.q (OpP.q (p_move rfl)) ?_
              refine JL.q (OpP.q (p_move rfl)) ?_
              refine JL.q (OpP.q (p_neq rfl rfl)) ?_
              refine JL.nil ?_
              refine Js.condF rfl h43 ?_
              refine Js.skip ?_
              refine Js.seq ?_
              refine Js.region ?_
              refine JL.q (OpP.q (p_assign rfl)) ?_
              refine JL.nil ?_
              refine Js.ret (R := RV w (.bool true)) @Try.results3 (fun _ _ => rfl) (ResOk.tmp rfl ResOk.nil) (fun w1 hw => ?_)
              refine ⟨?_, hw.ext ((((((((x8.trans x12).trans x16).trans x27).trans x36).trans x46).trans x50).trans x54))⟩
              first | rfl | (simp [outV]; done)

end Go.Proofs.Ytinkeciedmjjmaa

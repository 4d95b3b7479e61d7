/- Walks: L11. -/
import Derived.Test.YtejnmechnhgmfaaTy
import Derived.Test.YtejnmechnhgmfaaG11
import Derived.Test.YtejnmechnhgmfaaK9
import Derived.Test.YtejnmechnhgmfaaL3
import Derived.Test.YtejnmechnhgmfaaM7
set_option linter.unusedSimpArgs false
set_option linter.unusedVariables false
namespace Go.Proofs.Ytejnmechnhgmfaa
open Go.RowKit

set_option maxRecDepth 100000 in
set_option maxHeartbeats 400000 in
theorem c_laws_eqPositionS (a : List M.Pos) (v_a : Value) (b : List M.Pos) (v_b : Value) (w : World) (h_a : (Ty.sl 33 3 a.length (lPosition a)).ok w v_a) (h_b : (Ty.sl 33 3 b.length (lPosition b)).ok w v_b) (r0 : a.length ≤ 200) (r1 : b.length ≤ 200) (r2 : ∀ (i : Nat) (q : M.Pos), a[i]? = some q → q.pits.length ≤ 1000 ∧ q.stores.length ≤ 1000) (r3 : ∀ (i : Nat) (q : M.Pos), b[i]? = some q → q.pits.length ≤ 1000 ∧ q.stores.length ≤ 1000) : RetV Try.prog 32 [v_a, v_b] w (.bool (decide (a = b))) := by
  obtain ⟨A1, c1, rfl, bl1, bh1⟩ := sl_form h_a
  obtain ⟨A2, c2, rfl, bl2, bh2⟩ := sl_form h_b
  refine enter @Try.func32 @Try.ntmps32 rfl rfl ?_
  refine Js.seq ?_
  refine Js.region ?_
  refine JL.q (OpP.q (p_assign rfl)) ?_
  refine JL.nil ?_
  refine Js.seq ?_
  refine Js.seq ?_
  refine Js.region ?_
  refine JL.q (OpP.q (p_move rfl)) ?_
  refine JL.q (OpP.q (p_len el_44 rfl)) ?_
  refine JL.q (OpP.q (p_move rfl)) ?_
  refine JL.q (OpP.q (p_len el_44 rfl)) ?_
  refine JL.q (OpP.q (p_neq rfl rfl)) ?_
  refine JL.nil ?_
  refine Js.cond rfl (fun h3 => ?_) (fun h3 => ?_)
  ·
    have h3' := h3
    try simp only [Bool.not_eq_true', decide_eq_false_iff_not] at h3'
    have e1 : decide (a = b) = false := by simp; rintro rfl; simp at h3
    refine Js.seq ?_
    refine Js.region ?_
    refine JL.q (OpP.q (p_assign rfl)) ?_
    refine JL.nil ?_
    refine Js.ret (R := RV w (.bool (decide (a = b)))) @Try.results32 (fun _ _ => rfl) (ResOk.tmp rfl ResOk.nil) (fun w1 hw => ?_)
    refine ⟨?_, hw.ext (Up.refl _ _)⟩
    simp [outV, e1]
  ·
    have h3' := h3
    try simp only [Bool.not_eq_false', decide_eq_true_eq] at h3'
    have hlen : a.length = b.length := by have := h3'; omega
    refine Js.skip ?_
    refine Js.seq ?_
    refine Js.seq ?_
    refine Js.region ?_
    refine JL.q (OpP.q (p_assign rfl)) ?_
    refine JL.nil ?_
    refine Js.block ?_
    refine Js.loop (fun l os u m => ∃ (k : Nat), l = [(0, .slice A1 a.length c1), (1, .slice A2 b.length c2), (5, .int .i64 (k : Int))] ∧ os = [] ∧ Up w.heap.size w u ∧ (k ≤ a.length) ∧ (a.take k = b.take k) ∧ m = a.length - k) ⟨0, rfl, rfl, Up.refl _ _, by first | assumption | omega | rfl | (simp; done), by rfl, rfl⟩ ⟨rfl, rfl, rfl, trivial⟩ ?_
    · rintro _ _ u4 _ ⟨k, rfl, rfl, x4, hk, hU, rfl⟩
      refine Js.seq ?_
      refine Js.seq ?_
      refine Js.region ?_
      refine JL.q (OpP.q (p_move rfl)) ?_
      refine JL.q (OpP.q (p_move rfl)) ?_
      refine JL.q (OpP.q (p_len el_44 rfl)) ?_
      refine JL.q (OpP.q (p_lss rfl rfl)) ?_
      refine JL.nil ?_
      refine Js.cond rfl (fun h5 => ?_) (fun h5 => ?_)
      ·
        have h5' := h5
        try simp only [decide_eq_true_eq] at h5'
        refine Js.skip ?_
        refine Js.seq ?_
        refine Js.block ?_
        refine Js.seq ?_
        obtain ⟨y6, hy6⟩ : ∃ x, a[k]? = some x := ⟨_, List.getElem?_eq_getElem (by omega)⟩
        obtain ⟨y7, hy7⟩ : ∃ x, b[k]? = some x := ⟨_, List.getElem?_eq_getElem (by omega)⟩
        refine Js.drawn _ [] mixed_ (fun _ h => h) ?_
        refine JH.p 0 rfl (p_move rfl) ?_
        refine JH.p 1 rfl (p_move rfl) ?_
        have hy8 := hy6
        obtain ⟨b8, o8, A8_0, c8_0, A8_1, c8_1, he8, hr8, h8_0, h8_1, bl8_0, bh8_0, bl8_1, bh8_1⟩ := elem_Position (Ty.mono _ h_a x4.vis) hy8
        refine JH.p 2 rfl (p_indexAddr el_44 rfl rfl (by omega) (by omega) he8) ?_
        refine JH.q 3 rfl (q_loadN ty_33 rfl (Mem.pubR (hr8.sub 0 3)) rfl rfl) ?_
        refine JH.p 4 rfl (p_move rfl) ?_
        refine JH.p 5 rfl (p_move rfl) ?_
        have hy9 := hy7
        obtain ⟨b9, o9, A9_0, c9_0, A9_1, c9_1, he9, hr9, h9_0, h9_1, bl9_0, bh9_0, bl9_1, bh9_1⟩ := elem_Position (Ty.mono _ h_b x4.vis) hy9
        refine JH.p 6 rfl (p_indexAddr el_44 rfl rfl (by omega) (by omega) he9) ?_
        refine JH.q 7 rfl (q_loadN ty_33 rfl (Mem.pubR (hr9.sub 0 3)) rfl rfl) ?_
        refine JH.one (i := 8) (by kernel_rfl) ?_
        refine JHo.e rfl (e_callV fn_53 rfl (fun w hw => c_laws_eqPosition y6 _ y7 _ w ⟨_, rfl, ⟨(Ty.mono _ h8_0 hw.vis), (Ty.mono _ h8_1 hw.vis), rfl, trivial⟩⟩ ⟨_, rfl, ⟨(Ty.mono _ h9_0 hw.vis), (Ty.mono _ h9_1 hw.vis), rfl, trivial⟩⟩ (by have := r2 _ _ hy6; omega) (by have := r2 _ _ hy6; omega) (by have := r3 _ _ hy7; omega) (by have := r3 _ _ hy7; omega))) (.inl rfl) ?_
        rintro _ _ _ ⟨rfl, rfl, rfl⟩ _
        refine JH.p 9 rfl (p_not rfl) ?_
        refine JH.done (by kernel_rfl) ?_
        refine Js.cond rfl (fun h10 => ?_) (fun h10 => ?_)
        ·
          have h10' := h10
          try simp only [Bool.not_eq_true', decide_eq_false_iff_not] at h10'
          have e1 : decide (a = b) = false := decide_eq_false (M.upto_ne hy6 hy7 (by simpa using h10))
          refine Js.seq ?_
          refine Js.region ?_
          refine JL.q (OpP.q (p_assign rfl)) ?_
          refine JL.nil ?_
          refine Js.ret (R := RV w (.bool (decide (a = b)))) @Try.results32 (fun _ _ => rfl) (ResOk.tmp rfl ResOk.nil) (fun w1 hw => ?_)
          refine ⟨?_, hw.ext (x4)⟩
          simp [outV, e1]
        ·
          have h10' := h10
          try simp only [Bool.not_eq_false', decide_eq_true_eq] at h10'
          have hab : y6 = y7 := by simpa using h10
          rw [← hab] at hy7
          have hU2 := M.upto_step hU hy6 hy7
          refine Js.skip ?_
          refine Js.blockEnd ?_
          refine Js.region ?_
          refine JL.q (OpP.q (p_move rfl)) ?_
          refine JL.q (OpP.q (p_add rfl rfl (IntWalk.i64_in _ (by omega)))) ?_
          refine JL.q (OpP.q (p_assign rfl)) ?_
          refine JL.nil ?_
          exact Js.again ⟨k + 1, rfl, rfl, x4, by first | assumption | omega | rfl | (simp; done), by exact hU2, rfl⟩ (by omega) ⟨rfl, rfl, rfl, trivial⟩
      ·
        have h5' := h5
        try simp only [decide_eq_false_iff_not, Int.not_lt] at h5'
        have e1 : a = b := M.upto_done hU (by have := h5'; omega) (by have := h5'; omega)
        refine Js.exit (fun _ _ => rfl) ?_
        refine Js.seq ?_
        refine Js.region ?_
        refine JL.q (OpP.q (p_assign rfl)) ?_
        refine JL.nil ?_
        refine Js.ret (R := RV w (.bool (decide (a = b)))) @Try.results32 (fun _ _ => rfl) (ResOk.tmp rfl ResOk.nil) (fun w1 hw => ?_)
        refine ⟨?_, hw.ext (x4)⟩
        simp [outV, e1]

set_option maxRecDepth 100000 in
set_option maxHeartbeats 400000 in
theorem c_laws_markPositionS (a : List M.Pos) (Aa_0 : Option Addr) (ca_0 : Nat) (ga_0 : List Nat) (vsa_0 : List Value) (fa_0 : List Nat) (k : Int) (w : World) (hb : Bw w [rowO 33 3 (.slice Aa_0 a.length ca_0) a.length vsa_0 ga_0, ownC (lPosition a) vsa_0 fa_0]) (bd0 : a.length ≤ ca_0) (bd1 : ca_0 ≤ 9223372036854775807) (r0 : a.length ≤ 200) (r1 : ∀ (i : Nat) (q : M.Pos), a[i]? = some q → q.pits.length ≤ 1000 ∧ q.stores.length ≤ 1000) (r2 : 0 ≤ k) (r3 : k ≤ 1000000) : RetB Try.prog 33 [.slice Aa_0 a.length ca_0, .int .i64 k] w [rowO 33 3 (.slice Aa_0 a.length ca_0) a.length vsa_0 ga_0, ownC (lPosition a) vsa_0 fa_0] (fun v bs' => ∃ vsxa fxa, v = .int .i64 (k + M.szs M.sQ a) ∧ bs' = [rowO 33 3 (.slice Aa_0 a.length ca_0) a.length vsxa ga_0, ownC (lPosition (M.mkL M.fQ M.sQ k a)) vsxa fxa]) := by
  refine enterB hb @Try.func33 @Try.ntmps33 rfl rfl ?_
  refine Js.trashE ?_
  refine Js.seq ?_
  refine Js.region ?_
  refine JL.q (OpP.q (p_assign rfl)) ?_
  refine JL.nil ?_
  refine Js.seq ?_
  refine Js.seq ?_
  refine Js.region ?_
  refine JL.q (OpP.q (p_assign rfl)) ?_
  refine JL.nil ?_
  refine Js.block ?_
  refine Js.loop (fun l os u m => ∃ (i : Nat) (kk : Int) (xs : List M.Pos) (vs1_0 : List Value) (fl1_0 : List Nat) (G1_2 : List Nat), l = [(0, .slice Aa_0 a.length ca_0), (1, .int .i64 kk), (5, .int .i64 (i : Int))] ∧ os = [rowO 33 3 (.slice Aa_0 a.length ca_0) a.length vs1_0 ga_0, ownC (lPosition xs) vs1_0 fl1_0, anyO G1_2] ∧ Up w.heap.size (offW w (([rowO 33 3 (.slice Aa_0 a.length ca_0) a.length vsa_0 ga_0, ownC (lPosition a) vsa_0 fa_0] : List Own).flatMap (·.fp))) u ∧ (xs = M.mkd2 M.fQ M.sQ k a i) ∧ (i ≤ a.length) ∧ (xs.length = a.length) ∧ (kk = k + M.szs M.sQ (a.take i)) ∧ (0 ≤ kk) ∧ (kk ≤ k + 2001 * i) ∧ m = a.length - i) ⟨0, k, a, _, _, _, rfl, rfl, Up.refl _ _, by exact M.mkd2_zero _ _ k a, by first | assumption | omega | rfl | (simp; done), by rfl, by simp [M.szs], by first | assumption | omega | rfl | (simp; done), by first | assumption | omega | rfl | (simp; done), rfl⟩ ⟨rfl, rfl, rfl, trivial⟩ ?_
  · rintro _ _ u1 _ ⟨i, kk, xs, vs1_0, fl1_0, G1_2, rfl, rfl, x1, hX, hi, hl, hkk, hk0, hk1, rfl⟩
    refine Js.seq ?_
    refine Js.seq ?_
    refine Js.region ?_
    refine JL.q (OpP.q (p_move rfl)) ?_
    refine JL.q (OpP.q (p_move rfl)) ?_
    refine JL.q (OpP.q (p_len el_44 rfl)) ?_
    refine JL.q (OpP.q (p_lss rfl rfl)) ?_
    refine JL.nil ?_
    refine Js.cond rfl (fun h2 => ?_) (fun h2 => ?_)
    ·
      have h2' := h2
      try simp only [decide_eq_true_eq] at h2'
      refine Js.skip ?_
      refine Js.seq ?_
      refine Js.block ?_
      refine Js.seq ?_
      obtain ⟨y3, hy3⟩ : ∃ x, xs[i]? = some x := ⟨_, List.getElem?_eq_getElem (by omega)⟩
      have hya9 := M.mkd2_get M.fQ M.sQ (k := k) (by rw [← hX]; exact hy3)
      have hyl9 := r1 _ _ hya9
      have hsq9 : M.sQ y3 = (y3.pits.length : Int) + (y3.stores.length : Int) + 1 := rfl
      have hst9 := M.szs_step M.sQ _ _ _ hya9
      have hq9 : xs.set i ⟨M.up kk y3.pits.length, M.up (kk + (y3.pits.length : Int)) y3.stores.length, kk + (y3.pits.length : Int) + (y3.stores.length : Int)⟩ = M.mkd2 M.fQ M.sQ k a (i + 1) := by rw [hkk, hX]; exact M.mkd2_step M.fQ M.sQ (k := k) hya9
      refine Js.region ?_
      refine JL.q (OpP.q (p_move rfl)) ?_
      refine JL.q (OpP.q (p_move rfl)) ?_
      refine JL.fact (row_some (i := 0) rfl (by omega)) (fun hf5 => ?_)
      obtain ⟨b5, rfl⟩ := hf5
      have hy4 := hy3
      refine JL.fact (fun w hw => elemv_Position (Mem.ownC (i := 1) rfl w hw) hy4) (fun hf4 => ?_)
      obtain ⟨A4_0, c4_0, A4_1, c4_1, he4, bl4_0, bh4_0, bl4_1, bh4_1⟩ := hf4
      refine JL.q (OpP.q (p_indexAddr el_44 rfl rfl (by omega) (by omega) rfl)) ?_
      refine JL.q (OpP.q (p_fieldAddr fld_33_0 rfl)) ?_
      refine JL.q (q_load1 ty_24 rfl (fun w hw => (Mem.rowR' (i := 0) rfl he4 w hw) 0 _ rfl)) ?_
      refine JL.q (OpP.q (p_move rfl)) ?_
      refine JL.fact (fun w hw => elem_in cPosition (m := 3) (k := i) (xs := xs) (fun _ => rfl) (Mem.ownC (i := 1) rfl w hw) (by omega)) (fun hl6 => ?_)
      refine JL.ex3 (fun w hw => St.elemS cPosition (m := 3) (i := 1) (xs := xs) (fun _ => rfl) rfl hy4 he4 hw) (fun f6_1 f6_2 f6_3 => ?_)
      refine JL.conv (fun w hw => St.unpack2 (i := 0) (o1 := rowO 2 1 (.slice A4_0 y3.pits.length c4_0) y3.pits.length (ints_ y3.pits) []) (o2 := rowO 2 1 (.slice A4_1 y3.stores.length c4_1) y3.stores.length (ints_ y3.stores) []) rfl (fun w h => unpack_Position h) hw) ?_
      refine JL.e (e_callBB (bs := [rowO 2 1 (.slice A4_0 y3.pits.length c4_0) y3.pits.length (ints_ y3.pits) []]) (rest := [rowO 2 1 (.slice A4_1 y3.stores.length c4_1) y3.stores.length (ints_ y3.stores) [], ownC ((xs.drop (i + 1)).flatMap cPosition) (vs1_0.drop (i * 3 + 3)) f6_2, ownC ((xs.take i).flatMap cPosition) (vs1_0.take (i * 3)) f6_3, rowO 33 3 (.slice (some ⟨b5, 0, none⟩) a.length ca_0) a.length vs1_0 ga_0, anyO G1_2]) fn_26 rfl (fun w hb ⟨_, hw⟩ => c_laws_markInt64S y3.pits A4_0 c4_0 [] kk w hb (by omega) (by omega) (by omega) (by omega) (by omega))) ?_
      rintro _ _ _ ⟨_, G7, ⟨rfl, rfl⟩, rfl, rfl⟩ _
      refine JL.q (OpP.q (p_assign rfl)) ?_
      refine JL.nil ?_
      refine Js.seq ?_
      refine Js.region ?_
      refine JL.q (OpP.q (p_move rfl)) ?_
      refine JL.q (OpP.q (p_move rfl)) ?_
      refine JL.q (OpP.q (p_indexAddr el_44 rfl rfl (by omega) (by omega) rfl)) ?_
      refine JL.q (OpP.q (p_fieldAddr fld_33_1 rfl)) ?_
      refine JL.q (q_load1 ty_24 rfl (fun w hw => (Mem.rowR' (i := 5) rfl he4 w hw) 1 _ rfl)) ?_
      refine JL.q (OpP.q (p_move rfl)) ?_
      refine JL.conv (fun _ h => h.front (i := 2) rfl) ?_
      refine JL.e (e_callBB (bs := [rowO 2 1 (.slice A4_1 y3.stores.length c4_1) y3.stores.length (ints_ y3.stores) []]) (rest := [rowO 2 1 (.slice A4_0 y3.pits.length c4_0) y3.pits.length (ints_ (M.up kk y3.pits.length)) [], anyO G7, ownC ((xs.drop (i + 1)).flatMap cPosition) (vs1_0.drop (i * 3 + 3)) f6_2, ownC ((xs.take i).flatMap cPosition) (vs1_0.take (i * 3)) f6_3, rowO 33 3 (.slice (some ⟨b5, 0, none⟩) a.length ca_0) a.length vs1_0 ga_0, anyO G1_2]) fn_26 rfl (fun w hb ⟨_, hw⟩ => c_laws_markInt64S y3.stores A4_1 c4_1 [] (kk + (y3.pits.length : Int)) w hb (by omega) (by omega) (by omega) (by omega) (by omega))) ?_
      rintro _ _ _ ⟨_, G9, ⟨rfl, rfl⟩, rfl, rfl⟩ _
      refine JL.q (OpP.q (p_assign rfl)) ?_
      refine JL.nil ?_
      refine Js.seq ?_
      refine Js.region ?_
      refine JL.q (OpP.q (p_move rfl)) ?_
      refine JL.q (OpP.q (p_move rfl)) ?_
      refine JL.q (OpP.q (p_move rfl)) ?_
      refine JL.q (OpP.q (p_indexAddr el_44 rfl rfl (by omega) (by omega) rfl)) ?_
      refine JL.q (OpP.q (p_fieldAddr fld_33_2 rfl)) ?_
      refine JL.s (e_storeRow (i := 6) (xs' := setL vs1_0 (0 + i * 3) [.slice A4_0 y3.pits.length c4_0, .slice A4_1 y3.stores.length c4_1, .int .i64 ((kk + (y3.pits.length : Int)) + (y3.stores.length : Int))]) ty_2 rfl rfl rfl rfl rfl rfl (by omega) (setL_at (j := 2) he4 (by decide) hl6 rfl)) ?_
      rintro _ _ _ ⟨rfl, rfl⟩ _
      refine JL.nil ?_
      refine Js.region ?_
      refine JL.q (OpP.q (p_move rfl)) ?_
      refine JL.q (OpP.q (p_add rfl rfl (IntWalk.i64_in _ (by omega)))) ?_
      refine JL.q (OpP.q (p_assign rfl)) ?_
      refine JL.nil ?_
      refine Js.blockEnd ?_
      refine Js.region ?_
      refine JL.q (OpP.q (p_move rfl)) ?_
      refine JL.q (OpP.q (p_add rfl rfl (IntWalk.i64_in _ (by omega)))) ?_
      refine JL.q (OpP.q (p_assign rfl)) ?_
      refine JL.nil ?_
      refine Js.pack2 (i := 2) (j := 0) (cPosition (M.Pos.mk (M.up kk y3.pits.length) (M.up (kk + (y3.pits.length : Int)) y3.stores.length) ((kk + (y3.pits.length : Int)) + (y3.stores.length : Int)))) [.slice A4_0 y3.pits.length c4_0, .slice A4_1 y3.stores.length c4_1, .int .i64 ((kk + (y3.pits.length : Int)) + (y3.stores.length : Int))] rfl rfl (fun w h1 h2 => pack_Position (ints_row h1 rfl) (ints_row h2 rfl)) (fun f11 => ?_)
      refine Js.front (i := 3) rfl ?_
      refine Js.front (i := 1) rfl ?_
      refine Js.front (i := 4) rfl ?_
      refine Js.conv (fun w hw => St.closeE cPosition (k := i) (m := 3) (xs := xs) (y := (M.Pos.mk (M.up kk y3.pits.length) (M.up (kk + (y3.pits.length : Int)) y3.stores.length) ((kk + (y3.pits.length : Int)) + (y3.stores.length : Int)))) (vs := vs1_0) (vs' := (setL vs1_0 (0 + i * 3) [.slice A4_0 y3.pits.length c4_0, .slice A4_1 y3.stores.length c4_1, .int .i64 ((kk + (y3.pits.length : Int)) + (y3.stores.length : Int))])) (by omega) rfl rfl hw) ?_
      refine Js.eat (i := 1) (j := 4) rfl rfl rfl ?_
      refine Js.eat (i := 1) (j := 3) rfl rfl rfl ?_
      refine Js.front (i := 2) rfl ?_
      refine Js.front (i := 1) rfl ?_
      refine Js.front (i := 2) rfl ?_
      exact Js.again ⟨i + 1, ((kk + (y3.pits.length : Int)) + (y3.stores.length : Int)) + 1, xs.set i (M.Pos.mk (M.up kk y3.pits.length) (M.up (kk + (y3.pits.length : Int)) y3.stores.length) ((kk + (y3.pits.length : Int)) + (y3.stores.length : Int))), _, _, _, rfl, rfl, x1, by exact hq9, by first | assumption | omega | rfl | (simp; done), by rw [List.length_set]; exact hl, by omega, by omega, by omega, rfl⟩ (by omega) ⟨rfl, rfl, rfl, trivial⟩
    ·
      have h2' := h2
      try simp only [decide_eq_false_iff_not, Int.not_lt] at h2'
      have hi2 : i = a.length := by have := h2'; omega
      have hM : M.mkL M.fQ M.sQ k a = xs := by rw [hX]; exact (M.mkd2_end _ _ hi2).symm
      have hN : kk = k + M.szs M.sQ a := by rw [hkk, List.take_of_length_le (by omega)]
      refine Js.exit (fun _ _ => rfl) ?_
      refine Js.seq ?_
      refine Js.region ?_
      refine JL.q (OpP.q (p_move rfl)) ?_
      refine JL.q (OpP.q (p_assign rfl)) ?_
      refine JL.nil ?_
      refine Js.ret (R := RB w [rowO 33 3 (.slice Aa_0 a.length ca_0) a.length vsa_0 ga_0, ownC (lPosition a) vsa_0 fa_0] (fun v bs' => ∃ vsxa fxa, v = .int .i64 (k + M.szs M.sQ a) ∧ bs' = [rowO 33 3 (.slice Aa_0 a.length ca_0) a.length vsxa ga_0, ownC (lPosition (M.mkL M.fQ M.sQ k a)) vsxa fxa])) @Try.results33 (fun _ _ => rfl) (ResOk.tmp rfl ResOk.nil) (fun w1 hw => ?_)
      have hE : (.int .i64 kk : Value) = .int .i64 (k + M.szs M.sQ a) := by first | exact hM | (rw [hN]; rfl) | (refine congrArg (Value.int .i64) ?_; omega)
      have hE1 : M.mkL M.fQ M.sQ k a = xs := by first | exact hM | (rw [hN]; rfl) | (refine congrArg (Value.int .i64) ?_; omega)
      refine ⟨_, [rowO 33 3 (.slice Aa_0 a.length ca_0) a.length vs1_0 ga_0, ownC (lPosition xs) vs1_0 fl1_0], _, rfl, ⟨vs1_0, fl1_0, hE, ?_⟩, hw.giveBack hb (x1)⟩
      · rw [hE1]

set_option maxRecDepth 100000 in
set_option maxHeartbeats 400000 in
theorem c_laws_heldPositionS (a : List M.Pos) (v_a : Value) (k : Int) (w : World) (h_a : (Ty.sl 33 3 a.length (lPosition a)).ok w v_a) (r0 : a.length ≤ 200) (r1 : ∀ (i : Nat) (q : M.Pos), a[i]? = some q → q.pits.length ≤ 1000 ∧ q.stores.length ≤ 1000) (r2 : 0 ≤ k) (r3 : k ≤ 1000000) : RetV Try.prog 34 [v_a, .int .i64 k] w (.int .i64 (M.heldL M.hQ k a)) := by
  obtain ⟨A1, c1, rfl, bl1, bh1⟩ := sl_form h_a
  refine enter @Try.func34 @Try.ntmps34 rfl rfl ?_
  refine Js.seq ?_
  refine Js.region ?_
  refine JL.q (OpP.q (p_assign rfl)) ?_
  refine JL.nil ?_
  refine Js.seq ?_
  refine Js.seq ?_
  refine Js.region ?_
  refine JL.q (OpP.q (p_assign rfl)) ?_
  refine JL.nil ?_
  refine Js.block ?_
  refine Js.loop (fun l os u m => ∃ (i : Nat) (kk : Int), l = [(0, .slice A1 a.length c1), (1, .int .i64 kk), (5, .int .i64 (i : Int))] ∧ os = [] ∧ Up w.heap.size w u ∧ (M.heldL M.hQ kk (a.drop i) = M.heldL M.hQ k a) ∧ (i ≤ a.length) ∧ (0 ≤ kk) ∧ (kk ≤ k + 2001 * i) ∧ m = a.length - i) ⟨0, k, rfl, rfl, Up.refl _ _, by rfl, by first | assumption | omega | rfl | (simp; done), by first | assumption | omega | rfl | (simp; done), by simp, rfl⟩ ⟨rfl, rfl, rfl, trivial⟩ ?_
  · rintro _ _ u2 _ ⟨i, kk, rfl, rfl, x2, hS, hi, hk0, hk1, rfl⟩
    refine Js.seq ?_
    refine Js.seq ?_
    refine Js.region ?_
    refine JL.q (OpP.q (p_move rfl)) ?_
    refine JL.q (OpP.q (p_move rfl)) ?_
    refine JL.q (OpP.q (p_len el_44 rfl)) ?_
    refine JL.q (OpP.q (p_lss rfl rfl)) ?_
    refine JL.nil ?_
    refine Js.cond rfl (fun h3 => ?_) (fun h3 => ?_)
    ·
      have h3' := h3
      try simp only [decide_eq_true_eq] at h3'
      refine Js.skip ?_
      refine Js.seq ?_
      refine Js.block ?_
      refine Js.seq ?_
      obtain ⟨y4, hy4⟩ : ∃ x, a[i]? = some x := ⟨_, List.getElem?_eq_getElem (by omega)⟩
      have hyl9 := r1 _ _ hy4
      have hb1 := M.held_bd y4.pits (k := kk) hk0
      refine Js.region ?_
      refine JL.q (OpP.q (p_move rfl)) ?_
      refine JL.q (OpP.q (p_move rfl)) ?_
      have hy5 := hy4
      obtain ⟨b5, o5, A5_0, c5_0, A5_1, c5_1, he5, hr5, h5_0, h5_1, bl5_0, bh5_0, bl5_1, bh5_1⟩ := elem_Position (Ty.mono _ h_a x2.vis) hy5
      refine JL.q (OpP.q (p_indexAddr el_44 rfl rfl (by omega) (by omega) he5)) ?_
      refine JL.q (OpP.q (p_fieldAddr fld_33_0 rfl)) ?_
      refine JL.q (q_load1 ty_24 rfl (Mem.pub (hr5 0 _ rfl))) ?_
      refine JL.q (OpP.q (p_move rfl)) ?_
      refine JL.e (e_callV fn_27 rfl (fun w hw => c_laws_heldInt64S y4.pits _ kk w (Ty.mono _ h5_0 hw.vis) (by omega) (by omega) (by omega))) ?_
      rintro _ _ _ ⟨rfl, rfl, rfl⟩ _
      refine JL.q (OpP.q (p_assign rfl)) ?_
      refine JL.nil ?_
      refine Js.seq ?_
      refine Js.seq ?_
      refine Js.region ?_
      refine JL.q (OpP.q (p_move rfl)) ?_
      refine JL.q (OpP.q (p_lss rfl rfl)) ?_
      refine JL.nil ?_
      refine Js.cond rfl (fun h6 => ?_) (fun h6 => ?_)
      ·
        have h6' := h6
        try simp only [decide_eq_true_eq] at h6'
        have hE := M.heldL_no M.hQ hS hy4 (by rw [M.hQ_1 (by simpa using h6)]; decide)
        refine Js.seq ?_
        refine Js.region ?_
        refine JL.q (OpP.q (p_assign rfl)) ?_
        refine JL.nil ?_
        refine Js.ret (R := RV w (.int .i64 (M.heldL M.hQ k a))) @Try.results34 (fun _ _ => rfl) (ResOk.tmp rfl ResOk.nil) (fun w1 hw => ?_)
        refine ⟨?_, hw.ext (x2)⟩
        first | (rw [hE]; rfl)
      ·
        have h6' := h6
        try simp only [decide_eq_false_iff_not, Int.not_lt] at h6'
        have q1 : ¬ M.held y4.pits kk < 0 := by simpa using h6
        have hb2 := M.held_bd y4.stores (k := M.held y4.pits kk) (by omega)
        refine Js.skip ?_
        refine Js.seq ?_
        refine Js.region ?_
        refine JL.q (OpP.q (p_move rfl)) ?_
        refine JL.q (OpP.q (p_move rfl)) ?_
        have hy7 := hy4
        obtain ⟨b7, o7, A7_0, c7_0, A7_1, c7_1, he7, hr7, h7_0, h7_1, bl7_0, bh7_0, bl7_1, bh7_1⟩ := elem_Position (Ty.mono _ h_a x2.vis) hy7
        refine JL.q (OpP.q (p_indexAddr el_44 rfl rfl (by omega) (by omega) he7)) ?_
        refine JL.q (OpP.q (p_fieldAddr fld_33_1 rfl)) ?_
        refine JL.q (q_load1 ty_24 rfl (Mem.pub (hr7 1 _ rfl))) ?_
        refine JL.q (OpP.q (p_move rfl)) ?_
        refine JL.e (e_callV fn_27 rfl (fun w hw => c_laws_heldInt64S y4.stores _ (M.held y4.pits kk) w (Ty.mono _ h7_1 hw.vis) (by omega) (by omega) (by omega))) ?_
        rintro _ _ _ ⟨rfl, rfl, rfl⟩ _
        refine JL.q (OpP.q (p_assign rfl)) ?_
        refine JL.nil ?_
        refine Js.seq ?_
        refine Js.seq ?_
        refine Js.region ?_
        refine JL.q (OpP.q (p_move rfl)) ?_
        refine JL.q (OpP.q (p_lss rfl rfl)) ?_
        refine JL.nil ?_
        refine Js.cond rfl (fun h8 => ?_) (fun h8 => ?_)
        ·
          have h8' := h8
          try simp only [decide_eq_true_eq] at h8'
          have hE := M.heldL_no M.hQ hS hy4 (by rw [M.hQ_2 q1 (by simpa using h8)]; decide)
          refine Js.seq ?_
          refine Js.region ?_
          refine JL.q (OpP.q (p_assign rfl)) ?_
          refine JL.nil ?_
          refine Js.ret (R := RV w (.int .i64 (M.heldL M.hQ k a))) @Try.results34 (fun _ _ => rfl) (ResOk.tmp rfl ResOk.nil) (fun w1 hw => ?_)
          refine ⟨?_, hw.ext (x2)⟩
          first | (rw [hE]; rfl)
        ·
          have h8' := h8
          try simp only [decide_eq_false_iff_not, Int.not_lt] at h8'
          have q2 : ¬ M.held y4.stores (M.held y4.pits kk) < 0 := by simpa using h8
          refine Js.skip ?_
          refine Js.seq ?_
          refine Js.seq ?_
          refine Js.region ?_
          refine JL.q (OpP.q (p_move rfl)) ?_
          refine JL.q (OpP.q (p_move rfl)) ?_
          have hy9 := hy4
          obtain ⟨b9, o9, A9_0, c9_0, A9_1, c9_1, he9, hr9, h9_0, h9_1, bl9_0, bh9_0, bl9_1, bh9_1⟩ := elem_Position (Ty.mono _ h_a x2.vis) hy9
          refine JL.q (OpP.q (p_indexAddr el_44 rfl rfl (by omega) (by omega) he9)) ?_
          refine JL.q (OpP.q (p_fieldAddr fld_33_2 rfl)) ?_
          refine JL.q (q_load1 ty_2 rfl (Mem.pub (hr9 2 _ rfl))) ?_
          refine JL.q (OpP.q (p_move rfl)) ?_
          refine JL.q (OpP.q (p_neq rfl rfl)) ?_
          refine JL.nil ?_
          refine Js.cond rfl (fun h10 => ?_) (fun h10 => ?_)
          ·
            have h10' := h10
            try simp only [Bool.not_eq_true', decide_eq_false_iff_not] at h10'
            have hE := M.heldL_no M.hQ hS hy4 (by rw [M.hQ_3 q1 q2 (by simpa using h10)]; decide)
            refine Js.seq ?_
            refine Js.region ?_
            refine JL.q (OpP.q (p_assign rfl)) ?_
            refine JL.nil ?_
            refine Js.ret (R := RV w (.int .i64 (M.heldL M.hQ k a))) @Try.results34 (fun _ _ => rfl) (ResOk.tmp rfl ResOk.nil) (fun w1 hw => ?_)
            refine ⟨?_, hw.ext (x2)⟩
            first | (rw [hE]; rfl)
          ·
            have h10' := h10
            try simp only [Bool.not_eq_false', decide_eq_true_eq] at h10'
            have q3 : y4.player = M.held y4.stores (M.held y4.pits kk) := by simpa using h10
            have hS2 := M.heldL_step M.hQ hS hy4 (by rw [M.hQ_0 q1 q2 q3]; omega)
            rw [M.hQ_0 q1 q2 q3] at hS2
            refine Js.skip ?_
            refine Js.region ?_
            refine JL.q (OpP.q (p_move rfl)) ?_
            refine JL.q (OpP.q (p_add rfl rfl (IntWalk.i64_in _ (by omega)))) ?_
            refine JL.q (OpP.q (p_assign rfl)) ?_
            refine JL.nil ?_
            refine Js.blockEnd ?_
            refine Js.region ?_
            refine JL.q (OpP.q (p_move rfl)) ?_
            refine JL.q (OpP.q (p_add rfl rfl (IntWalk.i64_in _ (by omega)))) ?_
            refine JL.q (OpP.q (p_assign rfl)) ?_
            refine JL.nil ?_
            exact Js.again ⟨i + 1, (M.held y4.stores (M.held y4.pits kk)) + 1, rfl, rfl, x2, by exact hS2, by first | assumption | omega | rfl | (simp; done), by first | assumption | omega | rfl | (simp; done), by first | assumption | omega | rfl | (simp; done), rfl⟩ (by omega) ⟨rfl, rfl, rfl, trivial⟩
    ·
      have h3' := h3
      try simp only [decide_eq_false_iff_not, Int.not_lt] at h3'
      have hE := M.heldL_end M.hQ hS (by have := h3'; omega)
      refine Js.exit (fun _ _ => rfl) ?_
      refine Js.seq ?_
      refine Js.region ?_
      refine JL.q (OpP.q (p_move rfl)) ?_
      refine JL.q (OpP.q (p_assign rfl)) ?_
      refine JL.nil ?_
      refine Js.ret (R := RV w (.int .i64 (M.heldL M.hQ k a))) @Try.results34 (fun _ _ => rfl) (ResOk.tmp rfl ResOk.nil) (fun w1 hw => ?_)
      refine ⟨?_, hw.ext (x2)⟩
      first | (rw [hE]; rfl)

set_option maxRecDepth 100000 in
set_option maxHeartbeats 2000000 in
theorem c_laws_FnExactHistoryOf (aG : M.Gam) (v_aG : Value) (w : World) (h_aG : (Ty.agg (cGame aG)).ok w v_aG) : RetV Try.prog 6 [v_aG] w (.bool true) := by
  have q4 := M.szL_cases (aG.start.pits.length + aG.start.stores.length + aG.moves.length + aG.now.pits.length + aG.now.stores.length) 1048576
  change (1048576 < _ ∧ M.szG aG 1048576 = -1) ∨ (_ ≤ _ ∧ M.szG aG 1048576 = _) at q4
  have z1 := M.szp_nn aG.start
  have z2 := M.szp_nn aG.now
  have z3 := M.histR_len aG
  have z4 := M.mkL_len M.fQ M.sQ 1 (M.histR aG)
  have z5 : ∀ (i : Nat) (q : M.Pos), (M.histR aG)[i]? = some q → q.pits.length ≤ 1000 ∧ q.stores.length ≤ 1000 := fun _ _ h => M.histR_el h
  have z6 : ∀ (i : Nat) (q : M.Pos), (M.mkL M.fQ M.sQ 1 (M.histR aG))[i]? = some q → q.pits.length ≤ 1000 ∧ q.stores.length ≤ 1000 := fun i q h => by obtain ⟨y, h1, h2, h3⟩ := M.mkL_Q h; have := M.histR_el h1; omega
  obtain ⟨A1_9, c1_9, A1_10, c1_10, A1_12, c1_12, A1_13, c1_13, A1_14, c1_14, rfl, h1_9, h1_10, h1_12, h1_13, h1_14, bl1_9, bh1_9, bl1_10, bh1_10, bl1_12, bh1_12, bl1_13, bh1_13, bl1_14, bh1_14⟩ := open_Game h_aG
  refine enter @Try.func6 @Try.ntmps6 rfl rfl ?_
  refine Js.seq ?_
  refine Js.region ?_
  refine JL.e (e_box (c := [.int .i64 aG.rules.pits, .int .i64 aG.rules.seeds, .bool aG.rules.stores, .bool aG.rules.skip, .bool aG.rules.relay, .bool aG.rules.feed, .bool aG.rules.again, .int .i64 aG.rules.capture, .int .i64 aG.rules.slam, .slice A1_9 aG.start.pits.length c1_9, .slice A1_10 aG.start.stores.length c1_10, .int .i64 aG.start.player, .slice A1_12 aG.moves.length c1_12, .slice A1_13 aG.now.pits.length c1_13, .slice A1_14 aG.now.stores.length c1_14, .int .i64 aG.now.player, .int .i64 aG.resigned]) rfl rfl) ?_
  rintro _ _ _ ⟨b2, rfl, rfl, rfl⟩ _
  refine JL.q (OpP.q (p_assign rfl)) ?_
  refine JL.nil ?_
  refine Js.seq ?_
  refine Js.region ?_
  refine JL.q (OpP.q (p_assign rfl)) ?_
  refine JL.nil ?_
  refine Js.seq ?_
  refine Js.region ?_
  refine JL.q (q_loadN ty_28 rfl (Mem.boxR (i := 0) rfl 0 17) rfl rfl) ?_
  refine JL.q (OpP.q (p_move rfl)) ?_
  refine JL.e (e_callV fn_17 rfl (fun w hw => c_laws_szGame aG _ 1048576 w ⟨_, rfl, ⟨rfl, rfl, rfl, rfl, rfl, rfl, rfl, rfl, rfl, (Ty.mono _ h1_9 hw.vis), (Ty.mono _ h1_10 hw.vis), rfl, (Ty.mono _ h1_12 hw.vis), (Ty.mono _ h1_13 hw.vis), (Ty.mono _ h1_14 hw.vis), rfl, rfl, trivial⟩⟩ (by omega) (by omega))) ?_
  rintro _ _ _ ⟨rfl, rfl, rfl⟩ _
  refine JL.q (OpP.q (p_assign rfl)) ?_
  refine JL.nil ?_
  refine Js.seq ?_
  refine Js.seq ?_
  refine Js.region ?_
  refine JL.q (OpP.q (p_move rfl)) ?_
  refine JL.q (OpP.q (p_lss rfl rfl)) ?_
  refine JL.nil ?_
  refine Js.cond rfl (fun h3 => ?_) (fun h3 => ?_)
  ·
    have h3' := h3
    try simp only [decide_eq_true_eq] at h3'
    refine Js.seq ?_
    refine Js.region ?_
    refine JL.q (OpP.q (p_assign rfl)) ?_
    refine JL.nil ?_
    refine Js.ret (R := RV w (.bool true)) @Try.results6 (fun _ _ => rfl) (ResOk.tmp rfl ResOk.nil) (fun w1 hw => ?_)
    refine ⟨?_, hw.ext (Up.refl _ _)⟩
    first | rfl | (simp [outV]; done)
  ·
    have h3' := h3
    try simp only [decide_eq_false_iff_not, Int.not_lt] at h3'
    refine Js.skip ?_
    refine Js.seq ?_
    refine Js.region ?_
    refine JL.q (q_loadN ty_28 rfl (Mem.boxR (i := 0) rfl 0 17) rfl rfl) ?_
    refine JL.e (e_callP fn_19 rfl (fun w hw => c_laws_toGame aG _ w ⟨_, rfl, ⟨rfl, rfl, rfl, rfl, rfl, rfl, rfl, rfl, rfl, (Ty.mono _ h1_9 hw.vis), (Ty.mono _ h1_10 hw.vis), rfl, (Ty.mono _ h1_12 hw.vis), (Ty.mono _ h1_13 hw.vis), (Ty.mono _ h1_14 hw.vis), rfl, rfl, trivial⟩⟩ (by omega) (by omega) (by omega) (by omega) (by omega))) ?_
    rintro v4 _ u6 ⟨h5, rfl⟩ x6
    obtain ⟨A7_9, c7_9, A7_10, c7_10, A7_12, c7_12, A7_13, c7_13, A7_14, c7_14, rfl, h7_9, h7_10, h7_12, h7_13, h7_14, bl7_9, bh7_9, bl7_10, bh7_10, bl7_12, bh7_12, bl7_13, bh7_13, bl7_14, bh7_14⟩ := open_Game h5
    refine JL.e (e_callP fn_30 rfl (fun w hw => c_spec_HistoryOf aG _ w ⟨_, rfl, ⟨rfl, rfl, rfl, rfl, rfl, rfl, rfl, rfl, rfl, (Ty.mono _ h7_9 hw.vis), (Ty.mono _ h7_10 hw.vis), rfl, (Ty.mono _ h7_12 hw.vis), (Ty.mono _ h7_13 hw.vis), (Ty.mono _ h7_14 hw.vis), rfl, rfl, trivial⟩⟩ (by omega) (by omega) (by omega) (by omega) (by omega))) ?_
    rintro v8 _ u10 ⟨h9, rfl⟩ x10
    obtain ⟨vs11, rfl, hv11⟩ := h9
    obtain ⟨v11_0, vs11, rfl, hw11_0, hv11⟩ := cellsOk_cons hv11
    obtain ⟨v11_1, vs11, rfl, hw11_1, hv11⟩ := cellsOk_cons hv11
    obtain rfl := cellsOk_nil hv11
    obtain ⟨A12, c12, rfl, bl12, bh12⟩ := sl_form hw11_0
    obtain rfl : v11_1 = .int .i64 (M.okC aG) := hw11_1
    refine JL.q (OpP.q (p_move rfl)) ?_
    refine JL.q (OpP.q (p_extract rfl rfl)) ?_
    refine JL.q (OpP.q (p_extract rfl rfl)) ?_
    refine JL.q (OpP.q (p_assign rfl)) ?_
    refine JL.q (OpP.q (p_assign rfl)) ?_
    refine JL.nil ?_
    refine Js.seq ?_
    refine Js.region ?_
    refine JL.q (q_loadN ty_28 rfl (Mem.boxR (i := 0) rfl 0 17) rfl rfl) ?_
    refine JL.e (e_callO fn_19 rfl (Spl.agg (Spls.cons (Spl.val _) (Spls.cons (Spl.val _) (Spls.cons (Spl.val _) (Spls.cons (Spl.val _) (Spls.cons (Spl.val _) (Spls.cons (Spl.val _) (Spls.cons (Spl.val _) (Spls.cons (Spl.val _) (Spls.cons (Spl.val _) (Spls.cons (Spl.ints _ _) (Spls.cons (Spl.ints _ _) (Spls.cons (Spl.val _) (Spls.cons (Spl.ints _ _) (Spls.cons (Spl.ints _ _) (Spls.cons (Spl.ints _ _) (Spls.cons (Spl.val _) (Spls.cons (Spl.val _) Spls.nil)))))))))))))))))) (fun w hw => c_laws_toGame aG _ w ⟨_, rfl, ⟨rfl, rfl, rfl, rfl, rfl, rfl, rfl, rfl, rfl, (Ty.mono _ h1_9 ((x6.vis.trans x10.vis).trans hw.vis)), (Ty.mono _ h1_10 ((x6.vis.trans x10.vis).trans hw.vis)), rfl, (Ty.mono _ h1_12 ((x6.vis.trans x10.vis).trans hw.vis)), (Ty.mono _ h1_13 ((x6.vis.trans x10.vis).trans hw.vis)), (Ty.mono _ h1_14 ((x6.vis.trans x10.vis).trans hw.vis)), rfl, rfl, trivial⟩⟩ (by omega) (by omega) (by omega) (by omega) (by omega))) ?_
    rintro v13 _ _ ⟨_, hR14, rfl, rfl⟩ _
    obtain ⟨vs15, rfl, hr15⟩ := hR14
    obtain ⟨v15_0, vs15_0, o15_0, ow15_0, rfl, hR15_0, hs15_0, rfl⟩ := RL_cons hr15
    obtain ⟨v15_1, vs15_1, o15_1, ow15_1, rfl, hR15_1, hs15_1, rfl⟩ := RL_cons hs15_0
    obtain ⟨v15_2, vs15_2, o15_2, ow15_2, rfl, hR15_2, hs15_2, rfl⟩ := RL_cons hs15_1
    obtain ⟨v15_3, vs15_3, o15_3, ow15_3, rfl, hR15_3, hs15_3, rfl⟩ := RL_cons hs15_2
    obtain ⟨v15_4, vs15_4, o15_4, ow15_4, rfl, hR15_4, hs15_4, rfl⟩ := RL_cons hs15_3
    obtain ⟨v15_5, vs15_5, o15_5, ow15_5, rfl, hR15_5, hs15_5, rfl⟩ := RL_cons hs15_4
    obtain ⟨v15_6, vs15_6, o15_6, ow15_6, rfl, hR15_6, hs15_6, rfl⟩ := RL_cons hs15_5
    obtain ⟨v15_7, vs15_7, o15_7, ow15_7, rfl, hR15_7, hs15_7, rfl⟩ := RL_cons hs15_6
    obtain ⟨v15_8, vs15_8, o15_8, ow15_8, rfl, hR15_8, hs15_8, rfl⟩ := RL_cons hs15_7
    obtain ⟨v15_9, vs15_9, o15_9, ow15_9, rfl, hR15_9, hs15_9, rfl⟩ := RL_cons hs15_8
    obtain ⟨v15_10, vs15_10, o15_10, ow15_10, rfl, hR15_10, hs15_10, rfl⟩ := RL_cons hs15_9
    obtain ⟨v15_11, vs15_11, o15_11, ow15_11, rfl, hR15_11, hs15_11, rfl⟩ := RL_cons hs15_10
    obtain ⟨v15_12, vs15_12, o15_12, ow15_12, rfl, hR15_12, hs15_12, rfl⟩ := RL_cons hs15_11
    obtain ⟨v15_13, vs15_13, o15_13, ow15_13, rfl, hR15_13, hs15_13, rfl⟩ := RL_cons hs15_12
    obtain ⟨v15_14, vs15_14, o15_14, ow15_14, rfl, hR15_14, hs15_14, rfl⟩ := RL_cons hs15_13
    obtain ⟨v15_15, vs15_15, o15_15, ow15_15, rfl, hR15_15, hs15_15, rfl⟩ := RL_cons hs15_14
    obtain ⟨v15_16, vs15_16, o15_16, ow15_16, rfl, hR15_16, hs15_16, rfl⟩ := RL_cons hs15_15
    obtain ⟨rfl, rfl⟩ := RL_nil hs15_16
    obtain ⟨rfl, rfl⟩ : v15_0 = .int .i64 aG.rules.pits ∧ _ := hR15_0
    obtain ⟨rfl, rfl⟩ : v15_1 = .int .i64 aG.rules.seeds ∧ _ := hR15_1
    obtain ⟨rfl, rfl⟩ : v15_2 = .bool aG.rules.stores ∧ _ := hR15_2
    obtain ⟨rfl, rfl⟩ : v15_3 = .bool aG.rules.skip ∧ _ := hR15_3
    obtain ⟨rfl, rfl⟩ : v15_4 = .bool aG.rules.relay ∧ _ := hR15_4
    obtain ⟨rfl, rfl⟩ : v15_5 = .bool aG.rules.feed ∧ _ := hR15_5
    obtain ⟨rfl, rfl⟩ : v15_6 = .bool aG.rules.again ∧ _ := hR15_6
    obtain ⟨rfl, rfl⟩ : v15_7 = .int .i64 aG.rules.capture ∧ _ := hR15_7
    obtain ⟨rfl, rfl⟩ : v15_8 = .int .i64 aG.rules.slam ∧ _ := hR15_8
    obtain ⟨A16, c16, rfl, rfl, bl16, bh16⟩ := hR15_9
    obtain ⟨A17, c17, rfl, rfl, bl17, bh17⟩ := hR15_10
    obtain ⟨rfl, rfl⟩ : v15_11 = .int .i64 aG.start.player ∧ _ := hR15_11
    obtain ⟨A18, c18, rfl, rfl, bl18, bh18⟩ := hR15_12
    obtain ⟨A19, c19, rfl, rfl, bl19, bh19⟩ := hR15_13
    obtain ⟨A20, c20, rfl, rfl, bl20, bh20⟩ := hR15_14
    obtain ⟨rfl, rfl⟩ : v15_15 = .int .i64 aG.now.player ∧ _ := hR15_15
    obtain ⟨rfl, rfl⟩ : v15_16 = .int .i64 aG.resigned ∧ _ := hR15_16
    refine JL.e (e_alloc zero_35) ?_
    rintro _ _ _ ⟨b21, rfl, rfl, rfl⟩ _
    refine JL.s (e_store (i := 0) (c' := [.int .i64 aG.rules.pits, .int .i64 aG.rules.seeds, .bool aG.rules.stores, .bool aG.rules.skip, .bool aG.rules.relay, .bool aG.rules.feed, .bool aG.rules.again, .int .i64 aG.rules.capture, .int .i64 aG.rules.slam, .slice A16 aG.start.pits.length c16, .slice A17 aG.start.stores.length c17, .int .i64 aG.start.player, .slice A18 aG.moves.length c18, .slice A19 aG.now.pits.length c19, .slice A20 aG.now.stores.length c20, .int .i64 aG.now.player, .int .i64 aG.resigned]) ty_35 rfl rfl rfl rfl rfl rfl rfl rfl) ?_
    rintro _ _ _ ⟨rfl, rfl⟩ _
    refine JL.nil ?_
    refine Js.seq ?_
    refine Js.region ?_
    refine JL.q (q_loadN ty_35 rfl (Mem.boxR (i := 0) rfl 0 17) rfl rfl) ?_
    refine JL.e (e_callO fn_31 rfl (Spl.tup (Spls.cons (Spl.sl _ _ _ _) (Spls.cons (Spl.val _) Spls.nil))) (fun w hw => c_impl_HistoryOf aG _ w ⟨_, rfl, ⟨rfl, rfl, rfl, rfl, rfl, rfl, rfl, rfl, rfl, (ints_rowok (xs := aG.start.pits) (hw.pr (i := 1) rfl)), (ints_rowok (xs := aG.start.stores) (hw.pr (i := 2) rfl)), rfl, (ints_rowok (xs := aG.moves) (hw.pr (i := 3) rfl)), (ints_rowok (xs := aG.now.pits) (hw.pr (i := 4) rfl)), (ints_rowok (xs := aG.now.stores) (hw.pr (i := 5) rfl)), rfl, rfl, trivial⟩⟩ (by omega) (by omega) (by omega) (by omega) (by omega))) ?_
    rintro v22 _ _ ⟨_, hR23, rfl, rfl⟩ _
    obtain ⟨vs24, rfl, hr24⟩ := hR23
    obtain ⟨v24_0, vs24_0, o24_0, ow24_0, rfl, hR24_0, hs24_0, rfl⟩ := RL_cons hr24
    obtain ⟨v24_1, vs24_1, o24_1, ow24_1, rfl, hR24_1, hs24_1, rfl⟩ := RL_cons hs24_0
    obtain ⟨rfl, rfl⟩ := RL_nil hs24_1
    obtain ⟨A25, c25, vs25, f25, rfl, rfl, bl25, bh25⟩ := hR24_0
    obtain ⟨rfl, rfl⟩ : v24_1 = .int .i64 (M.okC aG) ∧ _ := hR24_1
    refine JL.q (OpP.q (p_move rfl)) ?_
    refine JL.q (OpP.q (p_extract rfl rfl)) ?_
    refine JL.q (OpP.q (p_extract rfl rfl)) ?_
    refine JL.q (OpP.q (p_assign rfl)) ?_
    refine JL.q (OpP.q (p_assign rfl)) ?_
    refine JL.nil ?_
    refine Js.seq ?_
    refine Js.seq ?_
    refine Js.region ?_
    refine JL.q (OpP.q (p_move rfl)) ?_
    refine JL.q (OpP.q (p_move rfl)) ?_
    refine JL.e (e_callV fn_32 rfl (fun w hw => c_laws_eqPositionS (M.histR aG) _ (M.histR aG) _ w (srow_ok lPosition (xs := (M.histR aG)) (hw.pr (i := 0) rfl) (hw.pr (i := 1) rfl) (lPosition_length _)) (Ty.mono _ hw11_0 hw.vis) (by omega) (by omega) z5 z5)) ?_
    rintro _ _ _ ⟨rfl, rfl, rfl⟩ _
    refine JL.q (OpP.q (p_not rfl)) ?_
    refine JL.q (OpP.q (p_move rfl)) ?_
    refine JL.g (Gd.f1 rfl rfl rfl) (fun hc => OpP.q (p_move rfl)) ?_
    refine JL.g (Gd.f1 rfl rfl rfl) (fun hc => OpP.q (p_move rfl)) ?_
    refine JL.g (Gd.f1 rfl rfl rfl) (fun hc => OpP.q (p_neq (gvt rfl hc) (gvt rfl hc))) ?_
    refine JL.q (OpP.q (p_pickOr rfl rfl rfl)) ?_
    refine JL.nil ?_
    refine Js.cond rfl (fun h26 => ?_) (fun h26 => ?_)
    ·
      exact absurd h26 (by simp)
    ·
      have h26' := h26
      try simp only [Bool.or_eq_false_iff, Bool.not_eq_false', decide_eq_true_eq] at h26'
      refine Js.skip ?_
      refine Js.seq ?_
      refine Js.seq ?_
      refine Js.drawn _ [] mixed_ (fun _ h => h) ?_
      refine JH.q 0 rfl (q_loadN ty_35 rfl (Mem.boxR (i := 2) rfl 0 17) rfl rfl) ?_
      refine JH.q 1 rfl (q_loadN ty_28 rfl (Mem.boxR (i := 8) rfl 0 17) rfl rfl) ?_
      refine JH.one (i := 2) (by kernel_rfl) ?_
      refine JHo.e rfl (e_callP fn_19 rfl (fun w hw => c_laws_toGame aG _ w ⟨_, rfl, ⟨rfl, rfl, rfl, rfl, rfl, rfl, rfl, rfl, rfl, (Ty.mono _ h1_9 ((x6.vis.trans x10.vis).trans hw.vis)), (Ty.mono _ h1_10 ((x6.vis.trans x10.vis).trans hw.vis)), rfl, (Ty.mono _ h1_12 ((x6.vis.trans x10.vis).trans hw.vis)), (Ty.mono _ h1_13 ((x6.vis.trans x10.vis).trans hw.vis)), (Ty.mono _ h1_14 ((x6.vis.trans x10.vis).trans hw.vis)), rfl, rfl, trivial⟩⟩ (by omega) (by omega) (by omega) (by omega) (by omega))) (.inl rfl) ?_
      rintro v27 _ u29 ⟨h28, rfl⟩ x29
      obtain ⟨A30_9, c30_9, A30_10, c30_10, A30_12, c30_12, A30_13, c30_13, A30_14, c30_14, rfl, h30_9, h30_10, h30_12, h30_13, h30_14, bl30_9, bh30_9, bl30_10, bh30_10, bl30_12, bh30_12, bl30_13, bh30_13, bl30_14, bh30_14⟩ := open_Game h28
      refine JH.one (i := 3) (by kernel_rfl) ?_
      refine JHo.e rfl (e_callV fn_21 rfl (fun w hw => c_laws_eqGame aG _ aG _ w ⟨_, rfl, ⟨rfl, rfl, rfl, rfl, rfl, rfl, rfl, rfl, rfl, (ints_rowok (xs := aG.start.pits) (hw.pr (i := 3) rfl)), (ints_rowok (xs := aG.start.stores) (hw.pr (i := 4) rfl)), rfl, (ints_rowok (xs := aG.moves) (hw.pr (i := 5) rfl)), (ints_rowok (xs := aG.now.pits) (hw.pr (i := 6) rfl)), (ints_rowok (xs := aG.now.stores) (hw.pr (i := 7) rfl)), rfl, rfl, trivial⟩⟩ ⟨_, rfl, ⟨rfl, rfl, rfl, rfl, rfl, rfl, rfl, rfl, rfl, (Ty.mono _ h30_9 hw.vis), (Ty.mono _ h30_10 hw.vis), rfl, (Ty.mono _ h30_12 hw.vis), (Ty.mono _ h30_13 hw.vis), (Ty.mono _ h30_14 hw.vis), rfl, rfl, trivial⟩⟩ (by omega) (by omega) (by omega) (by omega) (by omega) (by omega) (by omega) (by omega) (by omega) (by omega))) (.inl rfl) ?_
      rintro _ _ _ ⟨rfl, rfl, rfl⟩ _
      refine JH.p 4 rfl (p_not rfl) ?_
      refine JH.done (by kernel_rfl) ?_
      refine Js.cond rfl (fun h31 => ?_) (fun h31 => ?_)
      ·
        exact absurd h31 (by simp)
      ·
        have h31' := h31
        try simp only [Bool.not_eq_false', decide_eq_true_eq] at h31'
        refine Js.skip ?_
        refine Js.seq ?_
        refine Js.region ?_
        refine JL.q (OpP.q (p_assign rfl)) ?_
        refine JL.nil ?_
        refine Js.seq ?_
        refine Js.region ?_
        refine JL.q (q_loadN ty_35 rfl (Mem.boxR (i := 2) rfl 0 17) rfl rfl) ?_
        refine JL.q (OpP.q (p_move rfl)) ?_
        refine JL.conv (fun _ h => h.front (i := 7) rfl) ?_
        refine JL.conv (fun _ h => h.front (i := 7) rfl) ?_
        refine JL.conv (fun _ h => h.front (i := 7) rfl) ?_
        refine JL.conv (fun _ h => h.front (i := 7) rfl) ?_
        refine JL.conv (fun _ h => h.front (i := 7) rfl) ?_
        refine JL.e (e_callB (bs := [rowO 2 1 (.slice A16 aG.start.pits.length c16) aG.start.pits.length (ints_ aG.start.pits) [], rowO 2 1 (.slice A17 aG.start.stores.length c17) aG.start.stores.length (ints_ aG.start.stores) [], rowO 2 1 (.slice A18 aG.moves.length c18) aG.moves.length (ints_ aG.moves) [], rowO 2 1 (.slice A19 aG.now.pits.length c19) aG.now.pits.length (ints_ aG.now.pits) [], rowO 2 1 (.slice A20 aG.now.stores.length c20) aG.now.stores.length (ints_ aG.now.stores) []]) (rest := [rowO 33 3 (.slice A25 ((M.histR aG).length) c25) ((M.histR aG).length) vs25 [], ownC (lPosition (M.histR aG)) vs25 f25, boxO b21 [.int .i64 aG.rules.pits, .int .i64 aG.rules.seeds, .bool aG.rules.stores, .bool aG.rules.skip, .bool aG.rules.relay, .bool aG.rules.feed, .bool aG.rules.again, .int .i64 aG.rules.capture, .int .i64 aG.rules.slam, .slice A16 aG.start.pits.length c16, .slice A17 aG.start.stores.length c17, .int .i64 aG.start.player, .slice A18 aG.moves.length c18, .slice A19 aG.now.pits.length c19, .slice A20 aG.now.stores.length c20, .int .i64 aG.now.player, .int .i64 aG.resigned] 35, boxO b2 [.int .i64 aG.rules.pits, .int .i64 aG.rules.seeds, .bool aG.rules.stores, .bool aG.rules.skip, .bool aG.rules.relay, .bool aG.rules.feed, .bool aG.rules.again, .int .i64 aG.rules.capture, .int .i64 aG.rules.slam, .slice A1_9 aG.start.pits.length c1_9, .slice A1_10 aG.start.stores.length c1_10, .int .i64 aG.start.player, .slice A1_12 aG.moves.length c1_12, .slice A1_13 aG.now.pits.length c1_13, .slice A1_14 aG.now.stores.length c1_14, .int .i64 aG.now.player, .int .i64 aG.resigned] 28]) fn_25 rfl (fun w hb hw => c_laws_markGame aG.rules aG.start aG.moves aG.now aG.resigned A16 c16 [] A17 c17 [] A18 c18 [] A19 c19 [] A20 c20 [] 1 w hb (by omega) (by omega) (by omega) (by omega) (by omega) (by omega) (by omega) (by omega) (by omega) (by omega) (by omega) (by omega) (by omega) (by omega) (by omega) (by omega) (by omega)) rfl) ?_
        rintro _ _ _ ⟨_, G32, ⟨rfl, rfl⟩, rfl, rfl⟩ _
        refine JL.q (OpP.q (p_assign rfl)) ?_
        refine JL.nil ?_
        refine Js.seq ?_
        refine Js.seq ?_
        refine Js.region ?_
        refine JL.q (OpP.q (p_move rfl)) ?_
        refine JL.q (OpP.q (p_lss rfl rfl)) ?_
        refine JL.q (OpP.q (p_move rfl)) ?_
        refine JL.g (Gd.f1 rfl rfl rfl) (fun hc => OpP.q (p_move rfl)) ?_
        refine JL.g (Gd.f1 rfl rfl rfl) (fun hc => OpP.q (p_move rfl)) ?_
        refine JL.ge (Gd.f1 rfl rfl rfl) (fun hc => e_callV fn_32 (opds_2 (gvt rfl hc) (gvt rfl hc)) (fun w hw => c_laws_eqPositionS (M.histR aG) _ (M.histR aG) _ w (srow_ok lPosition (xs := (M.histR aG)) (hw.pr (i := 6) rfl) (hw.pr (i := 7) rfl) (lPosition_length _)) (Ty.mono _ hw11_0 (x29.vis.trans hw.vis)) (by have hc9 := hc; (try simp only [Bool.not_eq_true', decide_eq_false_iff_not, Int.not_lt] at hc9); omega) (by have hc9 := hc; (try simp only [Bool.not_eq_true', decide_eq_false_iff_not, Int.not_lt] at hc9); omega) z5 z5)) ?_
        refine JL.g (Gd.f1 rfl rfl rfl) (fun hc => OpP.q (p_not (gvt rfl hc))) ?_
        refine JL.q (OpP.q (p_pickOr rfl rfl rfl)) ?_
        refine JL.q (OpP.q (p_move rfl)) ?_
        refine JL.g (Gd.f1 rfl rfl rfl) (fun hc => OpP.q (p_move rfl)) ?_
        refine JL.g (Gd.f1 rfl rfl rfl) (fun hc => OpP.q (p_move rfl)) ?_
        refine JL.g (Gd.f1 rfl rfl rfl) (fun hc => OpP.q (p_neq (gvt rfl hc) (gvt rfl hc))) ?_
        refine JL.q (OpP.q (p_pickOr rfl rfl rfl)) ?_
        refine JL.nil ?_
        refine Js.cond rfl (fun h33 => ?_) (fun h33 => ?_)
        ·
          exact absurd h33 (by simp only [decide_true, Bool.not_true, Bool.or_false, decide_eq_true_eq]; omega)
        ·
          have h33' := h33
          try simp only [Bool.or_eq_false_iff, decide_eq_false_iff_not, Int.not_lt, Bool.not_eq_false', decide_eq_true_eq] at h33'
          refine Js.skip ?_
          refine Js.seq ?_
          refine Js.region ?_
          refine JL.q (OpP.q (p_assign rfl)) ?_
          refine JL.nil ?_
          refine Js.seq ?_
          refine Js.region ?_
          refine JL.q (OpP.q (p_move rfl)) ?_
          refine JL.q (OpP.q (p_move rfl)) ?_
          refine JL.conv (fun _ h => h.front (i := 7) rfl) ?_
          refine JL.conv (fun _ h => h.front (i := 7) rfl) ?_
          refine JL.e (e_callB (bs := [rowO 33 3 (.slice A25 ((M.histR aG).length) c25) ((M.histR aG).length) vs25 [], ownC (lPosition (M.histR aG)) vs25 f25]) (rest := [rowO 2 1 (.slice A16 aG.start.pits.length c16) aG.start.pits.length (ints_ ((M.markP aG.start 1).pits)) [], rowO 2 1 (.slice A17 aG.start.stores.length c17) aG.start.stores.length (ints_ ((M.markP aG.start 1).stores)) [], rowO 2 1 (.slice A18 aG.moves.length c18) aG.moves.length (ints_ (M.up (1 + M.szp aG.start) aG.moves.length)) [], rowO 2 1 (.slice A19 aG.now.pits.length c19) aG.now.pits.length (ints_ ((M.markP aG.now (1 + M.szp aG.start + (aG.moves.length : Int))).pits)) [], rowO 2 1 (.slice A20 aG.now.stores.length c20) aG.now.stores.length (ints_ ((M.markP aG.now (1 + M.szp aG.start + (aG.moves.length : Int))).stores)) [], anyO G32, boxO b21 [.int .i64 aG.rules.pits, .int .i64 aG.rules.seeds, .bool aG.rules.stores, .bool aG.rules.skip, .bool aG.rules.relay, .bool aG.rules.feed, .bool aG.rules.again, .int .i64 aG.rules.capture, .int .i64 aG.rules.slam, .slice A16 aG.start.pits.length c16, .slice A17 aG.start.stores.length c17, .int .i64 aG.start.player, .slice A18 aG.moves.length c18, .slice A19 aG.now.pits.length c19, .slice A20 aG.now.stores.length c20, .int .i64 aG.now.player, .int .i64 aG.resigned] 35, boxO b2 [.int .i64 aG.rules.pits, .int .i64 aG.rules.seeds, .bool aG.rules.stores, .bool aG.rules.skip, .bool aG.rules.relay, .bool aG.rules.feed, .bool aG.rules.again, .int .i64 aG.rules.capture, .int .i64 aG.rules.slam, .slice A1_9 aG.start.pits.length c1_9, .slice A1_10 aG.start.stores.length c1_10, .int .i64 aG.start.player, .slice A1_12 aG.moves.length c1_12, .slice A1_13 aG.now.pits.length c1_13, .slice A1_14 aG.now.stores.length c1_14, .int .i64 aG.now.player, .int .i64 aG.resigned] 28]) fn_33 rfl (fun w hb hw => c_laws_markPositionS (M.histR aG) A25 c25 [] vs25 f25 1 w hb (by omega) (by omega) (by omega) z5 (by omega) (by omega)) rfl) ?_
          rintro _ _ _ ⟨_, G34, ⟨vs34_a, f34_a, rfl, rfl⟩, rfl, rfl⟩ _
          refine JL.q (OpP.q (p_assign rfl)) ?_
          refine JL.nil ?_
          refine Js.seq ?_
          refine Js.region ?_
          refine JL.q (OpP.q (p_assign rfl)) ?_
          refine JL.nil ?_
          refine Js.seq ?_
          refine Js.region ?_
          refine JL.q (OpP.q (p_move rfl)) ?_
          refine JL.q (OpP.q (p_move rfl)) ?_
          refine JL.e (e_callV fn_34 rfl (fun w hw => c_laws_heldPositionS (M.mkL M.fQ M.sQ 1 (M.histR aG)) _ 1 w (srow_ok lPosition (xs := (M.mkL M.fQ M.sQ 1 (M.histR aG))) (hw.pr (i := 0) rfl) (hw.pr (i := 1) rfl) (lPosition_length _)) (by omega) z6 (by omega) (by omega))) ?_
          rintro _ _ _ ⟨rfl, rfl, rfl⟩ _
          refine JL.q (OpP.q (p_assign rfl)) ?_
          refine JL.nil ?_
          refine Js.seq ?_
          refine Js.seq ?_
          refine Js.region ?_
          refine JL.q (OpP.q (p_move rfl)) ?_
          refine JL.q (OpP.q (p_lss rfl rfl)) ?_
          refine JL.nil ?_
          refine Js.cond rfl (fun h35 => ?_) (fun h35 => ?_)
          ·
            exact absurd h35 (by rw [M.held_Q _ (by decide)]; simp only [decide_eq_true_eq]; have := M.szs_nn M.sQ M.sQ_nn (M.histR aG); omega)
          ·
            have h35' := h35
            try simp only [decide_eq_false_iff_not, Int.not_lt] at h35'
            refine Js.skip ?_
            refine Js.seq ?_
            refine Js.seq ?_
            refine Js.region ?_
            refine JL.q (OpP.q (p_move rfl)) ?_
            refine JL.q (OpP.q (p_move rfl)) ?_
            refine JL.q (OpP.q (p_neq rfl rfl)) ?_
            refine JL.nil ?_
            refine Js.cond rfl (fun h36 => ?_) (fun h36 => ?_)
            ·
              exact absurd h36 (by rw [M.held_Q _ (by decide)]; simp)
            ·
              have h36' := h36
              try simp only [Bool.not_eq_false', decide_eq_true_eq] at h36'
              refine Js.skip ?_
              refine Js.seq ?_
              refine Js.region ?_
              refine JL.q (q_loadN ty_28 rfl (Mem.boxR (i := 10) rfl 0 17) rfl rfl) ?_
              refine JL.e (e_callP fn_19 rfl (fun w hw => c_laws_toGame aG _ w ⟨_, rfl, ⟨rfl, rfl, rfl, rfl, rfl, rfl, rfl, rfl, rfl, (Ty.mono _ h1_9 (((x6.vis.trans x10.vis).trans x29.vis).trans hw.vis)), (Ty.mono _ h1_10 (((x6.vis.trans x10.vis).trans x29.vis).trans hw.vis)), rfl, (Ty.mono _ h1_12 (((x6.vis.trans x10.vis).trans x29.vis).trans hw.vis)), (Ty.mono _ h1_13 (((x6.vis.trans x10.vis).trans x29.vis).trans hw.vis)), (Ty.mono _ h1_14 (((x6.vis.trans x10.vis).trans x29.vis).trans hw.vis)), rfl, rfl, trivial⟩⟩ (by omega) (by omega) (by omega) (by omega) (by omega))) ?_
              rintro v37 _ u39 ⟨h38, rfl⟩ x39
              obtain ⟨A40_9, c40_9, A40_10, c40_10, A40_12, c40_12, A40_13, c40_13, A40_14, c40_14, rfl, h40_9, h40_10, h40_12, h40_13, h40_14, bl40_9, bh40_9, bl40_10, bh40_10, bl40_12, bh40_12, bl40_13, bh40_13, bl40_14, bh40_14⟩ := open_Game h38
              refine JL.e (e_callP fn_31 rfl (fun w hw => c_impl_HistoryOf aG _ w ⟨_, rfl, ⟨rfl, rfl, rfl, rfl, rfl, rfl, rfl, rfl, rfl, (Ty.mono _ h40_9 hw.vis), (Ty.mono _ h40_10 hw.vis), rfl, (Ty.mono _ h40_12 hw.vis), (Ty.mono _ h40_13 hw.vis), (Ty.mono _ h40_14 hw.vis), rfl, rfl, trivial⟩⟩ (by omega) (by omega) (by omega) (by omega) (by omega))) ?_
              rintro v41 _ u43 ⟨h42, rfl⟩ x43
              obtain ⟨vs44, rfl, hv44⟩ := h42
              obtain ⟨v44_0, vs44, rfl, hw44_0, hv44⟩ := cellsOk_cons hv44
              obtain ⟨v44_1, vs44, rfl, hw44_1, hv44⟩ := cellsOk_cons hv44
              obtain rfl := cellsOk_nil hv44
              obtain ⟨A45, c45, rfl, bl45, bh45⟩ := sl_form hw44_0
              obtain rfl : v44_1 = .int .i64 (M.okC aG) := hw44_1
              refine JL.q (OpP.q (p_move rfl)) ?_
              refine JL.q (OpP.q (p_extract rfl rfl)) ?_
              refine JL.q (OpP.q (p_extract rfl rfl)) ?_
              refine JL.q (OpP.q (p_assign rfl)) ?_
              refine JL.q (OpP.q (p_assign rfl)) ?_
              refine JL.nil ?_
              refine Js.seq ?_
              refine Js.seq ?_
              refine Js.region ?_
              refine JL.q (OpP.q (p_move rfl)) ?_
              refine JL.q (OpP.q (p_move rfl)) ?_
              refine JL.e (e_callV fn_32 rfl (fun w hw => c_laws_eqPositionS (M.histR aG) _ (M.histR aG) _ w (Ty.mono _ hw44_0 hw.vis) (Ty.mono _ hw11_0 (((x29.vis.trans x39.vis).trans x43.vis).trans hw.vis)) (by omega) (by omega) z5 z5)) ?_
              rintro _ _ _ ⟨rfl, rfl, rfl⟩ _
              refine JL.q (OpP.q (p_not rfl)) ?_
              refine JL.q (OpP.q (p_move rfl)) ?_
              refine JL.g (Gd.f1 rfl rfl rfl) (fun hc => OpP.q (p_move rfl)) ?_
              refine JL.g (Gd.f1 rfl rfl rfl) (fun hc => OpP.q (p_move rfl)) ?_
              refine JL.g (Gd.f1 rfl rfl rfl) (fun hc => OpP.q (p_neq (gvt rfl hc) (gvt rfl hc))) ?_
              refine JL.q (OpP.q (p_pickOr rfl rfl rfl)) ?_
              refine JL.nil ?_
              refine Js.condF rfl h26 ?_
              refine Js.skip ?_
              refine Js.seq ?_
              refine Js.region ?_
              refine JL.q (OpP.q (p_assign rfl)) ?_
              refine JL.nil ?_
              refine Js.seq ?_
              refine Js.region ?_
              refine JL.q (OpP.q (p_move rfl)) ?_
              refine JL.q (OpP.q (p_move rfl)) ?_
              refine JL.e (e_callV fn_34 rfl (fun w hw => c_laws_heldPositionS (M.mkL M.fQ M.sQ 1 (M.histR aG)) _ 1 w (srow_ok lPosition (xs := (M.mkL M.fQ M.sQ 1 (M.histR aG))) (hw.pr (i := 0) rfl) (hw.pr (i := 1) rfl) (lPosition_length _)) (by omega) z6 (by omega) (by omega))) ?_
              rintro _ _ _ ⟨rfl, rfl, rfl⟩ _
              refine JL.q (OpP.q (p_assign rfl)) ?_
              refine JL.nil ?_
              refine Js.seq ?_
              refine Js.seq ?_
              refine Js.region ?_
              refine JL.q (OpP.q (p_move rfl)) ?_
              refine JL.q (OpP.q (p_lss rfl rfl)) ?_
              refine JL.nil ?_
              refine Js.condF rfl h35 ?_
              refine Js.skip ?_
              refine Js.seq ?_
              refine Js.seq ?_
              refine Js.region ?_
              refine JL.q (OpP.q (p_move rfl)) ?_
              refine JL.q (OpP.q (p_move rfl)) ?_
              refine JL.q (OpP.q (p_neq rfl rfl)) ?_
              refine JL.nil ?_
              refine Js.condF rfl h36 ?_
              refine Js.skip ?_
              refine Js.seq ?_
              refine Js.region ?_
              refine JL.q (OpP.q (p_assign rfl)) ?_
              refine JL.nil ?_
              refine Js.ret (R := RV w (.bool true)) @Try.results6 (fun _ _ => rfl) (ResOk.tmp rfl ResOk.nil) (fun w1 hw => ?_)
              refine ⟨?_, hw.ext (((((x6.trans x10).trans x29).trans x39).trans x43))⟩
              first | rfl | (simp [outV]; done)

end Go.Proofs.Ytejnmechnhgmfaa

/- Walks: G20. -/
import Derived.Test.YtjdhgkdimanabaaGreatDoorZeA3
import Derived.Test.YtjdhgkdimanabaaGreatDoorZeA9
import Derived.Test.YtjdhgkdimanabaaGreatDoorZeA4
import Derived.Test.YtjdhgkdimanabaaGreatDoorZeA5
import Derived.Test.YtjdhgkdimanabaaGreatDoorZeA1
import Derived.Test.YtjdhgkdimanabaaGreatDoorZeA0
set_option linter.unusedSimpArgs false
set_option linter.unusedVariables false
set_option maxRecDepth 100000
attribute [local irreducible] Go.Proofs.YtjdhgkdimanabaaGreatDoor.gv
set_option maxHeartbeats 16000000
namespace Go.Proofs.YtjdhgkdimanabaaGreatDoor
open Go.RowKit
theorem c_impl_isDigit (c : Int) {w : World}  : RetV Tryz.prog 93 [.int .u8 c] w (.bool (M.isDig c)) := by
 refine enter @Tryz.func93 @Tryz.ntmps93 rfl rfl ?_
 refine zent ?_
 refine zS <| Qa rfl <| zN <| Qm rfl <| Qh rfl rfl <| Qm rfl <| zg (Gd.t1 rfl rfl rfl) (fun hc => p_move rfl) <| zg (Gd.t1 rfl rfl rfl) (fun hc => p_leq (gh hc rfl) rfl) <| Qq (p_pickAnd rfl rfl rfl) <| Qa rfl <| JL.nil ?_
 exact zr (Up.refl _ _)
theorem c_impl_ReadDecimal (t : List UInt8) {w : World} (h_tab : tabT.ok w undef) (r0 : t.length ≤ 4194304 := by exact om_) : RetV Tryz.prog 45 [.string (sB t)] w (.tuple #[.int .i64 ((M.num t).1), .bool ((M.num t).2)]) := by
 refine enter @Tryz.func45 @Tryz.ntmps45 rfl rfl ?_
 refine zent ?_
 have hbt1 := M.bat_bd t 0
 refine zS <| Qa rfl <| Qa rfl <| zN <| Qm rfl <| Qa rfl <| zJ <| zS <| Qm rfl <| Qq (p_lenS und_9 rfl) <| Qg rfl rfl <| Qm rfl <| zg (Gd.t1 rfl rfl rfl) (fun hc => p_move rfl) <| zg (Gd.t1 rfl rfl rfl) (fun hc => p_byteS (i := 0) und_9 (gh hc rfl) rfl (by first | have hc9 := hc; (try simp only [decide_eq_true_eq] at hc9); omega | (have h9 := List.length_pos_iff.2 (by simpa using hc); omega))) ?_
 refine zg (Gd.t1 rfl rfl rfl) (fun hc => p_eql (gh hc rfl) rfl) <| Qq (p_pickAnd rfl rfl rfl) <| JL.nil ?_
 refine zi (fun h2 h2' => ?_) fun h2 h2' => ?_
 ·
  have h8 : t ≠ [] := by have h9 := h2; simp at h9; exact List.length_pos_iff.1 (by omega)
  have hT : M.numT t = t.drop 1 := by have h9 := h2; simp at h9; exact M.numT_y h8 h9.2
  have hln : 1 ≤ t.length := List.length_pos_iff.2 h8
  refine Js.region <| Qm rfl <| Qq (p_dropS (i := 1) und_9 rfl rfl (by omega)) <| Qa rfl <| zJ <| zS <| Qm rfl <| Qq (p_lenS und_9 rfl) <| Qe rfl rfl <| Qm rfl <| zg (Gd.f1 rfl rfl rfl) (fun hc => p_move rfl) <| zg (Gd.f1 rfl rfl rfl) (fun hc => p_lenS und_9 (gh hc rfl)) <| zg (Gd.f1 rfl rfl rfl) (fun hc => p_gtr (gh hc rfl) rfl) <| Qq (p_pickOr rfl rfl rfl) ?_
  refine JL.nil ?_
  refine zi (fun h3 h3' => ?_) fun h3 h3' => ?_
  ·
   have hE := M.num_len (s := t) (by rw [hT]; have h9 := h3; simp at h9; omega)
   refine zS <| Qa rfl <| Qa rfl <| JL.nil ?_
   refine zR (Up.refl _ _) ?_
   first | (rw [hE]; rfl) | (rw [hE, hS]; rfl)
  have hl9 : ¬ ((M.numT t).length < 1 ∨ 18 < (M.numT t).length) := by rw [hT]; have h9 := h3; simp at h9; omega
  refine Js.skip <| zS <| Qa rfl <| zJ <| zS <| Qm rfl <| Qq (p_lenS und_9 rfl) <| Qm rfl <| JL.nil <| Js.block ?_
  refine zl [0, 4, 27] (fun F U l os u m => ∃ (k : Nat) (n : Int), l = F [(5, .int .i64 n), (28, .int .i64 (k : Int))] ∧ os = U [] ∧ (n = M.numN (M.numT t) k) ∧ (M.Digs (M.numT t) k) ∧ (k ≤ (M.numT t).length) ∧ m = (M.numT t).length - k) ⟨0, 0, rfl, rfl, by rfl, by exact M.Digs.zero _, zt, rfl⟩ ?_
  rintro _ _ u4 _ ⟨k, n, rfl, rfl, hN, hD, hk, rfl⟩ x4
  refine zn ?_
  obtain ⟨n1, n2⟩ := M.numN_18 hD (by omega)
  rw [← hN] at n1 n2
  refine zS <| Ql rfl rfl <| zJ ?_
  refine zi (fun h5 h5' => ?_) fun h5 h5' => ?_
  ·
   have hkk : k < (M.numT t).length := by rw [hT]; have := h5'; omega
   obtain ⟨n3, n4⟩ := M.numN_17 hD (by omega)
   rw [← hN] at n3 n4
   have hbt6 := M.bat_bd (t.drop 1) k
   refine Js.skip <| Js.seq <| Js.block <| zS <| Qm rfl <| Qa rfl <| zJ <| zS <| Qm rfl <| Qm rfl <| Qq (p_byteS (i := k) und_9 rfl rfl (by omega)) <| zv rfl (fun w hw => c_impl_isDigit (M.bat (t.drop 1) k)) <| Qt rfl <| JL.nil ?_
   refine zi (fun h7 h7' => ?_) fun h7 h7' => ?_
   ·
    have hE := M.num_dig (M.digs_no hkk (by rw [hT]; simpa using h7))
    refine zS <| Qa rfl <| Qa rfl <| JL.nil ?_
    refine zR x4 ?_
    first | (rw [hE]; rfl) | (rw [hE, hS]; rfl)
   have hd : M.isDig (M.bat (M.numT t) k) = true := by rw [hT]; simpa using h7
   have hD2 := hD.step hd
   obtain ⟨d1, d2⟩ := M.dig_bd hd
   rw [hT] at d1 d2
   have hbt8 := M.bat_bd (t.drop 1) k
   refine Js.skip <| Js.region <| Qm rfl <| Qu rfl rfl <| Qm rfl <| Qm rfl <| Qq (p_byteS (i := k) und_9 rfl rfl (by omega)) <| Qq (p_sub rfl rfl (IntWalk.u8_in _ (by omega))) <| Qq (p_conv @Tryz.underlying5 @Tryz.underlying2 rfl (IntWalk.i64_in _ (by omega))) <| Qp rfl rfl <| Qa rfl <| JL.nil <| Js.blockEnd <| Js.region ?_
   refine Qp rfl rfl <| Qm rfl <| JL.nil ?_
   exact zag ⟨k + 1, (10 * n) + ((M.bat (t.drop 1) k) - 48), rfl, rfl, by rw [hN, M.numN, hT], by exact hD2, zt, rfl⟩ x4
  have hke : k = (M.numT t).length := Nat.le_antisymm hk (by rw [hT]; have := h5'; omega)
  have hdg := M.digs_yes hD (by omega)
  rw [hke] at hN
  refine zx ?_
  refine Js.seq <| zS <| Qm rfl <| Qq (p_lenS und_9 rfl) <| Qm rfl <| Qq (p_lenS und_9 rfl) <| Ql rfl rfl <| JL.nil ?_
  refine zi (fun h9 h9' => ?_) fun h9 h9' => ?_
  ·
   have hS : M.numS t = -n := by rw [hN]; exact M.numS_neg (by rw [hT]; have := h9'; omega)
   refine Js.region <| Qm rfl <| Qq (p_neg (r := -n) rfl (by rw [Int.zero_sub]; exact IntWalk.i64_in _ (by omega))) <| Qa rfl <| zJ <| zS <| Qm rfl <| zv rfl (fun w hw => c_impl_Decimal (-n) (ok_ hw)) <| Qm rfl <| Qq (p_neqT und_9 rfl rfl) <| JL.nil ?_
   refine zi (fun h10 h10' => ?_) fun h10 h10' => ?_
   ·
    have hE := M.num_no (s := t) (by rw [hS]; simpa using h10)
    refine zS <| Qa rfl <| Qa rfl <| JL.nil ?_
    refine zR x4 ?_
    first | (rw [hE]; rfl) | (rw [hE, hS]; rfl)
   have hE := M.num_yes hl9 hdg (by rw [hS]; simpa using h10)
   refine Js.skip <| zS <| Qm rfl <| Qa rfl <| Qa rfl <| JL.nil ?_
   refine zR x4 ?_
   first | (rw [hE]; rfl) | (rw [hE, hS]; rfl)
  have hS : M.numS t = n := by rw [hN]; exact M.numS_pos (by rw [hT]; have := h9'; omega)
  refine Js.skip <| Js.seq <| zS <| Qm rfl <| zv rfl (fun w hw => c_impl_Decimal n (ok_ hw)) <| Qm rfl <| Qq (p_neqT und_9 rfl rfl) <| JL.nil ?_
  refine zi (fun h11 h11' => ?_) fun h11 h11' => ?_
  ·
   have hE := M.num_no (s := t) (by rw [hS]; simpa using h11)
   refine zS <| Qa rfl <| Qa rfl <| JL.nil ?_
   refine zR x4 ?_
   first | (rw [hE]; rfl) | (rw [hE, hS]; rfl)
  have hE := M.num_yes hl9 hdg (by rw [hS]; simpa using h11)
  refine Js.skip <| zS <| Qm rfl <| Qa rfl <| Qa rfl <| JL.nil ?_
  refine zR x4 ?_
  first | (rw [hE]; rfl) | (rw [hE, hS]; rfl)
 have hT : M.numT t = t := M.numT_n (by have h9 := h2; simp at h9; intro ⟨a, b⟩; exact h9 (List.length_pos_iff.2 a) b)
 refine Js.skip <| Js.seq <| zS <| Qm rfl <| Qq (p_lenS und_9 rfl) <| Qe rfl rfl <| Qm rfl <| zg (Gd.f1 rfl rfl rfl) (fun hc => p_move rfl) <| zg (Gd.f1 rfl rfl rfl) (fun hc => p_lenS und_9 (gh hc rfl)) <| zg (Gd.f1 rfl rfl rfl) (fun hc => p_gtr (gh hc rfl) rfl) <| Qq (p_pickOr rfl rfl rfl) <| JL.nil ?_
 refine zi (fun h12 h12' => ?_) fun h12 h12' => ?_
 ·
  have hE := M.num_len (s := t) (by rw [hT]; have h9 := h12; simp at h9; omega)
  refine zS <| Qa rfl <| Qa rfl <| JL.nil ?_
  refine zR (Up.refl _ _) ?_
  first | (rw [hE]; rfl) | (rw [hE, hS]; rfl)
 have hl9 : ¬ ((M.numT t).length < 1 ∨ 18 < (M.numT t).length) := by rw [hT]; have h9 := h12; simp at h9; omega
 refine Js.skip <| zS <| Qa rfl <| zJ <| zS <| Qm rfl <| Qq (p_lenS und_9 rfl) <| Qm rfl <| JL.nil <| Js.block ?_
 refine zl [0, 4, 27] (fun F U l os u m => ∃ (k : Nat) (n : Int), l = F [(5, .int .i64 n), (28, .int .i64 (k : Int))] ∧ os = U [] ∧ (n = M.numN (M.numT t) k) ∧ (M.Digs (M.numT t) k) ∧ (k ≤ (M.numT t).length) ∧ m = (M.numT t).length - k) ⟨0, 0, rfl, rfl, by rfl, by exact M.Digs.zero _, zt, rfl⟩ ?_
 rintro _ _ u13 _ ⟨k, n, rfl, rfl, hN, hD, hk, rfl⟩ x13
 refine zn ?_
 obtain ⟨n1, n2⟩ := M.numN_18 hD (by omega)
 rw [← hN] at n1 n2
 refine zS <| Ql rfl rfl <| zJ ?_
 refine zi (fun h14 h14' => ?_) fun h14 h14' => ?_
 ·
  have hkk : k < (M.numT t).length := by rw [hT]; have := h14'; omega
  obtain ⟨n3, n4⟩ := M.numN_17 hD (by omega)
  rw [← hN] at n3 n4
  have hbt15 := M.bat_bd t k
  refine Js.skip <| Js.seq <| Js.block <| zS <| Qm rfl <| Qa rfl <| zJ <| zS <| Qm rfl <| Qm rfl <| Qq (p_byteS (i := k) und_9 rfl rfl (by omega)) <| zv rfl (fun w hw => c_impl_isDigit (M.bat t k)) <| Qt rfl <| JL.nil ?_
  refine zi (fun h16 h16' => ?_) fun h16 h16' => ?_
  ·
   have hE := M.num_dig (M.digs_no hkk (by rw [hT]; simpa using h16))
   refine zS <| Qa rfl <| Qa rfl <| JL.nil ?_
   refine zR x13 ?_
   first | (rw [hE]; rfl) | (rw [hE, hS]; rfl)
  have hd : M.isDig (M.bat (M.numT t) k) = true := by rw [hT]; simpa using h16
  have hD2 := hD.step hd
  obtain ⟨d1, d2⟩ := M.dig_bd hd
  rw [hT] at d1 d2
  have hbt17 := M.bat_bd t k
  refine Js.skip <| Js.region <| Qm rfl <| Qu rfl rfl <| Qm rfl <| Qm rfl <| Qq (p_byteS (i := k) und_9 rfl rfl (by omega)) <| Qq (p_sub rfl rfl (IntWalk.u8_in _ (by omega))) <| Qq (p_conv @Tryz.underlying5 @Tryz.underlying2 rfl (IntWalk.i64_in _ (by omega))) <| Qp rfl rfl <| Qa rfl <| JL.nil <| Js.blockEnd <| Js.region ?_
  refine Qp rfl rfl <| Qm rfl <| JL.nil ?_
  exact zag ⟨k + 1, (10 * n) + ((M.bat t k) - 48), rfl, rfl, by rw [hN, M.numN, hT], by exact hD2, zt, rfl⟩ x13
 have hke : k = (M.numT t).length := Nat.le_antisymm hk (by rw [hT]; have := h14'; omega)
 have hdg := M.digs_yes hD (by omega)
 rw [hke] at hN
 refine zx ?_
 refine Js.seq <| zS <| Qm rfl <| Qq (p_lenS und_9 rfl) <| Qm rfl <| Qq (p_lenS und_9 rfl) <| Ql rfl rfl <| JL.nil ?_
 refine zi (fun h18 h18' => ?_) fun h18 h18' => ?_
 ·
  have hS : M.numS t = -n := by rw [hN]; exact M.numS_neg (by rw [hT]; have := h18'; omega)
  refine Js.region <| Qm rfl <| Qq (p_neg (r := -n) rfl (by rw [Int.zero_sub]; exact IntWalk.i64_in _ (by omega))) <| Qa rfl <| zJ <| zS <| Qm rfl <| zv rfl (fun w hw => c_impl_Decimal (-n) (ok_ hw)) <| Qm rfl <| Qq (p_neqT und_9 rfl rfl) <| JL.nil ?_
  refine zi (fun h19 h19' => ?_) fun h19 h19' => ?_
  ·
   have hE := M.num_no (s := t) (by rw [hS]; simpa using h19)
   refine zS <| Qa rfl <| Qa rfl <| JL.nil ?_
   refine zR x13 ?_
   first | (rw [hE]; rfl) | (rw [hE, hS]; rfl)
  have hE := M.num_yes hl9 hdg (by rw [hS]; simpa using h19)
  refine Js.skip <| zS <| Qm rfl <| Qa rfl <| Qa rfl <| JL.nil ?_
  refine zR x13 ?_
  first | (rw [hE]; rfl) | (rw [hE, hS]; rfl)
 have hS : M.numS t = n := by rw [hN]; exact M.numS_pos (by rw [hT]; have := h18'; omega)
 refine Js.skip <| Js.seq <| zS <| Qm rfl <| zv rfl (fun w hw => c_impl_Decimal n (ok_ hw)) <| Qm rfl <| Qq (p_neqT und_9 rfl rfl) <| JL.nil ?_
 refine zi (fun h20 h20' => ?_) fun h20 h20' => ?_
 ·
  have hE := M.num_no (s := t) (by rw [hS]; simpa using h20)
  refine zS <| Qa rfl <| Qa rfl <| JL.nil ?_
  refine zR x13 ?_
  first | (rw [hE]; rfl) | (rw [hE, hS]; rfl)
 have hE := M.num_yes hl9 hdg (by rw [hS]; simpa using h20)
 refine Js.skip <| zS <| Qm rfl <| Qa rfl <| Qa rfl <| JL.nil ?_
 refine zR x13 ?_
 first | (rw [hE]; rfl) | (rw [hE, hS]; rfl)
theorem c_impl_cut (s sep : List UInt8) {w : World} (r0 : s.length ≤ 4194304 := by exact om_) (r1 : sep.length ≤ 4194304 := by exact om_) : RetV Tryz.prog 44 [.string (sB s), .string (sB sep)] w (.tuple #[.string (sB ((M.cutS s sep).1)), .string (sB ((M.cutS s sep).2.1)), .bool ((M.cutS s sep).2.2)]) := by
 refine enter @Tryz.func44 @Tryz.ntmps44 rfl rfl ?_
 refine zent ?_
 refine zS <| Qa rfl <| Qa rfl <| Qa rfl <| zJ <| zS <| Qa rfl <| JL.nil <| Js.block ?_
 refine zl [0, 1] (fun F U l os u m => ∃ (k : Nat), l = F [(7, .int .i64 (k : Int))] ∧ os = U [] ∧ (k ≤ s.length + 1) ∧ (∀ i, i < k → (s.drop i).take sep.length ≠ sep) ∧ m = s.length + 1 - k) ⟨0, rfl, rfl, zt, by exact fun i h => absurd h (by omega), rfl⟩ ?_
 rintro _ _ u1 _ ⟨k, rfl, rfl, hk, hn, rfl⟩ x1
 refine zn ?_
 refine Js.seq <| zS <| Qm rfl <| Qm rfl <| Qq (p_lenS und_9 rfl) <| Qp rfl rfl <| Qm rfl <| Qq (p_lenS und_9 rfl) <| Qk rfl rfl <| JL.nil ?_
 refine zi (fun h2 h2' => ?_) fun h2 h2' => ?_
 ·
  have hks : k + sep.length ≤ s.length := by have := h2'; omega
  refine Js.skip <| Js.seq <| Js.block <| zS <| Qm rfl <| Qm rfl <| Qm rfl <| Qm rfl <| Qq (p_lenS und_9 rfl) <| Qp rfl rfl <| Qq (p_midS (i := k) (j := k + sep.length) und_9 rfl rfl rfl (by omega) (by omega)) <| Qm rfl <| Qq (p_eqlT und_9 rfl rfl) <| JL.nil ?_
  refine zi (fun h3 h3' => ?_) fun h3 h3' => ?_
  ·
   have hE := M.cutS_yes hks (by have h9 := h3; simp at h9; exact h9) hn
   refine Js.seq ?_
   refine zdr [] ?_
   refine jM 0 rfl rfl ?_
   refine jM 1 rfl rfl ?_
   refine JH.p 2 rfl (p_takeS (i := k) und_9 rfl rfl (by omega)) ?_
   refine jM 3 rfl rfl ?_
   refine jM 4 rfl rfl ?_
   refine jM 5 rfl rfl ?_
   refine JH.p 6 rfl (p_lenS und_9 rfl) ?_
   refine JH.p 7 rfl (p_add rfl rfl (IntWalk.i64_in _ (by omega))) ?_
   refine JH.p 8 rfl (p_dropS (i := k + sep.length) und_9 rfl rfl (by omega)) ?_
   refine jA 9 rfl rfl ?_
   refine jA 10 rfl rfl ?_
   refine jA 11 rfl rfl ?_
   refine yd ?_
   refine zR x1 ?_
   rw [hE]; rfl
  have hn2 := M.miss_step hn (by have h9 := h3; simp at h9; exact h9)
  refine Js.skip <| Js.blockEnd <| Js.region <| Qm rfl <| Qp rfl rfl <| Qa rfl <| JL.nil ?_
  exact zag ⟨k + 1, rfl, rfl, zt, by exact hn2, rfl⟩ x1
 have hE := M.cutS_no (k := k) (by have := h2'; omega) hn
 refine zx ?_
 refine zS <| Qm rfl <| Qa rfl <| Qa rfl <| Qa rfl <| JL.nil ?_
 refine zR x1 ?_
 rw [hE]; rfl
theorem c_impl_parts (s : List UInt8) {w : World} (r0 : s.length ≤ 4194304 := by exact om_) : Ret Tryz.prog 84 [.string (sB s)] w (Ty.strs 9 (M.split 32 s)) := by
 refine enter @Tryz.func84 @Tryz.ntmps84 rfl rfl ?_
 refine zent ?_
 refine zS <| Qa rfl <| zN <| zbs fun b1 => ?_
 refine Qa rfl <| JL.nil <| Js.block ?_
 refine zl [] (fun F U l os u m => ∃ (cur : List UInt8) (out : List (List UInt8)) (A3_3 : Option Addr) (c3_3 : Nat) (g3_3 : List Nat), l = F [(0, .string (sB cur)), (3, .slice A3_3 out.length c3_3)] ∧ os = U [some (rowO 9 1 (.slice A3_3 out.length c3_3) out.length (txs_ out) g3_3)] ∧ (out ++ M.split 32 cur = M.split 32 s) ∧ (cur.length ≤ s.length) ∧ (out.length ≤ c3_3) ∧ (c3_3 ≤ 9223372036854775807) ∧ m = cur.length) ⟨s, [], _, _, _, rfl, rfl, by rfl, by exact Nat.le_refl _, zu, zu, rfl⟩ ?_
 rintro _ _ u3 _ ⟨cur, out, A3_3, c3_3, g3_3, rfl, rfl, hP, hl, f3_2, f3_3, rfl⟩ x3
 refine zn ?_
 have hl3 := M.parts_len hP
 have hcl := M.cutS_len cur [32]
 refine Js.block <| zS <| Qm rfl <| zv rfl (fun w hw => c_impl_cut cur ([32] : List UInt8)) <| Qm rfl <| Qx rfl rfl <| Qx rfl rfl <| Qx rfl rfl <| Qa rfl <| Qa rfl <| Qa rfl <| zN <| Qm rfl <| Qm rfl ?_
 refine zbs fun b4 => ?_
 refine JL.e (e_append (i := 1) (n' := (out ++ ([(M.cutS cur ([32] : List UInt8)).1])).length) (vs' := txs_ (out ++ ([(M.cutS cur ([32] : List UInt8)).1]))) el_50 rfl rfl rfl rfl (src_row (i := 0) und_50 rfl rfl) (by omega) (by omega) ln2_ (by first | rfl | (simp [txs_]; done))) ?_
 rintro v6 _ _ ⟨⟨g7, rfl⟩, rfl⟩ _
 refine JL.fact (row_form' (i := 1) rfl) (fun hf8 => ?_)
 obtain ⟨A8, c8, rfl, bl8, bh8⟩ := hf8
 refine znl ?_
 refine Qa rfl <| zJ <| zS <| Qm rfl <| Qt rfl <| JL.nil ?_
 refine zi (fun h9 h9' => ?_) fun h9 h9' => ?_
 ·
  have hE := M.parts_last hP (by simpa using h9)
  have hq0 : (out ++ ([(M.cutS cur ([32] : List UInt8)).1])) = M.split 32 s := by exact hE
  refine zS <| Qm rfl <| Qa rfl <| JL.nil ?_
  exact zro x3 (g := by exact (gv_strsE (ys := out ++ ([(M.cutS cur ([32] : List UInt8)).1])) po_ (by assumption) (by rfl)))
 have hP2 := M.parts_more hP (by simpa using h9)
 have hP3 := hP2.2
 refine Js.skip <| Js.region <| Qm rfl <| Qa rfl <| JL.nil <| Js.blockEnd ?_
 refine zd [1] rfl fun u10 x10 => ?_
 exact zag ⟨(M.cutS cur ([32] : List UInt8)).2.1, out ++ ([(M.cutS cur ([32] : List UInt8)).1]), _, _, _, rfl, rfl, by exact hP2.1, by omega, zu, zu, rfl⟩ (x3.trans x10)
theorem c_impl_readNumbers (s : List UInt8) {w : World} (h_tab : tabT.ok w undef) (r0 : s.length ≤ 4194304 := by exact om_) : Ret Tryz.prog 94 [.string (sB s)] w (Ty.tup [Ty.ints 2 ((M.nums s).1), Ty.bool ((M.nums s).2)]) := by
 refine enter @Tryz.func94 @Tryz.ntmps94 rfl rfl ?_
 refine zent ?_
 refine zS <| Qa rfl <| Qa rfl <| zN <| zbs fun b1 => ?_
 refine Qa rfl <| JL.nil <| Js.block ?_
 refine zl [] (fun F U l os u m => ∃ (cur : List UInt8) (out : List Int) (A3_4 : Option Addr) (c3_4 : Nat) (g3_4 : List Nat), l = F [(0, .string (sB cur)), (4, .slice A3_4 out.length c3_4)] ∧ os = U [some (rowO 2 1 (.slice A3_4 out.length c3_4) out.length (ints_ out) g3_4)] ∧ (M.NumsI s cur out) ∧ (cur.length ≤ s.length) ∧ (out.length ≤ c3_4) ∧ (c3_4 ≤ 9223372036854775807) ∧ m = cur.length) ⟨s, [], _, _, _, rfl, rfl, by exact M.NumsI.zero s, by exact Nat.le_refl _, zu, zu, rfl⟩ ?_
 rintro _ _ u3 _ ⟨cur, out, A3_4, c3_4, g3_4, rfl, rfl, hP, hl, f3_2, f3_3, rfl⟩ x3
 refine zn ?_
 have hl3 := hP.len
 have hcl := M.cutS_len cur [44]
 refine Js.block <| zS <| Qm rfl <| zv rfl (fun w hw => c_impl_cut cur ([44] : List UInt8)) <| Qm rfl <| Qx rfl rfl <| Qx rfl rfl <| Qx rfl rfl <| Qa rfl <| Qa rfl <| Qa rfl <| zN <| Qm rfl <| zv rfl (fun w hw => c_impl_ReadDecimal ((M.cutS cur ([44] : List UInt8)).1) (ok_ hw)) ?_
 refine Qm rfl <| Qx rfl rfl <| Qx rfl rfl <| Qa rfl <| Qa rfl <| zJ <| zS <| Qm rfl <| Qt rfl <| JL.nil ?_
 refine zi (fun h4 h4' => ?_) fun h4 h4' => ?_
 ·
  have hE := M.nums_no (hP.bad (by simpa using h4))
  have hq0 : [] = (M.nums s).1 := by first | (rw [hE]; done)
  have hq1 : false = (M.nums s).2 := by first | (rw [hE]; done)
  refine zS <| Qa rfl <| Qa rfl <| JL.nil ?_
  exact zro x3
 have hn9 : (M.num (M.cutS cur [44]).1).2 = true := by simpa using h4
 refine Js.skip <| zS <| Qm rfl <| Qm rfl <| zbs fun b5 => ?_
 refine JL.e (e_append (i := 1) (n' := (out ++ ([((M.num ((M.cutS cur ([44] : List UInt8)).1)).1)])).length) (vs' := ints_ (out ++ ([((M.num ((M.cutS cur ([44] : List UInt8)).1)).1)]))) el_26 rfl rfl rfl rfl (src_row (i := 0) und_26 rfl rfl) (by omega) (by omega) ln2_ (by simp [ints_])) ?_
 rintro v7 _ _ ⟨⟨g8, rfl⟩, rfl⟩ _
 refine JL.fact (row_form' (i := 1) rfl) (fun hf9 => ?_)
 obtain ⟨A9, c9, rfl, bl9, bh9⟩ := hf9
 refine znl ?_
 refine Qa rfl <| zJ <| zS <| Qm rfl <| Qt rfl <| JL.nil ?_
 refine zi (fun h10 h10' => ?_) fun h10 h10' => ?_
 ·
  have hE := hP.last hn9 (by simpa using h10)
  have hq0 : (out ++ ([((M.num ((M.cutS cur ([44] : List UInt8)).1)).1)])) = (M.nums s).1 := by first | (rw [hE]; done)
  have hq1 : true = (M.nums s).2 := by first | (rw [hE]; done)
  refine zS <| Qm rfl <| Qa rfl <| Qa rfl <| JL.nil ?_
  exact zro x3
 have hP2 := hP.more hn9 (by simpa using h10)
 have hP3 := hP2.2
 refine Js.skip <| Js.region <| Qm rfl <| Qa rfl <| JL.nil <| Js.blockEnd ?_
 refine zd [1] rfl fun u11 x11 => ?_
 exact zag ⟨(M.cutS cur ([44] : List UInt8)).2.1, out ++ ([((M.num ((M.cutS cur ([44] : List UInt8)).1)).1)]), _, _, _, rfl, rfl, by exact hP2.1, by omega, zu, zu, rfl⟩ (x3.trans x11)
theorem c_impl_joined (ns : List Int) {v_ns : Value} {w : World} (h_ns : (Ty.ints 2 ns).ok w v_ns) (h_tab : tabT.ok w undef) (r0 : ns.length ≤ 4194304 := by exact om_) (r1 : M.Rng ns := by exact om_) : RetV Tryz.prog 91 [v_ns] w (.string (sB (M.joinT ns))) := by
 revert v_ns; apply opn
 intro A1 c1 h1 bl1 bh1
 have h_ns := h1
 refine enter @Tryz.func91 @Tryz.ntmps91 rfl rfl ?_
 refine zent ?_
 refine zS <| Qa rfl <| zN <| Qa rfl <| zJ <| zS <| Qm rfl <| Qz rfl <| Qm rfl <| JL.nil <| Js.block ?_
 refine zl [6, 7] (fun F U l os u m => ∃ (k : Nat) (out : List UInt8), l = F [(3, .string (sB out)), (8, .int .i64 (k : Int))] ∧ os = U [] ∧ (out = M.joinN ns k) ∧ (k ≤ ns.length) ∧ m = ns.length - k) ⟨0, ([] : List UInt8), rfl, rfl, by rfl, zt, rfl⟩ ?_
 rintro _ _ u2 _ ⟨k, out, rfl, rfl, hJ, hk, rfl⟩ x2
 refine zn ?_
 have lb9 : LenB out 92274688 := ⟨M.joinN_big hJ (by omega)⟩
 obtain ⟨n1, n2⟩ := M.Rng.nth r1 k
 refine zS <| Ql rfl rfl <| zJ ?_
 refine zi (fun h3 h3' => ?_) fun h3 h3' => ?_
 ·
  obtain ⟨b4, o4, he4, hc4⟩ := ints_elem (Ty.mono _ h1 x2.vis) (i := k) (by omega)
  refine Js.skip <| Js.seq <| Js.block <| zS <| Qm rfl <| Qq (p_indexAddr el_26 rfl rfl (by omega) (by omega) he4) <| QC hc4 rfl <| Qa rfl <| Qa rfl <| zJ <| zS <| Qm rfl <| Qg rfl rfl <| JL.nil ?_
  refine zi (fun h5 h5' => ?_) fun h5 h5' => ?_
  ·
   have hJ2 := M.joinN_p hJ (by have := h5'; omega)
   refine Js.region <| Qm rfl <| Qq (q_cat rfl rfl) <| Qa rfl <| zG <| Qm rfl <| Qm rfl <| zv rfl (fun w hw => c_impl_Decimal (M.nth ns k) (ok_ hw)) <| Qq (q_cat rfl rfl) <| Qa rfl <| JL.nil <| Js.blockEnd <| Js.region <| Qp rfl rfl ?_
   refine Qm rfl <| JL.nil ?_
   exact zag ⟨k + 1, (out ++ ([44] : List UInt8)) ++ (M.dec (M.nth ns k)), rfl, rfl, by exact hJ2, zt, rfl⟩ x2
  have hJ2 := M.joinN_z hJ (by have := h5'; omega)
  refine Js.skip <| Js.region <| Qm rfl <| Qm rfl <| zv rfl (fun w hw => c_impl_Decimal (M.nth ns k) (ok_ hw)) <| Qq (q_cat rfl rfl) <| Qa rfl <| JL.nil <| Js.blockEnd <| Js.region <| Qp rfl rfl <| Qm rfl <| JL.nil ?_
  exact zag ⟨k + 1, out ++ (M.dec (M.nth ns k)), rfl, rfl, by exact hJ2, zt, rfl⟩ x2
 have hE := M.joinN_e hJ (by have := h3'; omega) hk
 refine zx ?_
 refine zS <| Qm rfl <| Qa rfl <| JL.nil ?_
 refine zR x2 ?_
 rw [hE]; rfl
theorem c_impl_PositionText (r : M.Rul) {v_r : Value} (p : M.Pos) {v_p : Value} {w : World} (h_r : (Ty.agg (cRules r)).ok w v_r) (h_p : (Ty.agg (cPosition p)).ok w v_p) (h_tab : tabT.ok w undef) (r0 : p.pits.length ≤ 4194304 := by exact om_) (r1 : p.stores.length ≤ 4194304 := by exact om_) : RetV Tryz.prog 42 [v_r, v_p] w (.string (sB (M.posTextR r p))) := by
 revert v_r; apply opn
 revert v_p; apply opn
 intro A1 c1 h1 bl1 bh1 A2 c2 h2 bl2 bh2
 refine enter @Tryz.func42 @Tryz.ntmps42 rfl rfl ?_
 refine zent ?_
 refine zS <| zb rfl fun b3 => zb rfl fun b4 => Qa rfl <| zJ <| zS <| Q9 1 rfl rfl ?_
 refine Q9 0 rfl rfl ?_
 refine zv rfl (fun w hw => c_impl_ValidPosition r p (ok_ hw) (ok_ hw)) <| Qt rfl <| JL.nil ?_
 refine zi (fun h5 h5' => ?_) fun h5 h5' => ?_
 ·
  have hno : M.okP r p = false := by simpa using h5
  have hE := M.posTextR_no hno
  refine zS <| Qa rfl <| JL.nil ?_
  refine zR (Up.refl _ _) ?_
  first | (rw [hE]; rfl) | (rw [hE, M.posText, ← hh]; simp [outV, List.take_of_length_le])
 have hok : M.okP r p = true := by simpa using h5
 have hE := M.posTextR_yes hok
 obtain ⟨g1, g2, g3, g4, g5, g6, g7⟩ := M.okP_bd hok
 have hh := M.half hok
 have lj1 : LenB (M.joinT (List.take (r.pits.toNat - 0) (List.drop 0 p.pits))) 352 := ⟨by have := M.joinT_len (List.take (r.pits.toNat - 0) (List.drop 0 p.pits)); rw [List.length_take, List.length_drop] at this; omega⟩
 have lj2 : LenB (M.joinT (List.take (p.pits.length - r.pits.toNat) (List.drop r.pits.toNat p.pits))) 352 := ⟨by have := M.joinT_len (List.take (p.pits.length - r.pits.toNat) (List.drop r.pits.toNat p.pits)); rw [List.length_take, List.length_drop] at this; omega⟩
 have lj3 : LenB (M.joinT p.stores) 352 := ⟨by have := M.joinT_len p.stores; omega⟩
 have ra := M.Rng.ok g6
 have rb := ((M.Rng.ok g5).drop 0).take (r.pits.toNat - 0)
 have rc := ((M.Rng.ok g5).drop r.pits.toNat).take (p.pits.length - r.pits.toNat)
 refine Js.skip <| Js.seq ?_
 refine zdr [] ?_
 refine jF 0 fld_28_2 rfl rfl ?_
 refine jB 1 0 ty_2 rfl rfl rfl rfl ?_
 refine jF 4 fld_28_0 rfl rfl ?_
 refine jB 5 0 ty_26 rfl rfl rfl rfl ?_
 refine jF 6 fld_25_0 rfl rfl ?_
 refine jB 7 1 ty_2 rfl rfl rfl rfl ?_
 have hs6 := ints_cut (a := 0) (b := r.pits.toNat) (m := c1) h1 (by omega) (by omega) (by omega) (by omega)
 have hl6 : ((p.pits.drop 0).take (r.pits.toNat - 0)).length = r.pits.toNat - 0 := by rw [List.length_take, List.length_drop]; omega
 refine JH.p 8 rfl (p_slice (lo' := 0) (hi' := r.pits.toNat) (mx' := c1) el_26 rfl rfl ⟨_, by rw [Int.toNat_of_nonneg (by omega)]; exact rfl, by omega⟩ rfl) ?_
 refine jF 12 fld_28_0 rfl rfl ?_
 refine jB 13 0 ty_26 rfl rfl rfl rfl ?_
 refine jF 14 fld_25_0 rfl rfl ?_
 refine jB 15 1 ty_2 rfl rfl rfl rfl ?_
 have hs7 := ints_cut (a := r.pits.toNat) (b := p.pits.length) (m := c1) h1 (by omega) (by omega) (by omega) (by omega)
 have hl7 : ((p.pits.drop r.pits.toNat).take (p.pits.length - r.pits.toNat)).length = p.pits.length - r.pits.toNat := by rw [List.length_take, List.length_drop]; omega
 refine JH.p 16 rfl (p_slice (lo' := r.pits.toNat) (hi' := p.pits.length) (mx' := c1) el_26 rfl rfl ⟨rfl, rfl⟩ ⟨_, by rw [Int.toNat_of_nonneg (by omega)]; exact rfl, by omega⟩) ?_
 refine jF 20 fld_28_1 rfl rfl ?_
 refine jB 21 0 ty_26 rfl rfl rfl rfl ?_
 refine y1 2 ?_
 refine yv rfl rfl (fun w hw => c_impl_Decimal p.player (ok_ hw)) ?_
 refine JH.p 3 rfl (q_cat rfl rfl) ?_
 refine y1 9 ?_
 refine yv rfl rfl (fun w hw => c_impl_joined ((p.pits.drop 0).take (r.pits.toNat - 0)) (ok_ hw) (ok_ hw) (r0 := (by first | omega | (simp only [List.length_take, List.length_drop]; omega))) (r1 := (by first | exact ra | exact rb | exact rc))) ?_
 refine JH.p 10 rfl (q_cat rfl rfl) ?_
 refine JH.p 11 rfl (q_cat rfl rfl) ?_
 refine y1 17 ?_
 refine yv rfl rfl (fun w hw => c_impl_joined ((p.pits.drop r.pits.toNat).take (p.pits.length - r.pits.toNat)) (ok_ hw) (ok_ hw) (r0 := (by first | omega | (simp only [List.length_take, List.length_drop]; omega))) (r1 := (by first | exact ra | exact rb | exact rc))) ?_
 refine JH.p 18 rfl (q_cat rfl rfl) ?_
 refine JH.p 19 rfl (q_cat rfl rfl) ?_
 refine y1 22 ?_
 refine yv rfl rfl (fun w hw => c_impl_joined p.stores (ok_ hw) (ok_ hw) (r0 := (by first | omega | (simp only [List.length_take, List.length_drop]; omega))) (r1 := (by first | exact ra | exact rb | exact rc))) ?_
 refine JH.p 23 rfl (q_cat rfl rfl) ?_
 refine jA 24 rfl rfl ?_
 refine yd ?_
 refine zR (Up.refl _ _) ?_
 first | (rw [hE]; rfl) | (rw [hE, M.posText, ← hh]; simp [outV, List.take_of_length_le])
theorem c_impl_PuzzleText (z : M.Puz) {v_z : Value} {w : World} (h_z : (Ty.agg (cPuzzle z)).ok w v_z) (h_tab : tabT.ok w undef) (r0 : z.position.pits.length ≤ 4194304 := by exact om_) (r1 : z.position.stores.length ≤ 4194304 := by exact om_) : RetV Tryz.prog 7 [v_z] w (.string (sB (M.puzText z))) := by
 revert v_z; apply opn
 intro A1 c1 h1 bl1 bh1 A2 c2 h2 bl2 bh2
 refine enter @Tryz.func7 @Tryz.ntmps7 rfl rfl ?_
 refine zent ?_
 refine zS <| zb rfl fun b3 => Qa rfl <| zJ <| zS <| Q9 0 rfl rfl ?_
 refine zv rfl (fun w hw => c_impl_ValidPuzzle z (ok_ hw)) <| Qt rfl <| JL.nil ?_
 refine zi (fun h4 h4' => ?_) fun h4 h4' => ?_
 ·
  have hno : M.okZ z = false := by simpa using h4
  have hE := M.puzText_no hno
  refine zS <| Qa rfl <| JL.nil ?_
  refine zR (Up.refl _ _) ?_
  first | (rw [hE]; rfl) | (rw [hE, hpt]; rfl)
 have hok : M.okZ z = true := by simpa using h4
 obtain ⟨hoc, hpz⟩ := M.okZ_parts hok
 have ho := M.optsC_ok hoc
 have hpt := M.posTextR_yes ho.1
 have hpl := M.okP_len ho.1
 obtain ⟨g1, g2, g3, g4, g5, g6, g7⟩ := M.okP_bd ho.1
 have hE := M.puzText_yes hok
 have lb9 : LenB (M.posTextR z.rules z.position) 1000 := ⟨by rw [hpt]; exact M.posText_len (by omega) (by omega)⟩
 refine Js.skip <| Js.seq ?_
 refine zdr [] ?_
 refine jF 0 fld_30_0 rfl rfl ?_
 refine JH.q 1 rfl (L9 0 rfl rfl) ?_
 refine jF 2 fld_30_1 rfl rfl ?_
 refine JH.q 3 rfl (L9 0 rfl rfl) ?_
 refine jF 6 fld_30_2 rfl rfl ?_
 refine jB 7 0 ty_2 rfl rfl rfl rfl ?_
 refine y1 4 ?_
 refine yv rfl rfl (fun w hw => c_impl_PositionText z.rules z.position (ok_ hw) (ok_ hw) (ok_ hw)) ?_
 refine JH.p 5 rfl (q_cat rfl rfl) ?_
 refine y1 8 ?_
 refine yv rfl rfl (fun w hw => c_impl_Decimal z.depth (ok_ hw)) ?_
 refine JH.p 9 rfl (q_cat rfl rfl) ?_
 refine jA 10 rfl rfl ?_
 refine yd ?_
 refine zR (Up.refl _ _) ?_
 first | (rw [hE]; rfl) | (rw [hE, hpt]; rfl)
theorem c_impl_HintFor (z : M.Puz) {v_z : Value} (level : Int) {w : World} (h_z : (Ty.agg (cPuzzle z)).ok w v_z) (h_tab : tabT.ok w undef) (r0 : z.position.pits.length ≤ 4194304 := by exact om_) (r1 : z.position.stores.length ≤ 4194304 := by exact om_) : RetV Tryz.prog 12 [v_z, .int .i64 level] w (.tuple #[.string (sB ((M.hint z level).1)), .int .i64 ((M.hint z level).2)]) := by
 revert v_z; apply opn
 intro A1 c1 h1 bl1 bh1 A2 c2 h2 bl2 bh2
 refine enter @Tryz.func12 @Tryz.ntmps12 rfl rfl ?_
 refine zent ?_
 refine zS <| zb rfl fun b3 => Qa rfl <| Qa rfl <| zJ <| zS <| Q9 0 rfl rfl ?_
 refine zv rfl (fun w hw => c_impl_ValidPuzzle z (ok_ hw)) <| Qt rfl <| JL.nil ?_
 refine zi (fun h4 h4' => ?_) fun h4 h4' => ?_
 ·
  have hno : M.okZ z = false := by simpa using h4
  have hE := M.hint_no (level := level) hno
  refine zS <| Qa rfl <| Qa rfl <| JL.nil ?_
  refine zR (Up.refl _ _) ?_
  first | (rw [hE]; rfl) | (rw [hE]; simp only [outV, *, if_true, if_false]; done) | (rw [hE]; simp [outV, *])
 have hok : M.okZ z = true := by simpa using h4
 obtain ⟨hoc, hpz⟩ := M.okZ_parts hok
 have ho := M.optsC_ok hoc
 have hpt := M.posTextR_yes ho.1
 have hpl := M.okP_len ho.1
 obtain ⟨g1, g2, g3, g4, g5, g6, g7⟩ := M.okP_bd ho.1
 obtain ⟨hmk, q1, q2, q3, q4⟩ := M.okZ_more hok
 have hmg := M.make_gain hmk
 have h8 := M.results_8 ho.1
 have hE := M.hint_yes (level := level) hok
 refine Js.skip <| Js.seq <| zS <| Qm rfl <| JL.nil <| Js.block <| zS <| Qe rfl rfl <| Qa rfl <| JL.nil ?_
 refine zi (fun h5 h5' => ?_) fun h5 h5' => ?_
 ·
  have l0 := h5'
  refine zS <| Qf fh rfl <| Q9 0 rfl rfl ?_
  refine Qf fh rfl <| Q9 0 rfl rfl ?_
  refine zp rfl (fun w hw => c_impl_Rules_results z.rules z.position (ok_ hw) (ok_ hw) (r0 := ho.1)) ?_
  intro u6 x6 A7 c7 h7 bl7 bh7
  refine Qz rfl <| zv rfl (fun w hw => c_impl_Decimal (((M.results z.rules z.position).length) : Int) (ok_ hw)) <| Qq (q_cat rfl rfl) <| Qq (q_cat rfl rfl) <| Qa rfl <| Qa rfl <| JL.nil ?_
  refine zR x6 ?_
  first | (rw [hE]; rfl) | (rw [hE]; simp only [outV, *, if_true, if_false]; done) | (rw [hE]; simp [outV, *])
 have l0 := h5'
 refine zS <| Qe rfl rfl <| Qa rfl <| JL.nil ?_
 refine zi (fun h8 h8' => ?_) fun h8 h8' => ?_
 ·
  have l1 := h8'
  refine zS <| Qf fh rfl <| Q9 0 rfl rfl ?_
  refine Qf fh rfl <| Q9 0 rfl rfl ?_
  refine Qf fh rfl <| Q0 0 rfl rfl rfl <| zp rfl (fun w hw => c_impl_Rules_resultOf z.rules z.position z.move (ok_ hw) (ok_ hw)) ?_
  intro u9 x9 A10 c10 h10 bl10 bh10 A11 c11 h11 bl11 bh11
  refine Qm rfl <| Qx rfl rfl <| Qx rfl rfl <| za zeh fun b12 => zw 0 rfl rfl rfl ?_
  refine Qa rfl <| zN <| Qf fh rfl <| Q0 0 rfl rfl rfl <| zv rfl (fun w hw => c_impl_Decimal (((M.make z.rules z.position z.move).1).gain) (ok_ hw)) <| Qq (q_cat rfl rfl) <| Qq (q_cat rfl rfl) <| Qa rfl <| Qa rfl <| JL.nil ?_
  refine zR x9 ?_
  first | (rw [hE]; rfl) | (rw [hE]; simp only [outV, *, if_true, if_false]; done) | (rw [hE]; simp [outV, *])
 have l1 := h8'
 refine zS <| Qe rfl rfl <| Qa rfl <| JL.nil ?_
 refine zi (fun h13 h13' => ?_) fun h13 h13' => ?_
 ·
  have l2 := h13'
  refine zS <| Qf fh rfl <| Q0 0 rfl rfl rfl <| zv rfl (fun w hw => c_impl_Decimal z.margin (ok_ hw)) <| Qq (q_cat rfl rfl) <| Qa rfl <| Qa rfl <| JL.nil ?_
  refine zR (Up.refl _ _) ?_
  first | (rw [hE]; rfl) | (rw [hE]; simp only [outV, *, if_true, if_false]; done) | (rw [hE]; simp [outV, *])
 have l2 := h13'
 refine zS <| Qe rfl rfl <| Qa rfl <| JL.nil ?_
 refine zi (fun h14 h14' => ?_) fun h14 h14' => ?_
 ·
  have l3 := h14'
  refine zS <| Qf fh rfl <| Q0 0 rfl rfl rfl <| zv rfl (fun w hw => c_impl_Decimal z.move (ok_ hw)) <| Qq (q_cat rfl rfl) <| Qa rfl <| Qa rfl <| JL.nil ?_
  refine zR (Up.refl _ _) ?_
  first | (rw [hE]; rfl) | (rw [hE]; simp only [outV, *, if_true, if_false]; done) | (rw [hE]; simp [outV, *])
 have l3 := h14'
 refine Js.skip <| Js.blockEnd <| zS <| Qa rfl <| Qa rfl <| JL.nil ?_
 refine zR (Up.refl _ _) ?_
 first | (rw [hE]; rfl) | (rw [hE]; simp only [outV, *, if_true, if_false]; done) | (rw [hE]; simp [outV, *])
theorem c_impl_ReadPosition (r : M.Rul) {v_r : Value} (s : List UInt8) {w : World} (h_r : (Ty.agg (cRules r)).ok w v_r) (h_tab : tabT.ok w undef) (r0 : s.length ≤ 4000000 := by exact om_) : Ret Tryz.prog 46 [v_r, .string (sB s)] w (Ty.tup [Ty.agg (cPosition ((M.readP r s).1)), Ty.bool ((M.readP r s).2)]) := by
 revert v_r; apply opn
 refine enter @Tryz.func46 @Tryz.ntmps46 rfl rfl ?_
 refine zent ?_
 refine zS <| zb rfl fun b1 => za zeh fun b2 => Qa rfl <| zN <| Qm rfl <| zp rfl (fun w hw => c_impl_parts s) ?_
 intro u3 x3 A4 c4 h4 bl4 bh4
 refine Qa rfl <| zJ <| zS <| Qm rfl <| Qz rfl <| Qd rfl rfl <| JL.nil ?_
 refine zi (fun h5 h5' => ?_) fun h5 h5' => ?_
 ·
  have hE := M.readP_short (r := r) (s := s) (by have := h5'; omega)
  have hq0 : [] = ((M.readP r s).1).pits := rp_ hE
  have hq1 : [] = ((M.readP r s).1).stores := rp_ hE
  have hq2 : 0 = ((M.readP r s).1).player := rp_ hE
  have hq3 : false = (M.readP r s).2 := rp_ hE
  refine zS <| Qb ?_
  refine zw 0 rfl rfl rfl ?_
  refine Qa rfl <| JL.nil ?_
  exact zro x3
 have h3 : (M.split 32 s).length = 3 := by have := h5'; omega
 have hw0 : (M.split 32 s)[0]? = some (M.w3 s 0) := M.w3_get (by omega)
 have hw1 : (M.split 32 s)[1]? = some (M.w3 s 1) := M.w3_get (by omega)
 have hw2 : (M.split 32 s)[2]? = some (M.w3 s 2) := M.w3_get (by omega)
 have q0 := M.w3_len (s := s) (i := 0)
 have q1 := M.w3_len (s := s) (i := 1)
 have q2 := M.w3_len (s := s) (i := 2)
 have q3 := M.cutS_len (M.w3 s 1) [47]
 have q8 := M.cutS_len2 (M.w3 s 1) [47]
 have q4 := M.nums_len (M.cutS (M.w3 s 1) [47]).1
 have q5 := M.nums_len (M.cutS (M.w3 s 1) [47]).2.1
 have q6 := M.nums_len (M.w3 s 2)
 have q9 : ((M.nums (M.cutS (M.w3 s 1) [47]).1).1 ++ (M.nums (M.cutS (M.w3 s 1) [47]).2.1).1).length ≤ 4194304 := by rw [List.length_append]; omega
 have hy6 := hw0
 obtain ⟨b6, o6, he6, hc6⟩ := strs_elem h4 hy6
 have hy7 := hw1
 obtain ⟨b7, o7, he7, hc7⟩ := strs_elem h4 hy7
 refine Js.skip <| zS <| Qm rfl <| Qq (p_indexAddr el_50 rfl rfl (by omega) (by omega) he6) <| QC hc6 rfl <| zv rfl (fun w hw => c_impl_ReadDecimal (M.w3 s 0) (ok_ hw)) <| Qm rfl <| Qx rfl rfl <| Qx rfl rfl <| Qa rfl <| Qa rfl <| zN <| Qm rfl <| Qq (p_indexAddr el_50 rfl rfl (by omega) (by omega) he7) ?_
 refine QC hc7 rfl <| zv rfl (fun w hw => c_impl_cut (M.w3 s 1) ([47] : List UInt8)) <| Qm rfl <| Qx rfl rfl <| Qx rfl rfl <| Qx rfl rfl <| Qa rfl <| Qa rfl <| Qa rfl <| zN <| Qm rfl <| zcs rfl (fun w hw => c_impl_readNumbers ((M.cutS (M.w3 s 1) ([47] : List UInt8)).1) (ok_ hw)) ?_
 intro A9 c9 bl9 bh9
 refine Qm rfl <| Qx rfl rfl <| Qx rfl rfl <| Qa rfl <| Qa rfl <| zN <| Qm rfl <| zcs rfl (fun w hw => c_impl_readNumbers ((M.cutS (M.w3 s 1) ([47] : List UInt8)).2.1) (ok_ hw)) ?_
 intro A11 c11 bl11 bh11
 have hy12 := hw2
 obtain ⟨b12, o12, he12, hc12⟩ := strs_elem h4 hy12
 refine Qm rfl <| Qx rfl rfl <| Qx rfl rfl <| Qa rfl <| Qa rfl <| zN <| Qm rfl <| Qq (p_indexAddr el_50 rfl rfl (by omega) (by omega) he12) <| QC hc12 rfl <| zcs rfl (fun w hw => c_impl_readNumbers (M.w3 s 2) (ok_ hw)) ?_
 intro A14 c14 bl14 bh14
 refine Qm rfl <| Qx rfl rfl <| Qx rfl rfl <| Qa rfl <| Qa rfl <| zJ <| zS <| Qm rfl <| Qt rfl <| Qm rfl <| zg (Gd.f1 rfl rfl rfl) (fun hc => p_move rfl) <| zg (Gd.f1 rfl rfl rfl) (fun hc => p_not (gh hc rfl)) <| Qq (p_pickOr rfl rfl rfl) <| Qm rfl ?_
 refine zg (Gd.f1 rfl rfl rfl) (fun hc => p_move rfl) <| zg (Gd.f1 rfl rfl rfl) (fun hc => p_not (gh hc rfl)) <| Qq (p_pickOr rfl rfl rfl) <| Qm rfl <| zg (Gd.f1 rfl rfl rfl) (fun hc => p_move rfl) <| zg (Gd.f1 rfl rfl rfl) (fun hc => p_not (gh hc rfl)) <| Qq (p_pickOr rfl rfl rfl) <| Qm rfl <| zg (Gd.f1 rfl rfl rfl) (fun hc => p_move rfl) <| zg (Gd.f1 rfl rfl rfl) (fun hc => p_not (gh hc rfl)) <| Qq (p_pickOr rfl rfl rfl) <| JL.nil ?_
 refine zi (fun h15 h15' => ?_) fun h15 h15' => ?_
 ·
  have hE := M.readP_first (r := r) (s := s) (by rintro ⟨f1, f2, f3, f4, f5⟩; have h9 := h15; rw [f1, f2, f3, f4, f5] at h9; simp at h9)
  have hq0 : [] = ((M.readP r s).1).pits := rp_ hE
  have hq1 : [] = ((M.readP r s).1).stores := rp_ hE
  have hq2 : 0 = ((M.readP r s).1).player := rp_ hE
  have hq3 : false = (M.readP r s).2 := rp_ hE
  refine zS <| Qb ?_
  refine zw 3 rfl rfl rfl ?_
  refine Qa rfl <| JL.nil ?_
  exact zro x3
 have hf5 : M.first5 s := by have h9 := h15; simp only [Bool.or_eq_false_iff, Bool.not_eq_false'] at h9; exact ⟨h9.1.1.1.1, h9.1.1.1.2, h9.1.1.2, h9.1.2, h9.2⟩
 refine Js.skip <| zS <| Qm rfl <| Qm rfl ?_
 refine JL.e (e_append (i := 2) (n' := (((M.nums ((M.cutS (M.w3 s 1) ([47] : List UInt8)).1)).1) ++ ((M.nums ((M.cutS (M.w3 s 1) ([47] : List UInt8)).2.1)).1)).length) (vs' := ints_ (((M.nums ((M.cutS (M.w3 s 1) ([47] : List UInt8)).1)).1) ++ ((M.nums ((M.cutS (M.w3 s 1) ([47] : List UInt8)).2.1)).1))) el_26 rfl rfl rfl rfl (src_rowH (i := 1) und_26 rfl (ints_one _)) (by omega) (by omega) ln2_ (by simp [ints_])) ?_
 rintro v16 _ _ ⟨⟨g17, rfl⟩, rfl⟩ _
 refine JL.fact (row_form' (i := 2) rfl) (fun hf18 => ?_)
 obtain ⟨A18, c18, rfl, bl18, bh18⟩ := hf18
 refine znl ?_
 have q10 : (M.Pos.mk ((M.nums (M.cutS (M.w3 s 1) [47]).1).1 ++ (M.nums (M.cutS (M.w3 s 1) [47]).2.1).1) (M.nums (M.w3 s 2)).1 (M.num (M.w3 s 0)).1).pits.length ≤ 4194304 := q9
 have q11 : (M.Pos.mk ((M.nums (M.cutS (M.w3 s 1) [47]).1).1 ++ (M.nums (M.cutS (M.w3 s 1) [47]).2.1).1) (M.nums (M.w3 s 2)).1 (M.num (M.w3 s 0)).1).stores.length ≤ 4194304 := by show (M.nums (M.w3 s 2)).1.length ≤ 4194304; omega
 refine Qm rfl <| Qm rfl <| Qb ?_
 refine za zeh fun b19 => zw 0 rfl rfl rfl ?_
 refine zJ <| zS <| Q9 5 rfl rfl ?_
 refine Q9 0 rfl rfl ?_
 refine zv rfl (fun w hw => c_impl_ValidPosition r (M.Pos.mk (((M.nums ((M.cutS (M.w3 s 1) ([47] : List UInt8)).1)).1) ++ ((M.nums ((M.cutS (M.w3 s 1) ([47] : List UInt8)).2.1)).1)) ((M.nums (M.w3 s 2)).1) ((M.num (M.w3 s 0)).1)) (ok_ hw) (ok_ hw)) <| Qt rfl <| Qm rfl <| zgq (Gd.f1 rfl rfl rfl) (fun hc => L9 5 rfl rfl) <| zgq (Gd.f1 rfl rfl rfl) (fun hc => L9 0 rfl rfl) <| zgv (Gd.f1 rfl rfl rfl) (fun hc => (opds_2 (gh hc rfl) (gh hc rfl))) (fun hc => (fun w hw => c_impl_PositionText r (M.Pos.mk (((M.nums ((M.cutS (M.w3 s 1) ([47] : List UInt8)).1)).1) ++ ((M.nums ((M.cutS (M.w3 s 1) ([47] : List UInt8)).2.1)).1)) ((M.nums (M.w3 s 2)).1) ((M.num (M.w3 s 0)).1)) (ok_ hw) (ok_ hw) (ok_ hw) (r0 := (by have hc9 := hc; (try simp only [Bool.not_eq_true', Bool.not_eq_false'] at hc9); omega)) (r1 := (by have hc9 := hc; (try simp only [Bool.not_eq_true', Bool.not_eq_false'] at hc9); omega)))) ?_
 refine zg (Gd.f1 rfl rfl rfl) (fun hc => p_move rfl) <| zg (Gd.f1 rfl rfl rfl) (fun hc => p_neqT und_9 (gh hc rfl) (gh hc rfl)) <| Qq (p_pickOr rfl rfl rfl) <| JL.nil ?_
 refine zi (fun h20 h20' => ?_) fun h20 h20' => ?_
 ·
  have hE := M.readP_bad (r := r) h3 hf5 (by have h9 := h20; change (!M.okP r (M.readQ s) || !decide (M.posTextR r (M.readQ s) = s)) = true at h9; simpa using h9)
  have hq0 : [] = ((M.readP r s).1).pits := rp_ hE
  have hq1 : [] = ((M.readP r s).1).stores := rp_ hE
  have hq2 : 0 = ((M.readP r s).1).player := rp_ hE
  have hq3 : false = (M.readP r s).2 := rp_ hE
  refine zS <| Qb ?_
  refine zw 4 rfl rfl rfl ?_
  refine Qa rfl <| JL.nil ?_
  exact zro x3
 have h8 : M.okP r (M.readQ s) = true ∧ M.posTextR r (M.readQ s) = s := by have h9 := h20; change (!M.okP r (M.readQ s) || !decide (M.posTextR r (M.readQ s) = s)) = false at h9; simpa using h9
 have hE := M.readP_good h3 hf5 h8.1 h8.2
 have hq0 : (((M.nums ((M.cutS (M.w3 s 1) ([47] : List UInt8)).1)).1) ++ ((M.nums ((M.cutS (M.w3 s 1) ([47] : List UInt8)).2.1)).1)) = ((M.readP r s).1).pits := rp_ hE
 have hq1 : ((M.nums (M.w3 s 2)).1) = ((M.readP r s).1).stores := rp_ hE
 have hq2 : ((M.num (M.w3 s 0)).1) = ((M.readP r s).1).player := rp_ hE
 have hq3 : true = (M.readP r s).2 := rp_ hE
 refine Js.skip <| zS <| Q9 0 rfl rfl ?_
 refine zw 4 rfl rfl rfl ?_
 refine Qa rfl <| JL.nil ?_
 exact zro x3
theorem c_impl_ReadPuzzle (r : M.Rul) {v_r : Value} (s : List UInt8) {w : World} (h_r : (Ty.agg (cRules r)).ok w v_r) (h_tab : tabT.ok w undef) (r0 : s.length ≤ 4000000 := by exact om_) : Ret Tryz.prog 8 [v_r, .string (sB s)] w (Ty.tup [Ty.agg (cPuzzle ((M.readZ r s).1)), Ty.bool ((M.readZ r s).2)]) := by
 have q3 := M.cutS_len s [32, 100, 101, 112, 116, 104, 32]
 revert v_r; apply opn
 refine enter @Tryz.func8 @Tryz.ntmps8 rfl rfl ?_
 refine zent ?_
 refine zS <| zb rfl fun b1 => za zeh fun b2 => Qa rfl <| zN <| Qm rfl <| zv rfl (fun w hw => c_impl_cut s ([32, 100, 101, 112, 116, 104, 32] : List UInt8)) <| Qm rfl <| Qx rfl rfl <| Qx rfl rfl <| Qx rfl rfl <| Qa rfl <| Qa rfl <| Qa rfl ?_
 refine zN <| Qm rfl <| zv rfl (fun w hw => c_impl_ReadDecimal ((M.cutS s ([32, 100, 101, 112, 116, 104, 32] : List UInt8)).2.1) (ok_ hw)) <| Qm rfl <| Qx rfl rfl <| Qx rfl rfl <| Qa rfl <| Qa rfl <| zN <| Q9 1 rfl rfl ?_
 refine Qm rfl <| zc rfl (fun w hw => c_impl_ReadPosition r ((M.cutS s ([32, 100, 101, 112, 116, 104, 32] : List UInt8)).1) (ok_ hw) (ok_ hw)) ?_
 intro A5 c5 bl5 bh5 A6 c6 bl6 bh6
 refine Qm rfl <| Qx rfl rfl <| Qx rfl rfl <| za zeh fun b7 => zw 0 rfl rfl rfl ?_
 refine Qa rfl <| zJ <| zS <| Qm rfl <| Qt rfl <| Qm rfl <| zg (Gd.f1 rfl rfl rfl) (fun hc => p_move rfl) <| zg (Gd.f1 rfl rfl rfl) (fun hc => p_not (gh hc rfl)) <| Qq (p_pickOr rfl rfl rfl) <| Qm rfl <| zg (Gd.f1 rfl rfl rfl) (fun hc => p_move rfl) <| zg (Gd.f1 rfl rfl rfl) (fun hc => p_not (gh hc rfl)) <| Qq (p_pickOr rfl rfl rfl) <| JL.nil ?_
 refine zi (fun h8 h8' => ?_) fun h8 h8' => ?_
 ·
  have hE := M.readZ_no (r := r) (s := s) (by have h9 := h8; change (!(M.cutS s M.depthT).2.2 || !(M.num (M.cutS s M.depthT).2.1).2 || !(M.readP r (M.cutS s M.depthT).1).2) = true at h9; unfold M.zIn; revert h9; cases (M.cutS s M.depthT).2.2 <;> cases (M.num (M.cutS s M.depthT).2.1).2 <;> cases (M.readP r (M.cutS s M.depthT).1).2 <;> simp)
  have hq0 : 0 = (((M.readZ r s).1).rules).pits := rp_ hE
  have hq1 : 0 = (((M.readZ r s).1).rules).seeds := rp_ hE
  have hq2 : false = (((M.readZ r s).1).rules).stores := rp_ hE
  have hq3 : false = (((M.readZ r s).1).rules).skip := rp_ hE
  have hq4 : false = (((M.readZ r s).1).rules).relay := rp_ hE
  have hq5 : false = (((M.readZ r s).1).rules).feed := rp_ hE
  have hq6 : false = (((M.readZ r s).1).rules).again := rp_ hE
  have hq7 : 0 = (((M.readZ r s).1).rules).capture := rp_ hE
  have hq8 : 0 = (((M.readZ r s).1).rules).slam := rp_ hE
  have hq9 : [] = (((M.readZ r s).1).position).pits := rp_ hE
  have hq10 : [] = (((M.readZ r s).1).position).stores := rp_ hE
  have hq11 : 0 = (((M.readZ r s).1).position).player := rp_ hE
  have hq12 : 0 = ((M.readZ r s).1).depth := rp_ hE
  have hq13 : 0 = ((M.readZ r s).1).move := rp_ hE
  have hq14 : 0 = ((M.readZ r s).1).value := rp_ hE
  have hq15 : 0 = ((M.readZ r s).1).margin := rp_ hE
  have hq16 : false = (M.readZ r s).2 := rp_ hE
  refine zS <| Qb ?_
  refine zw 3 rfl rfl rfl ?_
  refine Qa rfl <| JL.nil ?_
  exact zro (Up.refl _ _)
 have hz : M.zIn r s = true := by have h9 := h8; change (!(M.cutS s M.depthT).2.2 || !(M.num (M.cutS s M.depthT).2.1).2 || !(M.readP r (M.cutS s M.depthT).1).2) = false at h9; unfold M.zIn; revert h9; cases (M.cutS s M.depthT).2.2 <;> cases (M.num (M.cutS s M.depthT).2.1).2 <;> cases (M.readP r (M.cutS s M.depthT).1).2 <;> simp
 have hE := M.readZ_yes hz
 have hok := M.readP_ok (M.zIn_p hz)
 have hlo : (M.readP r (M.cutS s [32, 100, 101, 112, 116, 104, 32]).1).1.pits.length ≤ 4194304 ∧ (M.readP r (M.cutS s [32, 100, 101, 112, 116, 104, 32]).1).1.stores.length ≤ 4194304 := M.okP_len hok.1
 refine Js.skip <| zS <| Q9 4 rfl rfl ?_
 refine Q9 0 rfl rfl ?_
 refine Qm rfl <| zc rfl (fun w hw => c_impl_puzzleOf r ((M.readP r ((M.cutS s ([32, 100, 101, 112, 116, 104, 32] : List UInt8)).1)).1) ((M.num ((M.cutS s ([32, 100, 101, 112, 116, 104, 32] : List UInt8)).2.1)).1) (ok_ hw) (ok_ hw)) ?_
 intro A11 c11 bl11 bh11 A12 c12 bl12 bh12
 have hq0 : ((((M.puz r ((M.readP r ((M.cutS s ([32, 100, 101, 112, 116, 104, 32] : List UInt8)).1)).1) ((M.num ((M.cutS s ([32, 100, 101, 112, 116, 104, 32] : List UInt8)).2.1)).1)).1).rules).pits) = (((M.readZ r s).1).rules).pits := rp_ hE
 have hq1 : ((((M.puz r ((M.readP r ((M.cutS s ([32, 100, 101, 112, 116, 104, 32] : List UInt8)).1)).1) ((M.num ((M.cutS s ([32, 100, 101, 112, 116, 104, 32] : List UInt8)).2.1)).1)).1).rules).seeds) = (((M.readZ r s).1).rules).seeds := rp_ hE
 have hq2 : ((((M.puz r ((M.readP r ((M.cutS s ([32, 100, 101, 112, 116, 104, 32] : List UInt8)).1)).1) ((M.num ((M.cutS s ([32, 100, 101, 112, 116, 104, 32] : List UInt8)).2.1)).1)).1).rules).stores) = (((M.readZ r s).1).rules).stores := rp_ hE
 have hq3 : ((((M.puz r ((M.readP r ((M.cutS s ([32, 100, 101, 112, 116, 104, 32] : List UInt8)).1)).1) ((M.num ((M.cutS s ([32, 100, 101, 112, 116, 104, 32] : List UInt8)).2.1)).1)).1).rules).skip) = (((M.readZ r s).1).rules).skip := rp_ hE
 have hq4 : ((((M.puz r ((M.readP r ((M.cutS s ([32, 100, 101, 112, 116, 104, 32] : List UInt8)).1)).1) ((M.num ((M.cutS s ([32, 100, 101, 112, 116, 104, 32] : List UInt8)).2.1)).1)).1).rules).relay) = (((M.readZ r s).1).rules).relay := rp_ hE
 have hq5 : ((((M.puz r ((M.readP r ((M.cutS s ([32, 100, 101, 112, 116, 104, 32] : List UInt8)).1)).1) ((M.num ((M.cutS s ([32, 100, 101, 112, 116, 104, 32] : List UInt8)).2.1)).1)).1).rules).feed) = (((M.readZ r s).1).rules).feed := rp_ hE
 have hq6 : ((((M.puz r ((M.readP r ((M.cutS s ([32, 100, 101, 112, 116, 104, 32] : List UInt8)).1)).1) ((M.num ((M.cutS s ([32, 100, 101, 112, 116, 104, 32] : List UInt8)).2.1)).1)).1).rules).again) = (((M.readZ r s).1).rules).again := rp_ hE
 have hq7 : ((((M.puz r ((M.readP r ((M.cutS s ([32, 100, 101, 112, 116, 104, 32] : List UInt8)).1)).1) ((M.num ((M.cutS s ([32, 100, 101, 112, 116, 104, 32] : List UInt8)).2.1)).1)).1).rules).capture) = (((M.readZ r s).1).rules).capture := rp_ hE
 have hq8 : ((((M.puz r ((M.readP r ((M.cutS s ([32, 100, 101, 112, 116, 104, 32] : List UInt8)).1)).1) ((M.num ((M.cutS s ([32, 100, 101, 112, 116, 104, 32] : List UInt8)).2.1)).1)).1).rules).slam) = (((M.readZ r s).1).rules).slam := rp_ hE
 have hq9 : ((((M.puz r ((M.readP r ((M.cutS s ([32, 100, 101, 112, 116, 104, 32] : List UInt8)).1)).1) ((M.num ((M.cutS s ([32, 100, 101, 112, 116, 104, 32] : List UInt8)).2.1)).1)).1).position).pits) = (((M.readZ r s).1).position).pits := rp_ hE
 have hq10 : ((((M.puz r ((M.readP r ((M.cutS s ([32, 100, 101, 112, 116, 104, 32] : List UInt8)).1)).1) ((M.num ((M.cutS s ([32, 100, 101, 112, 116, 104, 32] : List UInt8)).2.1)).1)).1).position).stores) = (((M.readZ r s).1).position).stores := rp_ hE
 have hq11 : ((((M.puz r ((M.readP r ((M.cutS s ([32, 100, 101, 112, 116, 104, 32] : List UInt8)).1)).1) ((M.num ((M.cutS s ([32, 100, 101, 112, 116, 104, 32] : List UInt8)).2.1)).1)).1).position).player) = (((M.readZ r s).1).position).player := rp_ hE
 have hq12 : (((M.puz r ((M.readP r ((M.cutS s ([32, 100, 101, 112, 116, 104, 32] : List UInt8)).1)).1) ((M.num ((M.cutS s ([32, 100, 101, 112, 116, 104, 32] : List UInt8)).2.1)).1)).1).depth) = ((M.readZ r s).1).depth := rp_ hE
 have hq13 : (((M.puz r ((M.readP r ((M.cutS s ([32, 100, 101, 112, 116, 104, 32] : List UInt8)).1)).1) ((M.num ((M.cutS s ([32, 100, 101, 112, 116, 104, 32] : List UInt8)).2.1)).1)).1).move) = ((M.readZ r s).1).move := rp_ hE
 have hq14 : (((M.puz r ((M.readP r ((M.cutS s ([32, 100, 101, 112, 116, 104, 32] : List UInt8)).1)).1) ((M.num ((M.cutS s ([32, 100, 101, 112, 116, 104, 32] : List UInt8)).2.1)).1)).1).value) = ((M.readZ r s).1).value := rp_ hE
 have hq15 : (((M.puz r ((M.readP r ((M.cutS s ([32, 100, 101, 112, 116, 104, 32] : List UInt8)).1)).1) ((M.num ((M.cutS s ([32, 100, 101, 112, 116, 104, 32] : List UInt8)).2.1)).1)).1).margin) = ((M.readZ r s).1).margin := rp_ hE
 have hq16 : (decide ((M.puz r ((M.readP r ((M.cutS s ([32, 100, 101, 112, 116, 104, 32] : List UInt8)).1)).1) ((M.num ((M.cutS s ([32, 100, 101, 112, 116, 104, 32] : List UInt8)).2.1)).1)).2 = 0)) = (M.readZ r s).2 := rp_ hE
 refine Qm rfl <| Qx rfl rfl <| Qx rfl rfl <| za zeh fun b13 => zw 0 rfl rfl rfl ?_
 refine Qa rfl <| zN <| Q9 0 rfl rfl ?_
 refine Qm rfl <| Qe rfl rfl <| zw 6 rfl rfl rfl ?_
 refine Qa rfl <| JL.nil ?_
 exact zro (Up.refl _ _)
theorem c_spec_l01Split (t : List UInt8) (b : Int) {w : World} (r0 : t.length ≤ 4194304 := by exact om_) (r1 : 0 ≤ b := by exact om_) (r2 : b ≤ 255 := by exact om_) : Ret Tryz.prog 52 [.string (sB t), .int .u8 b] w (Ty.strs 9 (M.split (M.u8 b) t)) := by
 refine enter @Tryz.func52 @Tryz.ntmps52 rfl rfl ?_
 refine zent ?_
 refine zS <| Qa rfl <| zN <| zbs fun b1 => ?_
 refine Qa rfl <| zN <| Qa rfl <| zJ <| zS <| Qa rfl <| JL.nil <| Js.block ?_
 refine zl [0, 1] (fun F U l os u m => ∃ (k f : Nat) (out : List (List UInt8)) (A3_5 : Option Addr) (c3_5 : Nat) (g3_5 : List Nat), l = F [(5, .slice A3_5 out.length c3_5), (6, .int .i64 (f : Int)), (7, .int .i64 (k : Int))] ∧ os = U [some (rowO 9 1 (.slice A3_5 out.length c3_5) out.length (txs_ out) g3_5)] ∧ (M.SplI (M.u8 b) t f k out) ∧ (k ≤ t.length) ∧ (out.length ≤ c3_5) ∧ (c3_5 ≤ 9223372036854775807) ∧ m = t.length - k) ⟨0, 0, [], _, _, _, rfl, rfl, by exact M.SplI.zero _ _, zt, zu, zu, rfl⟩ ?_
 rintro _ _ u3 _ ⟨k, f, out, A3_5, c3_5, g3_5, rfl, rfl, hS, hk, f3_2, f3_3, rfl⟩ x3
 refine zn ?_
 have hl1 := hS.l
 have hl2 := hS.len
 have hl3 := M.split_len (M.u8 b) t
 refine Js.seq <| zS <| Qm rfl <| Qm rfl <| Qq (p_lenS und_9 rfl) <| Ql rfl rfl <| JL.nil ?_
 refine zi (fun h4 h4' => ?_) fun h4 h4' => ?_
 ·
  have hbt5 := M.bat_bd t k
  refine Js.skip <| Js.seq <| Js.block <| zS <| Qm rfl <| Qm rfl <| Qq (p_byteS (i := k) und_9 rfl rfl (by omega)) <| Qm rfl <| Qe rfl rfl <| JL.nil ?_
  refine zi (fun h6 h6' => ?_) fun h6 h6' => ?_
  ·
   have hS2 := hS.hit (b := b) (by omega) (by simpa using h6)
   refine zS <| Qm rfl <| Qm rfl <| Qm rfl <| Qm rfl <| Qq (p_midS (i := f) (j := k) und_9 rfl rfl rfl (by omega) (by omega)) <| zbs fun b7 => ?_
   refine JL.e (e_append (i := 1) (n' := (out ++ [(t.drop f).take (k - f)]).length) (vs' := txs_ (out ++ [(t.drop f).take (k - f)])) el_50 rfl rfl rfl rfl (src_row (i := 0) und_50 rfl rfl) (by omega) (by omega) ln2_ (by first | rfl | (simp [txs_]; done))) ?_
   rintro v9 _ _ ⟨⟨g10, rfl⟩, rfl⟩ _
   refine JL.fact (row_form' (i := 1) rfl) (fun hf11 => ?_)
   obtain ⟨A11, c11, rfl, bl11, bh11⟩ := hf11
   refine znl ?_
   refine Qa rfl <| zG <| Qm rfl <| Qp rfl rfl <| Qa rfl <| JL.nil <| Js.blockEnd <| Js.region <| Qm rfl <| Qp rfl rfl <| Qa rfl <| JL.nil ?_
   refine zd [1] rfl fun u12 x12 => ?_
   exact zag ⟨k + 1, k + 1, out ++ [(t.drop f).take (k - f)], _, _, _, rfl, rfl, by exact hS2, zt, zu, zu, rfl⟩ (x3.trans x12)
  have hS2 := hS.miss (b := b) (by omega) r1 r2 (by simpa using h6)
  refine Js.skip <| Js.blockEnd <| Js.region <| Qm rfl <| Qp rfl rfl <| Qa rfl <| JL.nil ?_
  exact zag ⟨k + 1, f, out, _, _, _, rfl, rfl, by exact hS2, zt, zu, zu, rfl⟩ x3
 have hE := hS.done (by have := h4'; omega)
 have hl1 := hS.l
 have hl2 := hS.len
 have hl3 := M.split_len (M.u8 b) t
 refine zx ?_
 refine zS <| Qm rfl <| Qm rfl <| Qm rfl <| Qq (p_dropS (i := f) und_9 rfl rfl (by omega)) <| zbs fun b13 => ?_
 refine JL.e (e_append (i := 1) (n' := (out ++ [t.drop f]).length) (vs' := txs_ (out ++ [t.drop f])) el_50 rfl rfl rfl rfl (src_row (i := 0) und_50 rfl rfl) (by omega) (by omega) ln2_ (by first | rfl | (simp [txs_]; done))) ?_
 rintro v15 _ _ ⟨⟨g16, rfl⟩, rfl⟩ _
 refine JL.fact (row_form' (i := 1) rfl) (fun hf17 => ?_)
 obtain ⟨A17, c17, rfl, bl17, bh17⟩ := hf17
 refine znl ?_
 have hq0 : (out ++ [t.drop f]) = M.split (M.u8 b) t := by exact hE
 refine Qa rfl <| JL.nil ?_
 exact zro x3 (g := by exact (gv_strsE (ys := out ++ [t.drop f]) po_ (by assumption) (by rfl)))
theorem c_spec_l01Digit (c : Int) {w : World}  : RetV Tryz.prog 102 [.int .u8 c] w (.bool (M.isDig c)) := by
 refine enter @Tryz.func102 @Tryz.ntmps102 rfl rfl ?_
 refine zent ?_
 refine zS <| Qa rfl <| zN <| Qm rfl <| Qh rfl rfl <| Qm rfl <| zg (Gd.t1 rfl rfl rfl) (fun hc => p_move rfl) <| zg (Gd.t1 rfl rfl rfl) (fun hc => p_leq (gh hc rfl) rfl) <| Qq (p_pickAnd rfl rfl rfl) <| Qa rfl <| JL.nil ?_
 exact zr (Up.refl _ _)
theorem c_spec_l01Number (t : List UInt8) {w : World} (r0 : t.length ≤ 4194304 := by exact om_) : RetV Tryz.prog 54 [.string (sB t)] w (.tuple #[.int .i64 ((M.num t).1), .bool ((M.num t).2)]) := by
 refine enter @Tryz.func54 @Tryz.ntmps54 rfl rfl ?_
 refine zent ?_
 have hbt1 := M.bat_bd t 0
 refine zS <| Qa rfl <| Qa rfl <| zN <| Qm rfl <| Qa rfl <| zJ <| zS <| Qm rfl <| Qq (p_neqT und_9 rfl rfl) <| Qm rfl <| zg (Gd.t1 rfl rfl rfl) (fun hc => p_move rfl) <| zg (Gd.t1 rfl rfl rfl) (fun hc => p_byteS (i := 0) und_9 (gh hc rfl) rfl (by first | have hc9 := hc; (try simp only [Bool.not_eq_true', decide_eq_false_iff_not] at hc9); omega | (have h9 := List.length_pos_iff.2 (by simpa using hc); omega))) ?_
 refine zg (Gd.t1 rfl rfl rfl) (fun hc => p_eql (gh hc rfl) rfl) <| Qq (p_pickAnd rfl rfl rfl) <| JL.nil ?_
 refine zi (fun h2 h2' => ?_) fun h2 h2' => ?_
 ·
  have hT : M.numT t = t.drop 1 := by have h9 := h2; simp at h9; exact M.numT_y h9.1 h9.2
  have hln : 1 ≤ t.length := by have h9 := h2; simp at h9; exact List.length_pos_iff.2 h9.1
  refine Js.region <| Qm rfl <| Qq (p_dropS (i := 1) und_9 rfl rfl (by omega)) <| Qa rfl <| zJ <| zS <| Qm rfl <| Qq (p_lenS und_9 rfl) <| Ql rfl rfl <| Qm rfl <| zg (Gd.f1 rfl rfl rfl) (fun hc => p_move rfl) <| zg (Gd.f1 rfl rfl rfl) (fun hc => p_lenS und_9 (gh hc rfl)) <| zg (Gd.f1 rfl rfl rfl) (fun hc => p_gtr (gh hc rfl) rfl) <| Qq (p_pickOr rfl rfl rfl) ?_
  refine JL.nil ?_
  refine zi (fun h3 h3' => ?_) fun h3 h3' => ?_
  ·
   have hE := M.num_len (s := t) (by rw [hT]; have h9 := h3; simp at h9; omega)
   refine zS <| Qa rfl <| Qa rfl <| JL.nil ?_
   refine zR (Up.refl _ _) ?_
   first | (rw [hE]; rfl) | (rw [hE, hS]; rfl)
  have hl9 : ¬ ((M.numT t).length < 1 ∨ 18 < (M.numT t).length) := by rw [hT]; have h9 := h3; simp at h9; omega
  refine Js.skip <| zS <| Qa rfl <| zJ <| zS <| Qa rfl <| JL.nil <| Js.block ?_
  refine zl [0, 4] (fun F U l os u m => ∃ (k : Nat) (n : Int), l = F [(5, .int .i64 n), (6, .int .i64 (k : Int))] ∧ os = U [] ∧ (n = M.numN (M.numT t) k) ∧ (M.Digs (M.numT t) k) ∧ (k ≤ (M.numT t).length) ∧ m = (M.numT t).length - k) ⟨0, 0, rfl, rfl, by rfl, by exact M.Digs.zero _, zt, rfl⟩ ?_
  rintro _ _ u4 _ ⟨k, n, rfl, rfl, hN, hD, hk, rfl⟩ x4
  refine zn ?_
  obtain ⟨n1, n2⟩ := M.numN_18 hD (by omega)
  rw [← hN] at n1 n2
  refine Js.seq <| zS <| Qm rfl <| Qm rfl <| Qq (p_lenS und_9 rfl) <| Ql rfl rfl <| JL.nil ?_
  refine zi (fun h5 h5' => ?_) fun h5 h5' => ?_
  ·
   have hkk : k < (M.numT t).length := by rw [hT]; have := h5'; omega
   obtain ⟨n3, n4⟩ := M.numN_17 hD (by omega)
   rw [← hN] at n3 n4
   have hbt6 := M.bat_bd (t.drop 1) k
   refine Js.skip <| Js.seq <| Js.block <| Js.seq <| zS <| Qm rfl <| Qm rfl <| Qq (p_byteS (i := k) und_9 rfl rfl (by omega)) <| zv rfl (fun w hw => c_spec_l01Digit (M.bat (t.drop 1) k)) <| Qt rfl <| JL.nil ?_
   refine zi (fun h7 h7' => ?_) fun h7 h7' => ?_
   ·
    have hE := M.num_dig (M.digs_no hkk (by rw [hT]; simpa using h7))
    refine zS <| Qa rfl <| Qa rfl <| JL.nil ?_
    refine zR x4 ?_
    first | (rw [hE]; rfl) | (rw [hE, hS]; rfl)
   have hd : M.isDig (M.bat (M.numT t) k) = true := by rw [hT]; simpa using h7
   have hD2 := hD.step hd
   obtain ⟨d1, d2⟩ := M.dig_bd hd
   rw [hT] at d1 d2
   have hbt8 := M.bat_bd (t.drop 1) k
   refine Js.skip <| Js.region <| Qm rfl <| Qu rfl rfl <| Qm rfl <| Qm rfl <| Qq (p_byteS (i := k) und_9 rfl rfl (by omega)) <| Qq (p_sub rfl rfl (IntWalk.u8_in _ (by omega))) <| Qq (p_conv @Tryz.underlying5 @Tryz.underlying2 rfl (IntWalk.i64_in _ (by omega))) <| Qp rfl rfl <| Qa rfl <| JL.nil <| Js.blockEnd <| Js.region ?_
   refine Qm rfl <| Qp rfl rfl <| Qa rfl <| JL.nil ?_
   exact zag ⟨k + 1, (10 * n) + ((M.bat (t.drop 1) k) - 48), rfl, rfl, by rw [hN, M.numN, hT], by exact hD2, zt, rfl⟩ x4
  have hke : k = (M.numT t).length := Nat.le_antisymm hk (by rw [hT]; have := h5'; omega)
  have hdg := M.digs_yes hD (by omega)
  rw [hke] at hN
  refine zx ?_
  refine Js.seq <| zS <| Qm rfl <| Qq (p_lenS und_9 rfl) <| Qm rfl <| Qq (p_lenS und_9 rfl) <| Ql rfl rfl <| JL.nil ?_
  refine zi (fun h9 h9' => ?_) fun h9 h9' => ?_
  ·
   have hS : M.numS t = -n := by rw [hN]; exact M.numS_neg (by rw [hT]; have := h9'; omega)
   refine Js.region <| Qm rfl <| Qq (p_neg (r := -n) rfl (by rw [Int.zero_sub]; exact IntWalk.i64_in _ (by omega))) <| Qa rfl <| zJ <| zS <| Qm rfl <| zv rfl (fun w hw => c_spec_l01Dec (-n)) <| Qm rfl <| Qq (p_neqT und_9 rfl rfl) <| JL.nil ?_
   refine zi (fun h10 h10' => ?_) fun h10 h10' => ?_
   ·
    have hE := M.num_no (s := t) (by rw [hS]; simpa using h10)
    refine zS <| Qa rfl <| Qa rfl <| JL.nil ?_
    refine zR x4 ?_
    first | (rw [hE]; rfl) | (rw [hE, hS]; rfl)
   have hE := M.num_yes hl9 hdg (by rw [hS]; simpa using h10)
   refine Js.skip <| zS <| Qm rfl <| Qa rfl <| Qa rfl <| JL.nil ?_
   refine zR x4 ?_
   first | (rw [hE]; rfl) | (rw [hE, hS]; rfl)
  have hS : M.numS t = n := by rw [hN]; exact M.numS_pos (by rw [hT]; have := h9'; omega)
  refine Js.skip <| Js.seq <| zS <| Qm rfl <| zv rfl (fun w hw => c_spec_l01Dec n) <| Qm rfl <| Qq (p_neqT und_9 rfl rfl) <| JL.nil ?_
  refine zi (fun h11 h11' => ?_) fun h11 h11' => ?_
  ·
   have hE := M.num_no (s := t) (by rw [hS]; simpa using h11)
   refine zS <| Qa rfl <| Qa rfl <| JL.nil ?_
   refine zR x4 ?_
   first | (rw [hE]; rfl) | (rw [hE, hS]; rfl)
  have hE := M.num_yes hl9 hdg (by rw [hS]; simpa using h11)
  refine Js.skip <| zS <| Qm rfl <| Qa rfl <| Qa rfl <| JL.nil ?_
  refine zR x4 ?_
  first | (rw [hE]; rfl) | (rw [hE, hS]; rfl)
 have hT : M.numT t = t := M.numT_n (by have h9 := h2; simp at h9; intro ⟨a, b⟩; exact h9 a b)
 refine Js.skip <| Js.seq <| zS <| Qm rfl <| Qq (p_lenS und_9 rfl) <| Ql rfl rfl <| Qm rfl <| zg (Gd.f1 rfl rfl rfl) (fun hc => p_move rfl) <| zg (Gd.f1 rfl rfl rfl) (fun hc => p_lenS und_9 (gh hc rfl)) <| zg (Gd.f1 rfl rfl rfl) (fun hc => p_gtr (gh hc rfl) rfl) <| Qq (p_pickOr rfl rfl rfl) <| JL.nil ?_
 refine zi (fun h12 h12' => ?_) fun h12 h12' => ?_
 ·
  have hE := M.num_len (s := t) (by rw [hT]; have h9 := h12; simp at h9; omega)
  refine zS <| Qa rfl <| Qa rfl <| JL.nil ?_
  refine zR (Up.refl _ _) ?_
  first | (rw [hE]; rfl) | (rw [hE, hS]; rfl)
 have hl9 : ¬ ((M.numT t).length < 1 ∨ 18 < (M.numT t).length) := by rw [hT]; have h9 := h12; simp at h9; omega
 refine Js.skip <| zS <| Qa rfl <| zJ <| zS <| Qa rfl <| JL.nil <| Js.block ?_
 refine zl [0, 4] (fun F U l os u m => ∃ (k : Nat) (n : Int), l = F [(5, .int .i64 n), (6, .int .i64 (k : Int))] ∧ os = U [] ∧ (n = M.numN (M.numT t) k) ∧ (M.Digs (M.numT t) k) ∧ (k ≤ (M.numT t).length) ∧ m = (M.numT t).length - k) ⟨0, 0, rfl, rfl, by rfl, by exact M.Digs.zero _, zt, rfl⟩ ?_
 rintro _ _ u13 _ ⟨k, n, rfl, rfl, hN, hD, hk, rfl⟩ x13
 refine zn ?_
 obtain ⟨n1, n2⟩ := M.numN_18 hD (by omega)
 rw [← hN] at n1 n2
 refine Js.seq <| zS <| Qm rfl <| Qm rfl <| Qq (p_lenS und_9 rfl) <| Ql rfl rfl <| JL.nil ?_
 refine zi (fun h14 h14' => ?_) fun h14 h14' => ?_
 ·
  have hkk : k < (M.numT t).length := by rw [hT]; have := h14'; omega
  obtain ⟨n3, n4⟩ := M.numN_17 hD (by omega)
  rw [← hN] at n3 n4
  have hbt15 := M.bat_bd t k
  refine Js.skip <| Js.seq <| Js.block <| Js.seq <| zS <| Qm rfl <| Qm rfl <| Qq (p_byteS (i := k) und_9 rfl rfl (by omega)) <| zv rfl (fun w hw => c_spec_l01Digit (M.bat t k)) <| Qt rfl <| JL.nil ?_
  refine zi (fun h16 h16' => ?_) fun h16 h16' => ?_
  ·
   have hE := M.num_dig (M.digs_no hkk (by rw [hT]; simpa using h16))
   refine zS <| Qa rfl <| Qa rfl <| JL.nil ?_
   refine zR x13 ?_
   first | (rw [hE]; rfl) | (rw [hE, hS]; rfl)
  have hd : M.isDig (M.bat (M.numT t) k) = true := by rw [hT]; simpa using h16
  have hD2 := hD.step hd
  obtain ⟨d1, d2⟩ := M.dig_bd hd
  rw [hT] at d1 d2
  have hbt17 := M.bat_bd t k
  refine Js.skip <| Js.region <| Qm rfl <| Qu rfl rfl <| Qm rfl <| Qm rfl <| Qq (p_byteS (i := k) und_9 rfl rfl (by omega)) <| Qq (p_sub rfl rfl (IntWalk.u8_in _ (by omega))) <| Qq (p_conv @Tryz.underlying5 @Tryz.underlying2 rfl (IntWalk.i64_in _ (by omega))) <| Qp rfl rfl <| Qa rfl <| JL.nil <| Js.blockEnd <| Js.region ?_
  refine Qm rfl <| Qp rfl rfl <| Qa rfl <| JL.nil ?_
  exact zag ⟨k + 1, (10 * n) + ((M.bat t k) - 48), rfl, rfl, by rw [hN, M.numN, hT], by exact hD2, zt, rfl⟩ x13
 have hke : k = (M.numT t).length := Nat.le_antisymm hk (by rw [hT]; have := h14'; omega)
 have hdg := M.digs_yes hD (by omega)
 rw [hke] at hN
 refine zx ?_
 refine Js.seq <| zS <| Qm rfl <| Qq (p_lenS und_9 rfl) <| Qm rfl <| Qq (p_lenS und_9 rfl) <| Ql rfl rfl <| JL.nil ?_
 refine zi (fun h18 h18' => ?_) fun h18 h18' => ?_
 ·
  have hS : M.numS t = -n := by rw [hN]; exact M.numS_neg (by rw [hT]; have := h18'; omega)
  refine Js.region <| Qm rfl <| Qq (p_neg (r := -n) rfl (by rw [Int.zero_sub]; exact IntWalk.i64_in _ (by omega))) <| Qa rfl <| zJ <| zS <| Qm rfl <| zv rfl (fun w hw => c_spec_l01Dec (-n)) <| Qm rfl <| Qq (p_neqT und_9 rfl rfl) <| JL.nil ?_
  refine zi (fun h19 h19' => ?_) fun h19 h19' => ?_
  ·
   have hE := M.num_no (s := t) (by rw [hS]; simpa using h19)
   refine zS <| Qa rfl <| Qa rfl <| JL.nil ?_
   refine zR x13 ?_
   first | (rw [hE]; rfl) | (rw [hE, hS]; rfl)
  have hE := M.num_yes hl9 hdg (by rw [hS]; simpa using h19)
  refine Js.skip <| zS <| Qm rfl <| Qa rfl <| Qa rfl <| JL.nil ?_
  refine zR x13 ?_
  first | (rw [hE]; rfl) | (rw [hE, hS]; rfl)
 have hS : M.numS t = n := by rw [hN]; exact M.numS_pos (by rw [hT]; have := h18'; omega)
 refine Js.skip <| Js.seq <| zS <| Qm rfl <| zv rfl (fun w hw => c_spec_l01Dec n) <| Qm rfl <| Qq (p_neqT und_9 rfl rfl) <| JL.nil ?_
 refine zi (fun h20 h20' => ?_) fun h20 h20' => ?_
 ·
  have hE := M.num_no (s := t) (by rw [hS]; simpa using h20)
  refine zS <| Qa rfl <| Qa rfl <| JL.nil ?_
  refine zR x13 ?_
  first | (rw [hE]; rfl) | (rw [hE, hS]; rfl)
 have hE := M.num_yes hl9 hdg (by rw [hS]; simpa using h20)
 refine Js.skip <| zS <| Qm rfl <| Qa rfl <| Qa rfl <| JL.nil ?_
 refine zR x13 ?_
 first | (rw [hE]; rfl) | (rw [hE, hS]; rfl)
theorem c_spec_l04Numbers (s : List UInt8) {w : World} (r0 : s.length ≤ 4194304 := by exact om_) : Ret Tryz.prog 146 [.string (sB s)] w (Ty.tup [Ty.ints 2 ((M.nums s).1), Ty.bool ((M.nums s).2)]) := by
 refine enter @Tryz.func146 @Tryz.ntmps146 rfl rfl ?_
 refine zent ?_
 refine zS <| Qa rfl <| Qa rfl <| zN <| zbs fun b1 => ?_
 refine Qa rfl <| zN <| Qm rfl <| zp rfl (fun w hw => c_spec_l01Split s 44) ?_
 intro u3 x3 A4 c4 h4 bl4 bh4
 refine Qa rfl <| zJ <| zS <| Qa rfl <| JL.nil <| Js.block ?_
 refine zl [5] (fun F U l os u m => ∃ (k : Nat) (out : List Int) (A5_4 : Option Addr) (c5_4 : Nat) (g5_4 : List Nat), l = F [(4, .slice A5_4 out.length c5_4), (6, .int .i64 (k : Int))] ∧ os = U [some (rowO 2 1 (.slice A5_4 out.length c5_4) out.length (ints_ out) g5_4)] ∧ (out = M.numsV ((M.split (M.u8 44) s).take k)) ∧ (M.numsOk ((M.split (M.u8 44) s).take k) = true) ∧ (k ≤ (M.split (M.u8 44) s).length) ∧ (out.length = k) ∧ (out.length ≤ c5_4) ∧ (c5_4 ≤ 9223372036854775807) ∧ m = (M.split (M.u8 44) s).length - k) ⟨0, [], _, _, _, rfl, rfl, by rfl, by rfl, zt, by rfl, zu, zu, rfl⟩ ?_
 rintro _ _ u5 _ ⟨k, out, A5_4, c5_4, g5_4, rfl, rfl, hO, hK, hk, hl, f5_4, f5_5, rfl⟩ x5
 refine zn ?_
 have hl3 := M.split_len (M.u8 44) s
 refine Js.seq <| zS <| Qm rfl <| Qm rfl <| Qz rfl <| Ql rfl rfl <| JL.nil ?_
 refine zi (fun h6 h6' => ?_) fun h6 h6' => ?_
 ·
  obtain ⟨ye7, hye7⟩ : ∃ x, (M.split (M.u8 44) s)[k]? = some x := ⟨_, List.getElem?_eq_getElem (by omega)⟩
  have hY : (M.split (M.u8 44) s)[k]? = some ye7 := hye7
  have hw9 := M.split_mem 44 s ye7 (List.mem_of_getElem? hY)
  have hy8 := hye7
  obtain ⟨b8, o8, he8, hc8⟩ := strs_elem (Ty.mono _ h4 x5.vis) hy8
  refine Js.skip <| Js.seq <| Js.block <| zS <| Qm rfl <| Qm rfl <| Qq (p_indexAddr el_50 rfl rfl (by omega) (by omega) he8) <| QC hc8 rfl <| zv rfl (fun w hw => c_spec_l01Number ye7) <| Qm rfl <| Qx rfl rfl <| Qx rfl rfl <| Qa rfl <| Qa rfl ?_
  refine zJ <| zS <| Qm rfl <| Qt rfl <| JL.nil ?_
  refine zi (fun h9 h9' => ?_) fun h9 h9' => ?_
  ·
   have hE := M.nums_no (M.numsOk_no hY (by simpa using h9))
   have hq0 : [] = (M.nums s).1 := by first | (rw [hE]; done)
   have hq1 : false = (M.nums s).2 := by first | (rw [hE]; done)
   refine zS <| Qa rfl <| Qa rfl <| JL.nil ?_
   exact zro (x3.trans x5)
  have hn9 : (M.num ye7).2 = true := by simpa using h9
  refine Js.skip <| Js.region <| Qm rfl <| Qm rfl <| zbs fun b10 => ?_
  refine JL.e (e_append (i := 1) (n' := (out ++ [((M.num ye7).1)]).length) (vs' := ints_ (out ++ [((M.num ye7).1)])) el_26 rfl rfl rfl rfl (src_row (i := 0) und_26 rfl rfl) (by omega) (by omega) ln2_ (by simp [ints_])) ?_
  rintro v12 _ _ ⟨⟨g13, rfl⟩, rfl⟩ _
  refine JL.fact (row_form' (i := 1) rfl) (fun hf14 => ?_)
  obtain ⟨A14, c14, rfl, bl14, bh14⟩ := hf14
  refine znl ?_
  refine Qa rfl <| JL.nil <| Js.blockEnd <| Js.region <| Qm rfl <| Qp rfl rfl <| Qa rfl <| JL.nil ?_
  refine zd [1] rfl fun u15 x15 => ?_
  exact zag ⟨k + 1, out ++ [((M.num ye7).1)], _, _, _, rfl, rfl, by exact M.nums_step hO hY, by exact M.numsOk_step hK hY hn9, zt, by simp [hl], zu, zu, rfl⟩ (x5.trans x15)
 have hE := M.nums_end hK hO (by have h9 := h6'; exact Int.ofNat_le.1 h9)
 refine zx ?_
 have hq0 : out = (M.nums s).1 := by first | (rw [hE]; done)
 have hq1 : true = (M.nums s).2 := by first | (rw [hE]; done)
 refine zS <| Qm rfl <| Qa rfl <| Qa rfl <| JL.nil ?_
 exact zro (x3.trans x5)
theorem c_spec_l04Read (s : List UInt8) {w : World} (r0 : s.length ≤ 4000000 := by exact om_) : Ret Tryz.prog 100 [.string (sB s)] w (Ty.tup [Ty.agg (cPosition ((M.readP0 s).1)), Ty.bool ((M.readP0 s).2)]) := by
 refine enter @Tryz.func100 @Tryz.ntmps100 rfl rfl ?_
 refine zent ?_
 refine zS <| za zeh fun b1 => Qa rfl <| zN <| Qm rfl <| zp rfl (fun w hw => c_spec_l01Split s 32) ?_
 intro u2 x2 A3 c3 h3 bl3 bh3
 refine Qa rfl <| zJ <| zS <| Qm rfl <| Qz rfl <| Qd rfl rfl <| JL.nil ?_
 refine zi (fun h4 h4' => ?_) fun h4 h4' => ?_
 ·
  have hE := M.readP0_no (s := s) (fun h => by have h9 := h4'; have h8 : (M.split (M.u8 32) s).length = 3 := h.1; omega)
  have hq0 : [] = ((M.readP0 s).1).pits := rp_ hE
  have hq1 : [] = ((M.readP0 s).1).stores := rp_ hE
  have hq2 : 0 = ((M.readP0 s).1).player := rp_ hE
  have hq3 : false = (M.readP0 s).2 := rp_ hE
  refine zS <| Qb ?_
  refine zw 0 rfl rfl rfl ?_
  refine Qa rfl <| JL.nil ?_
  exact zro x2
 have hl3 : (M.split (M.u8 32) s).length = 3 := by have := h4'; omega
 have hw0 : (M.split (M.u8 32) s)[0]? = some (M.w3 s 0) := M.w3_get (s := s) (by exact (by omega : 0 < (M.split (M.u8 32) s).length))
 have hw1 : (M.split (M.u8 32) s)[1]? = some (M.w3 s 1) := M.w3_get (s := s) (by exact (by omega : 1 < (M.split (M.u8 32) s).length))
 have hw2 : (M.split (M.u8 32) s)[2]? = some (M.w3 s 2) := M.w3_get (s := s) (by exact (by omega : 2 < (M.split (M.u8 32) s).length))
 have q0 := M.w3_len (s := s) (i := 0)
 have q1 := M.w3_len (s := s) (i := 1)
 have q2 := M.w3_len (s := s) (i := 2)
 have hy5 := hw1
 obtain ⟨b5, o5, he5, hc5⟩ := strs_elem h3 hy5
 refine Js.skip <| zS <| Qm rfl <| Qq (p_indexAddr el_50 rfl rfl (by omega) (by omega) he5) <| QC hc5 rfl <| zp rfl (fun w hw => c_spec_l01Split (M.w3 s 1) 47) ?_
 intro u6 x6 A7 c7 h7 bl7 bh7
 refine Qa rfl <| zJ <| zS <| Qm rfl <| Qz rfl <| Qd rfl rfl <| JL.nil ?_
 refine zi (fun h8 h8' => ?_) fun h8 h8' => ?_
 ·
  have hE := M.readP0_no (s := s) (fun h => by have h9 := h8'; have h8 : (M.split (M.u8 47) (M.w3 s 1)).length = 2 := h.2.1; omega)
  have hq0 : [] = ((M.readP0 s).1).pits := rp_ hE
  have hq1 : [] = ((M.readP0 s).1).stores := rp_ hE
  have hq2 : 0 = ((M.readP0 s).1).player := rp_ hE
  have hq3 : false = (M.readP0 s).2 := rp_ hE
  refine zS <| Qb ?_
  refine zw 0 rfl rfl rfl ?_
  refine Qa rfl <| JL.nil ?_
  exact zro (x2.trans x6)
 have hl2 : (M.split (M.u8 47) (M.w3 s 1)).length = 2 := by have := h8'; omega
 have q10 := M.x2_sum (s := s) hl2
 have hx0 : (M.split (M.u8 47) (M.w3 s 1))[0]? = some (M.x2 s 0) := M.x2_get (s := s) (by exact (by omega : 0 < (M.split (M.u8 47) (M.w3 s 1)).length))
 have hx1 : (M.split (M.u8 47) (M.w3 s 1))[1]? = some (M.x2 s 1) := M.x2_get (s := s) (by exact (by omega : 1 < (M.split (M.u8 47) (M.w3 s 1)).length))
 have q3 := M.x2_len (s := s) (i := 0)
 have q4 := M.x2_len (s := s) (i := 1)
 have q5 := M.nums_len (M.x2 s 0)
 have q6 := M.nums_len (M.x2 s 1)
 have q7 := M.nums_len (M.w3 s 2)
 have q9 : ((M.nums (M.x2 s 0)).1 ++ (M.nums (M.x2 s 1)).1).length ≤ 4194304 := by rw [List.length_append]; omega
 have hy9 := hw0
 obtain ⟨b9, o9, he9, hc9⟩ := strs_elem (Ty.mono _ h3 x6.vis) hy9
 have hy10 := hx0
 obtain ⟨b10, o10, he10, hc10⟩ := strs_elem h7 hy10
 refine Js.skip <| zS <| Qm rfl <| Qq (p_indexAddr el_50 rfl rfl (by omega) (by omega) he9) <| QC hc9 rfl <| zv rfl (fun w hw => c_spec_l01Number (M.w3 s 0)) <| Qm rfl <| Qx rfl rfl <| Qx rfl rfl <| Qa rfl <| Qa rfl <| zN <| Qm rfl <| Qq (p_indexAddr el_50 rfl rfl (by omega) (by omega) he10) ?_
 refine QC hc10 rfl <| zcs rfl (fun w hw => c_spec_l04Numbers (M.x2 s 0)) ?_
 intro A12 c12 bl12 bh12
 have hy13 := hx1
 obtain ⟨b13, o13, he13, hc13⟩ := strs_elem h7 hy13
 refine Qm rfl <| Qx rfl rfl <| Qx rfl rfl <| Qa rfl <| Qa rfl <| zN <| Qm rfl <| Qq (p_indexAddr el_50 rfl rfl (by omega) (by omega) he13) <| QC hc13 rfl <| zcs rfl (fun w hw => c_spec_l04Numbers (M.x2 s 1)) ?_
 intro A15 c15 bl15 bh15
 have hy16 := hw2
 obtain ⟨b16, o16, he16, hc16⟩ := strs_elem (Ty.mono _ h3 x6.vis) hy16
 refine Qm rfl <| Qx rfl rfl <| Qx rfl rfl <| Qa rfl <| Qa rfl <| zN <| Qm rfl <| Qq (p_indexAddr el_50 rfl rfl (by omega) (by omega) he16) <| QC hc16 rfl <| zcs rfl (fun w hw => c_spec_l04Numbers (M.w3 s 2)) ?_
 intro A18 c18 bl18 bh18
 refine Qm rfl <| Qx rfl rfl <| Qx rfl rfl <| Qa rfl <| Qa rfl <| zJ <| zS <| Qm rfl <| Qt rfl <| Qm rfl <| zg (Gd.f1 rfl rfl rfl) (fun hc => p_move rfl) <| zg (Gd.f1 rfl rfl rfl) (fun hc => p_not (gh hc rfl)) <| Qq (p_pickOr rfl rfl rfl) <| Qm rfl ?_
 refine zg (Gd.f1 rfl rfl rfl) (fun hc => p_move rfl) <| zg (Gd.f1 rfl rfl rfl) (fun hc => p_not (gh hc rfl)) <| Qq (p_pickOr rfl rfl rfl) <| Qm rfl <| zg (Gd.f1 rfl rfl rfl) (fun hc => p_move rfl) <| zg (Gd.f1 rfl rfl rfl) (fun hc => p_not (gh hc rfl)) <| Qq (p_pickOr rfl rfl rfl) <| Qm rfl <| zg (Gd.f1 rfl rfl rfl) (fun hc => p_move rfl) <| zg (Gd.f1 rfl rfl rfl) (fun hc => p_len el_26 (gh hc rfl)) <| zg (Gd.f1 rfl rfl rfl) (fun hc => p_move rfl) <| zg (Gd.f1 rfl rfl rfl) (fun hc => p_len el_26 (gh hc rfl)) <| zg (Gd.f1 rfl rfl rfl) (fun hc => p_neq (gh hc rfl) (gh hc rfl)) <| Qq (p_pickOr rfl rfl rfl) ?_
 refine JL.nil ?_
 refine zi (fun h19 h19' => ?_) fun h19 h19' => ?_
 ·
  have hE := M.readP0_no (s := s) (by rintro ⟨_, _, f1, f2, f3, f4, f5⟩; have h9 := h19; rw [f1, f2, f3, f4] at h9; simp at h9; omega)
  have hq0 : [] = ((M.readP0 s).1).pits := rp_ hE
  have hq1 : [] = ((M.readP0 s).1).stores := rp_ hE
  have hq2 : 0 = ((M.readP0 s).1).player := rp_ hE
  have hq3 : false = (M.readP0 s).2 := rp_ hE
  refine zS <| Qb ?_
  refine zw 3 rfl rfl rfl ?_
  refine Qa rfl <| JL.nil ?_
  exact zro (x2.trans x6)
 have hE := M.readP0_yes (s := s) (by have h9 := h19; simp only [Bool.or_eq_false_iff, Bool.not_eq_false', decide_eq_true_eq] at h9; exact ⟨hl3, hl2, h9.1.1.1.1, h9.1.1.1.2, h9.1.1.2, h9.1.2, by have := h9.2; omega⟩)
 refine Js.skip <| zS <| Qm rfl <| Qm rfl ?_
 refine JL.e (e_append (i := 2) (n' := (((M.nums (M.x2 s 0)).1) ++ ((M.nums (M.x2 s 1)).1)).length) (vs' := ints_ (((M.nums (M.x2 s 0)).1) ++ ((M.nums (M.x2 s 1)).1))) el_26 rfl rfl rfl rfl (src_rowH (i := 1) und_26 rfl (ints_one _)) (by omega) (by omega) ln2_ (by simp [ints_])) ?_
 rintro v20 _ _ ⟨⟨g21, rfl⟩, rfl⟩ _
 refine JL.fact (row_form' (i := 2) rfl) (fun hf22 => ?_)
 obtain ⟨A22, c22, rfl, bl22, bh22⟩ := hf22
 refine znl ?_
 have hq0 : (((M.nums (M.x2 s 0)).1) ++ ((M.nums (M.x2 s 1)).1)) = ((M.readP0 s).1).pits := rp_ hE
 have hq1 : ((M.nums (M.w3 s 2)).1) = ((M.readP0 s).1).stores := rp_ hE
 have hq2 : ((M.num (M.w3 s 0)).1) = ((M.readP0 s).1).player := rp_ hE
 have hq3 : true = (M.readP0 s).2 := rp_ hE
 refine Qm rfl <| Qm rfl <| Qb ?_
 refine zw 3 rfl rfl rfl ?_
 refine Qa rfl <| JL.nil ?_
 exact zro (x2.trans x6)
theorem c_spec_ReadPosition (r : M.Rul) {v_r : Value} (s : List UInt8) {w : World} (h_r : (Ty.agg (cRules r)).ok w v_r) (r0 : s.length ≤ 4000000 := by exact om_) : Ret Tryz.prog 53 [v_r, .string (sB s)] w (Ty.tup [Ty.agg (cPosition ((M.readP r s).1)), Ty.bool ((M.readP r s).2)]) := by
 have q1 := M.readP0_len s
 revert v_r; apply opn
 refine enter @Tryz.func53 @Tryz.ntmps53 rfl rfl ?_
 refine zent ?_
 refine zS <| zb rfl fun b1 => za zeh fun b2 => Qa rfl <| zN <| Qm rfl <| zc rfl (fun w hw => c_spec_l04Read s) ?_
 intro A5 c5 bl5 bh5 A6 c6 bl6 bh6
 refine Qm rfl <| Qx rfl rfl <| Qx rfl rfl <| za zeh fun b7 => zw 0 rfl rfl rfl ?_
 refine Qa rfl <| zJ <| zS <| Qm rfl <| Qt rfl <| Qm rfl <| zgv (Gd.f1 rfl rfl rfl) (fun hc => rfl) (fun hc => (fun w hw => c_spec_l04Ok r ((M.readP0 s).1) (ok_ hw) (ok_ hw) (r0 := (by have hc9 := hc; (try simp only [Bool.not_eq_true', Bool.not_eq_false'] at hc9); omega)) (r1 := (by have hc9 := hc; (try simp only [Bool.not_eq_true', Bool.not_eq_false'] at hc9); omega)))) ?_
 refine zg (Gd.f1 rfl rfl rfl) (fun hc => p_not (gh hc rfl)) <| Qq (p_pickOr rfl rfl rfl) <| JL.nil ?_
 refine zi (fun h8 h8' => ?_) fun h8 h8' => ?_
 ·
  have hE := M.readP_n (r := r) (s := s) (by rintro ⟨f1, f2⟩; have h9 := h8; rw [f1, f2] at h9; simp at h9)
  have hq0 : [] = ((M.readP r s).1).pits := rp_ hE
  have hq1 : [] = ((M.readP r s).1).stores := rp_ hE
  have hq2 : 0 = ((M.readP r s).1).player := rp_ hE
  have hq3 : false = (M.readP r s).2 := rp_ hE
  refine zS <| Qb ?_
  refine zw 3 rfl rfl rfl ?_
  refine Qa rfl <| JL.nil ?_
  exact zro (Up.refl _ _)
 have h8 : (M.readP0 s).2 = true ∧ M.okP r (M.readP0 s).1 = true := by have h9 := h8; simpa using h9
 have hE := M.readP_y h8.1 h8.2
 have hq0 : (((M.readP0 s).1).pits) = ((M.readP r s).1).pits := rp_ hE
 have hq1 : (((M.readP0 s).1).stores) = ((M.readP r s).1).stores := rp_ hE
 have hq2 : (((M.readP0 s).1).player) = ((M.readP r s).1).player := rp_ hE
 have hq3 : true = (M.readP r s).2 := rp_ hE
 refine Js.skip <| zS <| Q9 0 rfl rfl ?_
 refine zw 3 rfl rfl rfl ?_
 refine Qa rfl <| JL.nil ?_
 exact zro (Up.refl _ _)
theorem c_spec_ReadPuzzle (r : M.Rul) {v_r : Value} (s : List UInt8) {w : World} (h_r : (Ty.agg (cRules r)).ok w v_r) (r0 : s.length ≤ 1048576 := by exact om_) : Ret Tryz.prog 10 [v_r, .string (sB s)] w (Ty.tup [Ty.agg (cPuzzle ((M.readZ r s).1)), Ty.bool ((M.readZ r s).2)]) := by
 revert v_r; apply opn
 refine enter @Tryz.func10 @Tryz.ntmps10 rfl rfl ?_
 refine zent ?_
 refine zS <| zb rfl fun b1 => za zeh fun b2 => Qa rfl <| zN <| Qm rfl <| zp rfl (fun w hw => c_spec_l01Split s 32) ?_
 intro u3 x3 A4 c4 h4 bl4 bh4
 refine Qa rfl <| zJ <| Js.seq ?_
 rcases Bool.eq_false_or_eq_true (!decide ((((M.split (M.u8 32) s).length) : Int) = 5)) with h5 | h5
 ·
  refine Js.region <| Qm rfl <| Qz rfl <| Qd rfl rfl <| Qm rfl ?_
  refine JL.g (v := undef) (Gd.f1 rfl rfl rfl) (fun hc => absurd hc (by first | (rw [h5]; simp; done) | simp [h5])) ?_
  refine JL.g (v := undef) (Gd.f1 rfl rfl rfl) (fun hc => absurd hc (by first | (rw [h5]; simp; done) | simp [h5])) ?_
  refine JL.g (v := undef) (Gd.f1 rfl rfl rfl) (fun hc => absurd hc (by first | (rw [h5]; simp; done) | simp [h5])) ?_
  refine JL.g (v := .bool false) (Gd.f1 rfl rfl rfl) (fun hc => absurd hc (by first | (rw [h5]; simp; done) | simp [h5])) ?_
  refine Qq (p_pickOr rfl rfl rfl) <| JL.nil ?_
  refine zi (fun h6 h6' => ?_) fun h6 h6' => ?_
  ·
   have hE := M.readZ_no (r := r) (s := s) (M.zIn2_no (M.zIn2_bad (by rintro ⟨z1, z2⟩; have h9 := h6; have z3 : (M.split (M.u8 32) s).length = 5 := z1; simp [z3, z2] at h9)))
   have hq0 : 0 = (((M.readZ r s).1).rules).pits := by first | (rw [hE9]; done) | (rw [hE9]; rfl) | (rw [hE]; done) | (rw [hE]; rfl)
   have hq1 : 0 = (((M.readZ r s).1).rules).seeds := by first | (rw [hE9]; done) | (rw [hE9]; rfl) | (rw [hE]; done) | (rw [hE]; rfl)
   have hq2 : false = (((M.readZ r s).1).rules).stores := by first | (rw [hE9]; done) | (rw [hE9]; rfl) | (rw [hE]; done) | (rw [hE]; rfl)
   have hq3 : false = (((M.readZ r s).1).rules).skip := by first | (rw [hE9]; done) | (rw [hE9]; rfl) | (rw [hE]; done) | (rw [hE]; rfl)
   have hq4 : false = (((M.readZ r s).1).rules).relay := by first | (rw [hE9]; done) | (rw [hE9]; rfl) | (rw [hE]; done) | (rw [hE]; rfl)
   have hq5 : false = (((M.readZ r s).1).rules).feed := by first | (rw [hE9]; done) | (rw [hE9]; rfl) | (rw [hE]; done) | (rw [hE]; rfl)
   have hq6 : false = (((M.readZ r s).1).rules).again := by first | (rw [hE9]; done) | (rw [hE9]; rfl) | (rw [hE]; done) | (rw [hE]; rfl)
   have hq7 : 0 = (((M.readZ r s).1).rules).capture := by first | (rw [hE9]; done) | (rw [hE9]; rfl) | (rw [hE]; done) | (rw [hE]; rfl)
   have hq8 : 0 = (((M.readZ r s).1).rules).slam := by first | (rw [hE9]; done) | (rw [hE9]; rfl) | (rw [hE]; done) | (rw [hE]; rfl)
   have hq9 : [] = (((M.readZ r s).1).position).pits := by first | (rw [hE9]; done) | (rw [hE9]; rfl) | (rw [hE]; done) | (rw [hE]; rfl)
   have hq10 : [] = (((M.readZ r s).1).position).stores := by first | (rw [hE9]; done) | (rw [hE9]; rfl) | (rw [hE]; done) | (rw [hE]; rfl)
   have hq11 : 0 = (((M.readZ r s).1).position).player := by first | (rw [hE9]; done) | (rw [hE9]; rfl) | (rw [hE]; done) | (rw [hE]; rfl)
   have hq12 : 0 = ((M.readZ r s).1).depth := by first | (rw [hE9]; done) | (rw [hE9]; rfl) | (rw [hE]; done) | (rw [hE]; rfl)
   have hq13 : 0 = ((M.readZ r s).1).move := by first | (rw [hE9]; done) | (rw [hE9]; rfl) | (rw [hE]; done) | (rw [hE]; rfl)
   have hq14 : 0 = ((M.readZ r s).1).value := by first | (rw [hE9]; done) | (rw [hE9]; rfl) | (rw [hE]; done) | (rw [hE]; rfl)
   have hq15 : 0 = ((M.readZ r s).1).margin := by first | (rw [hE9]; done) | (rw [hE9]; rfl) | (rw [hE]; done) | (rw [hE]; rfl)
   have hq16 : false = (M.readZ r s).2 := by first | (rw [hE9]; done) | (rw [hE9]; rfl) | (rw [hE]; done) | (rw [hE]; rfl)
   refine zS <| Qb ?_
   refine zw 0 rfl rfl rfl ?_
   refine Qa rfl <| JL.nil ?_
   exact zro x3
  exact absurd (show (true || false) = false from by have h9 := h6; rw [h5] at h9; simp at h9) (by decide)
 have hl5 : (M.split (M.u8 32) s).length = 5 := by have h9 := h5; simp at h9; omega
 have hw0 : (M.split (M.u8 32) s)[0]? = some (M.w3 s 0) := M.w3_get (s := s) (by exact (by omega : 0 < (M.split (M.u8 32) s).length))
 have hw1 : (M.split (M.u8 32) s)[1]? = some (M.w3 s 1) := M.w3_get (s := s) (by exact (by omega : 1 < (M.split (M.u8 32) s).length))
 have hw2 : (M.split (M.u8 32) s)[2]? = some (M.w3 s 2) := M.w3_get (s := s) (by exact (by omega : 2 < (M.split (M.u8 32) s).length))
 have hw3 : (M.split (M.u8 32) s)[3]? = some (M.w3 s 3) := M.w3_get (s := s) (by exact (by omega : 3 < (M.split (M.u8 32) s).length))
 have hw4 : (M.split (M.u8 32) s)[4]? = some (M.w3 s 4) := M.w3_get (s := s) (by exact (by omega : 4 < (M.split (M.u8 32) s).length))
 have q0 := M.w3_len (s := s) (i := 0)
 have q1 := M.w3_len (s := s) (i := 1)
 have q2 := M.w3_len (s := s) (i := 2)
 have q3 := M.w3_len (s := s) (i := 3)
 have q4 := M.w3_len (s := s) (i := 4)
 have lb0 : LenB (M.w3 s 0) 1048576 := ⟨by omega⟩
 have lb1 : LenB (M.w3 s 1) 1048576 := ⟨by omega⟩
 have lb2 : LenB (M.w3 s 2) 1048576 := ⟨by omega⟩
 have hy7 := hw3
 obtain ⟨b7, o7, he7, hc7⟩ := strs_elem h4 hy7
 refine Js.region <| Qm rfl <| Qz rfl <| Qd rfl rfl <| Qm rfl <| zT (Gd.f1 rfl rfl rfl) (show (!(!decide ((((M.split (M.u8 32) s).length) : Int) = 5))) = true by first | exact h5 | (rw [h5]; rfl) | simp [h5]) <| Qm rfl <| zT (Gd.f1 rfl rfl rfl) (show (!(!decide ((((M.split (M.u8 32) s).length) : Int) = 5))) = true by first | exact h5 | (rw [h5]; rfl) | simp [h5]) <| Qq (p_indexAddr el_50 rfl rfl (by omega) (by omega) he7) <| zT (Gd.f1 rfl rfl rfl) (show (!(!decide ((((M.split (M.u8 32) s).length) : Int) = 5))) = true by first | exact h5 | (rw [h5]; rfl) | simp [h5]) <| QC hc7 rfl <| zT (Gd.f1 rfl rfl rfl) (show (!(!decide ((((M.split (M.u8 32) s).length) : Int) = 5))) = true by first | exact h5 | (rw [h5]; rfl) | simp [h5]) <| Qq (p_neqT und_9 rfl rfl) <| Qq (p_pickOr2 rfl rfl rfl) ?_
 refine JL.nil ?_
 refine zi (fun h8 h8' => ?_) fun h8 h8' => ?_
 ·
  have hE := M.readZ_no (r := r) (s := s) (M.zIn2_no (M.zIn2_bad (by rintro ⟨z1, z2⟩; have h9 := h8; have z3 : (M.split (M.u8 32) s).length = 5 := z1; simp [z3, z2] at h9)))
  have hq0 : 0 = (((M.readZ r s).1).rules).pits := by first | (rw [hE9]; done) | (rw [hE9]; rfl) | (rw [hE]; done) | (rw [hE]; rfl)
  have hq1 : 0 = (((M.readZ r s).1).rules).seeds := by first | (rw [hE9]; done) | (rw [hE9]; rfl) | (rw [hE]; done) | (rw [hE]; rfl)
  have hq2 : false = (((M.readZ r s).1).rules).stores := by first | (rw [hE9]; done) | (rw [hE9]; rfl) | (rw [hE]; done) | (rw [hE]; rfl)
  have hq3 : false = (((M.readZ r s).1).rules).skip := by first | (rw [hE9]; done) | (rw [hE9]; rfl) | (rw [hE]; done) | (rw [hE]; rfl)
  have hq4 : false = (((M.readZ r s).1).rules).relay := by first | (rw [hE9]; done) | (rw [hE9]; rfl) | (rw [hE]; done) | (rw [hE]; rfl)
  have hq5 : false = (((M.readZ r s).1).rules).feed := by first | (rw [hE9]; done) | (rw [hE9]; rfl) | (rw [hE]; done) | (rw [hE]; rfl)
  have hq6 : false = (((M.readZ r s).1).rules).again := by first | (rw [hE9]; done) | (rw [hE9]; rfl) | (rw [hE]; done) | (rw [hE]; rfl)
  have hq7 : 0 = (((M.readZ r s).1).rules).capture := by first | (rw [hE9]; done) | (rw [hE9]; rfl) | (rw [hE]; done) | (rw [hE]; rfl)
  have hq8 : 0 = (((M.readZ r s).1).rules).slam := by first | (rw [hE9]; done) | (rw [hE9]; rfl) | (rw [hE]; done) | (rw [hE]; rfl)
  have hq9 : [] = (((M.readZ r s).1).position).pits := by first | (rw [hE9]; done) | (rw [hE9]; rfl) | (rw [hE]; done) | (rw [hE]; rfl)
  have hq10 : [] = (((M.readZ r s).1).position).stores := by first | (rw [hE9]; done) | (rw [hE9]; rfl) | (rw [hE]; done) | (rw [hE]; rfl)
  have hq11 : 0 = (((M.readZ r s).1).position).player := by first | (rw [hE9]; done) | (rw [hE9]; rfl) | (rw [hE]; done) | (rw [hE]; rfl)
  have hq12 : 0 = ((M.readZ r s).1).depth := by first | (rw [hE9]; done) | (rw [hE9]; rfl) | (rw [hE]; done) | (rw [hE]; rfl)
  have hq13 : 0 = ((M.readZ r s).1).move := by first | (rw [hE9]; done) | (rw [hE9]; rfl) | (rw [hE]; done) | (rw [hE]; rfl)
  have hq14 : 0 = ((M.readZ r s).1).value := by first | (rw [hE9]; done) | (rw [hE9]; rfl) | (rw [hE]; done) | (rw [hE]; rfl)
  have hq15 : 0 = ((M.readZ r s).1).margin := by first | (rw [hE9]; done) | (rw [hE9]; rfl) | (rw [hE]; done) | (rw [hE]; rfl)
  have hq16 : false = (M.readZ r s).2 := by first | (rw [hE9]; done) | (rw [hE9]; rfl) | (rw [hE]; done) | (rw [hE]; rfl)
  refine zS <| Qb ?_
  refine zw 0 rfl rfl rfl ?_
  refine Qa rfl <| JL.nil ?_
  exact zro x3
 have hd3 : M.w3 s 3 = [100, 101, 112, 116, 104] := by have h9 := h8; simp at h9; exact h9.2
 refine Js.skip <| Js.seq ?_
 refine zk [2, 4, 6] (fun F U l os u => ∃ (b16 : Nat) (A14 : Option Addr) (c14 : Nat) (A15 : Option Addr) (c15 : Nat), l = F [(7, .pointer (some ⟨b16, 0, none⟩)), (8, .bool ((M.readP r (((((M.w3 s 0) ++ ([32] : List UInt8)) ++ (M.w3 s 1)) ++ ([32] : List UInt8)) ++ (M.w3 s 2))).2))] ∧ os = [boxO b16 [.slice A14 ((((M.readP r (((((M.w3 s 0) ++ ([32] : List UInt8)) ++ (M.w3 s 1)) ++ ([32] : List UInt8)) ++ (M.w3 s 2))).1).pits).length) c14, .slice A15 ((((M.readP r (((((M.w3 s 0) ++ ([32] : List UInt8)) ++ (M.w3 s 1)) ++ ([32] : List UInt8)) ++ (M.w3 s 2))).1).stores).length) c15, .int .i64 (((M.readP r (((((M.w3 s 0) ++ ([32] : List UInt8)) ++ (M.w3 s 1)) ++ ([32] : List UInt8)) ++ (M.w3 s 2))).1).player)] 28, rowO 2 1 (.slice A15 ((((M.readP r (((((M.w3 s 0) ++ ([32] : List UInt8)) ++ (M.w3 s 1)) ++ ([32] : List UInt8)) ++ (M.w3 s 2))).1).stores).length) c15) ((((M.readP r (((((M.w3 s 0) ++ ([32] : List UInt8)) ++ (M.w3 s 1)) ++ ([32] : List UInt8)) ++ (M.w3 s 2))).1).stores).length) (ints_ (((M.readP r (((((M.w3 s 0) ++ ([32] : List UInt8)) ++ (M.w3 s 1)) ++ ([32] : List UInt8)) ++ (M.w3 s 2))).1).stores)) [], rowO 2 1 (.slice A14 ((((M.readP r (((((M.w3 s 0) ++ ([32] : List UInt8)) ++ (M.w3 s 1)) ++ ([32] : List UInt8)) ++ (M.w3 s 2))).1).pits).length) c14) ((((M.readP r (((((M.w3 s 0) ++ ([32] : List UInt8)) ++ (M.w3 s 1)) ++ ([32] : List UInt8)) ++ (M.w3 s 2))).1).pits).length) (ints_ (((M.readP r (((((M.w3 s 0) ++ ([32] : List UInt8)) ++ (M.w3 s 1)) ++ ([32] : List UInt8)) ++ (M.w3 s 2))).1).pits)) []] ++ U [] ∧ ((((M.readP r (((((M.w3 s 0) ++ ([32] : List UInt8)) ++ (M.w3 s 1)) ++ ([32] : List UInt8)) ++ (M.w3 s 2))).1).pits).length ≤ c14) ∧ (c14 ≤ 9223372036854775807) ∧ ((((M.readP r (((((M.w3 s 0) ++ ([32] : List UInt8)) ++ (M.w3 s 1)) ++ ([32] : List UInt8)) ++ (M.w3 s 2))).1).stores).length ≤ c15) ∧ (c15 ≤ 9223372036854775807)) ?_ ?_
 ·
  refine zdr [19] ?_
  refine JH.q 0 rfl (L9 1 rfl rfl) ?_
  refine jM 1 rfl rfl ?_
  have hy23 := hw0
  obtain ⟨b23, o23, he23, hc23⟩ := strs_elem h4 hy23
  refine jI 2 el_50 rfl rfl rfl he23 ?_
  refine jW 3 ty_9 rfl rfl hc23.vis ?_
  refine JH.p 4 rfl (q_cat rfl rfl) ?_
  refine jM 5 rfl rfl ?_
  have hy24 := hw1
  obtain ⟨b24, o24, he24, hc24⟩ := strs_elem h4 hy24
  refine jI 6 el_50 rfl rfl rfl he24 ?_
  refine jW 7 ty_9 rfl rfl hc24.vis ?_
  refine JH.p 8 rfl (q_cat rfl rfl) ?_
  refine JH.p 9 rfl (q_cat rfl rfl) ?_
  refine jM 10 rfl rfl ?_
  have hy25 := hw2
  obtain ⟨b25, o25, he25, hc25⟩ := strs_elem h4 hy25
  refine jI 11 el_50 rfl rfl rfl he25 ?_
  refine jW 12 ty_9 rfl rfl hc25.vis ?_
  refine JH.p 13 rfl (q_cat rfl rfl) ?_
  refine y2 14 18 ?_ ?_
  ·
   refine yc rfl rfl (fun w hw => c_spec_ReadPosition r (((((M.w3 s 0) ++ ([32] : List UInt8)) ++ (M.w3 s 1)) ++ ([32] : List UInt8)) ++ (M.w3 s 2)) (ok_ hw)) ?_
   intro A28 c28 bl28 bh28 A29 c29 bl29 bh29
   refine jM 15 rfl rfl ?_
   refine JH.p 16 rfl (p_extract rfl rfl) ?_
   refine JH.p 17 rfl (p_extract rfl rfl) ?_
   refine y1 18 ?_
   refine ya rfl fun b30 => ?_
   refine y1 19 ?_
   refine yst rfl rfl rfl ?_
   refine jA 20 rfl rfl ?_
   refine yd ?_
   exact zm ⟨_, _, _, _, _, rfl, rfl, zt, zt, zt, zt⟩ (Up.refl _ _)
  refine ya rfl fun b31 => ?_
  refine y1 14 ?_
  refine yc rfl rfl (fun w hw => c_spec_ReadPosition r (((((M.w3 s 0) ++ ([32] : List UInt8)) ++ (M.w3 s 1)) ++ ([32] : List UInt8)) ++ (M.w3 s 2)) (ok_ hw)) ?_
  intro A34 c34 bl34 bh34 A35 c35 bl35 bh35
  refine jM 15 rfl rfl ?_
  refine JH.p 16 rfl (p_extract rfl rfl) ?_
  refine JH.p 17 rfl (p_extract rfl rfl) ?_
  refine y1 19 ?_
  refine yst rfl rfl rfl ?_
  refine jA 20 rfl rfl ?_
  refine yd ?_
  refine zh [2, 0, 0, 0, 0] ?_
  exact zm ⟨_, _, _, _, _, rfl, rfl, zt, zt, zt, zt⟩ (Up.refl _ _)
 rintro _ _ u22 ⟨b16, A14, c14, A15, c15, rfl, rfl, f22_0, f22_1, f22_2, f22_3⟩ x22
 refine zn ?_
 have hy36 := hw4
 obtain ⟨b36, o36, he36, hc36⟩ := strs_elem (Ty.mono _ h4 x22.vis) hy36
 refine zS <| Qm rfl <| Qq (p_indexAddr el_50 rfl rfl (by omega) (by omega) he36) <| QC hc36 rfl <| zv rfl (fun w hw => c_spec_l01Number (M.w3 s 4)) <| Qm rfl <| Qx rfl rfl <| Qx rfl rfl <| Qa rfl <| Qa rfl <| zJ <| zS <| Qm rfl <| Qt rfl ?_
 refine Qm rfl <| zg (Gd.f1 rfl rfl rfl) (fun hc => p_move rfl) <| zg (Gd.f1 rfl rfl rfl) (fun hc => p_not (gh hc rfl)) <| Qq (p_pickOr rfl rfl rfl) <| JL.nil ?_
 refine zi (fun h37 h37' => ?_) fun h37 h37' => ?_
 ·
  have hE := M.readZ_no (r := r) (s := s) (M.zIn2_no (M.zIn2_not (by rintro ⟨z1, z2⟩; have h9 := h37; have z3 : (M.readP r ((((M.w3 s 0 ++ ([32] : List UInt8)) ++ M.w3 s 1) ++ ([32] : List UInt8)) ++ M.w3 s 2)).2 = true := z1; rw [z3, z2] at h9; simp at h9)))
  have hq0 : 0 = (((M.readZ r s).1).rules).pits := by first | (rw [hE9]; done) | (rw [hE9]; rfl) | (rw [hE]; done) | (rw [hE]; rfl)
  have hq1 : 0 = (((M.readZ r s).1).rules).seeds := by first | (rw [hE9]; done) | (rw [hE9]; rfl) | (rw [hE]; done) | (rw [hE]; rfl)
  have hq2 : false = (((M.readZ r s).1).rules).stores := by first | (rw [hE9]; done) | (rw [hE9]; rfl) | (rw [hE]; done) | (rw [hE]; rfl)
  have hq3 : false = (((M.readZ r s).1).rules).skip := by first | (rw [hE9]; done) | (rw [hE9]; rfl) | (rw [hE]; done) | (rw [hE]; rfl)
  have hq4 : false = (((M.readZ r s).1).rules).relay := by first | (rw [hE9]; done) | (rw [hE9]; rfl) | (rw [hE]; done) | (rw [hE]; rfl)
  have hq5 : false = (((M.readZ r s).1).rules).feed := by first | (rw [hE9]; done) | (rw [hE9]; rfl) | (rw [hE]; done) | (rw [hE]; rfl)
  have hq6 : false = (((M.readZ r s).1).rules).again := by first | (rw [hE9]; done) | (rw [hE9]; rfl) | (rw [hE]; done) | (rw [hE]; rfl)
  have hq7 : 0 = (((M.readZ r s).1).rules).capture := by first | (rw [hE9]; done) | (rw [hE9]; rfl) | (rw [hE]; done) | (rw [hE]; rfl)
  have hq8 : 0 = (((M.readZ r s).1).rules).slam := by first | (rw [hE9]; done) | (rw [hE9]; rfl) | (rw [hE]; done) | (rw [hE]; rfl)
  have hq9 : [] = (((M.readZ r s).1).position).pits := by first | (rw [hE9]; done) | (rw [hE9]; rfl) | (rw [hE]; done) | (rw [hE]; rfl)
  have hq10 : [] = (((M.readZ r s).1).position).stores := by first | (rw [hE9]; done) | (rw [hE9]; rfl) | (rw [hE]; done) | (rw [hE]; rfl)
  have hq11 : 0 = (((M.readZ r s).1).position).player := by first | (rw [hE9]; done) | (rw [hE9]; rfl) | (rw [hE]; done) | (rw [hE]; rfl)
  have hq12 : 0 = ((M.readZ r s).1).depth := by first | (rw [hE9]; done) | (rw [hE9]; rfl) | (rw [hE]; done) | (rw [hE]; rfl)
  have hq13 : 0 = ((M.readZ r s).1).move := by first | (rw [hE9]; done) | (rw [hE9]; rfl) | (rw [hE]; done) | (rw [hE]; rfl)
  have hq14 : 0 = ((M.readZ r s).1).value := by first | (rw [hE9]; done) | (rw [hE9]; rfl) | (rw [hE]; done) | (rw [hE]; rfl)
  have hq15 : 0 = ((M.readZ r s).1).margin := by first | (rw [hE9]; done) | (rw [hE9]; rfl) | (rw [hE]; done) | (rw [hE]; rfl)
  have hq16 : false = (M.readZ r s).2 := by first | (rw [hE9]; done) | (rw [hE9]; rfl) | (rw [hE]; done) | (rw [hE]; rfl)
  refine zS <| Qb ?_
  refine zw 3 rfl rfl rfl ?_
  refine Qa rfl <| JL.nil ?_
  exact zro (x3.trans x22)
 have hz2 : M.zIn2 r s = true := by have h9 := h37; simp only [Bool.or_eq_false_iff, Bool.not_eq_false'] at h9; exact M.zIn2_all hl5 hd3 h9.1 h9.2
 have hz := M.zIn2_yes hz2
 obtain ⟨_, hz5, hz4⟩ := M.zIn_yes hz
 have hE := M.readZ_yes hz
 have hok := M.readP_ok (M.zIn_p hz)
 rw [← hz5] at hok
 have hlo : (M.readP r ((((M.w3 s 0 ++ ([32] : List UInt8)) ++ M.w3 s 1) ++ ([32] : List UInt8)) ++ M.w3 s 2)).1.pits.length ≤ 4194304 ∧ (M.readP r ((((M.w3 s 0 ++ ([32] : List UInt8)) ++ M.w3 s 1) ++ ([32] : List UInt8)) ++ M.w3 s 2)).1.stores.length ≤ 4194304 := M.okP_len hok.1
 unfold M.zPuz at hE
 rw [← hz5, ← hz4] at hE
 refine Js.skip <| zS <| Qm rfl <| zc rfl (fun w hw => c_spec_l21Of r ((M.readP r (((((M.w3 s 0) ++ ([32] : List UInt8)) ++ (M.w3 s 1)) ++ ([32] : List UInt8)) ++ (M.w3 s 2))).1) ((M.num (M.w3 s 4)).1) (ok_ hw) (ok_ hw)) ?_
 intro A40 c40 bl40 bh40 A41 c41 bl41 bh41
 refine Qm rfl <| Qx rfl rfl <| Qx rfl rfl <| za zeh fun b42 => zw 0 rfl rfl rfl ?_
 refine Qa rfl <| zJ <| zS <| Qm rfl <| Qd rfl rfl <| JL.nil ?_
 refine zi (fun h43 h43' => ?_) fun h43 h43' => ?_
 ·
  have hc9 : ¬ (M.puz r (M.readP r ((((M.w3 s 0 ++ ([32] : List UInt8)) ++ M.w3 s 1) ++ ([32] : List UInt8)) ++ M.w3 s 2)).1 (M.num (M.w3 s 4)).1).2 = 0 := by simpa using h43
  have hE9 : M.readZ r s = (M.Puz.zero, false) := by rw [hE]; show ((M.puz r (M.readP r ((((M.w3 s 0 ++ ([32] : List UInt8)) ++ M.w3 s 1) ++ ([32] : List UInt8)) ++ M.w3 s 2)).1 (M.num (M.w3 s 4)).1).1, decide ((M.puz r (M.readP r ((((M.w3 s 0 ++ ([32] : List UInt8)) ++ M.w3 s 1) ++ ([32] : List UInt8)) ++ M.w3 s 2)).1 (M.num (M.w3 s 4)).1).2 = 0)) = _; rw [M.puz_zero hc9, decide_eq_false hc9]
  have hq0 : 0 = (((M.readZ r s).1).rules).pits := by first | (rw [hE9]; done) | (rw [hE9]; rfl) | (rw [hE]; done) | (rw [hE]; rfl)
  have hq1 : 0 = (((M.readZ r s).1).rules).seeds := by first | (rw [hE9]; done) | (rw [hE9]; rfl) | (rw [hE]; done) | (rw [hE]; rfl)
  have hq2 : false = (((M.readZ r s).1).rules).stores := by first | (rw [hE9]; done) | (rw [hE9]; rfl) | (rw [hE]; done) | (rw [hE]; rfl)
  have hq3 : false = (((M.readZ r s).1).rules).skip := by first | (rw [hE9]; done) | (rw [hE9]; rfl) | (rw [hE]; done) | (rw [hE]; rfl)
  have hq4 : false = (((M.readZ r s).1).rules).relay := by first | (rw [hE9]; done) | (rw [hE9]; rfl) | (rw [hE]; done) | (rw [hE]; rfl)
  have hq5 : false = (((M.readZ r s).1).rules).feed := by first | (rw [hE9]; done) | (rw [hE9]; rfl) | (rw [hE]; done) | (rw [hE]; rfl)
  have hq6 : false = (((M.readZ r s).1).rules).again := by first | (rw [hE9]; done) | (rw [hE9]; rfl) | (rw [hE]; done) | (rw [hE]; rfl)
  have hq7 : 0 = (((M.readZ r s).1).rules).capture := by first | (rw [hE9]; done) | (rw [hE9]; rfl) | (rw [hE]; done) | (rw [hE]; rfl)
  have hq8 : 0 = (((M.readZ r s).1).rules).slam := by first | (rw [hE9]; done) | (rw [hE9]; rfl) | (rw [hE]; done) | (rw [hE]; rfl)
  have hq9 : [] = (((M.readZ r s).1).position).pits := by first | (rw [hE9]; done) | (rw [hE9]; rfl) | (rw [hE]; done) | (rw [hE]; rfl)
  have hq10 : [] = (((M.readZ r s).1).position).stores := by first | (rw [hE9]; done) | (rw [hE9]; rfl) | (rw [hE]; done) | (rw [hE]; rfl)
  have hq11 : 0 = (((M.readZ r s).1).position).player := by first | (rw [hE9]; done) | (rw [hE9]; rfl) | (rw [hE]; done) | (rw [hE]; rfl)
  have hq12 : 0 = ((M.readZ r s).1).depth := by first | (rw [hE9]; done) | (rw [hE9]; rfl) | (rw [hE]; done) | (rw [hE]; rfl)
  have hq13 : 0 = ((M.readZ r s).1).move := by first | (rw [hE9]; done) | (rw [hE9]; rfl) | (rw [hE]; done) | (rw [hE]; rfl)
  have hq14 : 0 = ((M.readZ r s).1).value := by first | (rw [hE9]; done) | (rw [hE9]; rfl) | (rw [hE]; done) | (rw [hE]; rfl)
  have hq15 : 0 = ((M.readZ r s).1).margin := by first | (rw [hE9]; done) | (rw [hE9]; rfl) | (rw [hE]; done) | (rw [hE]; rfl)
  have hq16 : false = (M.readZ r s).2 := by first | (rw [hE9]; done) | (rw [hE9]; rfl) | (rw [hE]; done) | (rw [hE]; rfl)
  refine zS <| Qb ?_
  refine zw 6 rfl rfl rfl ?_
  refine Qa rfl <| JL.nil ?_
  exact zro (x3.trans x22)
 have hc9 : (M.puz r (M.readP r ((((M.w3 s 0 ++ ([32] : List UInt8)) ++ M.w3 s 1) ++ ([32] : List UInt8)) ++ M.w3 s 2)).1 (M.num (M.w3 s 4)).1).2 = 0 := by simpa using h43
 have hE9 : M.readZ r s = ((M.puz r (M.readP r ((((M.w3 s 0 ++ ([32] : List UInt8)) ++ M.w3 s 1) ++ ([32] : List UInt8)) ++ M.w3 s 2)).1 (M.num (M.w3 s 4)).1).1, true) := by rw [hE]; show ((M.puz r (M.readP r ((((M.w3 s 0 ++ ([32] : List UInt8)) ++ M.w3 s 1) ++ ([32] : List UInt8)) ++ M.w3 s 2)).1 (M.num (M.w3 s 4)).1).1, decide ((M.puz r (M.readP r ((((M.w3 s 0 ++ ([32] : List UInt8)) ++ M.w3 s 1) ++ ([32] : List UInt8)) ++ M.w3 s 2)).1 (M.num (M.w3 s 4)).1).2 = 0)) = _; rw [decide_eq_true hc9]
 have hq0 : ((((M.puz r ((M.readP r (((((M.w3 s 0) ++ ([32] : List UInt8)) ++ (M.w3 s 1)) ++ ([32] : List UInt8)) ++ (M.w3 s 2))).1) ((M.num (M.w3 s 4)).1)).1).rules).pits) = (((M.readZ r s).1).rules).pits := by first | (rw [hE9]; done) | (rw [hE9]; rfl) | (rw [hE]; done) | (rw [hE]; rfl)
 have hq1 : ((((M.puz r ((M.readP r (((((M.w3 s 0) ++ ([32] : List UInt8)) ++ (M.w3 s 1)) ++ ([32] : List UInt8)) ++ (M.w3 s 2))).1) ((M.num (M.w3 s 4)).1)).1).rules).seeds) = (((M.readZ r s).1).rules).seeds := by first | (rw [hE9]; done) | (rw [hE9]; rfl) | (rw [hE]; done) | (rw [hE]; rfl)
 have hq2 : ((((M.puz r ((M.readP r (((((M.w3 s 0) ++ ([32] : List UInt8)) ++ (M.w3 s 1)) ++ ([32] : List UInt8)) ++ (M.w3 s 2))).1) ((M.num (M.w3 s 4)).1)).1).rules).stores) = (((M.readZ r s).1).rules).stores := by first | (rw [hE9]; done) | (rw [hE9]; rfl) | (rw [hE]; done) | (rw [hE]; rfl)
 have hq3 : ((((M.puz r ((M.readP r (((((M.w3 s 0) ++ ([32] : List UInt8)) ++ (M.w3 s 1)) ++ ([32] : List UInt8)) ++ (M.w3 s 2))).1) ((M.num (M.w3 s 4)).1)).1).rules).skip) = (((M.readZ r s).1).rules).skip := by first | (rw [hE9]; done) | (rw [hE9]; rfl) | (rw [hE]; done) | (rw [hE]; rfl)
 have hq4 : ((((M.puz r ((M.readP r (((((M.w3 s 0) ++ ([32] : List UInt8)) ++ (M.w3 s 1)) ++ ([32] : List UInt8)) ++ (M.w3 s 2))).1) ((M.num (M.w3 s 4)).1)).1).rules).relay) = (((M.readZ r s).1).rules).relay := by first | (rw [hE9]; done) | (rw [hE9]; rfl) | (rw [hE]; done) | (rw [hE]; rfl)
 have hq5 : ((((M.puz r ((M.readP r (((((M.w3 s 0) ++ ([32] : List UInt8)) ++ (M.w3 s 1)) ++ ([32] : List UInt8)) ++ (M.w3 s 2))).1) ((M.num (M.w3 s 4)).1)).1).rules).feed) = (((M.readZ r s).1).rules).feed := by first | (rw [hE9]; done) | (rw [hE9]; rfl) | (rw [hE]; done) | (rw [hE]; rfl)
 have hq6 : ((((M.puz r ((M.readP r (((((M.w3 s 0) ++ ([32] : List UInt8)) ++ (M.w3 s 1)) ++ ([32] : List UInt8)) ++ (M.w3 s 2))).1) ((M.num (M.w3 s 4)).1)).1).rules).again) = (((M.readZ r s).1).rules).again := by first | (rw [hE9]; done) | (rw [hE9]; rfl) | (rw [hE]; done) | (rw [hE]; rfl)
 have hq7 : ((((M.puz r ((M.readP r (((((M.w3 s 0) ++ ([32] : List UInt8)) ++ (M.w3 s 1)) ++ ([32] : List UInt8)) ++ (M.w3 s 2))).1) ((M.num (M.w3 s 4)).1)).1).rules).capture) = (((M.readZ r s).1).rules).capture := by first | (rw [hE9]; done) | (rw [hE9]; rfl) | (rw [hE]; done) | (rw [hE]; rfl)
 have hq8 : ((((M.puz r ((M.readP r (((((M.w3 s 0) ++ ([32] : List UInt8)) ++ (M.w3 s 1)) ++ ([32] : List UInt8)) ++ (M.w3 s 2))).1) ((M.num (M.w3 s 4)).1)).1).rules).slam) = (((M.readZ r s).1).rules).slam := by first | (rw [hE9]; done) | (rw [hE9]; rfl) | (rw [hE]; done) | (rw [hE]; rfl)
 have hq9 : ((((M.puz r ((M.readP r (((((M.w3 s 0) ++ ([32] : List UInt8)) ++ (M.w3 s 1)) ++ ([32] : List UInt8)) ++ (M.w3 s 2))).1) ((M.num (M.w3 s 4)).1)).1).position).pits) = (((M.readZ r s).1).position).pits := by first | (rw [hE9]; done) | (rw [hE9]; rfl) | (rw [hE]; done) | (rw [hE]; rfl)
 have hq10 : ((((M.puz r ((M.readP r (((((M.w3 s 0) ++ ([32] : List UInt8)) ++ (M.w3 s 1)) ++ ([32] : List UInt8)) ++ (M.w3 s 2))).1) ((M.num (M.w3 s 4)).1)).1).position).stores) = (((M.readZ r s).1).position).stores := by first | (rw [hE9]; done) | (rw [hE9]; rfl) | (rw [hE]; done) | (rw [hE]; rfl)
 have hq11 : ((((M.puz r ((M.readP r (((((M.w3 s 0) ++ ([32] : List UInt8)) ++ (M.w3 s 1)) ++ ([32] : List UInt8)) ++ (M.w3 s 2))).1) ((M.num (M.w3 s 4)).1)).1).position).player) = (((M.readZ r s).1).position).player := by first | (rw [hE9]; done) | (rw [hE9]; rfl) | (rw [hE]; done) | (rw [hE]; rfl)
 have hq12 : (((M.puz r ((M.readP r (((((M.w3 s 0) ++ ([32] : List UInt8)) ++ (M.w3 s 1)) ++ ([32] : List UInt8)) ++ (M.w3 s 2))).1) ((M.num (M.w3 s 4)).1)).1).depth) = ((M.readZ r s).1).depth := by first | (rw [hE9]; done) | (rw [hE9]; rfl) | (rw [hE]; done) | (rw [hE]; rfl)
 have hq13 : (((M.puz r ((M.readP r (((((M.w3 s 0) ++ ([32] : List UInt8)) ++ (M.w3 s 1)) ++ ([32] : List UInt8)) ++ (M.w3 s 2))).1) ((M.num (M.w3 s 4)).1)).1).move) = ((M.readZ r s).1).move := by first | (rw [hE9]; done) | (rw [hE9]; rfl) | (rw [hE]; done) | (rw [hE]; rfl)
 have hq14 : (((M.puz r ((M.readP r (((((M.w3 s 0) ++ ([32] : List UInt8)) ++ (M.w3 s 1)) ++ ([32] : List UInt8)) ++ (M.w3 s 2))).1) ((M.num (M.w3 s 4)).1)).1).value) = ((M.readZ r s).1).value := by first | (rw [hE9]; done) | (rw [hE9]; rfl) | (rw [hE]; done) | (rw [hE]; rfl)
 have hq15 : (((M.puz r ((M.readP r (((((M.w3 s 0) ++ ([32] : List UInt8)) ++ (M.w3 s 1)) ++ ([32] : List UInt8)) ++ (M.w3 s 2))).1) ((M.num (M.w3 s 4)).1)).1).margin) = ((M.readZ r s).1).margin := by first | (rw [hE9]; done) | (rw [hE9]; rfl) | (rw [hE]; done) | (rw [hE]; rfl)
 have hq16 : true = (M.readZ r s).2 := by first | (rw [hE9]; done) | (rw [hE9]; rfl) | (rw [hE]; done) | (rw [hE]; rfl)
 refine Js.skip <| zS <| Q9 0 rfl rfl ?_
 refine zw 6 rfl rfl rfl ?_
 refine Qa rfl <| JL.nil ?_
 exact zro (x3.trans x22)
theorem c_laws_f6big (code : Nat) {v_code : Value} {w : World} (h_code : (Ty.bytes 5 code).ok w v_code) : RetV Tryz.prog 5 [v_code] w (.bool (decide (4096 < (code : Int)))) := by
 revert v_code; apply opn
 intro A1 c1 h1 bl1 bh1
 have h_code := h1
 refine enter @Tryz.func5 @Tryz.ntmps5 rfl rfl ?_
 refine zent ?_
 refine zS <| Qa rfl <| zN <| Qm rfl <| Qz rfl <| Qg rfl rfl <| Qa rfl <| JL.nil ?_
 exact zr (Up.refl _ _)
theorem c_laws_f6ints (a : List Int) {v_a : Value} (b : List Int) {v_b : Value} {w : World} (h_a : (Ty.ints 2 a).ok w v_a) (h_b : (Ty.ints 2 b).ok w v_b) (r0 : a.length ≤ 4194304 := by exact om_) (r1 : b.length ≤ 4194304 := by exact om_) : RetV Tryz.prog 22 [v_a, v_b] w (.bool (decide (a = b))) := by
 revert v_a; apply opn
 intro A1 c1 h1 bl1 bh1
 have h_a := h1
 revert v_b; apply opn
 intro A2 c2 h2 bl2 bh2
 have h_b := h2
 refine enter @Tryz.func22 @Tryz.ntmps22 rfl rfl ?_
 refine zent ?_
 refine zS <| Qa rfl <| zJ <| zS <| Qm rfl <| Qz rfl <| Qm rfl <| Qz rfl <| Qd rfl rfl <| JL.nil ?_
 refine zi (fun h3 h3' => ?_) fun h3 h3' => ?_
 ·
  have e1 : decide (a = b) = false := by simp; rintro rfl; simp at h3
  refine zS <| Qa rfl <| JL.nil ?_
  refine zR (Up.refl _ _) ?_
  simp [outV, e1]
 have hlen : a.length = b.length := by have := h3'; omega
 refine Js.skip <| Js.seq <| zS <| Qa rfl <| JL.nil <| Js.block ?_
 refine zl [0, 1] (fun F U l os u m => ∃ (k : Nat), l = F [(5, .int .i64 (k : Int))] ∧ os = U [] ∧ (k ≤ a.length) ∧ (M.Upto a b k) ∧ m = a.length - k) ⟨0, rfl, rfl, zt, by exact M.Upto.zero _ _, rfl⟩ ?_
 rintro _ _ u4 _ ⟨k, rfl, rfl, hk, hU, rfl⟩ x4
 refine zn ?_
 refine Js.seq <| zS <| Qm rfl <| Qm rfl <| Qz rfl <| Ql rfl rfl <| JL.nil ?_
 refine zi (fun h5 h5' => ?_) fun h5 h5' => ?_
 ·
  refine Js.skip <| Js.seq <| Js.block <| Js.seq ?_
  refine zdr [] ?_
  refine jM 0 rfl rfl ?_
  refine jM 1 rfl rfl ?_
  obtain ⟨b6, o6, he6, hc6⟩ := ints_elem (Ty.mono _ h1 x4.vis) (i := k) (by omega)
  refine jI 2 el_26 rfl rfl rfl he6 ?_
  refine jW 3 ty_2 rfl rfl hc6.vis ?_
  refine jM 4 rfl rfl ?_
  refine jM 5 rfl rfl ?_
  obtain ⟨b7, o7, he7, hc7⟩ := ints_elem (Ty.mono _ h2 x4.vis) (i := k) (by omega)
  refine jI 6 el_26 rfl rfl rfl he7 ?_
  refine jW 7 ty_2 rfl rfl hc7.vis ?_
  refine JH.p 8 rfl (p_neq rfl rfl) ?_
  refine yd ?_
  refine zi (fun h8 h8' => ?_) fun h8 h8' => ?_
  ·
   have e1 : decide (a = b) = false := by simpa using M.ne_of_nth (a := a) (b := b) (k := k) (by simpa using h8)
   refine zS <| Qa rfl <| JL.nil ?_
   refine zR x4 ?_
   simp [outV, e1]
  have hab : M.nth a k = M.nth b k := by simpa using h8
  refine Js.skip <| Js.blockEnd <| Js.region <| Qm rfl <| Qp rfl rfl <| Qa rfl <| JL.nil ?_
  exact zag ⟨k + 1, rfl, rfl, zt, by exact hU.step (by omega) (by omega) hab, rfl⟩ x4
 have e1 : a = b := hU.done (by omega) (by omega)
 refine zx ?_
 refine zS <| Qa rfl <| JL.nil ?_
 refine zR x4 ?_
 simp [outV, e1]
theorem c_laws_FnPuzzleTexts (code : Nat) {v_code : Value} {w : World} (h_code : (Ty.bytes 5 code).ok w v_code) (h_tab : tabT.ok w undef) : RetV Tryz.prog 3 [v_code] w (.bool true) := by
 revert v_code; apply opn
 intro A1 c1 h1 bl1 bh1
 have h_code := h1
 refine enter @Tryz.func3 @Tryz.ntmps3 rfl rfl ?_
 refine zent ?_
 refine zS <| Qa rfl <| zJ <| zS <| Qm rfl <| zv rfl (fun w hw => c_laws_f6big code (ok_ hw)) <| JL.nil ?_
 refine zi (fun h2 h2' => ?_) fun h2 h2' => ?_
 ·
  refine zS <| Qa rfl <| JL.nil ?_
  refine zR (Up.refl _ _) ?_
  first | rfl | (simp only [outV]; rw [M.readZ_or]; done) | exact congrArg _ (congrArg _ (M.readZ_or _ _))
 refine Js.skip <| zS <| Qm rfl <| zp rfl (fun w hw => c_spec_DrawPuzzleText code (ok_ hw)) ?_
 intro u3 x3 X4 hX4 A5 c5 h5 bl5 bh5 A6 c6 h6 bl6 bh6
 have hpt := M.puzText_len X4
 have hrz := M.readZ_small (X4).rules (M.puzText X4)
 have hz1_ := hrz.sp
 have hz2_ := hrz.ss
 refine za zeh fun b7 => zw 0 rfl rfl rfl ?_
 refine zN <| Q9 0 rfl rfl ?_
 refine zv rfl (fun w hw => c_impl_PuzzleText X4 (ok_ hw) (ok_ hw)) <| Qa rfl <| zN <| Qf fh rfl <| Q9 0 rfl rfl ?_
 refine Qm rfl <| zp rfl (fun w hw => c_impl_ReadPuzzle X4.rules (M.puzText X4) (ok_ hw) (ok_ hw)) ?_
 intro u8 x8 A9 c9 h9 bl9 bh9 A10 c10 h10 bl10 bh10
 refine Qm rfl <| Qx rfl rfl <| Qx rfl rfl <| za zeh fun b11 => zw 0 rfl rfl rfl ?_
 refine Qa rfl <| zN <| Qm rfl <| zp rfl (fun w hw => c_spec_DrawReadPuzzle code (ok_ hw)) ?_
 intro u12 x12 X13 hX13 X14 hX14
 have hrs := M.readZ_small X13 X14
 have hz3_ := hrs.sp
 have hz4_ := hrs.ss
 refine Qm rfl <| Qx rfl rfl <| Qx rfl rfl <| za zeh fun b15 => zw 0 rfl rfl rfl ?_
 refine Qa rfl <| zN <| Q9 0 rfl rfl ?_
 refine Qm rfl <| zp rfl (fun w hw => c_impl_ReadPuzzle X13 X14 (ok_ hw) (ok_ hw)) ?_
 intro u16 x16 A17 c17 h17 bl17 bh17 A18 c18 h18 bl18 bh18
 refine Qm rfl <| Qx rfl rfl <| Qx rfl rfl <| za zeh fun b19 => zw 0 rfl rfl rfl ?_
 refine Qa rfl <| zN <| Q9 1 rfl rfl ?_
 refine Qm rfl <| zp rfl (fun w hw => c_spec_ReadPuzzle X13 X14 (ok_ hw)) ?_
 intro u20 x20 A21 c21 h21 bl21 bh21 A22 c22 h22 bl22 bh22
 refine Qm rfl <| Qx rfl rfl <| Qx rfl rfl <| za zeh fun b23 => zw 0 rfl rfl rfl ?_
 refine Qa rfl <| zN <| Qm rfl <| zp rfl (fun w hw => c_spec_DrawHintFor code (ok_ hw)) ?_
 intro u24 x24 X25 hX25 A26 c26 h26 bl26 bh26 A27 c27 h27 bl27 bh27 X28 hX28
 refine Qm rfl <| Qx rfl rfl <| Qx rfl rfl <| za zeh fun b29 => zw 0 rfl rfl rfl ?_
 refine Qa rfl <| zN <| Q9 0 rfl rfl ?_
 refine Qm rfl <| zv rfl (fun w hw => c_impl_HintFor X25 X28 (ok_ hw) (ok_ hw)) <| Qm rfl <| Qx rfl rfl <| Qx rfl rfl <| Qa rfl <| Qa rfl <| zN <| Q9 0 rfl rfl ?_
 refine Qm rfl <| zv rfl (fun w hw => c_spec_HintFor X25 X28 (ok_ hw)) <| Qm rfl <| Qx rfl rfl <| Qx rfl rfl <| Qa rfl <| Qa rfl <| zN <| Qm rfl <| zp rfl (fun w hw => c_spec_DrawAnswerLoss code (ok_ hw)) ?_
 intro u30 x30 X31 hX31 A32 c32 h32 bl32 bh32 A33 c33 h33 bl33 bh33 X34 hX34
 refine Qm rfl <| Qx rfl rfl <| Qx rfl rfl <| za zeh fun b35 => zw 0 rfl rfl rfl ?_
 refine Qa rfl <| zN <| Q9 0 rfl rfl ?_
 refine Qm rfl <| zv rfl (fun w hw => c_impl_AnswerLoss X31 X34 (ok_ hw)) <| Qm rfl <| Qx rfl rfl <| Qx rfl rfl <| Qa rfl <| Qa rfl <| zN <| Q9 0 rfl rfl ?_
 refine Qm rfl <| zv rfl (fun w hw => c_spec_AnswerLoss X31 X34 (ok_ hw)) <| Qm rfl <| Qx rfl rfl <| Qx rfl rfl <| Qa rfl <| Qa rfl <| zN <| Qm rfl <| zp rfl (fun w hw => c_spec_DrawSolutionOf code (ok_ hw)) ?_
 intro u36 x36 X37 hX37 A38 c38 h38 bl38 bh38 A39 c39 h39 bl39 bh39
 refine za zeh fun b40 => zw 0 rfl rfl rfl ?_
 refine zN <| Q9 0 rfl rfl ?_
 refine zp rfl (fun w hw => c_impl_SolutionOf X37 (ok_ hw)) ?_
 intro u41 x41 A42 c42 h42 bl42 bh42
 refine Qm rfl <| Qx rfl rfl <| Qx rfl rfl <| Qa rfl <| Qa rfl <| zN <| Q9 0 rfl rfl ?_
 refine zp rfl (fun w hw => c_spec_SolutionOf X37 (ok_ hw)) ?_
 intro u43 x43 A44 c44 h44 bl44 bh44
 have hsl := M.sol_len X37
 refine Qm rfl <| Qx rfl rfl <| Qx rfl rfl <| Qa rfl <| Qa rfl <| zJ <| zS <| Qm rfl <| Q9 7 rfl rfl ?_
 refine zv rfl (fun w hw => c_spec_PuzzleText X4 (ok_ hw)) <| Qq (p_neqT und_9 rfl rfl) <| Qm rfl <| zg (Gd.f1 rfl rfl rfl) (fun hc => p_move rfl) <| zg (Gd.f1 rfl rfl rfl) (fun hc => p_move rfl) <| zg (Gd.f1 rfl rfl rfl) (fun hc => p_neqT und_9 (gh hc rfl) rfl) <| zg (Gd.f1 rfl rfl rfl) (fun hc => p_neqB und_4 (gh hc rfl) (gh hc rfl)) <| Qq (p_pickOr rfl rfl rfl) <| Qm rfl <| zg (Gd.f1 rfl rfl rfl) (fun hc => p_move rfl) <| zg (Gd.f1 rfl rfl rfl) (fun hc => p_move (gh hc rfl)) <| zgq (Gd.t2 rfl rfl rfl) (fun hc => L9 6 rfl rfl) <| zgq (Gd.t2 rfl rfl rfl) (fun hc => L9 7 rfl rfl) <| zgv (Gd.t2 rfl rfl rfl) (fun hc => (opds_2 (gh hc rfl) (gh hc rfl))) (fun hc => (fun w hw => c_spec_SamePuzzle ((M.readZ X4.rules (M.puzText X4)).1) X4 (ok_ hw) (ok_ hw) (r0 := (by have hc9 := hc; (try simp only [Bool.and_eq_true, Bool.not_eq_true', Bool.or_eq_false_iff, Bool.not_eq_false', decide_eq_true_eq] at hc9); omega)) (r1 := (by have hc9 := hc; (try simp only [Bool.and_eq_true, Bool.not_eq_true', Bool.or_eq_false_iff, Bool.not_eq_false', decide_eq_true_eq] at hc9); omega)) (r2 := (by have hc9 := hc; (try simp only [Bool.and_eq_true, Bool.not_eq_true', Bool.or_eq_false_iff, Bool.not_eq_false', decide_eq_true_eq] at hc9); omega)) (r3 := (by have hc9 := hc; (try simp only [Bool.and_eq_true, Bool.not_eq_true', Bool.or_eq_false_iff, Bool.not_eq_false', decide_eq_true_eq] at hc9); omega)))) ?_
 refine zg (Gd.t2 rfl rfl rfl) (fun hc => p_not (gh hc rfl)) <| zg (Gd.f1 rfl rfl rfl) (fun hc => p_pickAnd (gh hc rfl) (gvl rfl hc) rfl) <| Qq (p_pickOr rfl rfl rfl) <| Qm rfl <| zg (Gd.f1 rfl rfl rfl) (fun hc => p_move rfl) <| zg (Gd.f1 rfl rfl rfl) (fun hc => p_move rfl) <| zg (Gd.f1 rfl rfl rfl) (fun hc => p_neqB und_4 (gh hc rfl) (gh hc rfl)) <| Qq (p_pickOr rfl rfl rfl) <| Qm rfl <| zgq (Gd.f1 rfl rfl rfl) (fun hc => L9 4 rfl rfl) <| zgq (Gd.f1 rfl rfl rfl) (fun hc => L9 3 rfl rfl) <| zgv (Gd.f1 rfl rfl rfl) (fun hc => (opds_2 (gh hc rfl) (gh hc rfl))) (fun hc => (fun w hw => c_spec_SamePuzzle ((M.readZ X13 X14).1) ((M.readZ X13 X14).1) (ok_ hw) (ok_ hw) (r0 := (by have hc9 := hc; (try simp only [Bool.not_eq_true', Bool.or_eq_false_iff, Bool.not_eq_false', decide_eq_true_eq, Bool.and_eq_false_iff] at hc9); omega)) (r1 := (by have hc9 := hc; (try simp only [Bool.not_eq_true', Bool.or_eq_false_iff, Bool.not_eq_false', decide_eq_true_eq, Bool.and_eq_false_iff] at hc9); omega)) (r2 := (by have hc9 := hc; (try simp only [Bool.not_eq_true', Bool.or_eq_false_iff, Bool.not_eq_false', decide_eq_true_eq, Bool.and_eq_false_iff] at hc9); omega)) (r3 := (by have hc9 := hc; (try simp only [Bool.not_eq_true', Bool.or_eq_false_iff, Bool.not_eq_false', decide_eq_true_eq, Bool.and_eq_false_iff] at hc9); omega)))) ?_
 refine zg (Gd.f1 rfl rfl rfl) (fun hc => p_not (gh hc rfl)) <| Qq (p_pickOr rfl rfl rfl) <| Qm rfl <| zg (Gd.f1 rfl rfl rfl) (fun hc => p_move rfl) <| zg (Gd.f1 rfl rfl rfl) (fun hc => p_move rfl) <| zg (Gd.f1 rfl rfl rfl) (fun hc => p_neq (gh hc rfl) (gh hc rfl)) <| Qq (p_pickOr rfl rfl rfl) <| Qm rfl <| zg (Gd.f1 rfl rfl rfl) (fun hc => p_move rfl) <| zg (Gd.f1 rfl rfl rfl) (fun hc => p_move rfl) <| zg (Gd.f1 rfl rfl rfl) (fun hc => p_neqT und_9 (gh hc rfl) (gh hc rfl)) <| Qq (p_pickOr rfl rfl rfl) <| Qm rfl <| zg (Gd.f1 rfl rfl rfl) (fun hc => p_move rfl) ?_
 refine zg (Gd.f1 rfl rfl rfl) (fun hc => p_move rfl) <| zg (Gd.f1 rfl rfl rfl) (fun hc => p_neq (gh hc rfl) (gh hc rfl)) <| Qq (p_pickOr rfl rfl rfl) <| Qm rfl <| zg (Gd.f1 rfl rfl rfl) (fun hc => p_move rfl) <| zg (Gd.f1 rfl rfl rfl) (fun hc => p_move rfl) <| zg (Gd.f1 rfl rfl rfl) (fun hc => p_neq (gh hc rfl) (gh hc rfl)) <| Qq (p_pickOr rfl rfl rfl) <| Qm rfl <| zg (Gd.f1 rfl rfl rfl) (fun hc => p_move rfl) <| zg (Gd.f1 rfl rfl rfl) (fun hc => p_move rfl) <| zg (Gd.f1 rfl rfl rfl) (fun hc => p_neq (gh hc rfl) (gh hc rfl)) <| Qq (p_pickOr rfl rfl rfl) <| Qm rfl ?_
 refine zg (Gd.f1 rfl rfl rfl) (fun hc => p_move rfl) <| zg (Gd.f1 rfl rfl rfl) (fun hc => p_move rfl) <| zgv (Gd.f1 rfl rfl rfl) (fun hc => (opds_2 (gh hc rfl) (gh hc rfl))) (fun hc => (fun w hw => c_laws_f6ints (M.sol X37) (M.sol X37) (ok_ hw) (ok_ hw) (r0 := (by have hc9 := hc; (try simp only [Bool.not_eq_true', Bool.or_eq_false_iff, Bool.not_eq_false', decide_eq_true_eq, Bool.and_eq_false_iff] at hc9); omega)) (r1 := (by have hc9 := hc; (try simp only [Bool.not_eq_true', Bool.or_eq_false_iff, Bool.not_eq_false', decide_eq_true_eq, Bool.and_eq_false_iff] at hc9); omega)))) ?_
 refine zg (Gd.f1 rfl rfl rfl) (fun hc => p_not (gh hc rfl)) <| Qq (p_pickOr rfl rfl rfl) <| JL.nil ?_
 refine zi (fun h45 h45' => ?_) fun h45 h45' => ?_
 · have h9 := h45; simp [M.readZ_dead, (M.readZ_ok _).1, M.samez_refl] at h9; have h8 := M.readZ_same h9.1; rw [h8] at h9; cases h9.2
 refine Js.skip <| zS <| Qm rfl <| Qt rfl <| Qm rfl <| zgq (Gd.f1 rfl rfl rfl) (fun hc => L9 4 rfl rfl) <| zgv (Gd.f1 rfl rfl rfl) (fun hc => (opds_1 (gh hc rfl))) (fun hc => (fun w hw => c_impl_PuzzleText ((M.readZ X13 X14).1) (ok_ hw) (ok_ hw) (r0 := (by have hc9 := hc; (try simp only [Bool.not_eq_true', Bool.not_eq_false'] at hc9); omega)) (r1 := (by have hc9 := hc; (try simp only [Bool.not_eq_true', Bool.not_eq_false'] at hc9); omega)))) ?_
 refine zg (Gd.f1 rfl rfl rfl) (fun hc => p_move rfl) <| zg (Gd.f1 rfl rfl rfl) (fun hc => p_eqlT und_9 (gh hc rfl) (gh hc rfl)) <| Qq (p_pickOr rfl rfl rfl) <| Qa rfl <| JL.nil ?_
 refine zR (((((((((x3.trans x8).trans x12).trans x16).trans x20).trans x24).trans x30).trans x36).trans x41).trans x43) ?_
 first | rfl | (simp only [outV]; rw [M.readZ_or]; done) | exact congrArg _ (congrArg _ (M.readZ_or _ _))
end Go.Proofs.YtjdhgkdimanabaaGreatDoor

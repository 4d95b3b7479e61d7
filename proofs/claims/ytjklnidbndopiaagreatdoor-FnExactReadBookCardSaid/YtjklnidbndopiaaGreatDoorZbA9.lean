/- Walks: K20. -/
import Derived.Test.YtjklnidbndopiaaGreatDoorZbA4
import Derived.Test.YtjklnidbndopiaaGreatDoorZbA8
import Derived.Test.YtjklnidbndopiaaGreatDoorZbA3
import Derived.Test.YtjklnidbndopiaaGreatDoorZbA5
import Derived.Test.YtjklnidbndopiaaGreatDoorZbA6
set_option linter.unusedSimpArgs false
set_option linter.unusedVariables false
set_option maxRecDepth 100000
attribute [local irreducible] Go.Proofs.YtjklnidbndopiaaGreatDoor.gv
set_option maxHeartbeats 16000000
namespace Go.Proofs.YtjklnidbndopiaaGreatDoor
open Go.RowKit
theorem c_spec_l01Split (t : List UInt8) (b : Int) {w : World} (r0 : t.length ≤ 4194304 := by exact om_) (r1 : 0 ≤ b := by exact om_) (r2 : b ≤ 255 := by exact om_) : Ret Tryz.prog 37 [.string (sB t), .int .u8 b] w (Ty.strs 9 (M.split (M.u8 b) t)) := by
 refine enter @Tryz.func37 @Tryz.ntmps37 rfl rfl ?_
 refine zent ?_
 refine zS <| Qa rfl <| zN <| zbs fun b1 => ?_
 refine Qa rfl <| zN <| Qa rfl <| zJ <| zS <| Qa rfl <| JL.nil <| Js.block ?_
 refine zl [0, 1] (fun F U l os u m => ∃ (k f : Nat) (out : List (List UInt8)) (A3_5 : Option Addr) (c3_5 : Nat) (g3_5 : List Nat), l = F [(5, .slice A3_5 out.length c3_5), (6, .int .i64 (f : Int)), (7, .int .i64 (k : Int))] ∧ os = U [some (rowO 9 1 (.slice A3_5 out.length c3_5) out.length (txs_ out) g3_5)] ∧ (M.SplI (M.u8 b) t f k out) ∧ (k ≤ t.length) ∧ (out.length ≤ c3_5) ∧ (c3_5 ≤ 9223372036854775807) ∧ m = t.length - k) ⟨0, 0, [], _, _, _, rfl, rfl, by exact M.SplI.zero _ _, zt, zu, zu, rfl⟩ ?_
 rintro _ _ u3 _ ⟨k, f, out, A3_5, c3_5, g3_5, rfl, rfl, hS, hk, f3_2, f3_3, rfl⟩ x3
 refine zn ?_
 have hl1 := hS.l
 have hl2 := hS.len
 have hl3 := M.split_len (M.u8 b) t
 refine Js.seq <| zS <| Qm rfl <| Qm rfl <| Qq (p_lenS und_9 rfl) <| Ql rfl rfl <| JL.nil ?_
 refine zi (fun h4 h4' => ?_) fun h4 h4' => ?_
 ·
  have hbt5 := M.bat_bd t k
  refine Js.skip <| Js.seq <| Js.block <| zS <| Qm rfl <| Qm rfl <| Qq (p_byteS (i := k) und_9 rfl rfl (by omega)) <| Qm rfl <| Qe rfl rfl <| JL.nil ?_
  refine zi (fun h6 h6' => ?_) fun h6 h6' => ?_
  ·
   have hS2 := hS.hit (b := b) (by omega) (by simpa using h6)
   refine zS <| Qm rfl <| Qm rfl <| Qm rfl <| Qm rfl <| Qq (p_midS (i := f) (j := k) und_9 rfl rfl rfl (by omega) (by omega)) <| zbs fun b7 => ?_
   refine JL.e (e_append (i := 1) (n' := (out ++ [(t.drop f).take (k - f)]).length) (vs' := txs_ (out ++ [(t.drop f).take (k - f)])) el_72 rfl rfl rfl rfl (src_row (i := 0) und_72 rfl rfl) (by omega) (by omega) ln2_ (by first | rfl | (simp [txs_]; done))) ?_
   rintro v9 _ _ ⟨⟨g10, rfl⟩, rfl⟩ _
   refine JL.fact (row_form' (i := 1) rfl) (fun hf11 => ?_)
   obtain ⟨A11, c11, rfl, bl11, bh11⟩ := hf11
   refine znl ?_
   refine Qa rfl <| zG <| Qm rfl <| Qp rfl rfl <| Qa rfl <| JL.nil <| Js.blockEnd <| Js.region <| Qm rfl <| Qp rfl rfl <| Qa rfl <| JL.nil ?_
   refine zd [1] rfl fun u12 x12 => ?_
   exact zag ⟨k + 1, k + 1, out ++ [(t.drop f).take (k - f)], _, _, _, rfl, rfl, by exact hS2, zt, zu, zu, rfl⟩ (x3.trans x12)
  have hS2 := hS.miss (b := b) (by omega) r1 r2 (by simpa using h6)
  refine Js.skip <| Js.blockEnd <| Js.region <| Qm rfl <| Qp rfl rfl <| Qa rfl <| JL.nil ?_
  exact zag ⟨k + 1, f, out, _, _, _, rfl, rfl, by exact hS2, zt, zu, zu, rfl⟩ x3
 have hE := hS.done (by have := h4'; omega)
 have hl1 := hS.l
 have hl2 := hS.len
 have hl3 := M.split_len (M.u8 b) t
 refine zx ?_
 refine zS <| Qm rfl <| Qm rfl <| Qm rfl <| Qq (p_dropS (i := f) und_9 rfl rfl (by omega)) <| zbs fun b13 => ?_
 refine JL.e (e_append (i := 1) (n' := (out ++ [t.drop f]).length) (vs' := txs_ (out ++ [t.drop f])) el_72 rfl rfl rfl rfl (src_row (i := 0) und_72 rfl rfl) (by omega) (by omega) ln2_ (by first | rfl | (simp [txs_]; done))) ?_
 rintro v15 _ _ ⟨⟨g16, rfl⟩, rfl⟩ _
 refine JL.fact (row_form' (i := 1) rfl) (fun hf17 => ?_)
 obtain ⟨A17, c17, rfl, bl17, bh17⟩ := hf17
 refine znl ?_
 have hq0 : (out ++ [t.drop f]) = M.split (M.u8 b) t := by exact hE
 refine Qa rfl <| JL.nil ?_
 exact zro x3 (g := by exact (gv_strsE (ys := out ++ [t.drop f]) po_ (by assumption) (by rfl)))
theorem c_spec_l01Digit (c : Int) {w : World}  : RetV Tryz.prog 167 [.int .u8 c] w (.bool (M.isDig c)) := by
 refine enter @Tryz.func167 @Tryz.ntmps167 rfl rfl ?_
 refine zent ?_
 refine zS <| Qa rfl <| zN <| Qm rfl <| Qh rfl rfl <| Qm rfl <| zg (Gd.t1 rfl rfl rfl) (fun hc => p_move rfl) <| zg (Gd.t1 rfl rfl rfl) (fun hc => p_leq (gh hc rfl) rfl) <| Qq (p_pickAnd rfl rfl rfl) <| Qa rfl <| JL.nil ?_
 exact zr (Up.refl _ _)
theorem c_spec_l01Number (t : List UInt8) {w : World} (r0 : t.length ≤ 4194304 := by exact om_) : RetV Tryz.prog 142 [.string (sB t)] w (.tuple #[.int .i64 ((M.num t).1), .bool ((M.num t).2)]) := by
 refine enter @Tryz.func142 @Tryz.ntmps142 rfl rfl ?_
 refine zent ?_
 have hbt1 := M.bat_bd t 0
 refine zS <| Qa rfl <| Qa rfl <| zN <| Qm rfl <| Qa rfl <| zJ <| zS <| Qm rfl <| Qq (p_neqT und_9 rfl rfl) <| Qm rfl <| zg (Gd.t1 rfl rfl rfl) (fun hc => p_move rfl) <| zg (Gd.t1 rfl rfl rfl) (fun hc => p_byteS (i := 0) und_9 (gh hc rfl) rfl (by first | have hc9 := hc; (try simp only [Bool.not_eq_true', decide_eq_false_iff_not] at hc9); omega | (have h9 := List.length_pos_iff.2 (by simpa using hc); omega) | (have h9 := hc; simp at h9; omega))) ?_
 refine zg (Gd.t1 rfl rfl rfl) (fun hc => p_eql (gh hc rfl) rfl) <| Qq (p_pickAnd rfl rfl rfl) <| JL.nil ?_
 refine zi (fun h2 h2' => ?_) fun h2 h2' => ?_
 ·
  have hT : M.numT t = t.drop 1 := by have h9 := h2; simp at h9; exact M.numT_y h9.1 h9.2
  have hln : 1 ≤ t.length := by have h9 := h2; simp at h9; exact List.length_pos_iff.2 h9.1
  refine Js.region <| Qm rfl <| Qq (p_dropS (i := 1) und_9 rfl rfl (by omega)) <| Qa rfl <| zJ <| zS <| Qm rfl <| Qq (p_lenS und_9 rfl) <| Ql rfl rfl <| Qm rfl <| zg (Gd.f1 rfl rfl rfl) (fun hc => p_move rfl) <| zg (Gd.f1 rfl rfl rfl) (fun hc => p_lenS und_9 (gh hc rfl)) <| zg (Gd.f1 rfl rfl rfl) (fun hc => p_gtr (gh hc rfl) rfl) <| Qq (p_pickOr rfl rfl rfl) ?_
  refine JL.nil ?_
  refine zi (fun h3 h3' => ?_) fun h3 h3' => ?_
  ·
   have hE := M.num_len (s := t) (by rw [hT]; have h9 := h3; simp at h9; omega)
   refine zS <| Qa rfl <| Qa rfl <| JL.nil ?_
   refine zR (Up.refl _ _) ?_
   first | (rw [hE]; rfl) | (rw [hE, hS]; rfl)
  have hl9 : ¬ ((M.numT t).length < 1 ∨ 18 < (M.numT t).length) := by rw [hT]; have h9 := h3; simp at h9; omega
  refine Js.skip <| zS <| Qa rfl <| zJ <| zS <| Qa rfl <| JL.nil <| Js.block ?_
  refine zl [0, 4] (fun F U l os u m => ∃ (k : Nat) (n : Int), l = F [(5, .int .i64 n), (6, .int .i64 (k : Int))] ∧ os = U [] ∧ (n = M.numN (M.numT t) k) ∧ (M.Digs (M.numT t) k) ∧ (k ≤ (M.numT t).length) ∧ m = (M.numT t).length - k) ⟨0, 0, rfl, rfl, by rfl, by exact M.Digs.zero _, zt, rfl⟩ ?_
  rintro _ _ u4 _ ⟨k, n, rfl, rfl, hN, hD, hk, rfl⟩ x4
  refine zn ?_
  obtain ⟨n1, n2⟩ := M.numN_18 hD (by omega)
  rw [← hN] at n1 n2
  refine Js.seq <| zS <| Qm rfl <| Qm rfl <| Qq (p_lenS und_9 rfl) <| Ql rfl rfl <| JL.nil ?_
  refine zi (fun h5 h5' => ?_) fun h5 h5' => ?_
  ·
   have hkk : k < (M.numT t).length := by rw [hT]; have := h5'; omega
   obtain ⟨n3, n4⟩ := M.numN_17 hD (by omega)
   rw [← hN] at n3 n4
   have hbt6 := M.bat_bd (t.drop 1) k
   refine Js.skip <| Js.seq <| Js.block <| Js.seq <| zS <| Qm rfl <| Qm rfl <| Qq (p_byteS (i := k) und_9 rfl rfl (by omega)) <| zv rfl (fun w hw => c_spec_l01Digit (M.bat (t.drop 1) k)) <| Qt rfl <| JL.nil ?_
   refine zi (fun h7 h7' => ?_) fun h7 h7' => ?_
   ·
    have hE := M.num_dig (M.digs_no hkk (by rw [hT]; simpa using h7))
    refine zS <| Qa rfl <| Qa rfl <| JL.nil ?_
    refine zR x4 ?_
    first | (rw [hE]; rfl) | (rw [hE, hS]; rfl)
   have hd : M.isDig (M.bat (M.numT t) k) = true := by rw [hT]; simpa using h7
   have hD2 := hD.step hd
   obtain ⟨d1, d2⟩ := M.dig_bd hd
   rw [hT] at d1 d2
   have hbt8 := M.bat_bd (t.drop 1) k
   refine Js.skip <| Js.region <| Qm rfl <| Qu rfl rfl <| Qm rfl <| Qm rfl <| Qq (p_byteS (i := k) und_9 rfl rfl (by omega)) <| Qq (p_sub rfl rfl (IntWalk.u8_in _ (by omega))) <| Qq (p_conv @Tryz.underlying5 @Tryz.underlying2 rfl (IntWalk.i64_in _ (by omega))) <| Qp rfl rfl <| Qa rfl <| JL.nil <| Js.blockEnd <| Js.region ?_
   refine Qm rfl <| Qp rfl rfl <| Qa rfl <| JL.nil ?_
   exact zag ⟨k + 1, (10 * n) + ((M.bat (t.drop 1) k) - 48), rfl, rfl, by rw [hN, M.numN, hT], by exact hD2, zt, rfl⟩ x4
  have hke : k = (M.numT t).length := Nat.le_antisymm hk (by rw [hT]; have := h5'; omega)
  have hdg := M.digs_yes hD (by omega)
  rw [hke] at hN
  refine zx ?_
  refine Js.seq <| zS <| Qm rfl <| Qq (p_lenS und_9 rfl) <| Qm rfl <| Qq (p_lenS und_9 rfl) <| Ql rfl rfl <| JL.nil ?_
  refine zi (fun h9 h9' => ?_) fun h9 h9' => ?_
  ·
   have hS : M.numS t = -n := by rw [hN]; exact M.numS_neg (by rw [hT]; have := h9'; omega)
   refine Js.region <| Qm rfl <| Qq (p_neg (r := -n) rfl (by rw [Int.zero_sub]; exact IntWalk.i64_in _ (by omega))) <| Qa rfl <| zJ <| zS <| Qm rfl <| zv rfl (fun w hw => c_spec_l01Dec (-n)) <| Qm rfl <| Qq (p_neqT und_9 rfl rfl) <| JL.nil ?_
   refine zi (fun h10 h10' => ?_) fun h10 h10' => ?_
   ·
    have hE := M.num_no (s := t) (by rw [hS]; simpa using h10)
    refine zS <| Qa rfl <| Qa rfl <| JL.nil ?_
    refine zR x4 ?_
    first | (rw [hE]; rfl) | (rw [hE, hS]; rfl)
   have hE := M.num_yes hl9 hdg (by rw [hS]; simpa using h10)
   refine Js.skip <| zS <| Qm rfl <| Qa rfl <| Qa rfl <| JL.nil ?_
   refine zR x4 ?_
   first | (rw [hE]; rfl) | (rw [hE, hS]; rfl)
  have hS : M.numS t = n := by rw [hN]; exact M.numS_pos (by rw [hT]; have := h9'; omega)
  refine Js.skip <| Js.seq <| zS <| Qm rfl <| zv rfl (fun w hw => c_spec_l01Dec n) <| Qm rfl <| Qq (p_neqT und_9 rfl rfl) <| JL.nil ?_
  refine zi (fun h11 h11' => ?_) fun h11 h11' => ?_
  ·
   have hE := M.num_no (s := t) (by rw [hS]; simpa using h11)
   refine zS <| Qa rfl <| Qa rfl <| JL.nil ?_
   refine zR x4 ?_
   first | (rw [hE]; rfl) | (rw [hE, hS]; rfl)
  have hE := M.num_yes hl9 hdg (by rw [hS]; simpa using h11)
  refine Js.skip <| zS <| Qm rfl <| Qa rfl <| Qa rfl <| JL.nil ?_
  refine zR x4 ?_
  first | (rw [hE]; rfl) | (rw [hE, hS]; rfl)
 have hT : M.numT t = t := M.numT_n (by have h9 := h2; simp at h9; intro ⟨a, b⟩; exact h9 a b)
 refine Js.skip <| Js.seq <| zS <| Qm rfl <| Qq (p_lenS und_9 rfl) <| Ql rfl rfl <| Qm rfl <| zg (Gd.f1 rfl rfl rfl) (fun hc => p_move rfl) <| zg (Gd.f1 rfl rfl rfl) (fun hc => p_lenS und_9 (gh hc rfl)) <| zg (Gd.f1 rfl rfl rfl) (fun hc => p_gtr (gh hc rfl) rfl) <| Qq (p_pickOr rfl rfl rfl) <| JL.nil ?_
 refine zi (fun h12 h12' => ?_) fun h12 h12' => ?_
 ·
  have hE := M.num_len (s := t) (by rw [hT]; have h9 := h12; simp at h9; omega)
  refine zS <| Qa rfl <| Qa rfl <| JL.nil ?_
  refine zR (Up.refl _ _) ?_
  first | (rw [hE]; rfl) | (rw [hE, hS]; rfl)
 have hl9 : ¬ ((M.numT t).length < 1 ∨ 18 < (M.numT t).length) := by rw [hT]; have h9 := h12; simp at h9; omega
 refine Js.skip <| zS <| Qa rfl <| zJ <| zS <| Qa rfl <| JL.nil <| Js.block ?_
 refine zl [0, 4] (fun F U l os u m => ∃ (k : Nat) (n : Int), l = F [(5, .int .i64 n), (6, .int .i64 (k : Int))] ∧ os = U [] ∧ (n = M.numN (M.numT t) k) ∧ (M.Digs (M.numT t) k) ∧ (k ≤ (M.numT t).length) ∧ m = (M.numT t).length - k) ⟨0, 0, rfl, rfl, by rfl, by exact M.Digs.zero _, zt, rfl⟩ ?_
 rintro _ _ u13 _ ⟨k, n, rfl, rfl, hN, hD, hk, rfl⟩ x13
 refine zn ?_
 obtain ⟨n1, n2⟩ := M.numN_18 hD (by omega)
 rw [← hN] at n1 n2
 refine Js.seq <| zS <| Qm rfl <| Qm rfl <| Qq (p_lenS und_9 rfl) <| Ql rfl rfl <| JL.nil ?_
 refine zi (fun h14 h14' => ?_) fun h14 h14' => ?_
 ·
  have hkk : k < (M.numT t).length := by rw [hT]; have := h14'; omega
  obtain ⟨n3, n4⟩ := M.numN_17 hD (by omega)
  rw [← hN] at n3 n4
  have hbt15 := M.bat_bd t k
  refine Js.skip <| Js.seq <| Js.block <| Js.seq <| zS <| Qm rfl <| Qm rfl <| Qq (p_byteS (i := k) und_9 rfl rfl (by omega)) <| zv rfl (fun w hw => c_spec_l01Digit (M.bat t k)) <| Qt rfl <| JL.nil ?_
  refine zi (fun h16 h16' => ?_) fun h16 h16' => ?_
  ·
   have hE := M.num_dig (M.digs_no hkk (by rw [hT]; simpa using h16))
   refine zS <| Qa rfl <| Qa rfl <| JL.nil ?_
   refine zR x13 ?_
   first | (rw [hE]; rfl) | (rw [hE, hS]; rfl)
  have hd : M.isDig (M.bat (M.numT t) k) = true := by rw [hT]; simpa using h16
  have hD2 := hD.step hd
  obtain ⟨d1, d2⟩ := M.dig_bd hd
  rw [hT] at d1 d2
  have hbt17 := M.bat_bd t k
  refine Js.skip <| Js.region <| Qm rfl <| Qu rfl rfl <| Qm rfl <| Qm rfl <| Qq (p_byteS (i := k) und_9 rfl rfl (by omega)) <| Qq (p_sub rfl rfl (IntWalk.u8_in _ (by omega))) <| Qq (p_conv @Tryz.underlying5 @Tryz.underlying2 rfl (IntWalk.i64_in _ (by omega))) <| Qp rfl rfl <| Qa rfl <| JL.nil <| Js.blockEnd <| Js.region ?_
  refine Qm rfl <| Qp rfl rfl <| Qa rfl <| JL.nil ?_
  exact zag ⟨k + 1, (10 * n) + ((M.bat t k) - 48), rfl, rfl, by rw [hN, M.numN, hT], by exact hD2, zt, rfl⟩ x13
 have hke : k = (M.numT t).length := Nat.le_antisymm hk (by rw [hT]; have := h14'; omega)
 have hdg := M.digs_yes hD (by omega)
 rw [hke] at hN
 refine zx ?_
 refine Js.seq <| zS <| Qm rfl <| Qq (p_lenS und_9 rfl) <| Qm rfl <| Qq (p_lenS und_9 rfl) <| Ql rfl rfl <| JL.nil ?_
 refine zi (fun h18 h18' => ?_) fun h18 h18' => ?_
 ·
  have hS : M.numS t = -n := by rw [hN]; exact M.numS_neg (by rw [hT]; have := h18'; omega)
  refine Js.region <| Qm rfl <| Qq (p_neg (r := -n) rfl (by rw [Int.zero_sub]; exact IntWalk.i64_in _ (by omega))) <| Qa rfl <| zJ <| zS <| Qm rfl <| zv rfl (fun w hw => c_spec_l01Dec (-n)) <| Qm rfl <| Qq (p_neqT und_9 rfl rfl) <| JL.nil ?_
  refine zi (fun h19 h19' => ?_) fun h19 h19' => ?_
  ·
   have hE := M.num_no (s := t) (by rw [hS]; simpa using h19)
   refine zS <| Qa rfl <| Qa rfl <| JL.nil ?_
   refine zR x13 ?_
   first | (rw [hE]; rfl) | (rw [hE, hS]; rfl)
  have hE := M.num_yes hl9 hdg (by rw [hS]; simpa using h19)
  refine Js.skip <| zS <| Qm rfl <| Qa rfl <| Qa rfl <| JL.nil ?_
  refine zR x13 ?_
  first | (rw [hE]; rfl) | (rw [hE, hS]; rfl)
 have hS : M.numS t = n := by rw [hN]; exact M.numS_pos (by rw [hT]; have := h18'; omega)
 refine Js.skip <| Js.seq <| zS <| Qm rfl <| zv rfl (fun w hw => c_spec_l01Dec n) <| Qm rfl <| Qq (p_neqT und_9 rfl rfl) <| JL.nil ?_
 refine zi (fun h20 h20' => ?_) fun h20 h20' => ?_
 ·
  have hE := M.num_no (s := t) (by rw [hS]; simpa using h20)
  refine zS <| Qa rfl <| Qa rfl <| JL.nil ?_
  refine zR x13 ?_
  first | (rw [hE]; rfl) | (rw [hE, hS]; rfl)
 have hE := M.num_yes hl9 hdg (by rw [hS]; simpa using h20)
 refine Js.skip <| zS <| Qm rfl <| Qa rfl <| Qa rfl <| JL.nil ?_
 refine zR x13 ?_
 first | (rw [hE]; rfl) | (rw [hE, hS]; rfl)
theorem c_spec_l04Numbers (s : List UInt8) {w : World} (r0 : s.length ≤ 4194304 := by exact om_) : Ret Tryz.prog 91 [.string (sB s)] w (Ty.tup [Ty.ints 2 ((M.nums s).1), Ty.bool ((M.nums s).2)]) := by
 refine enter @Tryz.func91 @Tryz.ntmps91 rfl rfl ?_
 refine zent ?_
 refine zS <| Qa rfl <| Qa rfl <| zN <| zbs fun b1 => ?_
 refine Qa rfl <| zN <| Qm rfl <| zp rfl (fun w hw => c_spec_l01Split s 44) ?_
 intro u3 x3 A4 c4 h4 bl4 bh4
 refine Qa rfl <| zJ <| zS <| Qa rfl <| JL.nil <| Js.block ?_
 refine zl [5] (fun F U l os u m => ∃ (k : Nat) (out : List Int) (A5_4 : Option Addr) (c5_4 : Nat) (g5_4 : List Nat), l = F [(4, .slice A5_4 out.length c5_4), (6, .int .i64 (k : Int))] ∧ os = U [some (rowO 2 1 (.slice A5_4 out.length c5_4) out.length (ints_ out) g5_4)] ∧ (out = M.numsV ((M.split (M.u8 44) s).take k)) ∧ (M.numsOk ((M.split (M.u8 44) s).take k) = true) ∧ (k ≤ (M.split (M.u8 44) s).length) ∧ (out.length = k) ∧ (out.length ≤ c5_4) ∧ (c5_4 ≤ 9223372036854775807) ∧ m = (M.split (M.u8 44) s).length - k) ⟨0, [], _, _, _, rfl, rfl, by rfl, by rfl, zt, by rfl, zu, zu, rfl⟩ ?_
 rintro _ _ u5 _ ⟨k, out, A5_4, c5_4, g5_4, rfl, rfl, hO, hK, hk, hl, f5_4, f5_5, rfl⟩ x5
 refine zn ?_
 have hl3 := M.split_len (M.u8 44) s
 refine Js.seq <| zS <| Qm rfl <| Qm rfl <| Qz rfl <| Ql rfl rfl <| JL.nil ?_
 refine zi (fun h6 h6' => ?_) fun h6 h6' => ?_
 ·
  obtain ⟨ye7, hye7⟩ : ∃ x, (M.split (M.u8 44) s)[k]? = some x := ⟨_, List.getElem?_eq_getElem (by omega)⟩
  have hY : (M.split (M.u8 44) s)[k]? = some ye7 := hye7
  have hw9 := M.split_mem 44 s ye7 (List.mem_of_getElem? hY)
  have hy8 := hye7
  obtain ⟨b8, o8, he8, hc8⟩ := strs_elem (Ty.mono _ h4 x5.vis) hy8
  refine Js.skip <| Js.seq <| Js.block <| zS <| Qm rfl <| Qm rfl <| Qq (p_indexAddr el_72 rfl rfl (by omega) (by omega) he8) <| QC hc8 rfl <| zv rfl (fun w hw => c_spec_l01Number ye7) <| Qm rfl <| Qx rfl rfl <| Qx rfl rfl <| Qa rfl <| Qa rfl ?_
  refine zJ <| zS <| Qm rfl <| Qt rfl <| JL.nil ?_
  refine zi (fun h9 h9' => ?_) fun h9 h9' => ?_
  ·
   have hE := M.nums_no (M.numsOk_no hY (by simpa using h9))
   have hq0 : [] = (M.nums s).1 := by first | (rw [hE]; done)
   have hq1 : false = (M.nums s).2 := by first | (rw [hE]; done)
   refine zS <| Qa rfl <| Qa rfl <| JL.nil ?_
   exact zro (x3.trans x5)
  have hn9 : (M.num ye7).2 = true := by simpa using h9
  refine Js.skip <| Js.region <| Qm rfl <| Qm rfl <| zbs fun b10 => ?_
  refine JL.e (e_append (i := 1) (n' := (out ++ [((M.num ye7).1)]).length) (vs' := ints_ (out ++ [((M.num ye7).1)])) el_42 rfl rfl rfl rfl (src_row (i := 0) und_42 rfl rfl) (by omega) (by omega) ln2_ (by simp [ints_])) ?_
  rintro v12 _ _ ⟨⟨g13, rfl⟩, rfl⟩ _
  refine JL.fact (row_form' (i := 1) rfl) (fun hf14 => ?_)
  obtain ⟨A14, c14, rfl, bl14, bh14⟩ := hf14
  refine znl ?_
  refine Qa rfl <| JL.nil <| Js.blockEnd <| Js.region <| Qm rfl <| Qp rfl rfl <| Qa rfl <| JL.nil ?_
  refine zd [1] rfl fun u15 x15 => ?_
  exact zag ⟨k + 1, out ++ [((M.num ye7).1)], _, _, _, rfl, rfl, by exact M.nums_step hO hY, by exact M.numsOk_step hK hY hn9, zt, by simp [hl], zu, zu, rfl⟩ (x5.trans x15)
 have hE := M.nums_end hK hO (by have h9 := h6'; exact Int.ofNat_le.1 h9)
 refine zx ?_
 have hq0 : out = (M.nums s).1 := by first | (rw [hE]; done)
 have hq1 : true = (M.nums s).2 := by first | (rw [hE]; done)
 refine zS <| Qm rfl <| Qa rfl <| Qa rfl <| JL.nil ?_
 exact zro (x3.trans x5)
theorem c_spec_l03Index (list : List (List UInt8)) {v_list : Value} (t : List UInt8) {w : World} (h_list : (Ty.strs 9 list).ok w v_list) (r0 : list.length ≤ 4194304 := by exact om_) : RetV Tryz.prog 166 [v_list, .string (sB t)] w (.int .i64 (M.idx list t)) := by
 revert v_list; apply opn
 intro A1 c1 h1 bl1 bh1
 have h_list := h1
 refine enter @Tryz.func166 @Tryz.ntmps166 rfl rfl ?_
 refine zent ?_
 refine zS <| Qa rfl <| zJ <| zS <| Qa rfl <| JL.nil <| Js.block ?_
 refine zl [0, 1] (fun F U l os u m => ∃ (k : Nat), l = F [(5, .int .i64 (k : Int))] ∧ os = U [] ∧ (k ≤ list.length) ∧ (M.Nix list t k) ∧ m = list.length - k) ⟨0, rfl, rfl, zt, by exact M.Nix.zero _ _, rfl⟩ ?_
 rintro _ _ u2 _ ⟨k, rfl, rfl, hk, hN, rfl⟩ x2
 refine zn ?_
 refine Js.seq <| zS <| Qm rfl <| Qm rfl <| Qz rfl <| Ql rfl rfl <| JL.nil ?_
 refine zi (fun h3 h3' => ?_) fun h3 h3' => ?_
 ·
  obtain ⟨ye4, hye4⟩ : ∃ x, list[k]? = some x := ⟨_, List.getElem?_eq_getElem (by omega)⟩
  have hy5 := hye4
  obtain ⟨b5, o5, he5, hc5⟩ := strs_elem (Ty.mono _ h1 x2.vis) hy5
  refine Js.skip <| Js.seq <| Js.block <| zS <| Qm rfl <| Qm rfl <| Qq (p_indexAddr el_72 rfl rfl (by omega) (by omega) he5) <| QC hc5 rfl <| Qm rfl <| Qq (p_eqlT und_9 rfl rfl) <| JL.nil ?_
  refine zi (fun h6 h6' => ?_) fun h6 h6' => ?_
  ·
   have hE := hN.hit hye4 (by simpa using h6)
   refine zS <| Qm rfl <| Qa rfl <| JL.nil ?_
   refine zR x2 ?_
   rw [hE]; rfl
  have hN2 := hN.step hye4 (by simpa using h6)
  refine Js.skip <| Js.blockEnd <| Js.region <| Qm rfl <| Qp rfl rfl <| Qa rfl <| JL.nil ?_
  exact zag ⟨k + 1, rfl, rfl, zt, by exact hN2, rfl⟩ x2
 have hE := hN.miss (by have := h3'; omega)
 refine zx ?_
 refine zS <| Qa rfl <| JL.nil ?_
 refine zR x2 ?_
 rw [hE]; rfl
theorem c_spec_l03Parts (s : List UInt8) {w : World} (r0 : s.length ≤ 4000000 := by exact om_) : Ret Tryz.prog 139 [.string (sB s)] w (Ty.tup [Ty.strs 9 (M.wds s), Ty.ints 2 (M.pls s)]) := by
 refine enter @Tryz.func139 @Tryz.ntmps139 rfl rfl ?_
 refine zent ?_
 refine zS <| Qa rfl <| Qa rfl <| zN <| zbs fun b1 => ?_
 refine Qa rfl <| zN <| zbs fun b3 => ?_
 refine Qa rfl <| zJ <| zS <| Qa rfl <| JL.nil <| Js.block ?_
 refine zl [0] (fun F U l os u m => ∃ (i : Nat) (ps : List Int) (ws : List (List UInt8)) (A5_4 : Option Addr) (c5_4 : Nat) (g5_4 : List Nat) (A5_5 : Option Addr) (c5_5 : Nat) (g5_5 : List Nat), l = F [(4, .slice A5_4 ws.length c5_4), (5, .slice A5_5 ps.length c5_5), (6, .int .i64 (i : Int))] ∧ os = U [some (rowO 2 1 (.slice A5_5 ps.length c5_5) ps.length (ints_ ps) g5_5), some (rowO 9 1 (.slice A5_4 ws.length c5_4) ws.length (txs_ ws) g5_4)] ∧ (M.PrtI s i ws ps) ∧ (i ≤ s.length) ∧ (ws.length ≤ c5_4) ∧ (c5_4 ≤ 9223372036854775807) ∧ (ps.length ≤ c5_5) ∧ (c5_5 ≤ 9223372036854775807) ∧ m = s.length - i) ⟨0, [], [], _, _, _, _, _, _, rfl, rfl, by exact M.PrtI.zero s, zt, zu, zu, zu, zu, rfl⟩ ?_
 rintro _ _ u5 _ ⟨i, ps, ws, A5_4, c5_4, g5_4, A5_5, c5_5, g5_5, rfl, rfl, hP, hi, f5_2, f5_3, f5_4, f5_5, rfl⟩ x5
 refine zn ?_
 obtain ⟨l1, l2⟩ := hP.len
 refine Js.seq <| zS <| Qm rfl <| Qm rfl <| Qq (p_lenS und_9 rfl) <| Ql rfl rfl <| JL.nil ?_
 refine zi (fun h6 h6' => ?_) fun h6 h6' => ?_
 ·
  have hbt7 := M.bat_bd s i
  refine Js.skip <| Js.block <| Js.seq <| zS <| Qm rfl <| Qm rfl <| Qq (p_byteS (i := i) und_9 rfl rfl (by omega)) <| Qe rfl rfl <| JL.nil ?_
  refine zi (fun h8 h8' => ?_) fun h8 h8' => ?_
  ·
   have hP2 := hP.blank (by omega) (by simpa using h8)
   refine zS <| Qm rfl <| Qp rfl rfl <| Qa rfl <| JL.nil ?_
   refine zx ?_
   exact zag ⟨i + 1, ps, ws, _, _, _, _, _, _, rfl, rfl, by exact hP2, zt, zu, zu, zu, zu, rfl⟩ x5
  have hb0 : ¬ M.bat s i = 32 := by simpa using h8
  refine Js.skip <| zS <| Qm rfl <| Qa rfl <| zJ <| Js.block ?_
  refine zl [0, 4, 5, 6] (fun F U l os u m => ∃ (k : Nat), l = F [(7, .int .i64 (k : Int))] ∧ os = U [] ∧ (M.WrdI s i k) ∧ m = s.length - k) ⟨i, rfl, rfl, by exact M.WrdI.zero hi, rfl⟩ ?_
  rintro _ _ u9 _ ⟨k, rfl, rfl, hW, rfl⟩ x9
  refine zn ?_
  have hW1 := hW.l
  have hW3 := hW.u
  have hbt10 := M.bat_bd s k
  refine Js.seq <| zS <| Qm rfl <| Qm rfl <| Qq (p_lenS und_9 rfl) <| Ql rfl rfl <| Qm rfl <| zg (Gd.t1 rfl rfl rfl) (fun hc => p_move rfl) <| zg (Gd.t1 rfl rfl rfl) (fun hc => p_move rfl) <| zg (Gd.t1 rfl rfl rfl) (fun hc => p_byteS (i := k) und_9 (gh hc rfl) (gh hc rfl) (by first | have hc9 := hc; (try simp only [decide_eq_true_eq] at hc9); omega | (have h9 := List.length_pos_iff.2 (by simpa using hc); omega) | (have h9 := hc; simp at h9; omega))) ?_
  refine zg (Gd.t1 rfl rfl rfl) (fun hc => p_neq (gh hc rfl) rfl) <| Qq (p_pickAnd rfl rfl rfl) <| JL.nil ?_
  refine zi (fun h11 h11' => ?_) fun h11 h11' => ?_
  ·
   have hb1 : k < s.length ∧ ¬ M.bat s k = 32 := by have h9 := h11; simp at h9; exact h9
   have hW2 := hW.step hb1.1 hb1.2
   refine Js.skip <| Js.block <| Js.region <| Qm rfl <| Qp rfl rfl <| Qa rfl <| JL.nil <| Js.blockEnd ?_
   exact zag ⟨k + 1, rfl, rfl, by exact hW2, rfl⟩ x9
  have hb2 : k = s.length ∨ k < s.length ∧ M.bat s k = 32 := by have h9 := h11; simp at h9; have := hW.u; by_cases h8 : k < s.length; exact .inr ⟨h8, h9 h8⟩; exact .inl (by omega)
  have hik : i < k := by have := hW.l; rcases Nat.lt_or_ge i k with h8 | h8; exact h8; (have h7 : k = i := by omega); subst h7; rcases hb2 with h9 | ⟨_, h9⟩; omega; exact absurd h9 hb0
  have hP2 := hP.word hW hik hb2
  have hW1 := hW.l
  have hW3 := hW.u
  refine zx ?_
  refine zS <| Qm rfl <| Qm rfl <| Qm rfl <| Qm rfl <| Qq (p_midS (i := i) (j := k) und_9 rfl rfl rfl (by omega) (by omega)) <| zbs fun b12 => ?_
  refine JL.e (e_append (i := 2) (n' := (ws ++ [(s.drop i).take (k - i)]).length) (vs' := txs_ (ws ++ [(s.drop i).take (k - i)])) el_72 rfl rfl rfl rfl (src_row (i := 0) und_72 rfl rfl) (by omega) (by omega) ln2_ (by first | rfl | (simp [txs_]; done))) ?_
  rintro v14 _ _ ⟨⟨g15, rfl⟩, rfl⟩ _
  refine JL.fact (row_form' (i := 2) rfl) (fun hf16 => ?_)
  obtain ⟨A16, c16, rfl, bl16, bh16⟩ := hf16
  refine znl ?_
  refine Qa rfl <| zN <| Qm rfl <| Qm rfl <| zbs fun b17 => ?_
  refine JL.e (e_append (i := 2) (n' := (ps ++ [(i : Int)]).length) (vs' := ints_ (ps ++ [(i : Int)])) el_42 rfl rfl rfl rfl (src_row (i := 0) und_42 rfl rfl) (by omega) (by omega) ln2_ (by simp [ints_])) ?_
  rintro v19 _ _ ⟨⟨g20, rfl⟩, rfl⟩ _
  refine JL.fact (row_form' (i := 2) rfl) (fun hf21 => ?_)
  obtain ⟨A21, c21, rfl, bl21, bh21⟩ := hf21
  refine znl ?_
  refine Qa rfl <| zG <| Qm rfl <| Qa rfl <| JL.nil <| Js.blockEnd ?_
  refine zd [2, 2] rfl fun u22 x22 => ?_
  exact zag ⟨k, ps ++ [(i : Int)], ws ++ [(s.drop i).take (k - i)], _, _, _, _, _, _, rfl, rfl, by exact hP2, zt, zu, zu, zu, zu, rfl⟩ ((x5.trans x9).trans x22)
 obtain ⟨hE1, hE2⟩ := hP.done (by have := h6'; omega)
 have hpl := M.pls_len s
 have hwl := M.wds_len s
 refine zx ?_
 have hq0 : ws = (M.wds s) := by first | exact hE1 | exact hE2
 have hq1 : ps = (M.pls s) := by first | exact hE1 | exact hE2
 refine zS <| Qm rfl <| Qm rfl <| Qa rfl <| Qa rfl <| JL.nil ?_
 exact zro x5 (g := by exact (gv_tup (gvc (gv_strsE (ys := ws) po_ (by assumption) (by rfl)) (gvc gv_ gvn))))
theorem c_spec_l03Cut (s : List UInt8) {w : World} (r0 : s.length ≤ 4194304 := by exact om_) : RetV Tryz.prog 165 [.string (sB s)] w (.tuple #[.string (sB ((M.cutS s [61]).1)), .string (sB ((M.cutS s [61]).2.1)), .bool ((M.cutS s [61]).2.2)]) := by
 refine enter @Tryz.func165 @Tryz.ntmps165 rfl rfl ?_
 refine zent ?_
 refine zS <| Qa rfl <| Qa rfl <| Qa rfl <| zJ <| zS <| Qa rfl <| JL.nil <| Js.block ?_
 refine zl [0] (fun F U l os u m => ∃ (k : Nat), l = F [(5, .int .i64 (k : Int))] ∧ os = U [] ∧ (k ≤ s.length) ∧ (∀ i, i < k → (s.drop i).take ([61] : List UInt8).length ≠ [61]) ∧ m = s.length - k) ⟨0, rfl, rfl, zt, by exact fun i h => absurd h (by omega), rfl⟩ ?_
 rintro _ _ u1 _ ⟨k, rfl, rfl, hk, hn, rfl⟩ x1
 refine zn ?_
 refine Js.seq <| zS <| Qm rfl <| Qm rfl <| Qq (p_lenS und_9 rfl) <| Ql rfl rfl <| JL.nil ?_
 refine zi (fun h2 h2' => ?_) fun h2 h2' => ?_
 ·
  have hks : k + 1 ≤ s.length := by have := h2'; omega
  have hbt3 := M.bat_bd s k
  refine Js.skip <| Js.seq <| Js.block <| zS <| Qm rfl <| Qm rfl <| Qq (p_byteS (i := k) und_9 rfl rfl (by omega)) <| Qe rfl rfl <| JL.nil ?_
  refine zi (fun h4 h4' => ?_) fun h4 h4' => ?_
  ·
   have hE := M.cutS_yes (sep := [61]) hks (M.take1 hks (by simpa using h4)) hn
   refine Js.seq ?_
   refine zdr [] ?_
   refine jM 0 rfl rfl ?_
   refine jM 1 rfl rfl ?_
   refine JH.p 2 rfl (p_takeS (i := k) und_9 rfl rfl (by omega)) ?_
   refine jM 3 rfl rfl ?_
   refine jM 4 rfl rfl ?_
   refine JH.p 5 rfl (p_add rfl rfl (IntWalk.i64_in _ (by omega))) ?_
   refine JH.p 6 rfl (p_dropS (i := k + 1) und_9 rfl rfl (by omega)) ?_
   refine jA 7 rfl rfl ?_
   refine jA 8 rfl rfl ?_
   refine jA 9 rfl rfl ?_
   refine yd ?_
   refine zR x1 ?_
   rw [hE]; rfl
  have hn2 := M.miss_step hn (M.take1n hks (by simpa using h4))
  refine Js.skip <| Js.blockEnd <| Js.region <| Qm rfl <| Qp rfl rfl <| Qa rfl <| JL.nil ?_
  exact zag ⟨k + 1, rfl, rfl, zt, by exact hn2, rfl⟩ x1
 have hE := M.cutS_no (sep := [61]) (k := k) (by have := h2'; simp only [List.length_cons, List.length_nil]; omega) hn
 refine zx ?_
 refine zS <| Qm rfl <| Qa rfl <| Qa rfl <| Qa rfl <| JL.nil ?_
 refine zR x1 ?_
 rw [hE]; rfl
theorem c_spec_l03Word (wd : List UInt8) {w : World} (r0 : wd.length ≤ 4194304 := by exact om_) : RetV Tryz.prog 140 [.string (sB wd)] w (.tuple #[.int .i64 ((M.wrd wd).1), .int .i64 ((M.wrd wd).2.1), .int .i64 ((M.wrd wd).2.2)]) := by
 have hcl := M.cutS_len wd [61]
 have hl9 : M.fieldNames.length = 9 := rfl
 have hl4 : M.capNames.length = 4 := rfl
 have hl3 : M.slamNames.length = 3 := rfl
 have hkb := M.idx_bd M.fieldNames (M.cutS wd [61]).1
 have hsb := M.idx_bd M.slamNames (M.cutS wd [61]).2.1
 have hpb := M.idx_bd M.capNames (M.cutS wd [61]).2.1
 obtain ⟨hnb1, hnb2⟩ := M.num_bd (M.cutS wd [61]).2.1
 refine enter @Tryz.func140 @Tryz.ntmps140 rfl rfl ?_
 refine zent ?_
 refine zS <| Qa rfl <| Qa rfl <| Qa rfl <| zN <| Qm rfl <| zv rfl (fun w hw => c_spec_l03Cut wd) <| Qm rfl <| Qx rfl rfl <| Qx rfl rfl <| Qx rfl rfl <| Qa rfl <| Qa rfl <| Qa rfl ?_
 refine zN <| zp rfl (fun w hw => c_spec_FieldNames) ?_
 intro u1 x1 A2 c2 h2 bl2 bh2
 refine Qm rfl <| zv rfl (fun w hw => c_spec_l03Index M.fieldNames ((M.cutS wd [61]).1) (ok_ hw)) <| Qa rfl <| zJ <| zS <| Qm rfl <| Ql rfl rfl <| Qm rfl <| zg (Gd.f1 rfl rfl rfl) (fun hc => p_move rfl) <| zg (Gd.f1 rfl rfl rfl) (fun hc => p_move rfl) <| zgv (Gd.f1 rfl rfl rfl) (fun hc => (opds_3 (gh hc rfl) rfl rfl)) (fun hc => (fun w hw => c_spec_l00In (M.idx M.fieldNames ((M.cutS wd [61]).1)) 2 6)) ?_
 refine zg (Gd.f1 rfl rfl rfl) (fun hc => p_eqlB und_4 (gh hc rfl) (gh hc rfl)) <| Qq (p_pickOr rfl rfl rfl) <| JL.nil ?_
 refine zi (fun h3 h3' => ?_) fun h3 h3' => ?_
 ·
  have hE := M.wrd_1 (w := wd) (by have h9 := h3; simp only [Bool.or_eq_true, decide_eq_true_eq, beq_iff_eq] at h9; exact h9)
  refine zS <| Qa rfl <| Qa rfl <| Qa rfl <| JL.nil ?_
  refine zR x1 ?_
  rw [hE]; rfl
 have h1 : ¬ ((M.idx M.fieldNames (M.cutS wd [61]).1) < 0 ∨ (M.cutS wd [61]).2.2 = M.betw (M.idx M.fieldNames (M.cutS wd [61]).1) 2 6) := by have h9 := h3; simp only [Bool.or_eq_false_iff, decide_eq_false_iff_not, beq_eq_false_iff_ne] at h9; rintro (h8 | h8); exact h9.1 h8; exact h9.2 h8
 refine Js.skip <| Js.seq <| zS <| Qm rfl <| JL.nil <| Js.block <| Js.seq <| zS <| Qe rfl rfl <| Qa rfl <| JL.nil ?_
 refine zi (fun h4 h4' => ?_) fun h4 h4' => ?_
 ·
  refine Js.skip ?_
  refine Js.condT rfl h4 ?_
  refine zS <| Qm rfl <| zv rfl (fun w hw => c_spec_l01Number ((M.cutS wd [61]).2.1)) <| Qm rfl <| Qx rfl rfl <| Qx rfl rfl <| Qa rfl <| Qa rfl <| zJ <| zS <| Qm rfl <| Qt rfl <| JL.nil ?_
  refine zi (fun h5 h5' => ?_) fun h5 h5' => ?_
  ·
   have hE := M.wrd_3 h1 (by omega) (by simpa using h5)
   refine zS <| Qm rfl <| Qa rfl <| Qa rfl <| Qa rfl <| JL.nil ?_
   refine zR x1 ?_
   rw [hE]; rfl
  have hn : (M.num (M.cutS wd [61]).2.1).2 = true := by simpa using h5
  refine Js.skip <| Js.seq <| zS <| Qm rfl <| Qe rfl rfl <| Qm rfl <| zT (Gd.t1 rfl rfl rfl) (show (decide (M.idx M.fieldNames ((M.cutS wd [61]).1) = 0)) = true by first | exact h4 | (rw [h4]; rfl) | simp [h4]) <| Qm rfl <| zT (Gd.t1 rfl rfl rfl) (show (decide (M.idx M.fieldNames ((M.cutS wd [61]).1) = 0)) = true by first | exact h4 | (rw [h4]; rfl) | simp [h4]) <| zv rfl (fun w hw => c_spec_l00In ((M.num ((M.cutS wd [61]).2.1)).1) 2 8) <| zT (Gd.t1 rfl rfl rfl) (show (decide (M.idx M.fieldNames ((M.cutS wd [61]).1) = 0)) = true by first | exact h4 | (rw [h4]; rfl) | simp [h4]) <| Qt rfl <| Qq (p_pickAnd2 rfl rfl rfl) <| Qm rfl ?_
  refine zg (Gd.f1 rfl rfl rfl) (fun hc => p_move rfl) <| zg (Gd.f1 rfl rfl rfl) (fun hc => p_eql (gh hc rfl) rfl) <| zg (Gd.f1 rfl rfl rfl) (fun hc => p_move (gh hc rfl)) <| zg (Gd.t2 rfl rfl rfl) (fun hc => p_move rfl) <| zgv (Gd.t2 rfl rfl rfl) (fun hc => (opds_3 (gh hc rfl) rfl rfl)) (fun hc => (fun w hw => c_spec_l00In ((M.num ((M.cutS wd [61]).2.1)).1) 1 6)) ?_
  refine zg (Gd.t2 rfl rfl rfl) (fun hc => p_not (gh hc rfl)) <| zg (Gd.f1 rfl rfl rfl) (fun hc => p_pickAnd (gh hc rfl) (gvl rfl hc) rfl) <| Qq (p_pickOr rfl rfl rfl) <| JL.nil ?_
  refine zi (fun h6 h6' => ?_) fun h6 h6' => ?_
  ·
   have hE := M.wrd_4 h1 (by omega) hn (by have h9 := h6; simp only [Bool.or_eq_true, Bool.and_eq_true, decide_eq_true_eq, Bool.not_eq_true'] at h9; rcases h9 with h9 | h9 <;> first | exact .inl h9 | exact .inr h9 | exact absurd h9.2 (by decide))
   refine zS <| Qm rfl <| Qa rfl <| Qa rfl <| Qa rfl <| JL.nil ?_
   refine zR x1 ?_
   rw [hE]; rfl
  have hE := M.wrd_0 h1 (by omega) hn (by have h9 := h6; intro h8; have h7 := Bool.eq_false_iff.1 h9; apply h7; simp only [Bool.or_eq_true, Bool.and_eq_true, decide_eq_true_eq, Bool.not_eq_true']; rcases h8 with h8 | h8 <;> first | exact .inl h8 | exact .inr h8 | exact absurd h8.1 (by omega))
  refine Js.skip <| zS <| Qm rfl <| Qm rfl <| Qa rfl <| Qa rfl <| Qa rfl <| JL.nil ?_
  refine zR x1 ?_
  rw [hE]; rfl
 refine Js.region <| Qe rfl rfl <| Qa rfl <| JL.nil ?_
 refine zi (fun h7 h7' => ?_) fun h7 h7' => ?_
 ·
  refine zS <| Qm rfl <| zv rfl (fun w hw => c_spec_l01Number ((M.cutS wd [61]).2.1)) <| Qm rfl <| Qx rfl rfl <| Qx rfl rfl <| Qa rfl <| Qa rfl <| zJ <| zS <| Qm rfl <| Qt rfl <| JL.nil ?_
  refine zi (fun h8 h8' => ?_) fun h8 h8' => ?_
  ·
   have hE := M.wrd_3 h1 (by omega) (by simpa using h8)
   refine zS <| Qm rfl <| Qa rfl <| Qa rfl <| Qa rfl <| JL.nil ?_
   refine zR x1 ?_
   rw [hE]; rfl
  have hn : (M.num (M.cutS wd [61]).2.1).2 = true := by simpa using h8
  refine Js.skip <| Js.seq <| zS <| Qm rfl <| Qe rfl rfl <| Qm rfl ?_
  refine JL.g (v := undef) (Gd.t1 rfl rfl rfl) (fun hc => absurd hc (by first | (rw [h4]; simp; done) | simp [h4])) ?_
  refine JL.g (v := .bool false) (Gd.t1 rfl rfl rfl) (fun hc => absurd hc (by first | (rw [h4]; simp; done) | simp [h4])) ?_
  refine JL.g (v := .bool false) (Gd.t1 rfl rfl rfl) (fun hc => absurd hc (by first | (rw [h4]; simp; done) | simp [h4])) ?_
  refine Qq (p_pickAnd rfl rfl rfl) <| Qm rfl <| zg (Gd.f1 rfl rfl rfl) (fun hc => p_move rfl) <| zg (Gd.f1 rfl rfl rfl) (fun hc => p_eql (gh hc rfl) rfl) <| zg (Gd.f1 rfl rfl rfl) (fun hc => p_move (gh hc rfl)) <| zg (Gd.t2 rfl rfl rfl) (fun hc => p_move rfl) <| zgv (Gd.t2 rfl rfl rfl) (fun hc => (opds_3 (gh hc rfl) rfl rfl)) (fun hc => (fun w hw => c_spec_l00In ((M.num ((M.cutS wd [61]).2.1)).1) 1 6)) ?_
  refine zg (Gd.t2 rfl rfl rfl) (fun hc => p_not (gh hc rfl)) <| zg (Gd.f1 rfl rfl rfl) (fun hc => p_pickAnd (gh hc rfl) (gvl rfl hc) rfl) <| Qq (p_pickOr rfl rfl rfl) <| JL.nil ?_
  refine zi (fun h9 h9' => ?_) fun h9 h9' => ?_
  ·
   have hE := M.wrd_4 h1 (by omega) hn (by have h9 := h9; simp only [Bool.or_eq_true, Bool.and_eq_true, decide_eq_true_eq, Bool.not_eq_true'] at h9; rcases h9 with h9 | h9 <;> first | exact .inl h9 | exact .inr h9 | exact absurd h9.2 (by decide))
   refine zS <| Qm rfl <| Qa rfl <| Qa rfl <| Qa rfl <| JL.nil ?_
   refine zR x1 ?_
   rw [hE]; rfl
  have hE := M.wrd_0 h1 (by omega) hn (by have h9 := h9; intro h8; have h7 := Bool.eq_false_iff.1 h9; apply h7; simp only [Bool.or_eq_true, Bool.and_eq_true, decide_eq_true_eq, Bool.not_eq_true']; rcases h8 with h8 | h8 <;> first | exact .inl h8 | exact .inr h8 | exact absurd h8.1 (by omega))
  refine Js.skip <| zS <| Qm rfl <| Qm rfl <| Qa rfl <| Qa rfl <| Qa rfl <| JL.nil ?_
  refine zR x1 ?_
  rw [hE]; rfl
 refine Js.seq <| zS <| Qe rfl rfl <| Qa rfl <| JL.nil ?_
 refine zi (fun h10 h10' => ?_) fun h10 h10' => ?_
 ·
  refine Js.skip ?_
  refine Js.condT rfl h10 ?_
  refine zS <| zp rfl (fun w hw => c_spec_l06Names) ?_
  intro u11 x11 A12 c12 h12 bl12 bh12
  refine Qa rfl <| zJ <| zS <| Qm rfl <| Qe rfl rfl <| JL.nil ?_
  refine zi (fun h13 h13' => ?_) fun h13 h13' => ?_
  ·
   refine Js.region <| zp rfl (fun w hw => c_spec_l03Slams) ?_
   intro u14 x14 A15 c15 h15 bl15 bh15
   refine Qa rfl <| zN <| Qm rfl <| Qm rfl <| zv rfl (fun w hw => c_spec_l03Index M.slamNames ((M.cutS wd [61]).2.1) (ok_ hw)) <| Qa rfl <| zJ <| zS <| Qm rfl <| Ql rfl rfl <| JL.nil ?_
   refine zi (fun h16 h16' => ?_) fun h16 h16' => ?_
   ·
    have hE := M.wrd_5 (w := wd) h1 (by omega) (by omega) (by first | rw [if_pos (by omega)] | rw [if_neg (by omega)]) (by have := h16'; assumption)
    refine zS <| Qm rfl <| Qa rfl <| Qa rfl <| Qa rfl <| JL.nil ?_
    refine zR ((x1.trans x11).trans x14) ?_
    rw [hE]; rfl
   have hE := M.wrd_6 (w := wd) h1 (by omega) (by omega) (by first | rw [if_pos (by omega)] | rw [if_neg (by omega)]) (by have := h16'; omega)
   refine Js.skip <| zS <| Qm rfl <| Qm rfl <| Qa rfl <| Qa rfl <| Qa rfl <| JL.nil ?_
   refine zR ((x1.trans x11).trans x14) ?_
   rw [hE]; rfl
  refine Js.skip <| zS <| Qm rfl <| Qm rfl <| zv rfl (fun w hw => c_spec_l03Index M.capNames ((M.cutS wd [61]).2.1) (ok_ hw)) <| Qa rfl <| zJ <| zS <| Qm rfl <| Ql rfl rfl <| JL.nil ?_
  refine zi (fun h17 h17' => ?_) fun h17 h17' => ?_
  ·
   have hE := M.wrd_5 (w := wd) h1 (by omega) (by omega) (by first | rw [if_pos (by omega)] | rw [if_neg (by omega)]) (by have := h17'; assumption)
   refine zS <| Qm rfl <| Qa rfl <| Qa rfl <| Qa rfl <| JL.nil ?_
   refine zR (x1.trans x11) ?_
   rw [hE]; rfl
  have hE := M.wrd_6 (w := wd) h1 (by omega) (by omega) (by first | rw [if_pos (by omega)] | rw [if_neg (by omega)]) (by have := h17'; omega)
  refine Js.skip <| zS <| Qm rfl <| Qm rfl <| Qa rfl <| Qa rfl <| Qa rfl <| JL.nil ?_
  refine zR (x1.trans x11) ?_
  rw [hE]; rfl
 refine Js.region <| Qe rfl rfl <| Qa rfl <| JL.nil ?_
 refine zi (fun h18 h18' => ?_) fun h18 h18' => ?_
 ·
  refine zS <| zp rfl (fun w hw => c_spec_l06Names) ?_
  intro u19 x19 A20 c20 h20 bl20 bh20
  refine Qa rfl <| zJ <| zS <| Qm rfl <| Qe rfl rfl <| JL.nil ?_
  refine Js.condT rfl h18 ?_
  refine Js.region <| zp rfl (fun w hw => c_spec_l03Slams) ?_
  intro u21 x21 A22 c22 h22 bl22 bh22
  refine Qa rfl <| zN <| Qm rfl <| Qm rfl <| zv rfl (fun w hw => c_spec_l03Index M.slamNames ((M.cutS wd [61]).2.1) (ok_ hw)) <| Qa rfl <| zJ <| zS <| Qm rfl <| Ql rfl rfl <| JL.nil ?_
  refine zi (fun h23 h23' => ?_) fun h23 h23' => ?_
  ·
   have hE := M.wrd_5 (w := wd) h1 (by omega) (by omega) (by first | rw [if_pos (by omega)] | rw [if_neg (by omega)]) (by have := h23'; assumption)
   refine zS <| Qm rfl <| Qa rfl <| Qa rfl <| Qa rfl <| JL.nil ?_
   refine zR ((x1.trans x19).trans x21) ?_
   rw [hE]; rfl
  have hE := M.wrd_6 (w := wd) h1 (by omega) (by omega) (by first | rw [if_pos (by omega)] | rw [if_neg (by omega)]) (by have := h23'; omega)
  refine Js.skip <| zS <| Qm rfl <| Qm rfl <| Qa rfl <| Qa rfl <| Qa rfl <| JL.nil ?_
  refine zR ((x1.trans x19).trans x21) ?_
  rw [hE]; rfl
 have hE := M.wrd_7 h1 (by omega) (by omega)
 refine Js.skip <| Js.blockEnd <| zS <| Qm rfl <| Qa rfl <| Qa rfl <| Qa rfl <| JL.nil ?_
 refine zR x1 ?_
 rw [hE]; rfl
theorem c_spec_l03Rules (v : List Int) {v_v : Value} {w : World} (h_v : (Ty.ints 2 v).ok w v_v) (r0 : v.length = 9 := by exact om_) : Ret Tryz.prog 141 [v_v] w (Ty.agg (cRules (M.rulV v))) := by
 revert v_v; apply opn
 intro A1 c1 h1 bl1 bh1
 have h_v := h1
 refine enter @Tryz.func141 @Tryz.ntmps141 rfl rfl ?_
 refine zent ?_
 refine zS <| za zeh fun b2 => zJ ?_
 refine zdr [33] ?_
 refine jM 0 rfl rfl ?_
 obtain ⟨b3, o3, he3, hc3⟩ := ints_elem h1 (i := 0) (by omega)
 refine jI 1 el_42 rfl rfl rfl he3 ?_
 refine jW 2 ty_2 rfl rfl hc3.vis ?_
 refine jM 3 rfl rfl ?_
 obtain ⟨b4, o4, he4, hc4⟩ := ints_elem h1 (i := 1) (by omega)
 refine jI 4 el_42 rfl rfl rfl he4 ?_
 refine jW 5 ty_2 rfl rfl hc4.vis ?_
 refine jM 6 rfl rfl ?_
 obtain ⟨b5, o5, he5, hc5⟩ := ints_elem h1 (i := 2) (by omega)
 refine jI 7 el_42 rfl rfl rfl he5 ?_
 refine jW 8 ty_2 rfl rfl hc5.vis ?_
 refine JH.p 9 rfl (p_eql rfl rfl) ?_
 refine jM 10 rfl rfl ?_
 obtain ⟨b6, o6, he6, hc6⟩ := ints_elem h1 (i := 3) (by omega)
 refine jI 11 el_42 rfl rfl rfl he6 ?_
 refine jW 12 ty_2 rfl rfl hc6.vis ?_
 refine JH.p 13 rfl (p_eql rfl rfl) ?_
 refine jM 14 rfl rfl ?_
 obtain ⟨b7, o7, he7, hc7⟩ := ints_elem h1 (i := 4) (by omega)
 refine jI 15 el_42 rfl rfl rfl he7 ?_
 refine jW 16 ty_2 rfl rfl hc7.vis ?_
 refine JH.p 17 rfl (p_eql rfl rfl) ?_
 refine jM 18 rfl rfl ?_
 obtain ⟨b8, o8, he8, hc8⟩ := ints_elem h1 (i := 5) (by omega)
 refine jI 19 el_42 rfl rfl rfl he8 ?_
 refine jW 20 ty_2 rfl rfl hc8.vis ?_
 refine JH.p 21 rfl (p_eql rfl rfl) ?_
 refine jM 22 rfl rfl ?_
 obtain ⟨b9, o9, he9, hc9⟩ := ints_elem h1 (i := 6) (by omega)
 refine jI 23 el_42 rfl rfl rfl he9 ?_
 refine jW 24 ty_2 rfl rfl hc9.vis ?_
 refine JH.p 25 rfl (p_eql rfl rfl) ?_
 refine jM 26 rfl rfl ?_
 obtain ⟨b10, o10, he10, hc10⟩ := ints_elem h1 (i := 7) (by omega)
 refine jI 27 el_42 rfl rfl rfl he10 ?_
 refine jW 28 ty_2 rfl rfl hc10.vis ?_
 refine jM 29 rfl rfl ?_
 obtain ⟨b11, o11, he11, hc11⟩ := ints_elem h1 (i := 8) (by omega)
 refine jI 30 el_42 rfl rfl rfl he11 ?_
 refine jW 31 ty_2 rfl rfl hc11.vis ?_
 refine JH.p 32 rfl (q_bld) ?_
 refine y1 33 ?_
 refine yst rfl rfl rfl ?_
 refine yd ?_
 have hq0 : (M.nth v 0) = (M.rulV v).pits := by first | rfl | (simp; done) | omega
 have hq1 : (M.nth v 1) = (M.rulV v).seeds := by first | rfl | (simp; done) | omega
 have hq2 : (decide (M.nth v 2 = 1)) = (M.rulV v).stores := by first | rfl | (simp; done) | omega
 have hq3 : (decide (M.nth v 3 = 1)) = (M.rulV v).skip := by first | rfl | (simp; done) | omega
 have hq4 : (decide (M.nth v 4 = 1)) = (M.rulV v).relay := by first | rfl | (simp; done) | omega
 have hq5 : (decide (M.nth v 5 = 1)) = (M.rulV v).feed := by first | rfl | (simp; done) | omega
 have hq6 : (decide (M.nth v 6 = 1)) = (M.rulV v).again := by first | rfl | (simp; done) | omega
 have hq7 : (M.nth v 7) = (M.rulV v).capture := by first | rfl | (simp; done) | omega
 have hq8 : (M.nth v 8) = (M.rulV v).slam := by first | rfl | (simp; done) | omega
 exact zro (Up.refl _ _)
theorem c_spec_l03Check (s : List UInt8) {w : World} (r0 : s.length ≤ 1000000 := by exact om_) : Ret Tryz.prog 90 [.string (sB s)] w (Ty.tup [Ty.agg (cRules (M.chkR s)), Ty.sl 190 3 (M.chkO s).length (lProblem (M.chkO s))]) := by
 have hwl := M.wds_len s
 have hpl := M.pls_len s
 have hl9 : M.fieldNames.length = 9 := rfl
 refine enter @Tryz.func90 @Tryz.ntmps90 rfl rfl ?_
 refine zent ?_
 refine zS <| za zeh fun b1 => Qa rfl <| zN <| Qm rfl <| zp rfl (fun w hw => c_spec_l03Parts s) ?_
 intro u2 x2 A3 c3 h3 bl3 bh3 A4 c4 h4 bl4 bh4
 refine Qm rfl <| Qx rfl rfl <| Qx rfl rfl <| Qa rfl <| Qa rfl <| zN <| zmk (a0 := 9) (m := 9) (by omega) (by omega) fun b5 => Qa rfl <| zN <| zmkF vcbool false (a0 := 9) (m := 9) (by omega) (by omega) fun b6 => Qa rfl <| zN <| zbs fun b7 => ?_
 refine Qa rfl <| zN <| Qa rfl <| zJ <| zS <| Qa rfl <| JL.nil <| Js.block ?_
 refine zl [0, 2, 4, 5, 6, 7] (fun F U l os u m => ∃ (k : Nat) (v : List Int) (seen : List Bool) (again : Int) (out : List M.Prb) (A9_8 : Option Addr) (c9_8 : Nat) (g9_8 : List Nat), l = F [(8, .slice A9_8 out.length c9_8), (9, .int .i64 again), (10, .int .i64 (k : Int))] ∧ os = U [some (rowO 190 3 (.slice A9_8 out.length c9_8) out.length (fltV vcProblem out) g9_8), some (rowO 4 1 (.slice (some ⟨b6, 0, none⟩) 9 9) 9 (fltV vcbool seen) []), some (rowO 2 1 (.slice (some ⟨b5, 0, none⟩) 9 9) 9 (ints_ v) [])] ∧ (M.chkN s k = ⟨v, seen, again, out⟩) ∧ (k ≤ (M.wds s).length) ∧ (out.length ≤ c9_8) ∧ (c9_8 ≤ 9223372036854775807) ∧ m = (M.wds s).length - k) ⟨0, List.replicate 9 0, List.replicate 9 false, 0, [], _, _, _, rfl, rfl, by rfl, zt, zu, zu, rfl⟩ ?_
 rintro _ _ u9 _ ⟨k, v, seen, again, out, A9_8, c9_8, g9_8, rfl, rfl, hC, hk, f9_2, f9_3, rfl⟩ x9
 refine zn ?_
 obtain ⟨hv9, hs9, ho9⟩ := M.chkN_len s k
 rw [hC] at hv9 hs9 ho9
 dsimp only at hv9 hs9 ho9
 refine Js.seq <| zS <| Qm rfl <| Qm rfl <| Qz rfl <| Ql rfl rfl <| JL.nil ?_
 refine zi (fun h10 h10' => ?_) fun h10 h10' => ?_
 ·
  obtain ⟨ye11, hye11⟩ : ∃ x, (M.wds s)[k]? = some x := ⟨_, List.getElem?_eq_getElem (by omega)⟩
  have hY : (M.wds s)[k]? = some ye11 := hye11
  have hw9 := M.wds_mem hY
  obtain ⟨w1, w2, w3, w4, w5, w6⟩ := M.wrd_bd ye11
  have w7 := M.wrd_ne2 ye11
  have hy12 := hye11
  obtain ⟨b12, o12, he12, hc12⟩ := strs_elem (Ty.mono _ h3 x9.vis) hy12
  have hy13 : seen[((M.wrd ye11).1).toNat]? = some (M.blt seen (((M.wrd ye11).1).toNat)) := M.blt_get len_
  refine Js.skip <| Js.seq <| Js.block <| zS <| Qm rfl <| Qm rfl <| Qq (p_indexAddr el_72 rfl rfl (by omega) (by omega) he12) <| QC hc12 rfl <| zv rfl (fun w hw => c_spec_l03Word ye11) <| Qm rfl <| Qx rfl rfl <| Qx rfl rfl <| Qx rfl rfl <| Qa rfl ?_
  refine Qa rfl <| Qa rfl <| zJ <| zS <| Qm rfl <| Qd rfl rfl <| Qm rfl <| zg (Gd.t1 rfl rfl rfl) (fun hc => p_move rfl) <| zg (Gd.t1 rfl rfl rfl) (fun hc => p_move rfl) <| zg (Gd.t1 rfl rfl rfl) (fun hc => p_indexAddr el_186 (gh hc rfl) (gh hc rfl) (by have hc9 := hc; (try simp only [Bool.not_eq_true', decide_eq_false_iff_not] at hc9); first | omega | (simp only [List.length_set, List.length_append, List.length_cons, List.length_nil, List.length_take, List.length_drop, List.length_replicate]; omega)) (by have hc9 := hc; (try simp only [Bool.not_eq_true', decide_eq_false_iff_not] at hc9); first | omega | (simp only [List.length_set, List.length_append, List.length_cons, List.length_nil, List.length_take, List.length_drop, List.length_replicate]; omega)) rfl) ?_
  refine zgq (Gd.t1 rfl rfl rfl) (fun hc => q_load1 ty_4.h (gh hc rfl) (fun w hw => (Mem.rowR' (i := 1) rfl (fltV_at (C := vcbool) (fun _ => rfl) hy13) w hw) 0 _ rfl)) <| Qq (p_pickAnd rfl rfl rfl) <| JL.nil ?_
  refine zi (fun h14 h14' => ?_) fun h14 h14' => ?_
  ·
   have hq : ¬ (M.wrd ye11).2.2 = 1 ∧ M.blt seen (M.wrd ye11).1.toNat = true := by have h9 := h14; simp at h9; exact h9
   have hE := M.chk_t hC hY hq.1 hq.2
   refine Js.region <| Qa rfl <| zJ <| zS <| Qm rfl <| Qd rfl rfl <| JL.nil ?_
   refine Js.condT rfl (by decide) ?_
   refine zdr [12] ?_
   refine jM 0 rfl rfl ?_
   refine jM 1 rfl rfl ?_
   refine jM 2 rfl rfl ?_
   refine jM 3 rfl rfl ?_
   obtain ⟨b15, o15, he15, hc15⟩ := ints_elem (Ty.mono _ h4 x9.vis) (i := k) (by omega)
   refine jI 4 el_42 rfl rfl rfl he15 ?_
   refine jW 5 ty_2 rfl rfl hc15.vis ?_
   refine jM 6 rfl rfl ?_
   refine jM 7 rfl rfl ?_
   have hy16 := hye11
   obtain ⟨b16, o16, he16, hc16⟩ := strs_elem (Ty.mono _ h3 x9.vis) hy16
   refine jI 8 el_72 rfl rfl rfl he16 ?_
   refine jW 9 ty_9 rfl rfl hc16.vis ?_
   refine JH.p 10 rfl (q_bld) ?_
   refine y1 11 ?_
   refine ybs rfl fun b17 => ?_
   refine y1 12 ?_
   refine JHo.e rfl (e_append (i := 1) (n' := (out ++ [(M.Prb.mk 2 (M.nth (M.pls s) k) ye11)]).length) (vs' := fltV vcProblem (out ++ [(M.Prb.mk 2 (M.nth (M.pls s) k) ye11)])) el_131 rfl rfl rfl rfl (src_row (i := 0) und_131 rfl rfl) (by omega) (by omega) ln2_ (by first | rfl | exact fltV_app _ _ _ | exact fltV_snoc _ _ _ | (simp [fltV]; done))) (.inr rfl) ?_
   rintro v19 _ _ ⟨⟨g20, rfl⟩, rfl⟩ _
   refine JH.fact (row_form' (i := 1) rfl) (fun hf21 => ?_)
   obtain ⟨A21, c21, rfl, bl21, bh21⟩ := hf21
   refine znh ?_
   refine jA 13 rfl rfl ?_
   refine yd ?_
   refine Js.seq <| zS <| Qm rfl <| Qe rfl rfl <| Qm rfl <| zg (Gd.f1 rfl rfl rfl) (fun hc => p_move rfl) <| zg (Gd.f1 rfl rfl rfl) (fun hc => p_eql (gh hc rfl) rfl) <| Qq (p_pickOr rfl rfl rfl) <| JL.nil ?_
   refine zi (fun h22 h22' => ?_) fun h22 h22' => ?_
   ·
    refine zx ?_
    refine Js.region <| Qm rfl <| Qp rfl rfl <| Qa rfl <| JL.nil ?_
    refine zd [1, 1, 1, 1] rfl fun u23 x23 => ?_
    exact zag ⟨k + 1, v, seen, again, out ++ [(M.Prb.mk 2 (M.nth (M.pls s) k) ye11)], _, _, _, rfl, rfl, by first | exact hE | (exfalso; omega) | (exfalso; simp at hx; done), zt, zu, zu, rfl⟩ (x9.trans x23)
   have hx := h22
   have hy24 : seen[((M.wrd ye11).1).toNat]? = some (M.blt seen (((M.wrd ye11).1).toNat)) := M.blt_get len_
   refine Js.skip <| zS <| Qm rfl <| Qm rfl <| Qq (p_indexAddr el_186 rfl rfl len_ len_ rfl) ?_
   refine JL.s (e_storeRow (i := 2) (xs' := fltV vcbool (seen.set (((M.wrd ye11).1).toNat) true)) ty_4.h rfl rfl rfl rfl rfl rfl (fltV_lt (C := vcbool) (j := 0) (fun _ => rfl) len_ (by decide)) (fltV_set (C := vcbool) (y := true) (fun _ => rfl) len_)) ?_
   rintro _ _ _ ⟨rfl, rfl⟩ _
   refine znl ?_
   refine zN <| Qm rfl <| Qm rfl <| Qm rfl <| Qq (p_indexAddr el_42 rfl rfl (by omega) (by omega) rfl) ?_
   refine JL.s (e_storeRow (i := 3) (xs' := ints_ (M.setI v ((M.wrd ye11).1) ((M.wrd ye11).2.1))) ty_2.h rfl rfl rfl rfl rfl rfl (ints_lt (i := ((M.wrd ye11).1).toNat) (by omega)) (ints_setL (i := ((M.wrd ye11).1).toNat) (by omega))) ?_
   rintro _ _ _ ⟨rfl, rfl⟩ _
   refine znl ?_
   refine zN <| Qm rfl <| Qe rfl rfl <| JL.nil ?_
   refine zi (fun h26 h26' => ?_) fun h26 h26' => ?_
   ·
    obtain ⟨b27, o27, he27, hc27⟩ := ints_elem (Ty.mono _ h4 x9.vis) (i := k) (by omega)
    refine Js.region <| Qm rfl <| Qm rfl <| Qq (p_indexAddr el_42 rfl rfl (by omega) (by omega) he27) <| QC hc27 rfl <| Qa rfl <| JL.nil <| Js.blockEnd <| Js.region <| Qm rfl <| Qp rfl rfl <| Qa rfl <| JL.nil ?_
    refine zd [1, 1, 1, 1] rfl fun u28 x28 => ?_
    exact zag ⟨k + 1, M.setI v ((M.wrd ye11).1) ((M.wrd ye11).2.1), seen.set (((M.wrd ye11).1).toNat) true, M.nth (M.pls s) k, out ++ [(M.Prb.mk 2 (M.nth (M.pls s) k) ye11)], _, _, _, rfl, rfl, by first | exact hE | (exfalso; omega) | (exfalso; simp at hx; done), zt, zu, zu, rfl⟩ (x9.trans x28)
   refine Js.skip <| Js.blockEnd <| Js.region <| Qm rfl <| Qp rfl rfl <| Qa rfl <| JL.nil ?_
   refine zd [1, 1, 1, 1] rfl fun u29 x29 => ?_
   exact zag ⟨k + 1, M.setI v ((M.wrd ye11).1) ((M.wrd ye11).2.1), seen.set (((M.wrd ye11).1).toNat) true, again, out ++ [(M.Prb.mk 2 (M.nth (M.pls s) k) ye11)], _, _, _, rfl, rfl, by first | exact hE | (exfalso; omega) | (exfalso; simp at hx; done), zt, zu, zu, rfl⟩ (x9.trans x29)
  have hq : ¬ (M.wrd ye11).2.2 = 1 → M.blt seen (M.wrd ye11).1.toNat = false := by have h9 := h14; simp at h9; exact h9
  refine Js.skip <| Js.seq <| zS <| Qm rfl <| Qd rfl rfl <| JL.nil ?_
  refine zi (fun h30 h30' => ?_) fun h30 h30' => ?_
  ·
   have h0 : ¬ (M.wrd ye11).2.2 = 0 := by simpa using h30
   have hZ := fun (h1 : ¬ (M.wrd ye11).2.2 = 1) => M.chk_o hC hY h1 (by rw [hq h1]; decide) h0
   refine zdr [12] ?_
   refine jM 0 rfl rfl ?_
   refine jM 1 rfl rfl ?_
   refine jM 2 rfl rfl ?_
   refine jM 3 rfl rfl ?_
   obtain ⟨b31, o31, he31, hc31⟩ := ints_elem (Ty.mono _ h4 x9.vis) (i := k) (by omega)
   refine jI 4 el_42 rfl rfl rfl he31 ?_
   refine jW 5 ty_2 rfl rfl hc31.vis ?_
   refine jM 6 rfl rfl ?_
   refine jM 7 rfl rfl ?_
   have hy32 := hye11
   obtain ⟨b32, o32, he32, hc32⟩ := strs_elem (Ty.mono _ h3 x9.vis) hy32
   refine jI 8 el_72 rfl rfl rfl he32 ?_
   refine jW 9 ty_9 rfl rfl hc32.vis ?_
   refine JH.p 10 rfl (q_bld) ?_
   refine y1 11 ?_
   refine ybs rfl fun b33 => ?_
   refine y1 12 ?_
   refine JHo.e rfl (e_append (i := 1) (n' := (out ++ [(M.Prb.mk ((M.wrd ye11).2.2) (M.nth (M.pls s) k) ye11)]).length) (vs' := fltV vcProblem (out ++ [(M.Prb.mk ((M.wrd ye11).2.2) (M.nth (M.pls s) k) ye11)])) el_131 rfl rfl rfl rfl (src_row (i := 0) und_131 rfl rfl) (by omega) (by omega) ln2_ (by first | rfl | exact fltV_app _ _ _ | exact fltV_snoc _ _ _ | (simp [fltV]; done))) (.inr rfl) ?_
   rintro v35 _ _ ⟨⟨g36, rfl⟩, rfl⟩ _
   refine JH.fact (row_form' (i := 1) rfl) (fun hf37 => ?_)
   obtain ⟨A37, c37, rfl, bl37, bh37⟩ := hf37
   refine znh ?_
   refine jA 13 rfl rfl ?_
   refine yd ?_
   refine Js.seq <| zS <| Qm rfl <| Qe rfl rfl <| Qm rfl <| zg (Gd.f1 rfl rfl rfl) (fun hc => p_move rfl) <| zg (Gd.f1 rfl rfl rfl) (fun hc => p_eql (gh hc rfl) rfl) <| Qq (p_pickOr rfl rfl rfl) <| JL.nil ?_
   refine zi (fun h38 h38' => ?_) fun h38 h38' => ?_
   ·
    have hu : (M.wrd ye11).2.2 = 1 ∨ (M.wrd ye11).2.2 = 2 := by have h9 := h38; simp only [Bool.or_eq_true, decide_eq_true_eq] at h9; exact h9
    have hE := M.chk_u hC hY (by omega)
    refine zx ?_
    refine Js.region <| Qm rfl <| Qp rfl rfl <| Qa rfl <| JL.nil ?_
    refine zd [1, 1, 1, 1] rfl fun u39 x39 => ?_
    exact zag ⟨k + 1, v, seen, again, out ++ [(M.Prb.mk ((M.wrd ye11).2.2) (M.nth (M.pls s) k) ye11)], _, _, _, rfl, rfl, by first | exact hE | (exfalso; omega) | (exfalso; simp at hx; done), zt, zu, zu, rfl⟩ (x9.trans x39)
   have hu : ¬ ((M.wrd ye11).2.2 = 1 ∨ (M.wrd ye11).2.2 = 2) := by have h9 := h38; simp only [Bool.or_eq_false_iff, decide_eq_false_iff_not] at h9; rintro (h8 | h8); exact h9.1 h8; exact h9.2 h8
   have hE := hZ (by omega)
   have hy40 : seen[((M.wrd ye11).1).toNat]? = some (M.blt seen (((M.wrd ye11).1).toNat)) := M.blt_get len_
   refine Js.skip <| zS <| Qm rfl <| Qm rfl <| Qq (p_indexAddr el_186 rfl rfl len_ len_ rfl) ?_
   refine JL.s (e_storeRow (i := 2) (xs' := fltV vcbool (seen.set (((M.wrd ye11).1).toNat) true)) ty_4.h rfl rfl rfl rfl rfl rfl (fltV_lt (C := vcbool) (j := 0) (fun _ => rfl) len_ (by decide)) (fltV_set (C := vcbool) (y := true) (fun _ => rfl) len_)) ?_
   rintro _ _ _ ⟨rfl, rfl⟩ _
   refine znl ?_
   refine zN <| Qm rfl <| Qm rfl <| Qm rfl <| Qq (p_indexAddr el_42 rfl rfl (by omega) (by omega) rfl) ?_
   refine JL.s (e_storeRow (i := 3) (xs' := ints_ (M.setI v ((M.wrd ye11).1) ((M.wrd ye11).2.1))) ty_2.h rfl rfl rfl rfl rfl rfl (ints_lt (i := ((M.wrd ye11).1).toNat) (by omega)) (ints_setL (i := ((M.wrd ye11).1).toNat) (by omega))) ?_
   rintro _ _ _ ⟨rfl, rfl⟩ _
   refine znl ?_
   refine zN <| Qm rfl <| Qe rfl rfl <| JL.nil ?_
   refine zi (fun h42 h42' => ?_) fun h42 h42' => ?_
   ·
    rw [if_pos (show (M.wrd ye11).1 = 6 from by simpa using h42)] at hE
    obtain ⟨b43, o43, he43, hc43⟩ := ints_elem (Ty.mono _ h4 x9.vis) (i := k) (by omega)
    refine Js.region <| Qm rfl <| Qm rfl <| Qq (p_indexAddr el_42 rfl rfl (by omega) (by omega) he43) <| QC hc43 rfl <| Qa rfl <| JL.nil <| Js.blockEnd <| Js.region <| Qm rfl <| Qp rfl rfl <| Qa rfl <| JL.nil ?_
    refine zd [1, 1, 1, 1] rfl fun u44 x44 => ?_
    exact zag ⟨k + 1, M.setI v ((M.wrd ye11).1) ((M.wrd ye11).2.1), seen.set (((M.wrd ye11).1).toNat) true, M.nth (M.pls s) k, out ++ [(M.Prb.mk ((M.wrd ye11).2.2) (M.nth (M.pls s) k) ye11)], _, _, _, rfl, rfl, by first | exact hE | (exfalso; omega) | (exfalso; simp at hx; done), zt, zu, zu, rfl⟩ (x9.trans x44)
   rw [if_neg (show ¬ (M.wrd ye11).1 = 6 from by simpa using h42)] at hE
   refine Js.skip <| Js.blockEnd <| Js.region <| Qm rfl <| Qp rfl rfl <| Qa rfl <| JL.nil ?_
   refine zd [1, 1, 1, 1] rfl fun u45 x45 => ?_
   exact zag ⟨k + 1, M.setI v ((M.wrd ye11).1) ((M.wrd ye11).2.1), seen.set (((M.wrd ye11).1).toNat) true, again, out ++ [(M.Prb.mk ((M.wrd ye11).2.2) (M.nth (M.pls s) k) ye11)], _, _, _, rfl, rfl, by first | exact hE | (exfalso; omega) | (exfalso; simp at hx; done), zt, zu, zu, rfl⟩ (x9.trans x45)
  have h0 : (M.wrd ye11).2.2 = 0 := by simpa using h30
  have hZ := fun (h1 : ¬ (M.wrd ye11).2.2 = 1) => M.chk_z hC hY (by rw [hq h1]; decide) h0
  refine Js.skip <| Js.seq <| zS <| Qm rfl <| Qe rfl rfl <| Qm rfl <| zg (Gd.f1 rfl rfl rfl) (fun hc => p_move rfl) <| zg (Gd.f1 rfl rfl rfl) (fun hc => p_eql (gh hc rfl) rfl) <| Qq (p_pickOr rfl rfl rfl) <| JL.nil ?_
  refine zi (fun h46 h46' => ?_) fun h46 h46' => ?_
  ·
   have hu : (M.wrd ye11).2.2 = 1 ∨ (M.wrd ye11).2.2 = 2 := by have h9 := h46; simp only [Bool.or_eq_true, decide_eq_true_eq] at h9; exact h9
   have hE := M.chk_u hC hY (by omega)
   refine zx ?_
   refine Js.region <| Qm rfl <| Qp rfl rfl <| Qa rfl <| JL.nil ?_
   exact zag ⟨k + 1, v, seen, again, out, _, _, _, rfl, rfl, by first | exact hE | (exfalso; omega) | (exfalso; simp at hx; done), zt, zu, zu, rfl⟩ x9
  have hu : ¬ ((M.wrd ye11).2.2 = 1 ∨ (M.wrd ye11).2.2 = 2) := by have h9 := h46; simp only [Bool.or_eq_false_iff, decide_eq_false_iff_not] at h9; rintro (h8 | h8); exact h9.1 h8; exact h9.2 h8
  have hE := hZ (by omega)
  have hy47 : seen[((M.wrd ye11).1).toNat]? = some (M.blt seen (((M.wrd ye11).1).toNat)) := M.blt_get len_
  refine Js.skip <| zS <| Qm rfl <| Qm rfl <| Qq (p_indexAddr el_186 rfl rfl len_ len_ rfl) ?_
  refine JL.s (e_storeRow (i := 1) (xs' := fltV vcbool (seen.set (((M.wrd ye11).1).toNat) true)) ty_4.h rfl rfl rfl rfl rfl rfl (fltV_lt (C := vcbool) (j := 0) (fun _ => rfl) len_ (by decide)) (fltV_set (C := vcbool) (y := true) (fun _ => rfl) len_)) ?_
  rintro _ _ _ ⟨rfl, rfl⟩ _
  refine znl ?_
  refine zN <| Qm rfl <| Qm rfl <| Qm rfl <| Qq (p_indexAddr el_42 rfl rfl (by omega) (by omega) rfl) ?_
  refine JL.s (e_storeRow (i := 2) (xs' := ints_ (M.setI v ((M.wrd ye11).1) ((M.wrd ye11).2.1))) ty_2.h rfl rfl rfl rfl rfl rfl (ints_lt (i := ((M.wrd ye11).1).toNat) (by omega)) (ints_setL (i := ((M.wrd ye11).1).toNat) (by omega))) ?_
  rintro _ _ _ ⟨rfl, rfl⟩ _
  refine znl ?_
  refine zN <| Qm rfl <| Qe rfl rfl <| JL.nil ?_
  refine zi (fun h49 h49' => ?_) fun h49 h49' => ?_
  ·
   rw [if_pos (show (M.wrd ye11).1 = 6 from by simpa using h49)] at hE
   obtain ⟨b50, o50, he50, hc50⟩ := ints_elem (Ty.mono _ h4 x9.vis) (i := k) (by omega)
   refine Js.region <| Qm rfl <| Qm rfl <| Qq (p_indexAddr el_42 rfl rfl (by omega) (by omega) he50) <| QC hc50 rfl <| Qa rfl <| JL.nil <| Js.blockEnd <| Js.region <| Qm rfl <| Qp rfl rfl <| Qa rfl <| JL.nil ?_
   exact zag ⟨k + 1, M.setI v ((M.wrd ye11).1) ((M.wrd ye11).2.1), seen.set (((M.wrd ye11).1).toNat) true, M.nth (M.pls s) k, out, _, _, _, rfl, rfl, by first | exact hE | (exfalso; omega) | (exfalso; simp at hx; done), zt, zu, zu, rfl⟩ x9
  rw [if_neg (show ¬ (M.wrd ye11).1 = 6 from by simpa using h49)] at hE
  refine Js.skip <| Js.blockEnd <| Js.region <| Qm rfl <| Qp rfl rfl <| Qa rfl <| JL.nil ?_
  exact zag ⟨k + 1, M.setI v ((M.wrd ye11).1) ((M.wrd ye11).2.1), seen.set (((M.wrd ye11).1).toNat) true, again, out, _, _, _, rfl, rfl, by first | exact hE | (exfalso; omega) | (exfalso; simp at hx; done), zt, zu, zu, rfl⟩ x9
 have hA := M.chk_e hC (by have := h10'; omega) hk
 obtain ⟨hv9, hs9, ho9⟩ := M.chkN_len s k
 rw [hC] at hv9 hs9 ho9
 dsimp only at hv9 hs9 ho9
 refine zx ?_
 refine Js.seq <| zS <| Qa rfl <| JL.nil <| Js.block ?_
 refine zl [0, 2, 6, 7, 9] (fun F U l os u m => ∃ (j : Nat) (out2 : List M.Prb) (A51_8 : Option Addr) (c51_8 : Nat) (g51_8 : List Nat), l = F [(8, .slice A51_8 out2.length c51_8), (14, .int .i64 (j : Int))] ∧ os = U [some (rowO 190 3 (.slice A51_8 out2.length c51_8) out2.length (fltV vcProblem out2) g51_8)] ∧ (out2 = M.chkM s j) ∧ (j ≤ 2) ∧ (out2.length ≤ c51_8) ∧ (c51_8 ≤ 9223372036854775807) ∧ m = 2 - j) ⟨0, out, _, _, _, rfl, rfl, by rw [M.chkM, hA], zt, zu, zu, rfl⟩ ?_
 rintro _ _ u51 _ ⟨j, out2, A51_8, c51_8, g51_8, rfl, rfl, hM, hj, f51_2, f51_3, rfl⟩ x51
 refine zn ?_
 have hml := M.chkM_len s j
 rw [← hM] at hml
 refine Js.seq <| zS <| Qm rfl <| Ql rfl rfl <| JL.nil ?_
 refine zi (fun h52 h52' => ?_) fun h52 h52' => ?_
 ·
  have hy53 : seen[j]? = some (M.blt seen j) := M.blt_get len_
  refine Js.skip <| Js.seq <| Js.block <| zS <| Qm rfl <| Qm rfl <| Qq (p_indexAddr el_186 rfl rfl len_ len_ rfl) <| Qw (q_load1 ty_4.h rfl (fun w hw => (Mem.rowR' (i := 1) rfl (fltV_at (C := vcbool) (fun _ => rfl) hy53) w hw) 0 _ rfl)) <| Qt rfl <| JL.nil ?_
  refine zi (fun h54 h54' => ?_) fun h54 h54' => ?_
  ·
   have hb9 : ¬ M.blt seen j = true := by simpa using h54
   obtain ⟨ye55, hye55⟩ : ∃ x, M.fieldNames[j]? = some x := ⟨_, List.getElem?_eq_getElem (by omega)⟩
   have hY2 : M.fieldNames[j]? = some ye55 := hye55
   refine Js.region <| Qm rfl <| Qm rfl <| Qq (p_lenS und_9 rfl) <| zp rfl (fun w hw => c_spec_FieldNames) ?_
   intro u56 x56 A57 c57 h57 bl57 bh57
   have hy58 := hye55
   obtain ⟨b58, o58, he58, hc58⟩ := strs_elem h57 hy58
   refine Qm rfl <| Qq (p_indexAddr el_72 rfl rfl (by omega) (by omega) he58) <| QC hc58 rfl <| Qb ?_
   refine zbs fun b59 => ?_
   refine JL.e (e_append (i := 1) (n' := (out2 ++ [(M.Prb.mk 5 (s.length : Int) ye55)]).length) (vs' := fltV vcProblem (out2 ++ [(M.Prb.mk 5 (s.length : Int) ye55)])) el_131 rfl rfl rfl rfl (src_row (i := 0) und_131 rfl rfl) (by omega) (by omega) ln2_ (by first | rfl | exact fltV_app _ _ _ | exact fltV_snoc _ _ _ | (simp [fltV]; done))) ?_
   rintro v61 _ _ ⟨⟨g62, rfl⟩, rfl⟩ _
   refine JL.fact (row_form' (i := 1) rfl) (fun hf63 => ?_)
   obtain ⟨A63, c63, rfl, bl63, bh63⟩ := hf63
   refine znl ?_
   refine Qa rfl <| JL.nil <| Js.blockEnd <| Js.region <| Qm rfl <| Qp rfl rfl <| Qa rfl <| JL.nil ?_
   refine zd [1, 1, 1, 1] rfl fun u64 x64 => ?_
   exact zag ⟨j + 1, out2 ++ [(M.Prb.mk 5 (s.length : Int) ye55)], _, _, _, rfl, rfl, by first | exact hM2 | exact M.chkM_f hA hM hb9 hY2, zt, zu, zu, rfl⟩ ((x51.trans x56).trans x64)
  have hM2 := M.chkM_t hA hM (by simpa using h54)
  refine Js.skip <| Js.blockEnd <| Js.region <| Qm rfl <| Qp rfl rfl <| Qa rfl <| JL.nil ?_
  exact zag ⟨j + 1, out2, _, _, _, rfl, rfl, by first | exact hM2 | exact M.chkM_f hA hM hb9 hY2, zt, zu, zu, rfl⟩ x51
 have hj2 : j = 2 := by have := h52'; omega
 have hml := M.chkM_len s j
 rw [← hM] at hml
 have hE2 := M.chkR_e hA
 refine zx ?_
 refine Js.seq <| zS <| Qm rfl <| Qq (p_indexAddr el_42 rfl rfl (by omega) (by omega) rfl) <| Qw (q_load1 ty_2.h rfl (Mem.row (i := 2) rfl (ints_get (i := 6) (by omega)))) <| Qe rfl rfl <| Qm rfl <| zg (Gd.t1 rfl rfl rfl) (fun hc => p_move rfl) <| zg (Gd.t1 rfl rfl rfl) (fun hc => p_indexAddr el_42 (gh hc rfl) rfl (oh_ hc) (oh_ hc) rfl) ?_
 refine zgq (Gd.t1 rfl rfl rfl) (fun hc => q_load1 ty_2.h (gh hc rfl) (Mem.row (i := 2) rfl (ints_get (i := 2) (oh_ hc)))) ?_
 refine zg (Gd.t1 rfl rfl rfl) (fun hc => p_eql (gh hc rfl) rfl) <| Qq (p_pickAnd rfl rfl rfl) <| JL.nil ?_
 refine zi (fun h67 h67' => ?_) fun h67 h67' => ?_
 ·
  have hq2 : M.nth v 6 = 1 ∧ M.nth v 2 = 0 := by have h9 := h67; simp at h9; exact h9
  have hE := M.chkO_t hA hM hj2 hq2.1 hq2.2
  refine Js.region <| Qm rfl <| Qm rfl <| Qb ?_
  refine zbs fun b68 => ?_
  refine JL.e (e_append (i := 1) (n' := (out2 ++ ([(M.Prb.mk 6 again ([97, 103, 97, 105, 110] : List UInt8))])).length) (vs' := fltV vcProblem (out2 ++ ([(M.Prb.mk 6 again ([97, 103, 97, 105, 110] : List UInt8))]))) el_131 rfl rfl rfl rfl (src_row (i := 0) und_131 rfl rfl) (by omega) (by omega) ln2_ (by first | rfl | exact fltV_app _ _ _ | exact fltV_snoc _ _ _ | (simp [fltV]; done))) ?_
  rintro v70 _ _ ⟨⟨g71, rfl⟩, rfl⟩ _
  refine JL.fact (row_form' (i := 1) rfl) (fun hf72 => ?_)
  obtain ⟨A72, c72, rfl, bl72, bh72⟩ := hf72
  refine znl ?_
  refine Qa rfl <| zN <| Qm rfl <| zp rfl (fun w hw => c_spec_l03Rules v (ok_ hw)) ?_
  intro u73 x73
  have hq0 : ((M.rulV v).pits) = (M.chkR s).pits := by first | (rw [hE2]; done) | exact hE | (rw [hE]; done)
  have hq1 : ((M.rulV v).seeds) = (M.chkR s).seeds := by first | (rw [hE2]; done) | exact hE | (rw [hE]; done)
  have hq2 : ((M.rulV v).stores) = (M.chkR s).stores := by first | (rw [hE2]; done) | exact hE | (rw [hE]; done)
  have hq3 : ((M.rulV v).skip) = (M.chkR s).skip := by first | (rw [hE2]; done) | exact hE | (rw [hE]; done)
  have hq4 : ((M.rulV v).relay) = (M.chkR s).relay := by first | (rw [hE2]; done) | exact hE | (rw [hE]; done)
  have hq5 : ((M.rulV v).feed) = (M.chkR s).feed := by first | (rw [hE2]; done) | exact hE | (rw [hE]; done)
  have hq6 : ((M.rulV v).again) = (M.chkR s).again := by first | (rw [hE2]; done) | exact hE | (rw [hE]; done)
  have hq7 : ((M.rulV v).capture) = (M.chkR s).capture := by first | (rw [hE2]; done) | exact hE | (rw [hE]; done)
  have hq8 : ((M.rulV v).slam) = (M.chkR s).slam := by first | (rw [hE2]; done) | exact hE | (rw [hE]; done)
  have hq9 : (out2 ++ ([(M.Prb.mk 6 again ([97, 103, 97, 105, 110] : List UInt8))])) = (M.chkO s) := by first | (rw [hE2]; done) | exact hE | (rw [hE]; done)
  refine Qm rfl <| zw 4 rfl rfl rfl ?_
  refine Qa rfl <| JL.nil ?_
  exact zro (((x2.trans x9).trans x51).trans x73) (g := by exact (gv_tup (gvc gv_ (gvc (gv_flat lProblem (xs := (out2 ++ ([(M.Prb.mk 6 again ([97, 103, 97, 105, 110] : List UInt8))]))) po_ (by first | rfl | (simp [fltV]; done)) (by first | with_reducible rfl | assumption | rfl)) gvn))))
 have hq2 : ¬ (M.nth v 6 = 1 ∧ M.nth v 2 = 0) := by have h9 := h67; simp at h9; rintro ⟨h8, h7⟩; exact h9 h8 h7
 have hE := M.chkO_f hA hM hj2 hq2
 refine Js.skip <| zS <| Qm rfl <| zp rfl (fun w hw => c_spec_l03Rules v (ok_ hw)) ?_
 intro u74 x74
 have hq0 : ((M.rulV v).pits) = (M.chkR s).pits := by first | (rw [hE2]; done) | exact hE | (rw [hE]; done)
 have hq1 : ((M.rulV v).seeds) = (M.chkR s).seeds := by first | (rw [hE2]; done) | exact hE | (rw [hE]; done)
 have hq2 : ((M.rulV v).stores) = (M.chkR s).stores := by first | (rw [hE2]; done) | exact hE | (rw [hE]; done)
 have hq3 : ((M.rulV v).skip) = (M.chkR s).skip := by first | (rw [hE2]; done) | exact hE | (rw [hE]; done)
 have hq4 : ((M.rulV v).relay) = (M.chkR s).relay := by first | (rw [hE2]; done) | exact hE | (rw [hE]; done)
 have hq5 : ((M.rulV v).feed) = (M.chkR s).feed := by first | (rw [hE2]; done) | exact hE | (rw [hE]; done)
 have hq6 : ((M.rulV v).again) = (M.chkR s).again := by first | (rw [hE2]; done) | exact hE | (rw [hE]; done)
 have hq7 : ((M.rulV v).capture) = (M.chkR s).capture := by first | (rw [hE2]; done) | exact hE | (rw [hE]; done)
 have hq8 : ((M.rulV v).slam) = (M.chkR s).slam := by first | (rw [hE2]; done) | exact hE | (rw [hE]; done)
 have hq9 : out2 = (M.chkO s) := by first | (rw [hE2]; done) | exact hE | (rw [hE]; done)
 refine Qm rfl <| zw 3 rfl rfl rfl ?_
 refine Qa rfl <| JL.nil ?_
 exact zro (((x2.trans x9).trans x51).trans x74) (g := by exact (gv_tup (gvc gv_ (gvc (gv_flat lProblem (xs := out2) po_ (by first | rfl | (simp [fltV]; done)) (by first | with_reducible rfl | assumption | rfl)) gvn))))
theorem c_spec_ReadRules (s : List UInt8) {w : World} (r0 : s.length ≤ 4194304 := by exact om_) : Ret Tryz.prog 38 [.string (sB s)] w (Ty.tup [Ty.agg (cRules ((M.readR s).1)), Ty.bool ((M.readR s).2)]) := by
 refine enter @Tryz.func38 @Tryz.ntmps38 rfl rfl ?_
 refine zent ?_
 refine zS <| za zeh fun b1 => Qa rfl <| zJ <| zS <| Qm rfl <| Qq (p_lenS und_9 rfl) <| Qg rfl rfl <| JL.nil ?_
 refine zi (fun h2 h2' => ?_) fun h2 h2' => ?_
 ·
  have hE := M.readR_5 (s := s) (by have := h2'; omega)
  have hq0 : 0 = ((M.readR s).1).pits := rp_ hE
  have hq1 : 0 = ((M.readR s).1).seeds := rp_ hE
  have hq2 : false = ((M.readR s).1).stores := rp_ hE
  have hq3 : false = ((M.readR s).1).skip := rp_ hE
  have hq4 : false = ((M.readR s).1).relay := rp_ hE
  have hq5 : false = ((M.readR s).1).feed := rp_ hE
  have hq6 : false = ((M.readR s).1).again := rp_ hE
  have hq7 : 0 = ((M.readR s).1).capture := rp_ hE
  have hq8 : 0 = ((M.readR s).1).slam := rp_ hE
  have hq9 : false = (M.readR s).2 := rp_ hE
  refine zS <| Qb ?_
  refine zw 0 rfl rfl rfl ?_
  refine Qa rfl <| JL.nil ?_
  exact zro (Up.refl _ _)
 have h200 : ¬ 200 < s.length := by have := h2'; omega
 have hol := M.chkO_len s
 have hrl := M.rulesT_len (M.chkR s)
 refine Js.skip <| zS <| Qm rfl <| zcs rfl (fun w hw => c_spec_l03Check s) ?_
 intro f4 A5 c5 bl5 bh5
 refine Qm rfl <| Qx rfl rfl <| Qx rfl rfl <| za zeh fun b6 => zw 0 rfl rfl rfl ?_
 refine Qa rfl <| zJ <| zS <| Qm rfl <| Qz rfl <| Qg rfl rfl <| Qm rfl <| zgv (Gd.f1 rfl rfl rfl) (fun hc => rfl) (fun hc => (fun w hw => c_spec_l03Text (M.chkR s) (ok_ hw) (r0 := (M.chk_okR (by have h9 := hc; simp at h9; first | exact h9 | exact List.length_eq_zero_iff.1 (by omega)))))) ?_
 refine zg (Gd.f1 rfl rfl rfl) (fun hc => p_move rfl) <| zg (Gd.f1 rfl rfl rfl) (fun hc => p_neqT und_9 (gh hc rfl) (gh hc rfl)) <| Qq (p_pickOr rfl rfl rfl) <| JL.nil ?_
 refine zi (fun h7 h7' => ?_) fun h7 h7' => ?_
 ·
  have hE : M.readR s = (M.Rul.zero, false) := by have h9 := h7; simp only [Bool.or_eq_true, Bool.not_eq_true', decide_eq_true_eq, decide_eq_false_iff_not] at h9; by_cases h8 : M.chkO s = []; (rcases h9 with h9 | h9; (rw [h8] at h9; exact absurd h9 (by decide)); exact M.readR_f h200 h8 h9); exact M.readR_p h200 h8
  have hq0 : 0 = ((M.readR s).1).pits := rp_ hE
  have hq1 : 0 = ((M.readR s).1).seeds := rp_ hE
  have hq2 : false = ((M.readR s).1).stores := rp_ hE
  have hq3 : false = ((M.readR s).1).skip := rp_ hE
  have hq4 : false = ((M.readR s).1).relay := rp_ hE
  have hq5 : false = ((M.readR s).1).feed := rp_ hE
  have hq6 : false = ((M.readR s).1).again := rp_ hE
  have hq7 : 0 = ((M.readR s).1).capture := rp_ hE
  have hq8 : 0 = ((M.readR s).1).slam := rp_ hE
  have hq9 : false = (M.readR s).2 := rp_ hE
  refine zS <| Qb ?_
  refine zw 3 rfl rfl rfl ?_
  refine Qa rfl <| JL.nil ?_
  exact zro (Up.refl _ _)
 have h8 : M.chkO s = [] ∧ M.rulesT (M.chkR s) = s := by have h9 := h7; simp only [Bool.or_eq_false_iff, Bool.not_eq_false', decide_eq_true_eq, decide_eq_false_iff_not] at h9; exact ⟨List.length_eq_zero_iff.1 (by have := h9.1; omega), h9.2⟩
 have hE := M.readR_t h200 h8.1 h8.2
 have hq0 : ((M.chkR s).pits) = ((M.readR s).1).pits := rp_ hE
 have hq1 : ((M.chkR s).seeds) = ((M.readR s).1).seeds := rp_ hE
 have hq2 : ((M.chkR s).stores) = ((M.readR s).1).stores := rp_ hE
 have hq3 : ((M.chkR s).skip) = ((M.readR s).1).skip := rp_ hE
 have hq4 : ((M.chkR s).relay) = ((M.readR s).1).relay := rp_ hE
 have hq5 : ((M.chkR s).feed) = ((M.readR s).1).feed := rp_ hE
 have hq6 : ((M.chkR s).again) = ((M.readR s).1).again := rp_ hE
 have hq7 : ((M.chkR s).capture) = ((M.readR s).1).capture := rp_ hE
 have hq8 : ((M.chkR s).slam) = ((M.readR s).1).slam := rp_ hE
 have hq9 : true = (M.readR s).2 := rp_ hE
 refine Js.skip <| zS <| Q9 0 rfl rfl ?_
 refine zw 3 rfl rfl rfl ?_
 refine Qa rfl <| JL.nil ?_
 exact zro (Up.refl _ _)
theorem c_spec_l20Word (word : List UInt8) {w : World} (r0 : word.length ≤ 4194304 := by exact om_) : Ret Tryz.prog 92 [.string (sB word)] w (Ty.tup [Ty.agg (cChoice ((M.chS word).1)), Ty.bool ((M.chS word).2)]) := by
 refine enter @Tryz.func92 @Tryz.ntmps92 rfl rfl ?_
 refine zent ?_
 refine zS <| za zeh fun b1 => Qa rfl <| zN <| Qm rfl <| zp rfl (fun w hw => c_spec_l01Split word 47) ?_
 intro u2 x2 A3 c3 h3 bl3 bh3
 refine Qa rfl <| zJ <| zS <| Qm rfl <| Qz rfl <| Qd rfl rfl <| JL.nil ?_
 refine zi (fun h4 h4' => ?_) fun h4 h4' => ?_
 ·
  have hl3 : ¬ (M.split (M.u8 47) word).length = 3 := by have := h4'; omega
  change ¬ (M.split 47 word).length = 3 at hl3
  have hE := M.chS_n hl3
  have hq0 : 0 = ((M.chS word).1).move := by first | (rw [hE, hc0, hc1, hc2]; done) | (rw [hE, hc0, hc1, hc2]; rfl) | (rw [hE]; done) | (rw [hE]; rfl)
  have hq1 : 0 = ((M.chS word).1).games := by first | (rw [hE, hc0, hc1, hc2]; done) | (rw [hE, hc0, hc1, hc2]; rfl) | (rw [hE]; done) | (rw [hE]; rfl)
  have hq2 : 0 = ((M.chS word).1).score := by first | (rw [hE, hc0, hc1, hc2]; done) | (rw [hE, hc0, hc1, hc2]; rfl) | (rw [hE]; done) | (rw [hE]; rfl)
  have hq3 : false = (M.chS word).2 := by first | (rw [hE, hc0, hc1, hc2]; done) | (rw [hE, hc0, hc1, hc2]; rfl) | (rw [hE]; done) | (rw [hE]; rfl)
  refine zS <| Qb ?_
  refine zw 0 rfl rfl rfl ?_
  refine Qa rfl <| JL.nil ?_
  exact zro x2
 have hl3 : (M.split (M.u8 47) word).length = 3 := by have := h4'; omega
 have hE := M.chS_y (w := word) hl3
 obtain ⟨ye5, hye5⟩ : ∃ x, (M.split (M.u8 47) word)[0]? = some x := ⟨_, List.getElem?_eq_getElem (by omega)⟩
 have hc0 := M.c3_get (w := word) (i := 0) (show (M.split 47 word)[0]? = some ye5 from hye5)
 have hm0 := M.split_mem 47 word _ (List.mem_of_getElem? hye5)
 have hy6 := hye5
 obtain ⟨b6, o6, he6, hc6⟩ := strs_elem h3 hy6
 obtain ⟨ye7, hye7⟩ : ∃ x, (M.split (M.u8 47) word)[1]? = some x := ⟨_, List.getElem?_eq_getElem (by omega)⟩
 have hc1 := M.c3_get (w := word) (i := 1) (show (M.split 47 word)[1]? = some ye7 from hye7)
 have hm1 := M.split_mem 47 word _ (List.mem_of_getElem? hye7)
 have hy8 := hye7
 obtain ⟨b8, o8, he8, hc8⟩ := strs_elem h3 hy8
 obtain ⟨ye9, hye9⟩ : ∃ x, (M.split (M.u8 47) word)[2]? = some x := ⟨_, List.getElem?_eq_getElem (by omega)⟩
 have hc2 := M.c3_get (w := word) (i := 2) (show (M.split 47 word)[2]? = some ye9 from hye9)
 have hm2 := M.split_mem 47 word _ (List.mem_of_getElem? hye9)
 have hy10 := hye9
 obtain ⟨b10, o10, he10, hc10⟩ := strs_elem h3 hy10
 have hq0 : ((M.num ye5).1) = ((M.chS word).1).move := by first | (rw [hE, hc0, hc1, hc2]; done) | (rw [hE, hc0, hc1, hc2]; rfl) | (rw [hE]; done) | (rw [hE]; rfl)
 have hq1 : ((M.num ye7).1) = ((M.chS word).1).games := by first | (rw [hE, hc0, hc1, hc2]; done) | (rw [hE, hc0, hc1, hc2]; rfl) | (rw [hE]; done) | (rw [hE]; rfl)
 have hq2 : ((M.num ye9).1) = ((M.chS word).1).score := by first | (rw [hE, hc0, hc1, hc2]; done) | (rw [hE, hc0, hc1, hc2]; rfl) | (rw [hE]; done) | (rw [hE]; rfl)
 have hq3 : ((((M.num ye5).2) && ((M.num ye7).2)) && ((M.num ye9).2)) = (M.chS word).2 := by first | (rw [hE, hc0, hc1, hc2]; done) | (rw [hE, hc0, hc1, hc2]; rfl) | (rw [hE]; done) | (rw [hE]; rfl)
 refine Js.skip <| zS <| Qm rfl <| Qq (p_indexAddr el_72 rfl rfl (by omega) (by omega) he6) <| QC hc6 rfl <| zv rfl (fun w hw => c_spec_l01Number ye5) <| Qm rfl <| Qx rfl rfl <| Qx rfl rfl <| Qa rfl <| Qa rfl <| zN <| Qm rfl <| Qq (p_indexAddr el_72 rfl rfl (by omega) (by omega) he8) ?_
 refine QC hc8 rfl <| zv rfl (fun w hw => c_spec_l01Number ye7) <| Qm rfl <| Qx rfl rfl <| Qx rfl rfl <| Qa rfl <| Qa rfl <| zN <| Qm rfl <| Qq (p_indexAddr el_72 rfl rfl (by omega) (by omega) he10) <| QC hc10 rfl <| zv rfl (fun w hw => c_spec_l01Number ye9) <| Qm rfl <| Qx rfl rfl ?_
 refine Qx rfl rfl <| Qa rfl <| Qa rfl <| zN <| Qm rfl <| Qm rfl <| Qm rfl <| Qb ?_
 refine Qm rfl <| Qm rfl <| zg (Gd.t1 rfl rfl rfl) (fun hc => p_move rfl) <| Qq (p_pickAnd rfl rfl rfl) <| Qm rfl <| zg (Gd.t1 rfl rfl rfl) (fun hc => p_move rfl) <| Qq (p_pickAnd rfl rfl rfl) <| zw 0 rfl rfl rfl ?_
 refine Qa rfl <| JL.nil ?_
 exact zro x2
theorem c_spec_l20Line (line : List UInt8) {w : World} (r0 : line.length ≤ 4194304 := by exact om_) : Ret Tryz.prog 39 [.string (sB line)] w (Ty.tup [Ty.agg (cBookEntry ((M.lineS line).1)), Ty.bool ((M.lineS line).2)]) := by
 have hsp := M.split_p 32 line
 have hsl := M.split_len 32 line
 change 0 < (M.split (M.u8 32) line).length at hsp
 change (M.split (M.u8 32) line).length ≤ _ at hsl
 refine enter @Tryz.func39 @Tryz.ntmps39 rfl rfl ?_
 refine zent ?_
 refine zS <| za zeh fun b1 => Qa rfl <| zN <| Qm rfl <| zp rfl (fun w hw => c_spec_l01Split line 32) ?_
 intro u2 x2 A3 c3 h3 bl3 bh3
 obtain ⟨ye4, hye4⟩ : ∃ x, (M.split (M.u8 32) line)[0]? = some x := ⟨_, List.getElem?_eq_getElem (by omega)⟩
 have hw0 := M.w0_get (l := line) (show (M.split 32 line)[0]? = some ye4 from hye4)
 have hm0 := M.split_mem 32 line _ (List.mem_of_getElem? hye4)
 have hy5 := hye4
 obtain ⟨b5, o5, he5, hc5⟩ := strs_elem h3 hy5
 refine Qa rfl <| zN <| Qm rfl <| Qq (p_indexAddr el_72 rfl rfl (by omega) (by omega) he5) <| QC hc5 rfl <| zcs rfl (fun w hw => c_spec_l04Numbers ye4) ?_
 intro A7 c7 bl7 bh7
 refine Qm rfl <| Qx rfl rfl <| Qx rfl rfl <| Qa rfl <| Qa rfl <| zN <| Qm rfl <| Qb ?_
 refine za zeh fun b8 => zw 0 rfl rfl rfl ?_
 refine zJ <| zS <| Qa rfl <| JL.nil <| Js.block ?_
 refine Js.conv (fun w hw => St.nilRowS 58 3 hw) ?_
 refine zl [2, 4, 7] (fun F U l os u m => ∃ (i : Nat) (ok : Bool) (cs : List M.Cho) (A9_7_1 : Option Addr) (c9_7_1 : Nat) (g9_7_1 : List Nat), l = F [(6, .bool ok), (8, .int .i64 (i : Int))] ∧ os = U [some (rowO 58 3 (.slice A9_7_1 cs.length c9_7_1) cs.length (fltV vcChoice cs) g9_7_1), some (boxO b8 [.slice A7 (((M.nums ye4).1).length) c7, .slice A9_7_1 cs.length c9_7_1] 67)] ∧ (M.GlI line (i - 1) cs ok) ∧ (1 ≤ i) ∧ (i ≤ (M.split (M.u8 32) line).length) ∧ (cs.length ≤ i) ∧ (cs.length ≤ c9_7_1) ∧ (c9_7_1 ≤ 9223372036854775807) ∧ m = (M.split (M.u8 32) line).length - i) ⟨1, (M.nums ye4).2, [], _, _, _, rfl, rfl, by rw [← hw0]; exact M.GlI.zero line, zt, zt, by simp, zu, zu, rfl⟩ ?_
 rintro _ _ u9 _ ⟨i, ok, cs, A9_7_1, c9_7_1, g9_7_1, rfl, rfl, hG, hi1, hi2, hcl, f9_4, f9_5, rfl⟩ x9
 refine zn ?_
 refine Js.seq <| zS <| Qm rfl <| Qm rfl <| Qz rfl <| Ql rfl rfl <| Qm rfl <| zg (Gd.t1 rfl rfl rfl) (fun hc => p_move rfl) <| Qq (p_pickAnd rfl rfl rfl) <| JL.nil ?_
 refine zi (fun h10 h10' => ?_) fun h10 h10' => ?_
 ·
  have hio : i < (M.split (M.u8 32) line).length ∧ ok = true := by have h9 := h10; simp at h9; exact h9
  obtain ⟨ye11, hye11⟩ : ∃ x, (M.split (M.u8 32) line)[i]? = some x := ⟨_, List.getElem?_eq_getElem (by omega)⟩
  have hG2 := hG.step hio.2 (show (M.split 32 line)[i - 1 + 1]? = some ye11 by rw [show i - 1 + 1 = i by omega]; exact hye11)
  rw [show i - 1 + 1 = i + 1 - 1 by omega] at hG2
  have hm1 := M.split_mem 32 line _ (List.mem_of_getElem? hye11)
  have hy12 := hye11
  obtain ⟨b12, o12, he12, hc12⟩ := strs_elem (Ty.mono _ h3 x9.vis) hy12
  refine Js.skip <| Js.seq <| Js.block <| zS <| Qm rfl <| Qm rfl <| Qq (p_indexAddr el_72 rfl rfl (by omega) (by omega) he12) <| QC hc12 rfl <| zc rfl (fun w hw => c_spec_l20Word ye11) <| Qm rfl <| Qx rfl rfl <| Qx rfl rfl <| za zeh fun b15 => zw 0 rfl rfl rfl ?_
  refine Qa rfl <| zN <| Qf fh rfl <| Q0 2 rfl rfl rfl <| Q9 0 rfl rfl ?_
  refine zbs fun b16 => ?_
  refine JL.e (e_append (i := 2) (n' := (cs ++ [((M.chS ye11).1)]).length) (vs' := fltV vcChoice (cs ++ [((M.chS ye11).1)])) el_54 rfl rfl rfl rfl (src_row (i := 0) und_54 rfl rfl) (by omega) (by omega) ln2_ (by first | rfl | exact fltV_app _ _ _ | exact fltV_snoc _ _ _ | (simp [fltV]; done))) ?_
  rintro v18 _ _ ⟨⟨g19, rfl⟩, rfl⟩ _
  refine JL.fact (row_form' (i := 2) rfl) (fun hf20 => ?_)
  obtain ⟨A20, c20, rfl, bl20, bh20⟩ := hf20
  refine znl ?_
  refine Qf fh rfl <| zw 3 rfl rfl rfl ?_
  refine zG <| Qm rfl <| Qa rfl <| JL.nil <| Js.blockEnd <| Js.region <| Qm rfl <| Qp rfl rfl <| Qa rfl <| JL.nil ?_
  refine zd [2, 2, 2, 2] rfl fun u21 x21 => ?_
  exact zag ⟨i + 1, (M.chS ye11).2, cs ++ [((M.chS ye11).1)], _, _, _, rfl, rfl, by exact hG2, zt, zt, by simp; omega, zu, zu, rfl⟩ (x9.trans x21)
 have hE := hG.done (fun ho => by have h9 := h10; rw [ho] at h9; simp at h9; show (M.split (M.u8 32) line).length ≤ i - 1 + 1; omega)
 rw [hw0] at hE
 refine zx ?_
 have hq0 : ((M.nums ye4).1) = ((M.lineS line).1).pits := rp_ hE
 have hq1 : cs = ((M.lineS line).1).choices := rp_ hE
 have hq2 : ok = (M.lineS line).2 := rp_ hE
 refine zS <| Q9 1 rfl rfl ?_
 refine Qm rfl <| zw 3 rfl rfl rfl ?_
 refine Qa rfl <| JL.nil ?_
 exact zro (x2.trans x9) (g := by exact (gv_tup (gvc (gv_agg (gvc gv_ (gvc (gv_flat lChoice (xs := cs) po_ (by first | rfl | (simp [fltV]; done)) (by first | with_reducible rfl | assumption | rfl)) gvn))) (gvc gv_ gvn))))
theorem c_spec_ReadBook (s : List UInt8) {w : World} (r0 : s.length ≤ 2000000 := by exact om_) : Ret Tryz.prog 11 [.string (sB s)] w (Ty.tup [Ty.agg (cBook ((M.readB s).1)), Ty.bool ((M.readB s).2)]) := by
 have hsp := M.split_p 10 s
 have hsl := M.split_len 10 s
 change 0 < (M.split (M.u8 10) s).length at hsp
 change (M.split (M.u8 10) s).length ≤ _ at hsl
 have hml := M.mids_len s
 change _ = (M.split (M.u8 10) s).length - 2 at hml
 refine enter @Tryz.func11 @Tryz.ntmps11 rfl rfl ?_
 refine zent ?_
 refine zS <| za zeh fun b1 => Qa rfl <| zN <| Qm rfl <| zp rfl (fun w hw => c_spec_l01Split s 10) ?_
 intro u2 x2 A3 c3 h3 bl3 bh3
 obtain ⟨ye4, hye4⟩ : ∃ x, (M.split (M.u8 10) s)[0]? = some x := ⟨_, List.getElem?_eq_getElem (by omega)⟩
 have hy0 := M.hd0_get (s := s) (show (M.split 10 s)[0]? = some ye4 from hye4)
 have hm0 := M.split_mem 10 s _ (List.mem_of_getElem? hye4)
 have hy5 := hye4
 obtain ⟨b5, o5, he5, hc5⟩ := strs_elem h3 hy5
 obtain ⟨ye9, hye9⟩ : ∃ x, (M.split (M.u8 10) s)[((((M.split (M.u8 10) s).length) : Int) - 1).toNat]? = some x := ⟨_, List.getElem?_eq_getElem (by omega)⟩
 have hwh := M.whole_at (s := s) (show (M.split 10 s)[(M.split 10 s).length - 1]? = some ye9 by have h9 := hye9; rw [show ((((M.split (M.u8 10) s).length) : Int) - 1).toNat = (M.split (M.u8 10) s).length - 1 by omega] at h9; exact h9)
 have hy10 := hye9
 obtain ⟨b10, o10, he10, hc10⟩ := strs_elem h3 hy10
 refine Qa rfl <| zN <| Qm rfl <| Qq (p_indexAddr el_72 rfl rfl (by omega) (by omega) he5) <| QC hc5 rfl <| zc rfl (fun w hw => c_spec_ReadRules ye4) <| Qm rfl <| Qx rfl rfl <| Qx rfl rfl <| za zeh fun b8 => zw 0 rfl rfl rfl ?_
 refine Qa rfl <| zJ <| zS <| Qm rfl <| Qt rfl <| Qm rfl <| zg (Gd.f1 rfl rfl rfl) (fun hc => p_move rfl) <| zg (Gd.f1 rfl rfl rfl) (fun hc => p_len el_72 (gh hc rfl)) <| zg (Gd.f1 rfl rfl rfl) (fun hc => p_lss (gh hc rfl) rfl) <| Qq (p_pickOr rfl rfl rfl) <| Qm rfl <| zg (Gd.f1 rfl rfl rfl) (fun hc => p_move rfl) <| zg (Gd.f1 rfl rfl rfl) (fun hc => p_move rfl) <| zg (Gd.f1 rfl rfl rfl) (fun hc => p_len el_72 (gh hc rfl)) ?_
 refine zg (Gd.f1 rfl rfl rfl) (fun hc => p_sub (gh hc rfl) rfl (IntWalk.i64_in _ (by have hc9 := hc; (try simp only [Bool.not_eq_true', Bool.or_eq_false_iff, Bool.not_eq_false', decide_eq_false_iff_not, Int.not_lt] at hc9); omega))) ?_
 refine zg (Gd.f1 rfl rfl rfl) (fun hc => p_indexAddr el_72 (gh hc rfl) (gh hc rfl) (by omega) (by omega) he10) ?_
 refine zgq (Gd.f1 rfl rfl rfl) (fun hc => q_load1 ty_9.h (gh hc rfl) (Mem.pub hc10)) <| zg (Gd.f1 rfl rfl rfl) (fun hc => p_neqT und_9 (gh hc rfl) rfl) <| Qq (p_pickOr rfl rfl rfl) <| Qm rfl <| zg (Gd.f1 rfl rfl rfl) (fun hc => p_move rfl) <| zg (Gd.f1 rfl rfl rfl) (fun hc => p_len el_72 (gh hc rfl)) <| zg (Gd.f1 rfl rfl rfl) (fun hc => p_gtr (gh hc rfl) rfl) <| Qq (p_pickOr rfl rfl rfl) <| JL.nil ?_
 refine zi (fun h11 h11' => ?_) fun h11 h11' => ?_
 ·
  have hE : M.readB s = (M.Boo.zero, false) := by by_cases c1 : (M.readR (M.hd0 s)).2 = true; by_cases c2 : (M.split (M.u8 10) s).length < 2; exact M.readB_w (.inr c2); by_cases c3 : M.whole s = true; by_cases c4 : 202 < (M.split (M.u8 10) s).length; exact M.readB_long c4; exfalso; rw [hwh] at c3; rw [hy0] at c1; have h9 := h11; simp [c1, of_decide_eq_true c3] at h9; rcases h9 with h9 | h9 <;> omega; exact M.readB_w (.inl (by simpa using c3)); exact M.readB_r (by simpa using c1)
  have hq0 : 0 = (((M.readB s).1).rules).pits := rp_ hE
  have hq1 : 0 = (((M.readB s).1).rules).seeds := rp_ hE
  have hq2 : false = (((M.readB s).1).rules).stores := rp_ hE
  have hq3 : false = (((M.readB s).1).rules).skip := rp_ hE
  have hq4 : false = (((M.readB s).1).rules).relay := rp_ hE
  have hq5 : false = (((M.readB s).1).rules).feed := rp_ hE
  have hq6 : false = (((M.readB s).1).rules).again := rp_ hE
  have hq7 : 0 = (((M.readB s).1).rules).capture := rp_ hE
  have hq8 : 0 = (((M.readB s).1).rules).slam := rp_ hE
  have hq9 : [] = ((M.readB s).1).entries := rp_ hE
  have hq10 : false = (M.readB s).2 := rp_ hE
  refine zS <| Qb ?_
  refine zw 1 rfl rfl rfl ?_
  refine Qa rfl <| JL.nil ?_
  exact zro x2
 obtain ⟨hR, hl2, hwt, hl3⟩ : (M.readR (M.hd0 s)).2 = true ∧ 2 ≤ (M.split (M.u8 10) s).length ∧ M.whole s = true ∧ (M.split (M.u8 10) s).length ≤ 202 := by have h9 := h11; simp at h9; rw [hy0, hwh]; refine ⟨h9.1.1.1, by have := h9.1.1.2; omega, by simpa using h9.1.2, by have := h9.2; omega⟩
 refine Js.skip <| zS <| Q9 0 rfl rfl ?_
 refine Qb ?_
 refine za zeh fun b12 => zw 0 rfl rfl rfl ?_
 refine zJ <| zS <| Qa rfl <| JL.nil <| Js.block ?_
 refine Js.conv (fun w hw => St.nilRowS 67 2 hw) ?_
 refine Js.vals (Ts := lBookEntry []) (vs := []) (fun w => rfl) ?_
 refine zl [2, 4, 7] (fun F U l os u m => ∃ (i : Nat) (acc : List M.Ent) (A13_7_9 : Option Addr) (c13_7_9 : Nat) (g13_7_9 : List Nat) (vs13_7_9 : List Value) (fl13_7_9 : List Nat), l = F [(8, .int .i64 (i : Int))] ∧ os = U [some (ownC (lBookEntry acc) vs13_7_9 fl13_7_9), some (rowO 67 2 (.slice A13_7_9 acc.length c13_7_9) acc.length vs13_7_9 g13_7_9), some (boxO b12 [.int .i64 (((M.readR ye4).1).pits), .int .i64 (((M.readR ye4).1).seeds), .bool (((M.readR ye4).1).stores), .bool (((M.readR ye4).1).skip), .bool (((M.readR ye4).1).relay), .bool (((M.readR ye4).1).feed), .bool (((M.readR ye4).1).again), .int .i64 (((M.readR ye4).1).capture), .int .i64 (((M.readR ye4).1).slam), .slice A13_7_9 acc.length c13_7_9] 32)] ∧ (M.GbI (M.mids s) (i - 1) acc) ∧ (1 ≤ i) ∧ (i ≤ (M.split (M.u8 10) s).length - 1) ∧ (M.SzR 2000100 acc) ∧ (acc.length ≤ c13_7_9) ∧ (c13_7_9 ≤ 9223372036854775807) ∧ m = (M.split (M.u8 10) s).length - i) ⟨1, [], _, _, _, _, _, rfl, rfl, by exact M.GbI.zero _, zt, zt, by exact M.SzR.nil _, zu, zu, rfl⟩ ?_
 rintro _ _ u13 _ ⟨i, acc, A13_7_9, c13_7_9, g13_7_9, vs13_7_9, fl13_7_9, rfl, rfl, hG, hi1, hi2, hSz, f13_4, f13_5, rfl⟩ x13
 refine zn ?_
 have hgn := hG.n
 refine Js.seq <| zS <| Qm rfl <| Qm rfl <| Qz rfl <| Qs rfl rfl <| Ql rfl rfl <| JL.nil ?_
 refine zi (fun h14 h14' => ?_) fun h14 h14' => ?_
 ·
  have hkk : i < (M.split (M.u8 10) s).length - 1 := by have := h14'; omega
  obtain ⟨ye15, hye15⟩ : ∃ x, (M.split (M.u8 10) s)[i]? = some x := ⟨_, List.getElem?_eq_getElem (by omega)⟩
  have hmy := M.mids_get (s := s) (show (M.split 10 s)[i]? = some ye15 from hye15) hi1 hkk
  have hm1 := M.split_mem 10 s _ (List.mem_of_getElem? hye15)
  have hll := M.lineS_len ye15
  have hy16 := hye15
  obtain ⟨b16, o16, he16, hc16⟩ := strs_elem (Ty.mono _ h3 x13.vis) hy16
  refine Js.skip <| Js.seq <| Js.block <| zS <| Qm rfl <| Qm rfl <| Qq (p_indexAddr el_72 rfl rfl (by omega) (by omega) he16) <| QC hc16 rfl <| zc rfl (fun w hw => c_spec_l20Line ye15) ?_
  intro A19 c19 bl19 bh19 A20 c20 bl20 bh20
  refine Qm rfl <| Qx rfl rfl <| Qx rfl rfl <| za zeh fun b21 => zw 0 rfl rfl rfl ?_
  refine Qa rfl <| zJ <| zS <| Qm rfl <| Qt rfl <| JL.nil ?_
  refine zi (fun h22 h22' => ?_) fun h22 h22' => ?_
  ·
   have hE := M.readB_g (hG.bad hmy (by simpa using h22))
   have hq0 : 0 = (((M.readB s).1).rules).pits := rp_ hE
   have hq1 : 0 = (((M.readB s).1).rules).seeds := rp_ hE
   have hq2 : false = (((M.readB s).1).rules).stores := rp_ hE
   have hq3 : false = (((M.readB s).1).rules).skip := rp_ hE
   have hq4 : false = (((M.readB s).1).rules).relay := rp_ hE
   have hq5 : false = (((M.readB s).1).rules).feed := rp_ hE
   have hq6 : false = (((M.readB s).1).rules).again := rp_ hE
   have hq7 : 0 = (((M.readB s).1).rules).capture := rp_ hE
   have hq8 : 0 = (((M.readB s).1).rules).slam := rp_ hE
   have hq9 : [] = ((M.readB s).1).entries := rp_ hE
   have hq10 : false = (M.readB s).2 := rp_ hE
   refine zS <| Qb ?_
   refine zw 7 rfl rfl rfl ?_
   refine Qa rfl <| JL.nil ?_
   exact zro (x2.trans x13)
  have hG2 := hG.step hmy (by simpa using h22)
  rw [show i - 1 + 1 = i + 1 - 1 by omega] at hG2
  have hSz2 := hSz.snoc (x := (M.lineS ye15).1) (by omega) (by omega)
  refine Js.skip <| Js.region <| Qf fh rfl <| Q0 5 rfl rfl rfl <| Q9 0 rfl rfl ?_
  refine zbs fun b23 => ?_
  refine JL.e (e_append (i := 5) (n' := (acc ++ [((M.lineS ye15).1)]).length) (vs' := vs13_7_9 ++ [.slice A19 ((((M.lineS ye15).1).pits).length) c19, .slice A20 ((((M.lineS ye15).1).choices).length) c20]) el_30 rfl rfl rfl rfl (src_row (i := 0) und_30 rfl rfl) (by omega) (by omega) ln2_ (rfl)) ?_
  rintro v25 _ _ ⟨⟨g26, rfl⟩, rfl⟩ _
  refine JL.fact (row_form' (i := 5) rfl) (fun hf27 => ?_)
  obtain ⟨A27, c27, rfl, bl27, bh27⟩ := hf27
  refine znl ?_
  refine Qf fh rfl <| zw 6 rfl rfl rfl ?_
  refine JL.nil ?_
  refine Js.pk (cBookEntry ((M.lineS ye15).1)) [.slice A19 ((((M.lineS ye15).1).pits).length) c19, .slice A20 ((((M.lineS ye15).1).choices).length) c20] (fun f29 G29 => ?_) (by exact (gv_agg (gvc gv_ (gvc (gv_flat lChoice (xs := (((M.lineS ye15).1).choices)) po_ (by first | rfl | (simp [fltV]; done)) (by first | with_reducible rfl | assumption | rfl)) gvn))))
  refine zn ?_
  refine Js.joinL (i := 4) (j := 0) (Vs := lBookEntry (acc ++ [((M.lineS ye15).1)])) rfl rfl (lBookEntry_snoc _ _) (fun f30 => ?_)
  refine zn ?_
  refine Js.blockEnd <| Js.region <| Qm rfl <| Qp rfl rfl <| Qa rfl <| JL.nil ?_
  refine zd [0, 3, 3, 3, 3] rfl fun u31 x31 => ?_
  exact zag ⟨i + 1, acc ++ [((M.lineS ye15).1)], _, _, _, _, _, rfl, rfl, by exact hG2, zt, zt, by exact hSz2, zu, zu, rfl⟩ (x13.trans x31)
 have hgb := hG.done (by have := h14'; omega)
 have hbk : M.bookS s = M.Boo.mk (M.readR ye4).1 acc := by unfold M.bookS; rw [hgb, hy0]
 have hgn := hG.n
 refine zx ?_
 refine Js.seq <| zS <| zv rfl (fun w hw => c_spec_l20Ok (M.Boo.mk ((M.readR ye4).1) acc) ⟨_, _, [.int .i64 (((M.readR ye4).1).pits), .int .i64 (((M.readR ye4).1).seeds), .bool (((M.readR ye4).1).stores), .bool (((M.readR ye4).1).skip), .bool (((M.readR ye4).1).relay), .bool (((M.readR ye4).1).feed), .bool (((M.readR ye4).1).again), .int .i64 (((M.readR ye4).1).capture), .int .i64 (((M.readR ye4).1).slam), .slice A13_7_9 acc.length c13_7_9], rfl, ⟨rfl, rfl, rfl, rfl, rfl, rfl, rfl, rfl, rfl, (srow_ok lBookEntry (xs := acc) (hw.pr (i := 1) rfl) (hw.pr (i := 0) rfl) (lBookEntry_length _)), trivial⟩, Mem.boxR (i := 2) rfl 0 10 _ hw⟩ (r0 := (by dsimp only; omega)) (r1 := (hSz.mono (by omega)))) <| Qt rfl <| JL.nil ?_
 refine zi (fun h32 h32' => ?_) fun h32 h32' => ?_
 ·
  have hE := M.readB_v (s := s) (by rw [hbk]; simpa using h32)
  have hq0 : 0 = (((M.readB s).1).rules).pits := rp_ hE
  have hq1 : 0 = (((M.readB s).1).rules).seeds := rp_ hE
  have hq2 : false = (((M.readB s).1).rules).stores := rp_ hE
  have hq3 : false = (((M.readB s).1).rules).skip := rp_ hE
  have hq4 : false = (((M.readB s).1).rules).relay := rp_ hE
  have hq5 : false = (((M.readB s).1).rules).feed := rp_ hE
  have hq6 : false = (((M.readB s).1).rules).again := rp_ hE
  have hq7 : 0 = (((M.readB s).1).rules).capture := rp_ hE
  have hq8 : 0 = (((M.readB s).1).rules).slam := rp_ hE
  have hq9 : [] = ((M.readB s).1).entries := rp_ hE
  have hq10 : false = (M.readB s).2 := rp_ hE
  refine zS <| Qb ?_
  refine zw 4 rfl rfl rfl ?_
  refine Qa rfl <| JL.nil ?_
  exact zro (x2.trans x13)
 have hE := M.readB_y hwt hl2 hR (by rw [hgb]) (by rw [hbk]; simpa using h32)
 rw [hbk] at hE
 have hq0 : (((M.readR ye4).1).pits) = (((M.readB s).1).rules).pits := rp_ hE
 have hq1 : (((M.readR ye4).1).seeds) = (((M.readB s).1).rules).seeds := rp_ hE
 have hq2 : (((M.readR ye4).1).stores) = (((M.readB s).1).rules).stores := rp_ hE
 have hq3 : (((M.readR ye4).1).skip) = (((M.readB s).1).rules).skip := rp_ hE
 have hq4 : (((M.readR ye4).1).relay) = (((M.readB s).1).rules).relay := rp_ hE
 have hq5 : (((M.readR ye4).1).feed) = (((M.readB s).1).rules).feed := rp_ hE
 have hq6 : (((M.readR ye4).1).again) = (((M.readB s).1).rules).again := rp_ hE
 have hq7 : (((M.readR ye4).1).capture) = (((M.readB s).1).rules).capture := rp_ hE
 have hq8 : (((M.readR ye4).1).slam) = (((M.readB s).1).rules).slam := rp_ hE
 have hq9 : acc = ((M.readB s).1).entries := rp_ hE
 have hq10 : true = (M.readB s).2 := rp_ hE
 refine Js.skip <| zS <| Q9 2 rfl rfl ?_
 refine zw 4 rfl rfl rfl ?_
 refine Qa rfl <| JL.nil ?_
 exact zro (x2.trans x13)
theorem c_laws_eqInt64S (a : List Int) {v_a : Value} (b : List Int) {v_b : Value} {w : World} (h_a : (Ty.ints 2 a).ok w v_a) (h_b : (Ty.ints 2 b).ok w v_b) (r0 : a.length ≤ 4194304 := by exact om_) (r1 : b.length ≤ 4194304 := by exact om_) : RetV Tryz.prog 137 [v_a, v_b] w (.bool (decide (a = b))) := by
 revert v_a; apply opn
 intro A1 c1 h1 bl1 bh1
 have h_a := h1
 revert v_b; apply opn
 intro A2 c2 h2 bl2 bh2
 have h_b := h2
 refine enter @Tryz.func137 @Tryz.ntmps137 rfl rfl ?_
 refine zent ?_
 refine zS <| Qa rfl <| zJ <| zS <| Qm rfl <| Qz rfl <| Qm rfl <| Qz rfl <| Qd rfl rfl <| JL.nil ?_
 refine zi (fun h3 h3' => ?_) fun h3 h3' => ?_
 ·
  have e1 : decide (a = b) = false := by simp; rintro rfl; simp at h3
  refine zS <| Qa rfl <| JL.nil ?_
  refine zR (Up.refl _ _) ?_
  simp [outV, e1]
 have hlen : a.length = b.length := by have := h3'; omega
 refine Js.skip <| Js.seq <| zS <| Qa rfl <| JL.nil <| Js.block ?_
 refine zl [0, 1] (fun F U l os u m => ∃ (k : Nat), l = F [(5, .int .i64 (k : Int))] ∧ os = U [] ∧ (k ≤ a.length) ∧ (M.Upto a b k) ∧ m = a.length - k) ⟨0, rfl, rfl, zt, by exact M.Upto.zero _ _, rfl⟩ ?_
 rintro _ _ u4 _ ⟨k, rfl, rfl, hk, hU, rfl⟩ x4
 refine zn ?_
 refine Js.seq <| zS <| Qm rfl <| Qm rfl <| Qz rfl <| Ql rfl rfl <| JL.nil ?_
 refine zi (fun h5 h5' => ?_) fun h5 h5' => ?_
 ·
  refine Js.skip <| Js.seq <| Js.block <| Js.seq ?_
  refine zdr [] ?_
  refine jM 0 rfl rfl ?_
  refine jM 1 rfl rfl ?_
  obtain ⟨b6, o6, he6, hc6⟩ := ints_elem (Ty.mono _ h1 x4.vis) (i := k) (by omega)
  refine jI 2 el_42 rfl rfl rfl he6 ?_
  refine jW 3 ty_2 rfl rfl hc6.vis ?_
  refine jM 4 rfl rfl ?_
  refine jM 5 rfl rfl ?_
  obtain ⟨b7, o7, he7, hc7⟩ := ints_elem (Ty.mono _ h2 x4.vis) (i := k) (by omega)
  refine jI 6 el_42 rfl rfl rfl he7 ?_
  refine jW 7 ty_2 rfl rfl hc7.vis ?_
  refine JH.p 8 rfl (p_neq rfl rfl) ?_
  refine yd ?_
  refine zi (fun h8 h8' => ?_) fun h8 h8' => ?_
  ·
   have e1 : decide (a = b) = false := by simpa using M.ne_of_nth (a := a) (b := b) (k := k) (by simpa using h8)
   refine zS <| Qa rfl <| JL.nil ?_
   refine zR x4 ?_
   simp [outV, e1]
  have hab : M.nth a k = M.nth b k := by simpa using h8
  refine Js.skip <| Js.blockEnd <| Js.region <| Qm rfl <| Qp rfl rfl <| Qa rfl <| JL.nil ?_
  exact zag ⟨k + 1, rfl, rfl, zt, by exact hU.step (by omega) (by omega) hab, rfl⟩ x4
 have e1 : a = b := hU.done (by omega) (by omega)
 refine zx ?_
 refine zS <| Qa rfl <| JL.nil ?_
 refine zR x4 ?_
 simp [outV, e1]
theorem c_laws_eqRules (a : M.Rul) {v_a : Value} (b : M.Rul) {v_b : Value} {w : World} (h_a : (Ty.agg (cRules a)).ok w v_a) (h_b : (Ty.agg (cRules b)).ok w v_b) : RetV Tryz.prog 35 [v_a, v_b] w (.bool (decide (a = b))) := by
 revert v_a; apply opn
 revert v_b; apply opn
 refine enter @Tryz.func35 @Tryz.ntmps35 rfl rfl ?_
 refine zent ?_
 refine zS <| zb rfl fun b1 => zb rfl fun b2 => Qa rfl <| zJ <| zS <| Qf fh rfl <| Q0 1 rfl rfl rfl <| Qf fh rfl <| Q0 0 rfl rfl rfl <| Qd rfl rfl <| JL.nil ?_
 refine zi (fun h3 h3' => ?_) fun h3 h3' => ?_
 ·
  have hne : a ≠ b := by rintro rfl; simp at h3
  refine zS <| Qa rfl <| JL.nil ?_
  refine zR (Up.refl _ _) ?_
  first | (rw [decide_eq_false hne]; rfl) | (rw [decide_eq_true (M.rul_ext q0 q1 q2 q3 q4 q5 q6 q7 q8)]; rfl)
 have q0 : a.pits = b.pits := by simpa using h3
 refine Js.skip <| Js.seq <| zS <| Qf fh rfl <| Q0 1 rfl rfl rfl <| Qf fh rfl <| Q0 0 rfl rfl rfl <| Qd rfl rfl <| JL.nil ?_
 refine zi (fun h4 h4' => ?_) fun h4 h4' => ?_
 ·
  have hne : a ≠ b := by rintro rfl; simp at h4
  refine zS <| Qa rfl <| JL.nil ?_
  refine zR (Up.refl _ _) ?_
  first | (rw [decide_eq_false hne]; rfl) | (rw [decide_eq_true (M.rul_ext q0 q1 q2 q3 q4 q5 q6 q7 q8)]; rfl)
 have q1 : a.seeds = b.seeds := by simpa using h4
 refine Js.skip <| Js.seq <| zS <| Qf fh rfl <| Q0 1 rfl rfl rfl <| Qf fh rfl <| Q0 0 rfl rfl rfl <| Qq (p_neqB und_4 rfl rfl) <| JL.nil ?_
 refine zi (fun h5 h5' => ?_) fun h5 h5' => ?_
 ·
  have hne : a ≠ b := by rintro rfl; simp at h5
  refine zS <| Qa rfl <| JL.nil ?_
  refine zR (Up.refl _ _) ?_
  first | (rw [decide_eq_false hne]; rfl) | (rw [decide_eq_true (M.rul_ext q0 q1 q2 q3 q4 q5 q6 q7 q8)]; rfl)
 have q2 : a.stores = b.stores := by simpa using h5
 refine Js.skip <| Js.seq <| zS <| Qf fh rfl <| Q0 1 rfl rfl rfl <| Qf fh rfl <| Q0 0 rfl rfl rfl <| Qq (p_neqB und_4 rfl rfl) <| JL.nil ?_
 refine zi (fun h6 h6' => ?_) fun h6 h6' => ?_
 ·
  have hne : a ≠ b := by rintro rfl; simp at h6
  refine zS <| Qa rfl <| JL.nil ?_
  refine zR (Up.refl _ _) ?_
  first | (rw [decide_eq_false hne]; rfl) | (rw [decide_eq_true (M.rul_ext q0 q1 q2 q3 q4 q5 q6 q7 q8)]; rfl)
 have q3 : a.skip = b.skip := by simpa using h6
 refine Js.skip <| Js.seq <| zS <| Qf fh rfl <| Q0 1 rfl rfl rfl <| Qf fh rfl <| Q0 0 rfl rfl rfl <| Qq (p_neqB und_4 rfl rfl) <| JL.nil ?_
 refine zi (fun h7 h7' => ?_) fun h7 h7' => ?_
 ·
  have hne : a ≠ b := by rintro rfl; simp at h7
  refine zS <| Qa rfl <| JL.nil ?_
  refine zR (Up.refl _ _) ?_
  first | (rw [decide_eq_false hne]; rfl) | (rw [decide_eq_true (M.rul_ext q0 q1 q2 q3 q4 q5 q6 q7 q8)]; rfl)
 have q4 : a.relay = b.relay := by simpa using h7
 refine Js.skip <| Js.seq <| zS <| Qf fh rfl <| Q0 1 rfl rfl rfl <| Qf fh rfl <| Q0 0 rfl rfl rfl <| Qq (p_neqB und_4 rfl rfl) <| JL.nil ?_
 refine zi (fun h8 h8' => ?_) fun h8 h8' => ?_
 ·
  have hne : a ≠ b := by rintro rfl; simp at h8
  refine zS <| Qa rfl <| JL.nil ?_
  refine zR (Up.refl _ _) ?_
  first | (rw [decide_eq_false hne]; rfl) | (rw [decide_eq_true (M.rul_ext q0 q1 q2 q3 q4 q5 q6 q7 q8)]; rfl)
 have q5 : a.feed = b.feed := by simpa using h8
 refine Js.skip <| Js.seq <| zS <| Qf fh rfl <| Q0 1 rfl rfl rfl <| Qf fh rfl <| Q0 0 rfl rfl rfl <| Qq (p_neqB und_4 rfl rfl) <| JL.nil ?_
 refine zi (fun h9 h9' => ?_) fun h9 h9' => ?_
 ·
  have hne : a ≠ b := by rintro rfl; simp at h9
  refine zS <| Qa rfl <| JL.nil ?_
  refine zR (Up.refl _ _) ?_
  first | (rw [decide_eq_false hne]; rfl) | (rw [decide_eq_true (M.rul_ext q0 q1 q2 q3 q4 q5 q6 q7 q8)]; rfl)
 have q6 : a.again = b.again := by simpa using h9
 refine Js.skip <| Js.seq <| zS <| Qf fh rfl <| Q0 1 rfl rfl rfl <| Qf fh rfl <| Q0 0 rfl rfl rfl <| Qd rfl rfl <| JL.nil ?_
 refine zi (fun h10 h10' => ?_) fun h10 h10' => ?_
 ·
  have hne : a ≠ b := by rintro rfl; simp at h10
  refine zS <| Qa rfl <| JL.nil ?_
  refine zR (Up.refl _ _) ?_
  first | (rw [decide_eq_false hne]; rfl) | (rw [decide_eq_true (M.rul_ext q0 q1 q2 q3 q4 q5 q6 q7 q8)]; rfl)
 have q7 : a.capture = b.capture := by simpa using h10
 refine Js.skip <| Js.seq <| zS <| Qf fh rfl <| Q0 1 rfl rfl rfl <| Qf fh rfl <| Q0 0 rfl rfl rfl <| Qd rfl rfl <| JL.nil ?_
 refine zi (fun h11 h11' => ?_) fun h11 h11' => ?_
 ·
  have hne : a ≠ b := by rintro rfl; simp at h11
  refine zS <| Qa rfl <| JL.nil ?_
  refine zR (Up.refl _ _) ?_
  first | (rw [decide_eq_false hne]; rfl) | (rw [decide_eq_true (M.rul_ext q0 q1 q2 q3 q4 q5 q6 q7 q8)]; rfl)
 have q8 : a.slam = b.slam := by simpa using h11
 refine Js.skip <| zS <| Qa rfl <| JL.nil ?_
 refine zR (Up.refl _ _) ?_
 first | (rw [decide_eq_false hne]; rfl) | (rw [decide_eq_true (M.rul_ext q0 q1 q2 q3 q4 q5 q6 q7 q8)]; rfl)
theorem c_laws_markInt64S (a : List Int) {Aa_0 : Option Addr} {ca_0 : Nat} {ga_0 : List Nat} (k : Int) {w : World} (hb : Bw w [rowO 2 1 (.slice Aa_0 a.length ca_0) a.length (ints_ a) ga_0]) (bd0 : a.length ≤ ca_0 := by exact om_) (bd1 : ca_0 ≤ 9223372036854775807 := by exact om_) (r0 : a.length ≤ 4194304 := by exact om_) (r1 : 0 ≤ k := by exact om_) (r2 : k ≤ 100000000 := by exact om_) : RetB Tryz.prog 96 [.slice Aa_0 a.length ca_0, .int .i64 k] w [rowO 2 1 (.slice Aa_0 a.length ca_0) a.length (ints_ a) ga_0] (fun v bs' => v = .int .i64 (k + (a.length : Int)) ∧ bs' = [rowO 2 1 (.slice Aa_0 a.length ca_0) a.length (ints_ (M.up k a.length)) ga_0]) := by
 refine enterB hb @Tryz.func96 @Tryz.ntmps96 rfl rfl ?_
 refine zent ?_
 refine Js.trashE ?_
 refine zn ?_
 refine zS <| Qa rfl <| zJ <| zS <| Qa rfl <| JL.nil <| Js.block ?_
 refine zl [0] (fun F U l os u m => ∃ (i : Nat) (kk : Int) (xs : List Int) (G1_1 : List Nat), l = F [(1, .int .i64 kk), (5, .int .i64 (i : Int))] ∧ os = U [some (rowO 2 1 (.slice Aa_0 a.length ca_0) a.length (ints_ xs) ga_0), some (anyO G1_1)] ∧ (xs = M.mkd a k i) ∧ (i ≤ a.length) ∧ (xs.length = a.length) ∧ (kk = k + (i : Int)) ∧ m = a.length - i) ⟨0, k, a, _, rfl, rfl, by exact M.mkd_zero a k, zt, by rfl, by simp, rfl⟩ ?_
 rintro _ _ u1 _ ⟨i, kk, xs, G1_1, rfl, rfl, hX, hi, hl, hkk, rfl⟩ x1
 refine zn ?_
 refine Js.seq <| zS <| Qm rfl <| Qm rfl <| Qz rfl <| Ql rfl rfl <| JL.nil ?_
 refine zi (fun h2 h2' => ?_) fun h2 h2' => ?_
 ·
  refine Js.skip <| Js.seq <| Js.block <| zS <| Qm rfl <| Qm rfl <| Qm rfl ?_
  refine JL.fact (row_some (i := 0) rfl (by omega)) (fun hf4 => ?_)
  obtain ⟨b4, rfl⟩ := hf4
  refine Qq (p_indexAddr el_42 rfl rfl (by omega) (by omega) rfl) ?_
  refine JL.s (e_storeRow (i := 0) (xs' := ints_ (xs.set i kk)) ty_2.h rfl rfl rfl rfl rfl rfl (ints_lt (i := i) (by omega)) (ints_setL (i := i) (by omega))) ?_
  rintro _ _ _ ⟨rfl, rfl⟩ _
  refine znl ?_
  refine zG <| Qm rfl <| Qp rfl rfl <| Qa rfl <| JL.nil <| Js.blockEnd <| Js.region <| Qm rfl <| Qp rfl rfl <| Qa rfl <| JL.nil ?_
  exact zag ⟨i + 1, kk + 1, xs.set i kk, _, rfl, rfl, by rw [hX, hkk]; exact M.mkd_step (by omega), zt, by rw [List.length_set]; exact hl, zt, rfl⟩ x1
 have hi2 : i = a.length := by have := h2'; omega
 have hM : M.up k a.length = xs := by rw [hX]; exact (M.mkd_end hi2).symm
 refine zx ?_
 refine zS <| Qm rfl <| Qa rfl <| JL.nil ?_
 refine zrb [0] hb x1 ?_
 have hE : (.int .i64 kk : Value) = .int .i64 (k + (a.length : Int)) := by first | exact hM | (refine congrArg (Value.int .i64) ?_; omega)
 have hE1 : M.up k a.length = xs := by first | exact hM | (refine congrArg (Value.int .i64) ?_; omega)
 refine ⟨hE, ?_⟩
 · rw [hE1]
theorem c_laws_heldInt64S (a : List Int) {v_a : Value} (k : Int) {w : World} (h_a : (Ty.ints 2 a).ok w v_a) (r0 : a.length ≤ 4194304 := by exact om_) (r1 : 0 ≤ k := by exact om_) (r2 : k ≤ 100000000 := by exact om_) : RetV Tryz.prog 98 [v_a, .int .i64 k] w (.int .i64 (M.held a k)) := by
 revert v_a; apply opn
 intro A1 c1 h1 bl1 bh1
 have h_a := h1
 refine enter @Tryz.func98 @Tryz.ntmps98 rfl rfl ?_
 refine zent ?_
 refine zS <| Qa rfl <| zJ <| zS <| Qa rfl <| JL.nil <| Js.block ?_
 refine zl [0] (fun F U l os u m => ∃ (i : Nat) (kk : Int), l = F [(1, .int .i64 kk), (5, .int .i64 (i : Int))] ∧ os = U [] ∧ (a.take i = M.up k i) ∧ (i ≤ a.length) ∧ (kk = k + (i : Int)) ∧ m = a.length - i) ⟨0, k, rfl, rfl, by rfl, zt, by simp, rfl⟩ ?_
 rintro _ _ u2 _ ⟨i, kk, rfl, rfl, hU, hi, hkk, rfl⟩ x2
 refine zn ?_
 refine Js.seq <| zS <| Qm rfl <| Qm rfl <| Qz rfl <| Ql rfl rfl <| JL.nil ?_
 refine zi (fun h3 h3' => ?_) fun h3 h3' => ?_
 ·
  obtain ⟨b4, o4, he4, hc4⟩ := ints_elem (Ty.mono _ h1 x2.vis) (i := i) (by omega)
  refine Js.skip <| Js.seq <| Js.block <| Js.seq <| zS <| Qm rfl <| Qm rfl <| Qq (p_indexAddr el_42 rfl rfl (by omega) (by omega) he4) <| QC hc4 rfl <| Qm rfl <| Qd rfl rfl <| JL.nil ?_
  refine zi (fun h5 h5' => ?_) fun h5 h5' => ?_
  ·
   have hE := M.held_no (a := a) (k := k) (i := i) (by omega) (by rw [← hkk]; simpa using h5)
   refine zS <| Qa rfl <| JL.nil ?_
   refine zR x2 ?_
   first | (rw [hE]; rfl) | (rw [hE, hkk]; rfl)
  have he : M.nth a i = k + (i : Int) := by rw [← hkk]; simpa using h5
  refine Js.skip <| Js.region <| Qm rfl <| Qp rfl rfl <| Qa rfl <| JL.nil <| Js.blockEnd <| Js.region <| Qm rfl <| Qp rfl rfl <| Qa rfl <| JL.nil ?_
  exact zag ⟨i + 1, kk + 1, rfl, rfl, by exact M.held_step (by omega) hU he, zt, zt, rfl⟩ x2
 have hE := M.held_yes (a := a) (k := k) (i := i) (by have := h3'; omega) hU
 refine zx ?_
 refine zS <| Qm rfl <| Qa rfl <| JL.nil ?_
 refine zR x2 ?_
 first | (rw [hE]; rfl) | (rw [hE, hkk]; rfl)
theorem c_laws_eqChoice (a : M.Cho) {v_a : Value} (b : M.Cho) {v_b : Value} {w : World} (h_a : (Ty.agg (cChoice a)).ok w v_a) (h_b : (Ty.agg (cChoice b)).ok w v_b) : RetV Tryz.prog 164 [v_a, v_b] w (.bool (decide (a = b))) := by
 revert v_a; apply opn
 revert v_b; apply opn
 refine enter @Tryz.func164 @Tryz.ntmps164 rfl rfl ?_
 refine zent ?_
 refine zS <| zb rfl fun b1 => zb rfl fun b2 => Qa rfl <| zJ <| zS <| Qf fh rfl <| Q0 1 rfl rfl rfl <| Qf fh rfl <| Q0 0 rfl rfl rfl <| Qd rfl rfl <| JL.nil ?_
 refine zi (fun h3 h3' => ?_) fun h3 h3' => ?_
 ·
  have hne : a ≠ b := by rintro rfl; simp at h3
  refine zS <| Qa rfl <| JL.nil ?_
  refine zR (Up.refl _ _) ?_
  first | (rw [decide_eq_false hne]; rfl) | (rw [decide_eq_true (M.cho_ext q0 q1 q2)]; rfl)
 have q0 : a.move = b.move := by simpa using h3
 refine Js.skip <| Js.seq <| zS <| Qf fh rfl <| Q0 1 rfl rfl rfl <| Qf fh rfl <| Q0 0 rfl rfl rfl <| Qd rfl rfl <| JL.nil ?_
 refine zi (fun h4 h4' => ?_) fun h4 h4' => ?_
 ·
  have hne : a ≠ b := by rintro rfl; simp at h4
  refine zS <| Qa rfl <| JL.nil ?_
  refine zR (Up.refl _ _) ?_
  first | (rw [decide_eq_false hne]; rfl) | (rw [decide_eq_true (M.cho_ext q0 q1 q2)]; rfl)
 have q1 : a.games = b.games := by simpa using h4
 refine Js.skip <| Js.seq <| zS <| Qf fh rfl <| Q0 1 rfl rfl rfl <| Qf fh rfl <| Q0 0 rfl rfl rfl <| Qd rfl rfl <| JL.nil ?_
 refine zi (fun h5 h5' => ?_) fun h5 h5' => ?_
 ·
  have hne : a ≠ b := by rintro rfl; simp at h5
  refine zS <| Qa rfl <| JL.nil ?_
  refine zR (Up.refl _ _) ?_
  first | (rw [decide_eq_false hne]; rfl) | (rw [decide_eq_true (M.cho_ext q0 q1 q2)]; rfl)
 have q2 : a.score = b.score := by simpa using h5
 refine Js.skip <| zS <| Qa rfl <| JL.nil ?_
 refine zR (Up.refl _ _) ?_
 first | (rw [decide_eq_false hne]; rfl) | (rw [decide_eq_true (M.cho_ext q0 q1 q2)]; rfl)
theorem c_laws_eqChoiceS (a : List M.Cho) {v_a : Value} (b : List M.Cho) {v_b : Value} {w : World} (h_a : (Ty.sl 58 3 a.length (lChoice a)).ok w v_a) (h_b : (Ty.sl 58 3 b.length (lChoice b)).ok w v_b) (r0 : a.length ≤ 4194304 := by exact om_) (r1 : b.length ≤ 4194304 := by exact om_) : RetV Tryz.prog 138 [v_a, v_b] w (.bool (decide (a = b))) := by
 revert v_a; apply opn
 intro A1 c1 h1 bl1 bh1
 have h_a := h1
 revert v_b; apply opn
 intro A2 c2 h2 bl2 bh2
 have h_b := h2
 refine enter @Tryz.func138 @Tryz.ntmps138 rfl rfl ?_
 refine zent ?_
 refine zS <| Qa rfl <| zJ <| zS <| Qm rfl <| Qz rfl <| Qm rfl <| Qz rfl <| Qd rfl rfl <| JL.nil ?_
 refine zi (fun h3 h3' => ?_) fun h3 h3' => ?_
 ·
  have e1 : decide (a = b) = false := by simp; rintro rfl; simp at h3
  refine zS <| Qa rfl <| JL.nil ?_
  refine zR (Up.refl _ _) ?_
  simp [outV, e1]
 have hlen : a.length = b.length := by have := h3'; omega
 refine Js.skip <| Js.seq <| zS <| Qa rfl <| JL.nil <| Js.block ?_
 refine zl [0, 1] (fun F U l os u m => ∃ (k : Nat), l = F [(5, .int .i64 (k : Int))] ∧ os = U [] ∧ (k ≤ a.length) ∧ (a.take k = b.take k) ∧ m = a.length - k) ⟨0, rfl, rfl, zt, by rfl, rfl⟩ ?_
 rintro _ _ u4 _ ⟨k, rfl, rfl, hk, hU, rfl⟩ x4
 refine zn ?_
 refine Js.seq <| zS <| Qm rfl <| Qm rfl <| Qz rfl <| Ql rfl rfl <| JL.nil ?_
 refine zi (fun h5 h5' => ?_) fun h5 h5' => ?_
 ·
  obtain ⟨ye6, hye6⟩ : ∃ x, a[k]? = some x := ⟨_, List.getElem?_eq_getElem (by omega)⟩
  obtain ⟨ye7, hye7⟩ : ∃ x, b[k]? = some x := ⟨_, List.getElem?_eq_getElem (by omega)⟩
  refine Js.skip <| Js.seq <| Js.block <| Js.seq ?_
  refine zdr [] ?_
  refine jM 0 rfl rfl ?_
  refine jM 1 rfl rfl ?_
  have hy8 := hye6
  obtain ⟨b8, o8, he8, hr8⟩ := elem_Choice (Ty.mono _ h1 x4.vis) hy8
  refine jI 2 el_54 rfl rfl rfl he8 ?_
  refine JH.w 3 rfl (fun os' u' hv => LS 0 (hr8.vis hv) rfl) ?_
  refine jM 4 rfl rfl ?_
  refine jM 5 rfl rfl ?_
  have hy9 := hye7
  obtain ⟨b9, o9, he9, hr9⟩ := elem_Choice (Ty.mono _ h2 x4.vis) hy9
  refine jI 6 el_54 rfl rfl rfl he9 ?_
  refine JH.w 7 rfl (fun os' u' hv => LS 0 (hr9.vis hv) rfl) ?_
  refine y1 8 ?_
  refine yv rfl rfl (fun w hw => c_laws_eqChoice ye6 ye7 (ok_ hw) (ok_ hw)) ?_
  refine JH.p 9 rfl (p_not rfl) ?_
  refine yd ?_
  refine zi (fun h10 h10' => ?_) fun h10 h10' => ?_
  ·
   have e1 : decide (a = b) = false := decide_eq_false (M.upto_ne hye6 hye7 (by simpa using h10))
   refine zS <| Qa rfl <| JL.nil ?_
   refine zR x4 ?_
   simp [outV, e1]
  have hab : ye6 = ye7 := by simpa using h10
  rw [← hab] at hye7
  have hU2 := M.upto_step hU hye6 hye7
  refine Js.skip <| Js.blockEnd <| Js.region <| Qm rfl <| Qp rfl rfl <| Qa rfl <| JL.nil ?_
  exact zag ⟨k + 1, rfl, rfl, zt, by exact hU2, rfl⟩ x4
 have e1 : a = b := M.upto_done hU (by have := h5'; omega) (by have := h5'; omega)
 refine zx ?_
 refine zS <| Qa rfl <| JL.nil ?_
 refine zR x4 ?_
 simp [outV, e1]
theorem c_laws_eqBookEntry (a : M.Ent) {v_a : Value} (b : M.Ent) {v_b : Value} {w : World} (h_a : (Ty.agg (cBookEntry a)).ok w v_a) (h_b : (Ty.agg (cBookEntry b)).ok w v_b) (r0 : a.pits.length ≤ 4194304 := by exact om_) (r1 : a.choices.length ≤ 4194304 := by exact om_) (r2 : b.pits.length ≤ 4194304 := by exact om_) (r3 : b.choices.length ≤ 4194304 := by exact om_) : RetV Tryz.prog 89 [v_a, v_b] w (.bool (decide (a = b))) := by
 revert v_a; apply opn
 intro A1 c1 h1 bl1 bh1 A2 c2 h2 bl2 bh2
 revert v_b; apply opn
 intro A3 c3 h3 bl3 bh3 A4 c4 h4 bl4 bh4
 refine enter @Tryz.func89 @Tryz.ntmps89 rfl rfl ?_
 refine zent ?_
 refine zS <| zb rfl fun b5 => zb rfl fun b6 => Qa rfl <| zJ <| zS <| Qf fh rfl <| Q0 1 rfl rfl rfl <| Qf fh rfl <| Q0 0 rfl rfl rfl <| zv rfl (fun w hw => c_laws_eqInt64S a.pits b.pits (ok_ hw) (ok_ hw)) <| Qt rfl <| JL.nil ?_
 refine zi (fun h7 h7' => ?_) fun h7 h7' => ?_
 ·
  have hne : a ≠ b := by rintro rfl; simp at h7
  refine zS <| Qa rfl <| JL.nil ?_
  refine zR (Up.refl _ _) ?_
  first | (rw [decide_eq_false hne]; rfl) | (rw [decide_eq_true (M.ent_ext q0 q1)]; rfl)
 have q0 : a.pits = b.pits := by simpa using h7
 refine Js.skip <| Js.seq <| zS <| Qf fh rfl <| Q0 1 rfl rfl rfl <| Qf fh rfl <| Q0 0 rfl rfl rfl <| zv rfl (fun w hw => c_laws_eqChoiceS a.choices b.choices (ok_ hw) (ok_ hw)) <| Qt rfl <| JL.nil ?_
 refine zi (fun h8 h8' => ?_) fun h8 h8' => ?_
 ·
  have hne : a ≠ b := by rintro rfl; simp at h8
  refine zS <| Qa rfl <| JL.nil ?_
  refine zR (Up.refl _ _) ?_
  first | (rw [decide_eq_false hne]; rfl) | (rw [decide_eq_true (M.ent_ext q0 q1)]; rfl)
 have q1 : a.choices = b.choices := by simpa using h8
 refine Js.skip <| zS <| Qa rfl <| JL.nil ?_
 refine zR (Up.refl _ _) ?_
 first | (rw [decide_eq_false hne]; rfl) | (rw [decide_eq_true (M.ent_ext q0 q1)]; rfl)
theorem c_laws_eqBookEntryS (a : List M.Ent) {v_a : Value} (b : List M.Ent) {v_b : Value} {w : World} (h_a : (Ty.sl 67 2 a.length (lBookEntry a)).ok w v_a) (h_b : (Ty.sl 67 2 b.length (lBookEntry b)).ok w v_b) (r0 : a.length ≤ 4194304 := by exact om_) (r1 : b.length ≤ 4194304 := by exact om_) (r2 : ∀ x ∈ a, x.pits.length ≤ 4194304 ∧ x.choices.length ≤ 4194304 := by exact om_) (r3 : ∀ x ∈ b, x.pits.length ≤ 4194304 ∧ x.choices.length ≤ 4194304 := by exact om_) : RetV Tryz.prog 36 [v_a, v_b] w (.bool (decide (a = b))) := by
 revert v_a; apply opn
 intro A1 c1 h1 bl1 bh1
 have h_a := h1
 revert v_b; apply opn
 intro A2 c2 h2 bl2 bh2
 have h_b := h2
 refine enter @Tryz.func36 @Tryz.ntmps36 rfl rfl ?_
 refine zent ?_
 refine zS <| Qa rfl <| zJ <| zS <| Qm rfl <| Qz rfl <| Qm rfl <| Qz rfl <| Qd rfl rfl <| JL.nil ?_
 refine zi (fun h3 h3' => ?_) fun h3 h3' => ?_
 ·
  have e1 : decide (a = b) = false := by simp; rintro rfl; simp at h3
  refine zS <| Qa rfl <| JL.nil ?_
  refine zR (Up.refl _ _) ?_
  simp [outV, e1]
 have hlen : a.length = b.length := by have := h3'; omega
 refine Js.skip <| Js.seq <| zS <| Qa rfl <| JL.nil <| Js.block ?_
 refine zl [0, 1] (fun F U l os u m => ∃ (k : Nat), l = F [(5, .int .i64 (k : Int))] ∧ os = U [] ∧ (k ≤ a.length) ∧ (a.take k = b.take k) ∧ m = a.length - k) ⟨0, rfl, rfl, zt, by rfl, rfl⟩ ?_
 rintro _ _ u4 _ ⟨k, rfl, rfl, hk, hU, rfl⟩ x4
 refine zn ?_
 refine Js.seq <| zS <| Qm rfl <| Qm rfl <| Qz rfl <| Ql rfl rfl <| JL.nil ?_
 refine zi (fun h5 h5' => ?_) fun h5 h5' => ?_
 ·
  obtain ⟨ye6, hye6⟩ : ∃ x, a[k]? = some x := ⟨_, List.getElem?_eq_getElem (by omega)⟩
  obtain ⟨ye7, hye7⟩ : ∃ x, b[k]? = some x := ⟨_, List.getElem?_eq_getElem (by omega)⟩
  refine Js.skip <| Js.seq <| Js.block <| Js.seq ?_
  refine zdr [] ?_
  refine jM 0 rfl rfl ?_
  refine jM 1 rfl rfl ?_
  have hy8 := hye6
  obtain ⟨b8, o8, A8_0, c8_0, A8_1, c8_1, he8, hr8, h8_0, h8_1, bl8_0, bh8_0, bl8_1, bh8_1⟩ := elem_BookEntry (Ty.mono _ h1 x4.vis) hy8
  refine jI 2 el_30 rfl rfl rfl he8 ?_
  refine JH.w 3 rfl (fun os' u' hv => LS 0 (hr8.vis hv) rfl) ?_
  refine jM 4 rfl rfl ?_
  refine jM 5 rfl rfl ?_
  have hy9 := hye7
  obtain ⟨b9, o9, A9_0, c9_0, A9_1, c9_1, he9, hr9, h9_0, h9_1, bl9_0, bh9_0, bl9_1, bh9_1⟩ := elem_BookEntry (Ty.mono _ h2 x4.vis) hy9
  refine jI 6 el_30 rfl rfl rfl he9 ?_
  refine JH.w 7 rfl (fun os' u' hv => LS 0 (hr9.vis hv) rfl) ?_
  refine y1 8 ?_
  refine yv rfl rfl (fun w hw => c_laws_eqBookEntry ye6 ye7 (ok_ hw) (ok_ hw) (r0 := (by have := r2 _ (List.mem_of_getElem? hye6); omega)) (r1 := (by have := r2 _ (List.mem_of_getElem? hye6); omega)) (r2 := (by have := r3 _ (List.mem_of_getElem? hye7); omega)) (r3 := (by have := r3 _ (List.mem_of_getElem? hye7); omega))) ?_
  refine JH.p 9 rfl (p_not rfl) ?_
  refine yd ?_
  refine zi (fun h10 h10' => ?_) fun h10 h10' => ?_
  ·
   have e1 : decide (a = b) = false := decide_eq_false (M.upto_ne hye6 hye7 (by simpa using h10))
   refine zS <| Qa rfl <| JL.nil ?_
   refine zR x4 ?_
   simp [outV, e1]
  have hab : ye6 = ye7 := by simpa using h10
  rw [← hab] at hye7
  have hU2 := M.upto_step hU hye6 hye7
  refine Js.skip <| Js.blockEnd <| Js.region <| Qm rfl <| Qp rfl rfl <| Qa rfl <| JL.nil ?_
  exact zag ⟨k + 1, rfl, rfl, zt, by exact hU2, rfl⟩ x4
 have e1 : a = b := M.upto_done hU (by have := h5'; omega) (by have := h5'; omega)
 refine zx ?_
 refine zS <| Qa rfl <| JL.nil ?_
 refine zR x4 ?_
 simp [outV, e1]
theorem c_laws_eqBook (a : M.Boo) {v_a : Value} (b : M.Boo) {v_b : Value} {w : World} (h_a : (Ty.agg (cBook a)).ok w v_a) (h_b : (Ty.agg (cBook b)).ok w v_b) (r0 : a.entries.length ≤ 4194304 := by exact om_) (r1 : ∀ x ∈ a.entries, x.pits.length ≤ 4194304 ∧ x.choices.length ≤ 4194304 := by exact om_) (r2 : b.entries.length ≤ 4194304 := by exact om_) (r3 : ∀ x ∈ b.entries, x.pits.length ≤ 4194304 ∧ x.choices.length ≤ 4194304 := by exact om_) : RetV Tryz.prog 10 [v_a, v_b] w (.bool (decide (a = b))) := by
 revert v_a; apply opn
 intro A1 c1 h1 bl1 bh1
 revert v_b; apply opn
 intro A2 c2 h2 bl2 bh2
 refine enter @Tryz.func10 @Tryz.ntmps10 rfl rfl ?_
 refine zent ?_
 refine zS <| zb rfl fun b3 => zb rfl fun b4 => Qa rfl <| zJ <| zS <| Qf fh rfl <| Q9 1 rfl rfl ?_
 refine Qf fh rfl <| Q9 0 rfl rfl ?_
 refine zv rfl (fun w hw => c_laws_eqRules a.rules b.rules (ok_ hw) (ok_ hw)) <| Qt rfl <| JL.nil ?_
 refine zi (fun h5 h5' => ?_) fun h5 h5' => ?_
 ·
  have hne : a ≠ b := by rintro rfl; simp at h5
  refine zS <| Qa rfl <| JL.nil ?_
  refine zR (Up.refl _ _) ?_
  first | (rw [decide_eq_false hne]; rfl) | (rw [decide_eq_true (M.boo_ext q0 q1)]; rfl)
 have q0 : a.rules = b.rules := by simpa using h5
 refine Js.skip <| Js.seq <| zS <| Qf fh rfl <| Q0 1 rfl rfl rfl <| Qf fh rfl <| Q0 0 rfl rfl rfl <| zv rfl (fun w hw => c_laws_eqBookEntryS a.entries b.entries (ok_ hw) (ok_ hw) (r2 := r1) (r3 := r3)) <| Qt rfl <| JL.nil ?_
 refine zi (fun h6 h6' => ?_) fun h6 h6' => ?_
 ·
  have hne : a ≠ b := by rintro rfl; simp at h6
  refine zS <| Qa rfl <| JL.nil ?_
  refine zR (Up.refl _ _) ?_
  first | (rw [decide_eq_false hne]; rfl) | (rw [decide_eq_true (M.boo_ext q0 q1)]; rfl)
 have q1 : a.entries = b.entries := by simpa using h6
 refine Js.skip <| zS <| Qa rfl <| JL.nil ?_
 refine zR (Up.refl _ _) ?_
 first | (rw [decide_eq_false hne]; rfl) | (rw [decide_eq_true (M.boo_ext q0 q1)]; rfl)
end Go.Proofs.YtjklnidbndopiaaGreatDoor

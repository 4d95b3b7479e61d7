/- Walks: G57. -/
import Derived.Test.YtjklnidbndopiaaGreatDoorZbA4
import Derived.Test.YtjklnidbndopiaaGreatDoorZbA6
import Derived.Test.YtjklnidbndopiaaGreatDoorZbA3
import Derived.Test.YtjklnidbndopiaaGreatDoorZbA5
set_option linter.unusedSimpArgs false
set_option linter.unusedVariables false
set_option maxRecDepth 100000
attribute [local irreducible] Go.Proofs.YtjklnidbndopiaaGreatDoor.gv
set_option maxHeartbeats 16000000
namespace Go.Proofs.YtjklnidbndopiaaGreatDoor
open Go.RowKit
theorem c_impl_BookText (b : M.Boo) {v_b : Value} {w : World} (h_b : (Ty.agg (cBook b)).ok w v_b) (h_tab : tabT.ok w undef) (r0 : b.entries.length ≤ 4194304 := by exact om_) (r1 : ∀ x ∈ b.entries, x.pits.length ≤ 4194304 ∧ x.choices.length ≤ 4194304 := by exact om_) : RetV Tryz.prog 9 [v_b] w (.string (sB (M.booTR b))) := by
 revert v_b; apply opn
 intro A1 c1 h1 bl1 bh1
 refine enter @Tryz.func9 @Tryz.ntmps9 rfl rfl ?_
 refine zent ?_
 refine zS <| zb rfl fun b2 => Qa rfl <| zJ <| zS <| Q9 0 rfl rfl ?_
 refine zv rfl (fun w hw => c_impl_ValidBook b (ok_ hw) (r1 := r1)) <| Qt rfl <| JL.nil ?_
 refine zi (fun h3 h3' => ?_) fun h3 h3' => ?_
 ·
  have hE := M.booTR_n (b := b) (by simpa using h3)
  refine zS <| Qa rfl <| JL.nil ?_
  refine zR (Up.refl _ _) ?_
  first | (rw [hE]; rfl) | (rw [hE, ← hO3]; rfl)
 have hok : M.okB b = true := by simpa using h3
 have hE := M.booTR_y hok
 have hall := M.okB_all9 hok
 have hn2 := hall.2.1
 have kt := M.rulesTR_yes hall.1
 have lb1 : LenB (M.rulesTR b.rules) 155 := ⟨by rw [kt]; exact M.rulesT_len _⟩
 refine Js.skip <| zS <| Qf fh rfl <| Q9 0 rfl rfl ?_
 refine zv rfl (fun w hw => c_impl_RulesText b.rules (ok_ hw) (ok_ hw)) <| Qq (q_cat rfl rfl) <| Qa rfl <| zJ <| zS <| Qf fh rfl <| Q0 0 rfl rfl rfl <| Qz rfl <| Qm rfl <| JL.nil <| Js.block ?_
 refine zl [16, 17] (fun F U l os u m => ∃ (k : Nat) (out : List UInt8), l = F [(3, .string (sB out)), (18, .int .i64 (k : Int))] ∧ os = U [] ∧ (out = M.booN b.rules b.entries k) ∧ (k ≤ b.entries.length) ∧ m = b.entries.length - k) ⟨0, (M.rulesTR b.rules) ++ ([10] : List UInt8), rfl, rfl, by rw [kt]; rfl, zt, rfl⟩ ?_
 rintro _ _ u4 _ ⟨k, out, rfl, rfl, hO, hk, rfl⟩ x4
 refine zn ?_
 have hnl := M.booN_len hok k hk
 have lb9 : LenB out 200000 := ⟨by rw [hO]; omega⟩
 refine zS <| Ql rfl rfl <| zJ ?_
 refine zi (fun h5 h5' => ?_) fun h5 h5' => ?_
 ·
  obtain ⟨ye6, hye6⟩ : ∃ x, b.entries[k]? = some x := ⟨_, List.getElem?_eq_getElem (by omega)⟩
  have heb := (M.okB_all9 hok).2.2 _ (List.mem_of_getElem? hye6)
  have hb1 := heb.p
  have hb2 := heb.g
  have hb3 := heb.c
  have hb4 := heb.v
  have hin := fun j => M.boo_in (j := j) hok hye6
  have ljl := M.joinT_len ye6.pits
  have lbj : LenB (M.joinT ye6.pits) 352 := ⟨by omega⟩
  have hy7 := hye6
  obtain ⟨b7, o7, A7_0, c7_0, A7_1, c7_1, he7, hr7, h7_0, h7_1, bl7_0, bh7_0, bl7_1, bh7_1⟩ := elem_BookEntry (Ty.mono _ h1 x4.vis) hy7
  refine Js.skip <| Js.seq <| Js.block <| zS <| Qq (p_indexAddr el_30 rfl rfl (by omega) (by omega) he7) <| QS 0 hr7 rfl ?_
  refine za zeh fun b8 => zw 0 rfl rfl rfl ?_
  refine zN <| Qm rfl <| Qf fh rfl <| Q0 0 rfl rfl rfl <| zv rfl (fun w hw => c_impl_joined ye6.pits (ok_ hw) (ok_ hw) (r1 := hb2)) <| Qq (q_cat rfl rfl) <| Qa rfl <| zJ <| zS <| Qf fh rfl <| Q0 0 rfl rfl rfl <| Qz rfl <| Qm rfl <| JL.nil ?_
  refine Js.block ?_
  refine zl [16, 17, 18, 28, 29] (fun F U l os u m => ∃ (j : Nat) (o2 : List UInt8), l = F [(3, .string (sB o2)), (30, .int .i64 (j : Int))] ∧ os = U [] ∧ (o2 = (M.booN b.rules b.entries k ++ M.joinT ye6.pits) ++ M.chsN ye6.choices j) ∧ (j ≤ ye6.choices.length) ∧ m = ye6.choices.length - j) ⟨0, out ++ (M.joinT ye6.pits), rfl, rfl, by rw [← hO]; exact M.chs_0 _ _, zt, rfl⟩ ?_
  rintro _ _ u9 _ ⟨j, o2, rfl, rfl, hJ, hj, rfl⟩ x9
  refine zn ?_
  have lb8 : LenB o2 200000 := ⟨by rw [hJ]; exact hin j hj⟩
  refine zS <| Ql rfl rfl <| zJ ?_
  refine zi (fun h10 h10' => ?_) fun h10 h10' => ?_
  ·
   obtain ⟨ye11, hye11⟩ : ∃ x, ye6.choices[j]? = some x := ⟨_, List.getElem?_eq_getElem (by omega)⟩
   have hzv := hb4 _ (List.mem_of_getElem? hye11)
   have hJ2 := M.chs_step hJ hye11
   have hzl := M.chT_len ye11
   unfold M.chT at hzl
   have hy12 := hye11
   obtain ⟨b12, o12, he12, hr12⟩ := elem_Choice (Ty.mono _ h7_1 x9.vis) hy12
   refine Js.skip <| Js.seq <| Js.block <| zS <| Qq (p_indexAddr el_54 rfl rfl (by omega) (by omega) he12) <| QS 0 hr12 rfl ?_
   refine za zeh fun b13 => zw 0 rfl rfl rfl ?_
   refine JL.nil ?_
   refine zdr [] ?_
   refine jM 0 rfl rfl ?_
   refine jF 1 fld_58_0 rfl rfl ?_
   refine jB 2 0 ty_2 rfl rfl rfl rfl ?_
   refine jF 6 fld_58_1 rfl rfl ?_
   refine jB 7 0 ty_2 rfl rfl rfl rfl ?_
   refine jF 11 fld_58_2 rfl rfl ?_
   refine jB 12 0 ty_2 rfl rfl rfl rfl ?_
   refine y1 3 ?_
   refine yv rfl rfl (fun w hw => c_impl_Decimal ye11.move (ok_ hw)) ?_
   refine JH.p 4 rfl (q_cat rfl rfl) ?_
   refine JH.p 5 rfl (q_cat rfl rfl) ?_
   refine y1 8 ?_
   refine yv rfl rfl (fun w hw => c_impl_Decimal ye11.games (ok_ hw)) ?_
   refine JH.p 9 rfl (q_cat rfl rfl) ?_
   refine JH.p 10 rfl (q_cat rfl rfl) ?_
   refine y1 13 ?_
   refine yv rfl rfl (fun w hw => c_impl_Decimal ye11.score (ok_ hw)) ?_
   refine JH.p 14 rfl (q_cat rfl rfl) ?_
   refine JH.p 15 rfl (q_cat rfl rfl) ?_
   refine jA 16 rfl rfl ?_
   refine yd ?_
   refine Js.blockEnd <| Js.region <| Qp rfl rfl <| Qm rfl <| JL.nil ?_
   refine zd [1, 1] rfl fun u14 x14 => ?_
   exact zag ⟨j + 1, o2 ++ (((((([32] : List UInt8) ++ (M.dec ye11.move)) ++ ([47] : List UInt8)) ++ (M.dec ye11.games)) ++ ([47] : List UInt8)) ++ (M.dec ye11.score)), rfl, rfl, by exact hJ2, zt, rfl⟩ (x9.trans x14)
  have hO2 := M.boo_step hye6 hJ (by have := h10'; omega) hj
  have lb8 : LenB o2 200000 := ⟨by rw [hJ]; exact hin j hj⟩
  refine zx ?_
  refine Js.region <| Qm rfl <| Qq (q_cat rfl rfl) <| Qa rfl <| JL.nil <| Js.blockEnd <| Js.region <| Qp rfl rfl <| Qm rfl <| JL.nil ?_
  refine zd [1] rfl fun u15 x15 => ?_
  exact zag ⟨k + 1, o2 ++ ([10] : List UInt8), rfl, rfl, by exact hO2, zt, rfl⟩ ((x4.trans x9).trans x15)
 have hO3 := M.boo_e hO (by have := h5'; omega) hk
 refine zx ?_
 refine zS <| Qm rfl <| Qa rfl <| JL.nil ?_
 refine zR x4 ?_
 first | (rw [hE]; rfl) | (rw [hE, ← hO3]; rfl)
theorem c_impl_isDigit (c : Int) {w : World}  : RetV Tryz.prog 145 [.int .u8 c] w (.bool (M.isDig c)) := by
 refine enter @Tryz.func145 @Tryz.ntmps145 rfl rfl ?_
 refine zent ?_
 refine zS <| Qa rfl <| zN <| Qm rfl <| Qh rfl rfl <| Qm rfl <| zg (Gd.t1 rfl rfl rfl) (fun hc => p_move rfl) <| zg (Gd.t1 rfl rfl rfl) (fun hc => p_leq (gh hc rfl) rfl) <| Qq (p_pickAnd rfl rfl rfl) <| Qa rfl <| JL.nil ?_
 exact zr (Up.refl _ _)
theorem c_impl_ReadDecimal (t : List UInt8) {w : World} (h_tab : tabT.ok w undef) (r0 : t.length ≤ 4194304 := by exact om_) : RetV Tryz.prog 95 [.string (sB t)] w (.tuple #[.int .i64 ((M.num t).1), .bool ((M.num t).2)]) := by
 refine enter @Tryz.func95 @Tryz.ntmps95 rfl rfl ?_
 refine zent ?_
 have hbt1 := M.bat_bd t 0
 refine zS <| Qa rfl <| Qa rfl <| zN <| Qm rfl <| Qa rfl <| zJ <| zS <| Qm rfl <| Qq (p_lenS und_9 rfl) <| Qg rfl rfl <| Qm rfl <| zg (Gd.t1 rfl rfl rfl) (fun hc => p_move rfl) <| zg (Gd.t1 rfl rfl rfl) (fun hc => p_byteS (i := 0) und_9 (gh hc rfl) rfl (by first | have hc9 := hc; (try simp only [decide_eq_true_eq] at hc9); omega | (have h9 := List.length_pos_iff.2 (by simpa using hc); omega) | (have h9 := hc; simp at h9; omega))) ?_
 refine zg (Gd.t1 rfl rfl rfl) (fun hc => p_eql (gh hc rfl) rfl) <| Qq (p_pickAnd rfl rfl rfl) <| JL.nil ?_
 refine zi (fun h2 h2' => ?_) fun h2 h2' => ?_
 ·
  have h8 : t ≠ [] := by have h9 := h2; simp at h9; exact List.length_pos_iff.1 (by omega)
  have hT : M.numT t = t.drop 1 := by have h9 := h2; simp at h9; exact M.numT_y h8 h9.2
  have hln : 1 ≤ t.length := List.length_pos_iff.2 h8
  refine Js.region <| Qm rfl <| Qq (p_dropS (i := 1) und_9 rfl rfl (by omega)) <| Qa rfl <| zJ <| zS <| Qm rfl <| Qq (p_lenS und_9 rfl) <| Qe rfl rfl <| Qm rfl <| zg (Gd.f1 rfl rfl rfl) (fun hc => p_move rfl) <| zg (Gd.f1 rfl rfl rfl) (fun hc => p_lenS und_9 (gh hc rfl)) <| zg (Gd.f1 rfl rfl rfl) (fun hc => p_gtr (gh hc rfl) rfl) <| Qq (p_pickOr rfl rfl rfl) ?_
  refine JL.nil ?_
  refine zi (fun h3 h3' => ?_) fun h3 h3' => ?_
  ·
   have hE := M.num_len (s := t) (by rw [hT]; have h9 := h3; simp at h9; omega)
   refine zS <| Qa rfl <| Qa rfl <| JL.nil ?_
   refine zR (Up.refl _ _) ?_
   first | (rw [hE]; rfl) | (rw [hE, hS]; rfl)
  have hl9 : ¬ ((M.numT t).length < 1 ∨ 18 < (M.numT t).length) := by rw [hT]; have h9 := h3; simp at h9; omega
  refine Js.skip <| zS <| Qa rfl <| zJ <| zS <| Qm rfl <| Qq (p_lenS und_9 rfl) <| Qm rfl <| JL.nil <| Js.block ?_
  refine zl [0, 4, 27] (fun F U l os u m => ∃ (k : Nat) (n : Int), l = F [(5, .int .i64 n), (28, .int .i64 (k : Int))] ∧ os = U [] ∧ (n = M.numN (M.numT t) k) ∧ (M.Digs (M.numT t) k) ∧ (k ≤ (M.numT t).length) ∧ m = (M.numT t).length - k) ⟨0, 0, rfl, rfl, by rfl, by exact M.Digs.zero _, zt, rfl⟩ ?_
  rintro _ _ u4 _ ⟨k, n, rfl, rfl, hN, hD, hk, rfl⟩ x4
  refine zn ?_
  obtain ⟨n1, n2⟩ := M.numN_18 hD (by omega)
  rw [← hN] at n1 n2
  refine zS <| Ql rfl rfl <| zJ ?_
  refine zi (fun h5 h5' => ?_) fun h5 h5' => ?_
  ·
   have hkk : k < (M.numT t).length := by rw [hT]; have := h5'; omega
   obtain ⟨n3, n4⟩ := M.numN_17 hD (by omega)
   rw [← hN] at n3 n4
   have hbt6 := M.bat_bd (t.drop 1) k
   refine Js.skip <| Js.seq <| Js.block <| zS <| Qm rfl <| Qa rfl <| zJ <| zS <| Qm rfl <| Qm rfl <| Qq (p_byteS (i := k) und_9 rfl rfl (by omega)) <| zv rfl (fun w hw => c_impl_isDigit (M.bat (t.drop 1) k)) <| Qt rfl <| JL.nil ?_
   refine zi (fun h7 h7' => ?_) fun h7 h7' => ?_
   ·
    have hE := M.num_dig (M.digs_no hkk (by rw [hT]; simpa using h7))
    refine zS <| Qa rfl <| Qa rfl <| JL.nil ?_
    refine zR x4 ?_
    first | (rw [hE]; rfl) | (rw [hE, hS]; rfl)
   have hd : M.isDig (M.bat (M.numT t) k) = true := by rw [hT]; simpa using h7
   have hD2 := hD.step hd
   obtain ⟨d1, d2⟩ := M.dig_bd hd
   rw [hT] at d1 d2
   have hbt8 := M.bat_bd (t.drop 1) k
   refine Js.skip <| Js.region <| Qm rfl <| Qu rfl rfl <| Qm rfl <| Qm rfl <| Qq (p_byteS (i := k) und_9 rfl rfl (by omega)) <| Qq (p_sub rfl rfl (IntWalk.u8_in _ (by omega))) <| Qq (p_conv @Tryz.underlying5 @Tryz.underlying2 rfl (IntWalk.i64_in _ (by omega))) <| Qp rfl rfl <| Qa rfl <| JL.nil <| Js.blockEnd <| Js.region ?_
   refine Qp rfl rfl <| Qm rfl <| JL.nil ?_
   exact zag ⟨k + 1, (10 * n) + ((M.bat (t.drop 1) k) - 48), rfl, rfl, by rw [hN, M.numN, hT], by exact hD2, zt, rfl⟩ x4
  have hke : k = (M.numT t).length := Nat.le_antisymm hk (by rw [hT]; have := h5'; omega)
  have hdg := M.digs_yes hD (by omega)
  rw [hke] at hN
  refine zx ?_
  refine Js.seq <| zS <| Qm rfl <| Qq (p_lenS und_9 rfl) <| Qm rfl <| Qq (p_lenS und_9 rfl) <| Ql rfl rfl <| JL.nil ?_
  refine zi (fun h9 h9' => ?_) fun h9 h9' => ?_
  ·
   have hS : M.numS t = -n := by rw [hN]; exact M.numS_neg (by rw [hT]; have := h9'; omega)
   refine Js.region <| Qm rfl <| Qq (p_neg (r := -n) rfl (by rw [Int.zero_sub]; exact IntWalk.i64_in _ (by omega))) <| Qa rfl <| zJ <| zS <| Qm rfl <| zv rfl (fun w hw => c_impl_Decimal (-n) (ok_ hw)) <| Qm rfl <| Qq (p_neqT und_9 rfl rfl) <| JL.nil ?_
   refine zi (fun h10 h10' => ?_) fun h10 h10' => ?_
   ·
    have hE := M.num_no (s := t) (by rw [hS]; simpa using h10)
    refine zS <| Qa rfl <| Qa rfl <| JL.nil ?_
    refine zR x4 ?_
    first | (rw [hE]; rfl) | (rw [hE, hS]; rfl)
   have hE := M.num_yes hl9 hdg (by rw [hS]; simpa using h10)
   refine Js.skip <| zS <| Qm rfl <| Qa rfl <| Qa rfl <| JL.nil ?_
   refine zR x4 ?_
   first | (rw [hE]; rfl) | (rw [hE, hS]; rfl)
  have hS : M.numS t = n := by rw [hN]; exact M.numS_pos (by rw [hT]; have := h9'; omega)
  refine Js.skip <| Js.seq <| zS <| Qm rfl <| zv rfl (fun w hw => c_impl_Decimal n (ok_ hw)) <| Qm rfl <| Qq (p_neqT und_9 rfl rfl) <| JL.nil ?_
  refine zi (fun h11 h11' => ?_) fun h11 h11' => ?_
  ·
   have hE := M.num_no (s := t) (by rw [hS]; simpa using h11)
   refine zS <| Qa rfl <| Qa rfl <| JL.nil ?_
   refine zR x4 ?_
   first | (rw [hE]; rfl) | (rw [hE, hS]; rfl)
  have hE := M.num_yes hl9 hdg (by rw [hS]; simpa using h11)
  refine Js.skip <| zS <| Qm rfl <| Qa rfl <| Qa rfl <| JL.nil ?_
  refine zR x4 ?_
  first | (rw [hE]; rfl) | (rw [hE, hS]; rfl)
 have hT : M.numT t = t := M.numT_n (by have h9 := h2; simp at h9; intro ⟨a, b⟩; exact h9 (List.length_pos_iff.2 a) b)
 refine Js.skip <| Js.seq <| zS <| Qm rfl <| Qq (p_lenS und_9 rfl) <| Qe rfl rfl <| Qm rfl <| zg (Gd.f1 rfl rfl rfl) (fun hc => p_move rfl) <| zg (Gd.f1 rfl rfl rfl) (fun hc => p_lenS und_9 (gh hc rfl)) <| zg (Gd.f1 rfl rfl rfl) (fun hc => p_gtr (gh hc rfl) rfl) <| Qq (p_pickOr rfl rfl rfl) <| JL.nil ?_
 refine zi (fun h12 h12' => ?_) fun h12 h12' => ?_
 ·
  have hE := M.num_len (s := t) (by rw [hT]; have h9 := h12; simp at h9; omega)
  refine zS <| Qa rfl <| Qa rfl <| JL.nil ?_
  refine zR (Up.refl _ _) ?_
  first | (rw [hE]; rfl) | (rw [hE, hS]; rfl)
 have hl9 : ¬ ((M.numT t).length < 1 ∨ 18 < (M.numT t).length) := by rw [hT]; have h9 := h12; simp at h9; omega
 refine Js.skip <| zS <| Qa rfl <| zJ <| zS <| Qm rfl <| Qq (p_lenS und_9 rfl) <| Qm rfl <| JL.nil <| Js.block ?_
 refine zl [0, 4, 27] (fun F U l os u m => ∃ (k : Nat) (n : Int), l = F [(5, .int .i64 n), (28, .int .i64 (k : Int))] ∧ os = U [] ∧ (n = M.numN (M.numT t) k) ∧ (M.Digs (M.numT t) k) ∧ (k ≤ (M.numT t).length) ∧ m = (M.numT t).length - k) ⟨0, 0, rfl, rfl, by rfl, by exact M.Digs.zero _, zt, rfl⟩ ?_
 rintro _ _ u13 _ ⟨k, n, rfl, rfl, hN, hD, hk, rfl⟩ x13
 refine zn ?_
 obtain ⟨n1, n2⟩ := M.numN_18 hD (by omega)
 rw [← hN] at n1 n2
 refine zS <| Ql rfl rfl <| zJ ?_
 refine zi (fun h14 h14' => ?_) fun h14 h14' => ?_
 ·
  have hkk : k < (M.numT t).length := by rw [hT]; have := h14'; omega
  obtain ⟨n3, n4⟩ := M.numN_17 hD (by omega)
  rw [← hN] at n3 n4
  have hbt15 := M.bat_bd t k
  refine Js.skip <| Js.seq <| Js.block <| zS <| Qm rfl <| Qa rfl <| zJ <| zS <| Qm rfl <| Qm rfl <| Qq (p_byteS (i := k) und_9 rfl rfl (by omega)) <| zv rfl (fun w hw => c_impl_isDigit (M.bat t k)) <| Qt rfl <| JL.nil ?_
  refine zi (fun h16 h16' => ?_) fun h16 h16' => ?_
  ·
   have hE := M.num_dig (M.digs_no hkk (by rw [hT]; simpa using h16))
   refine zS <| Qa rfl <| Qa rfl <| JL.nil ?_
   refine zR x13 ?_
   first | (rw [hE]; rfl) | (rw [hE, hS]; rfl)
  have hd : M.isDig (M.bat (M.numT t) k) = true := by rw [hT]; simpa using h16
  have hD2 := hD.step hd
  obtain ⟨d1, d2⟩ := M.dig_bd hd
  rw [hT] at d1 d2
  have hbt17 := M.bat_bd t k
  refine Js.skip <| Js.region <| Qm rfl <| Qu rfl rfl <| Qm rfl <| Qm rfl <| Qq (p_byteS (i := k) und_9 rfl rfl (by omega)) <| Qq (p_sub rfl rfl (IntWalk.u8_in _ (by omega))) <| Qq (p_conv @Tryz.underlying5 @Tryz.underlying2 rfl (IntWalk.i64_in _ (by omega))) <| Qp rfl rfl <| Qa rfl <| JL.nil <| Js.blockEnd <| Js.region ?_
  refine Qp rfl rfl <| Qm rfl <| JL.nil ?_
  exact zag ⟨k + 1, (10 * n) + ((M.bat t k) - 48), rfl, rfl, by rw [hN, M.numN, hT], by exact hD2, zt, rfl⟩ x13
 have hke : k = (M.numT t).length := Nat.le_antisymm hk (by rw [hT]; have := h14'; omega)
 have hdg := M.digs_yes hD (by omega)
 rw [hke] at hN
 refine zx ?_
 refine Js.seq <| zS <| Qm rfl <| Qq (p_lenS und_9 rfl) <| Qm rfl <| Qq (p_lenS und_9 rfl) <| Ql rfl rfl <| JL.nil ?_
 refine zi (fun h18 h18' => ?_) fun h18 h18' => ?_
 ·
  have hS : M.numS t = -n := by rw [hN]; exact M.numS_neg (by rw [hT]; have := h18'; omega)
  refine Js.region <| Qm rfl <| Qq (p_neg (r := -n) rfl (by rw [Int.zero_sub]; exact IntWalk.i64_in _ (by omega))) <| Qa rfl <| zJ <| zS <| Qm rfl <| zv rfl (fun w hw => c_impl_Decimal (-n) (ok_ hw)) <| Qm rfl <| Qq (p_neqT und_9 rfl rfl) <| JL.nil ?_
  refine zi (fun h19 h19' => ?_) fun h19 h19' => ?_
  ·
   have hE := M.num_no (s := t) (by rw [hS]; simpa using h19)
   refine zS <| Qa rfl <| Qa rfl <| JL.nil ?_
   refine zR x13 ?_
   first | (rw [hE]; rfl) | (rw [hE, hS]; rfl)
  have hE := M.num_yes hl9 hdg (by rw [hS]; simpa using h19)
  refine Js.skip <| zS <| Qm rfl <| Qa rfl <| Qa rfl <| JL.nil ?_
  refine zR x13 ?_
  first | (rw [hE]; rfl) | (rw [hE, hS]; rfl)
 have hS : M.numS t = n := by rw [hN]; exact M.numS_pos (by rw [hT]; have := h18'; omega)
 refine Js.skip <| Js.seq <| zS <| Qm rfl <| zv rfl (fun w hw => c_impl_Decimal n (ok_ hw)) <| Qm rfl <| Qq (p_neqT und_9 rfl rfl) <| JL.nil ?_
 refine zi (fun h20 h20' => ?_) fun h20 h20' => ?_
 ·
  have hE := M.num_no (s := t) (by rw [hS]; simpa using h20)
  refine zS <| Qa rfl <| Qa rfl <| JL.nil ?_
  refine zR x13 ?_
  first | (rw [hE]; rfl) | (rw [hE, hS]; rfl)
 have hE := M.num_yes hl9 hdg (by rw [hS]; simpa using h20)
 refine Js.skip <| zS <| Qm rfl <| Qa rfl <| Qa rfl <| JL.nil ?_
 refine zR x13 ?_
 first | (rw [hE]; rfl) | (rw [hE, hS]; rfl)
theorem c_impl_cut (s sep : List UInt8) {w : World} (r0 : s.length ≤ 4194304 := by exact om_) (r1 : sep.length ≤ 4194304 := by exact om_) : RetV Tryz.prog 93 [.string (sB s), .string (sB sep)] w (.tuple #[.string (sB ((M.cutS s sep).1)), .string (sB ((M.cutS s sep).2.1)), .bool ((M.cutS s sep).2.2)]) := by
 refine enter @Tryz.func93 @Tryz.ntmps93 rfl rfl ?_
 refine zent ?_
 refine zS <| Qa rfl <| Qa rfl <| Qa rfl <| zJ <| zS <| Qa rfl <| JL.nil <| Js.block ?_
 refine zl [0, 1] (fun F U l os u m => ∃ (k : Nat), l = F [(7, .int .i64 (k : Int))] ∧ os = U [] ∧ (k ≤ s.length + 1) ∧ (∀ i, i < k → (s.drop i).take sep.length ≠ sep) ∧ m = s.length + 1 - k) ⟨0, rfl, rfl, zt, by exact fun i h => absurd h (by omega), rfl⟩ ?_
 rintro _ _ u1 _ ⟨k, rfl, rfl, hk, hn, rfl⟩ x1
 refine zn ?_
 refine Js.seq <| zS <| Qm rfl <| Qm rfl <| Qq (p_lenS und_9 rfl) <| Qp rfl rfl <| Qm rfl <| Qq (p_lenS und_9 rfl) <| Qk rfl rfl <| JL.nil ?_
 refine zi (fun h2 h2' => ?_) fun h2 h2' => ?_
 ·
  have hks : k + sep.length ≤ s.length := by have := h2'; omega
  refine Js.skip <| Js.seq <| Js.block <| zS <| Qm rfl <| Qm rfl <| Qm rfl <| Qm rfl <| Qq (p_lenS und_9 rfl) <| Qp rfl rfl <| Qq (p_midS (i := k) (j := k + sep.length) und_9 rfl rfl rfl (by omega) (by omega)) <| Qm rfl <| Qq (p_eqlT und_9 rfl rfl) <| JL.nil ?_
  refine zi (fun h3 h3' => ?_) fun h3 h3' => ?_
  ·
   have hE := M.cutS_yes hks (by have h9 := h3; simp at h9; exact h9) hn
   refine Js.seq ?_
   refine zdr [] ?_
   refine jM 0 rfl rfl ?_
   refine jM 1 rfl rfl ?_
   refine JH.p 2 rfl (p_takeS (i := k) und_9 rfl rfl (by omega)) ?_
   refine jM 3 rfl rfl ?_
   refine jM 4 rfl rfl ?_
   refine jM 5 rfl rfl ?_
   refine JH.p 6 rfl (p_lenS und_9 rfl) ?_
   refine JH.p 7 rfl (p_add rfl rfl (IntWalk.i64_in _ (by omega))) ?_
   refine JH.p 8 rfl (p_dropS (i := k + sep.length) und_9 rfl rfl (by omega)) ?_
   refine jA 9 rfl rfl ?_
   refine jA 10 rfl rfl ?_
   refine jA 11 rfl rfl ?_
   refine yd ?_
   refine zR x1 ?_
   rw [hE]; rfl
  have hn2 := M.miss_step hn (by have h9 := h3; simp at h9; exact h9)
  refine Js.skip <| Js.blockEnd <| Js.region <| Qm rfl <| Qp rfl rfl <| Qa rfl <| JL.nil ?_
  exact zag ⟨k + 1, rfl, rfl, zt, by exact hn2, rfl⟩ x1
 have hE := M.cutS_no (k := k) (by have := h2'; omega) hn
 refine zx ?_
 refine zS <| Qm rfl <| Qa rfl <| Qa rfl <| Qa rfl <| JL.nil ?_
 refine zR x1 ?_
 rw [hE]; rfl
theorem c_impl_parts (s : List UInt8) {w : World} (r0 : s.length ≤ 4194304 := by exact om_) : Ret Tryz.prog 42 [.string (sB s)] w (Ty.strs 9 (M.split 32 s)) := by
 refine enter @Tryz.func42 @Tryz.ntmps42 rfl rfl ?_
 refine zent ?_
 refine zS <| Qa rfl <| zN <| zbs fun b1 => ?_
 refine Qa rfl <| JL.nil <| Js.block ?_
 refine zl [] (fun F U l os u m => ∃ (cur : List UInt8) (out : List (List UInt8)) (A3_3 : Option Addr) (c3_3 : Nat) (g3_3 : List Nat), l = F [(0, .string (sB cur)), (3, .slice A3_3 out.length c3_3)] ∧ os = U [some (rowO 9 1 (.slice A3_3 out.length c3_3) out.length (txs_ out) g3_3)] ∧ (out ++ M.split 32 cur = M.split 32 s) ∧ (cur.length ≤ s.length) ∧ (out.length ≤ c3_3) ∧ (c3_3 ≤ 9223372036854775807) ∧ m = cur.length) ⟨s, [], _, _, _, rfl, rfl, by rfl, by exact Nat.le_refl _, zu, zu, rfl⟩ ?_
 rintro _ _ u3 _ ⟨cur, out, A3_3, c3_3, g3_3, rfl, rfl, hP, hl, f3_2, f3_3, rfl⟩ x3
 refine zn ?_
 have hl3 := M.parts_len hP
 have hcl := M.cutS_len cur [32]
 refine Js.block <| zS <| Qm rfl <| zv rfl (fun w hw => c_impl_cut cur ([32] : List UInt8)) <| Qm rfl <| Qx rfl rfl <| Qx rfl rfl <| Qx rfl rfl <| Qa rfl <| Qa rfl <| Qa rfl <| zN <| Qm rfl <| Qm rfl ?_
 refine zbs fun b4 => ?_
 refine JL.e (e_append (i := 1) (n' := (out ++ ([(M.cutS cur ([32] : List UInt8)).1])).length) (vs' := txs_ (out ++ ([(M.cutS cur ([32] : List UInt8)).1]))) el_72 rfl rfl rfl rfl (src_row (i := 0) und_72 rfl rfl) (by omega) (by omega) ln2_ (by first | rfl | (simp [txs_]; done))) ?_
 rintro v6 _ _ ⟨⟨g7, rfl⟩, rfl⟩ _
 refine JL.fact (row_form' (i := 1) rfl) (fun hf8 => ?_)
 obtain ⟨A8, c8, rfl, bl8, bh8⟩ := hf8
 refine znl ?_
 refine Qa rfl <| zJ <| zS <| Qm rfl <| Qt rfl <| JL.nil ?_
 refine zi (fun h9 h9' => ?_) fun h9 h9' => ?_
 ·
  have hE := M.parts_last hP (by simpa using h9)
  have hq0 : (out ++ ([(M.cutS cur ([32] : List UInt8)).1])) = M.split 32 s := by exact hE
  refine zS <| Qm rfl <| Qa rfl <| JL.nil ?_
  exact zro x3 (g := by exact (gv_strsE (ys := out ++ ([(M.cutS cur ([32] : List UInt8)).1])) po_ (by assumption) (by rfl)))
 have hP2 := M.parts_more hP (by simpa using h9)
 have hP3 := hP2.2
 refine Js.skip <| Js.region <| Qm rfl <| Qa rfl <| JL.nil <| Js.blockEnd ?_
 refine zd [1] rfl fun u10 x10 => ?_
 exact zag ⟨(M.cutS cur ([32] : List UInt8)).2.1, out ++ ([(M.cutS cur ([32] : List UInt8)).1]), _, _, _, rfl, rfl, by exact hP2.1, by omega, zu, zu, rfl⟩ (x3.trans x10)
theorem c_impl_readNumbers (s : List UInt8) {w : World} (h_tab : tabT.ok w undef) (r0 : s.length ≤ 4194304 := by exact om_) : Ret Tryz.prog 43 [.string (sB s)] w (Ty.tup [Ty.ints 2 ((M.nums s).1), Ty.bool ((M.nums s).2)]) := by
 refine enter @Tryz.func43 @Tryz.ntmps43 rfl rfl ?_
 refine zent ?_
 refine zS <| Qa rfl <| Qa rfl <| zN <| zbs fun b1 => ?_
 refine Qa rfl <| JL.nil <| Js.block ?_
 refine zl [] (fun F U l os u m => ∃ (cur : List UInt8) (out : List Int) (A3_4 : Option Addr) (c3_4 : Nat) (g3_4 : List Nat), l = F [(0, .string (sB cur)), (4, .slice A3_4 out.length c3_4)] ∧ os = U [some (rowO 2 1 (.slice A3_4 out.length c3_4) out.length (ints_ out) g3_4)] ∧ (M.NumsI s cur out) ∧ (cur.length ≤ s.length) ∧ (out.length ≤ c3_4) ∧ (c3_4 ≤ 9223372036854775807) ∧ m = cur.length) ⟨s, [], _, _, _, rfl, rfl, by exact M.NumsI.zero s, by exact Nat.le_refl _, zu, zu, rfl⟩ ?_
 rintro _ _ u3 _ ⟨cur, out, A3_4, c3_4, g3_4, rfl, rfl, hP, hl, f3_2, f3_3, rfl⟩ x3
 refine zn ?_
 have hl3 := hP.len
 have hcl := M.cutS_len cur [44]
 refine Js.block <| zS <| Qm rfl <| zv rfl (fun w hw => c_impl_cut cur ([44] : List UInt8)) <| Qm rfl <| Qx rfl rfl <| Qx rfl rfl <| Qx rfl rfl <| Qa rfl <| Qa rfl <| Qa rfl <| zN <| Qm rfl <| zv rfl (fun w hw => c_impl_ReadDecimal ((M.cutS cur ([44] : List UInt8)).1) (ok_ hw)) ?_
 refine Qm rfl <| Qx rfl rfl <| Qx rfl rfl <| Qa rfl <| Qa rfl <| zJ <| zS <| Qm rfl <| Qt rfl <| JL.nil ?_
 refine zi (fun h4 h4' => ?_) fun h4 h4' => ?_
 ·
  have hE := M.nums_no (hP.bad (by simpa using h4))
  have hq0 : [] = (M.nums s).1 := by first | (rw [hE]; done)
  have hq1 : false = (M.nums s).2 := by first | (rw [hE]; done)
  refine zS <| Qa rfl <| Qa rfl <| JL.nil ?_
  exact zro x3
 have hn9 : (M.num (M.cutS cur [44]).1).2 = true := by simpa using h4
 refine Js.skip <| zS <| Qm rfl <| Qm rfl <| zbs fun b5 => ?_
 refine JL.e (e_append (i := 1) (n' := (out ++ ([((M.num ((M.cutS cur ([44] : List UInt8)).1)).1)])).length) (vs' := ints_ (out ++ ([((M.num ((M.cutS cur ([44] : List UInt8)).1)).1)]))) el_42 rfl rfl rfl rfl (src_row (i := 0) und_42 rfl rfl) (by omega) (by omega) ln2_ (by simp [ints_])) ?_
 rintro v7 _ _ ⟨⟨g8, rfl⟩, rfl⟩ _
 refine JL.fact (row_form' (i := 1) rfl) (fun hf9 => ?_)
 obtain ⟨A9, c9, rfl, bl9, bh9⟩ := hf9
 refine znl ?_
 refine Qa rfl <| zJ <| zS <| Qm rfl <| Qt rfl <| JL.nil ?_
 refine zi (fun h10 h10' => ?_) fun h10 h10' => ?_
 ·
  have hE := hP.last hn9 (by simpa using h10)
  have hq0 : (out ++ ([((M.num ((M.cutS cur ([44] : List UInt8)).1)).1)])) = (M.nums s).1 := by first | (rw [hE]; done)
  have hq1 : true = (M.nums s).2 := by first | (rw [hE]; done)
  refine zS <| Qm rfl <| Qa rfl <| Qa rfl <| JL.nil ?_
  exact zro x3
 have hP2 := hP.more hn9 (by simpa using h10)
 have hP3 := hP2.2
 refine Js.skip <| Js.region <| Qm rfl <| Qa rfl <| JL.nil <| Js.blockEnd ?_
 refine zd [1] rfl fun u11 x11 => ?_
 exact zag ⟨(M.cutS cur ([44] : List UInt8)).2.1, out ++ ([((M.num ((M.cutS cur ([44] : List UInt8)).1)).1)]), _, _, _, rfl, rfl, by exact hP2.1, by omega, zu, zu, rfl⟩ (x3.trans x11)
theorem c_impl_SlamNamed (y : List UInt8) {w : World}  : RetV Tryz.prog 189 [.string (sB y)] w (.tuple #[.int .i64 ((M.namedBy M.slamNames y).1), .int .i64 ((M.namedBy M.slamNames y).2)]) := by
 refine enter @Tryz.func189 @Tryz.ntmps189 rfl rfl ?_
 refine zent ?_
 refine zS <| Qa rfl <| Qa rfl <| zJ <| zS <| Qa rfl <| JL.nil <| Js.block ?_
 refine zl [0] (fun F U l os u m => ∃ (k : Nat), l = F [(4, .int .i64 (k : Int))] ∧ os = U [] ∧ (k ≤ 3) ∧ (M.Nix M.slamNames y k) ∧ m = 3 - k) ⟨0, rfl, rfl, zt, by exact M.Nix.zero _ _, rfl⟩ ?_
 rintro _ _ u1 _ ⟨k, rfl, rfl, hk, hN, rfl⟩ x1
 refine zn ?_
 refine Js.seq <| zS <| Qm rfl <| Qk rfl rfl <| JL.nil ?_
 refine zi (fun h2 h2' => ?_) fun h2 h2' => ?_
 ·
  have hY := M.slam_at (k := k) (by have := h2'; omega)
  refine Js.skip <| Js.seq <| Js.block <| zS <| Qm rfl <| zv rfl (fun w hw => c_impl_SlamName (k : Int)) <| Qm rfl <| Qq (p_eqlT und_9 rfl rfl) <| JL.nil ?_
  refine zi (fun h3 h3' => ?_) fun h3 h3' => ?_
  ·
   have hE := M.named_hit hN hY (by simpa using h3)
   refine zS <| Qm rfl <| Qa rfl <| Qa rfl <| JL.nil ?_
   refine zR x1 ?_
   rw [hE]; rfl
  have hN2 := hN.step hY (by simpa using h3)
  refine Js.skip <| Js.blockEnd <| Js.region <| Qm rfl <| Qp rfl rfl <| Qa rfl <| JL.nil ?_
  exact zag ⟨k + 1, rfl, rfl, zt, by exact hN2, rfl⟩ x1
 have hE := M.named_miss hN (show 3 ≤ k by have := h2'; omega)
 refine zx ?_
 refine zS <| Qa rfl <| Qa rfl <| JL.nil ?_
 refine zR x1 ?_
 rw [hE]; rfl
theorem c_impl_Rules_number (r : M.Rul) {v_r : Value} (y : List UInt8) {w : World} (h_r : (Ty.ref (cRules r)).ok w v_r) (r0 : M.isNum y = true := by exact om_) : RetV Tryz.prog 168 [v_r, .string (sB y)] w (addO v_r (M.numIx y)) := by
 revert v_r; apply opn
 intro b1 o1 hr1
 refine enter @Tryz.func168 @Tryz.ntmps168 rfl rfl ?_
 refine zent ?_
 refine zS <| Qa rfl <| zJ <| zS <| Qm rfl <| JL.nil <| Js.block <| zS <| Qq (p_eqlT und_9 rfl rfl) <| Qa rfl <| JL.nil ?_
 refine zi (fun h2 h2' => ?_) fun h2 h2' => ?_
 ·
  have e69 := h2'
  refine zS <| Qm rfl <| Qc rfl <| Qf fh rfl <| Qa rfl <| JL.nil ?_
  refine zR (Up.refl _ _) ?_
  first | (rw [e69]; rfl) | (rw [e71]; rfl) | (rw [e73]; rfl) | (rw [e75]; rfl) | (exfalso; rcases M.isNum_iff r0 with h | h | h | h <;> contradiction)
 have e69 := h2'
 refine zS <| Qq (p_eqlT und_9 rfl rfl) <| Qa rfl <| JL.nil ?_
 refine zi (fun h3 h3' => ?_) fun h3 h3' => ?_
 ·
  have e71 := h3'
  refine zS <| Qm rfl <| Qc rfl <| Qf fh rfl <| Qa rfl <| JL.nil ?_
  refine zR (Up.refl _ _) ?_
  first | (rw [e69]; rfl) | (rw [e71]; rfl) | (rw [e73]; rfl) | (rw [e75]; rfl) | (exfalso; rcases M.isNum_iff r0 with h | h | h | h <;> contradiction)
 have e71 := h3'
 refine zS <| Qq (p_eqlT und_9 rfl rfl) <| Qa rfl <| JL.nil ?_
 refine zi (fun h4 h4' => ?_) fun h4 h4' => ?_
 ·
  have e73 := h4'
  refine zS <| Qm rfl <| Qc rfl <| Qf fh rfl <| Qa rfl <| JL.nil ?_
  refine zR (Up.refl _ _) ?_
  first | (rw [e69]; rfl) | (rw [e71]; rfl) | (rw [e73]; rfl) | (rw [e75]; rfl) | (exfalso; rcases M.isNum_iff r0 with h | h | h | h <;> contradiction)
 have e73 := h4'
 refine zS <| Qq (p_eqlT und_9 rfl rfl) <| Qa rfl <| JL.nil ?_
 refine zi (fun h5 h5' => ?_) fun h5 h5' => ?_
 ·
  have e75 := h5'
  refine zS <| Qm rfl <| Qc rfl <| Qf fh rfl <| Qa rfl <| JL.nil ?_
  refine zR (Up.refl _ _) ?_
  first | (rw [e69]; rfl) | (rw [e71]; rfl) | (rw [e73]; rfl) | (rw [e75]; rfl) | (exfalso; rcases M.isNum_iff r0 with h | h | h | h <;> contradiction)
 have e75 := h5'
 refine Js.skip <| Js.blockEnd <| zS <| Qa rfl <| JL.nil ?_
 refine zR (Up.refl _ _) ?_
 first | (rw [e69]; rfl) | (rw [e71]; rfl) | (rw [e73]; rfl) | (rw [e75]; rfl) | (exfalso; rcases M.isNum_iff r0 with h | h | h | h <;> contradiction)
theorem c_impl_Rules_numberL (r : M.Rul) {v_r : Value} (y : List UInt8) {w : World} (h_r : (Ty.ref (cRules r)).ok w v_r) (r0 : M.isNum y = false := by exact om_) : RetV Tryz.prog 168 [v_r, .string (sB y)] w (.pointer none) := by
 obtain ⟨q1, q2, q3, q4⟩ := M.isNum_no r0
 revert v_r; apply opn
 intro b1 o1 hr1
 refine enter @Tryz.func168 @Tryz.ntmps168 rfl rfl ?_
 refine zent ?_
 refine zS <| Qa rfl <| zJ <| zS <| Qm rfl <| JL.nil <| Js.block <| zS <| Qq (p_eqlT und_9 rfl rfl) <| Qa rfl <| JL.nil ?_
 refine zi (fun h2 h2' => ?_) fun h2 h2' => ?_
 · exact absurd h2' (by assumption)
 refine zS <| Qq (p_eqlT und_9 rfl rfl) <| Qa rfl <| JL.nil ?_
 refine zi (fun h3 h3' => ?_) fun h3 h3' => ?_
 · exact absurd h3' (by assumption)
 refine zS <| Qq (p_eqlT und_9 rfl rfl) <| Qa rfl <| JL.nil ?_
 refine zi (fun h4 h4' => ?_) fun h4 h4' => ?_
 · exact absurd h4' (by assumption)
 refine zS <| Qq (p_eqlT und_9 rfl rfl) <| Qa rfl <| JL.nil ?_
 refine zi (fun h5 h5' => ?_) fun h5 h5' => ?_
 · exact absurd h5' (by assumption)
 refine Js.skip <| Js.blockEnd <| zS <| Qa rfl <| JL.nil ?_
 refine zR (Up.refl _ _) ?_
 rfl
theorem c_impl_Rules_flagL (r : M.Rul) {v_r : Value} (y : List UInt8) {w : World} (h_r : (Ty.ref (cRules r)).ok w v_r) (r0 : M.isFlg y = false := by exact om_) : RetV Tryz.prog 87 [v_r, .string (sB y)] w (.pointer none) := by
 obtain ⟨q1, q2, q3, q4, q5⟩ := M.isFlg_no r0
 revert v_r; apply opn
 intro b1 o1 hr1
 refine enter @Tryz.func87 @Tryz.ntmps87 rfl rfl ?_
 refine zent ?_
 refine zS <| Qa rfl <| zJ <| zS <| Qm rfl <| JL.nil <| Js.block <| zS <| Qq (p_eqlT und_9 rfl rfl) <| Qa rfl <| JL.nil ?_
 refine zi (fun h2 h2' => ?_) fun h2 h2' => ?_
 · exact absurd h2' (by assumption)
 refine zS <| Qq (p_eqlT und_9 rfl rfl) <| Qa rfl <| JL.nil ?_
 refine zi (fun h3 h3' => ?_) fun h3 h3' => ?_
 · exact absurd h3' (by assumption)
 refine zS <| Qq (p_eqlT und_9 rfl rfl) <| Qa rfl <| JL.nil ?_
 refine zi (fun h4 h4' => ?_) fun h4 h4' => ?_
 · exact absurd h4' (by assumption)
 refine zS <| Qq (p_eqlT und_9 rfl rfl) <| Qa rfl <| JL.nil ?_
 refine zi (fun h5 h5' => ?_) fun h5 h5' => ?_
 · exact absurd h5' (by assumption)
 refine zS <| Qq (p_eqlT und_9 rfl rfl) <| Qa rfl <| JL.nil ?_
 refine zi (fun h6 h6' => ?_) fun h6 h6' => ?_
 · exact absurd h6' (by assumption)
 refine Js.skip <| Js.blockEnd <| zS <| Qa rfl <| JL.nil ?_
 refine zR (Up.refl _ _) ?_
 rfl
theorem c_impl_CaptureNamed (y : List UInt8) {w : World}  : RetV Tryz.prog 188 [.string (sB y)] w (.tuple #[.int .i64 ((M.namedBy M.capNames y).1), .int .i64 ((M.namedBy M.capNames y).2)]) := by
 refine enter @Tryz.func188 @Tryz.ntmps188 rfl rfl ?_
 refine zent ?_
 refine zS <| Qa rfl <| Qa rfl <| zJ <| zS <| Qa rfl <| JL.nil <| Js.block ?_
 refine zl [0] (fun F U l os u m => ∃ (k : Nat), l = F [(4, .int .i64 (k : Int))] ∧ os = U [] ∧ (k ≤ 4) ∧ (M.Nix M.capNames y k) ∧ m = 4 - k) ⟨0, rfl, rfl, zt, by exact M.Nix.zero _ _, rfl⟩ ?_
 rintro _ _ u1 _ ⟨k, rfl, rfl, hk, hN, rfl⟩ x1
 refine zn ?_
 refine Js.seq <| zS <| Qm rfl <| Qk rfl rfl <| JL.nil ?_
 refine zi (fun h2 h2' => ?_) fun h2 h2' => ?_
 ·
  have hY := M.cap_at (k := k) (by have := h2'; omega)
  refine Js.skip <| Js.seq <| Js.block <| zS <| Qm rfl <| zv rfl (fun w hw => c_impl_CaptureName (k : Int)) <| Qm rfl <| Qq (p_eqlT und_9 rfl rfl) <| JL.nil ?_
  refine zi (fun h3 h3' => ?_) fun h3 h3' => ?_
  ·
   have hE := M.named_hit hN hY (by simpa using h3)
   refine zS <| Qm rfl <| Qa rfl <| Qa rfl <| JL.nil ?_
   refine zR x1 ?_
   rw [hE]; rfl
  have hN2 := hN.step hY (by simpa using h3)
  refine Js.skip <| Js.blockEnd <| Js.region <| Qm rfl <| Qp rfl rfl <| Qa rfl <| JL.nil ?_
  exact zag ⟨k + 1, rfl, rfl, zt, by exact hN2, rfl⟩ x1
 have hE := M.named_miss hN (show 4 ≤ k by have := h2'; omega)
 refine zx ?_
 refine zS <| Qa rfl <| Qa rfl <| JL.nil ?_
 refine zR x1 ?_
 rw [hE]; rfl
theorem c_impl_ruleReader_value (x_rules : M.Rul) (x_problems : List M.Prb) (x_given : List (List UInt8 × Int)) {Ax_9 : Option Addr} {cx_9 : Nat} {gx_9 : List Nat} {bx_10 : Nat} (y t : List UInt8) {bx : Nat} {w : World} (hb : Bw w [boxO bx [.int .i64 x_rules.pits, .int .i64 x_rules.seeds, .bool x_rules.stores, .bool x_rules.skip, .bool x_rules.relay, .bool x_rules.feed, .bool x_rules.again, .int .i64 x_rules.capture, .int .i64 x_rules.slam, .slice Ax_9 x_problems.length cx_9, .map (some bx_10)] 195, rowO 190 3 (.slice Ax_9 x_problems.length cx_9) x_problems.length (fltV vcProblem x_problems) gx_9, mapS bx_10 x_given]) (h_tab : tabT.ok (offW w (([boxO bx [.int .i64 x_rules.pits, .int .i64 x_rules.seeds, .bool x_rules.stores, .bool x_rules.skip, .bool x_rules.relay, .bool x_rules.feed, .bool x_rules.again, .int .i64 x_rules.capture, .int .i64 x_rules.slam, .slice Ax_9 x_problems.length cx_9, .map (some bx_10)] 195, rowO 190 3 (.slice Ax_9 x_problems.length cx_9) x_problems.length (fltV vcProblem x_problems) gx_9, mapS bx_10 x_given] : List Own).flatMap (·.fp))) undef) (bd0 : x_problems.length ≤ cx_9 := by exact om_) (bd1 : cx_9 ≤ 9223372036854775807 := by exact om_) (r0 : M.isNum y = true := by exact om_) (r1 : t.length ≤ 4194304 := by exact om_) : RetB Tryz.prog 169 [.pointer (some ⟨bx, 0, none⟩), .string (sB y), .string (sB t)] w [boxO bx [.int .i64 x_rules.pits, .int .i64 x_rules.seeds, .bool x_rules.stores, .bool x_rules.skip, .bool x_rules.relay, .bool x_rules.feed, .bool x_rules.again, .int .i64 x_rules.capture, .int .i64 x_rules.slam, .slice Ax_9 x_problems.length cx_9, .map (some bx_10)] 195, rowO 190 3 (.slice Ax_9 x_problems.length cx_9) x_problems.length (fltV vcProblem x_problems) gx_9, mapS bx_10 x_given] (fun v bs' => ∃ (Axx_9 : Option Addr) (cxx_9 : Nat) (gxx_9 : List Nat), v = .int .i64 ((M.valP y t).2) ∧ bs' = [boxO bx [.int .i64 ((M.valR x_rules y t).pits), .int .i64 ((M.valR x_rules y t).seeds), .bool ((M.valR x_rules y t).stores), .bool ((M.valR x_rules y t).skip), .bool ((M.valR x_rules y t).relay), .bool ((M.valR x_rules y t).feed), .bool ((M.valR x_rules y t).again), .int .i64 ((M.valR x_rules y t).capture), .int .i64 ((M.valR x_rules y t).slam), .slice Axx_9 x_problems.length cxx_9, .map (some bx_10)] 195, rowO 190 3 (.slice Axx_9 x_problems.length cxx_9) x_problems.length (fltV vcProblem x_problems) gxx_9, mapS bx_10 x_given] ∧ x_problems.length ≤ cxx_9 ∧ cxx_9 ≤ 9223372036854775807) := by
 have hnb := M.num_bd t
 refine enterB hb @Tryz.func169 @Tryz.ntmps169 rfl rfl ?_
 refine zent ?_
 refine Js.trashE ?_
 refine zn ?_
 refine zS <| Qa rfl <| zN <| Qa rfl <| Qa rfl <| zJ <| zS <| Qm rfl <| JL.nil <| Js.block <| zS <| Qq (p_eqlT und_9 rfl rfl) <| Qa rfl <| JL.nil ?_
 refine zi (fun h1 h1' => ?_) fun h1 h1' => ?_
 ·
  have hy9 : y = M.captT := by have h9 := h1; simp at h9; exact h9
  refine Js.region <| Qm rfl <| zv rfl (fun w hw => c_impl_CaptureNamed t) <| Qm rfl <| Qx rfl rfl <| Qx rfl rfl <| Qa rfl <| Qa rfl <| JL.nil <| Js.blockEnd <| Js.seq <| zS <| Qm rfl <| Qd rfl rfl ?_
  refine JL.nil ?_
  refine zi (fun h2 h2' => ?_) fun h2 h2' => ?_
  ·
   have hV := M.valP_c3 hy9 (by simpa using h2)
   have hR := M.valR_n (r := x_rules) hV (by decide)
   refine zS <| Qa rfl <| JL.nil ?_
   refine zrb [0, 0, 0] hb (Up.refl _ _) ?_
   have hE : (.int .i64 4 : Value) = .int .i64 ((M.valP y t).2) := by first | rfl | (rw [hV]; done) | (rw [hR]; done) | (rw [hV]; rfl) | (rw [hR]; rfl)
   have hE100 : (M.valR x_rules y t) = x_rules := by first | rfl | (rw [hV]; done) | (rw [hR]; done) | (rw [hV]; rfl) | (rw [hR]; rfl)
   refine ⟨Ax_9, cx_9, gx_9, hE, ?_, ?_, ?_⟩
   · rw [hE100]
   all_goals (first | omega | (simp only [hE100]; omega) | (simp [hE100]; done))
  have hV := M.valP_c0 hy9 (by simpa using h2)
  have hR := M.valR_y (r := x_rules) hV
  refine Js.skip <| zS <| Qm rfl <| Qc rfl <| Qf fh rfl <| Qm rfl <| zv rfl (fun w hw => c_impl_Rules_number x_rules y ⟨_, _, [.int .i64 x_rules.pits, .int .i64 x_rules.seeds, .bool x_rules.stores, .bool x_rules.skip, .bool x_rules.relay, .bool x_rules.feed, .bool x_rules.again, .int .i64 x_rules.capture, .int .i64 x_rules.slam], rfl, ⟨rfl, rfl, rfl, rfl, rfl, rfl, rfl, rfl, rfl, trivial⟩, Mem.boxR (i := 0) rfl 0 9 _ hw⟩) <| Qm rfl <| Qc rfl ?_
  refine JL.s (e_storeB (i := 0) (c' := [.int .i64 ((M.setNum x_rules y ((M.namedBy M.capNames t).1)).pits), .int .i64 ((M.setNum x_rules y ((M.namedBy M.capNames t).1)).seeds), .bool ((M.setNum x_rules y ((M.namedBy M.capNames t).1)).stores), .bool ((M.setNum x_rules y ((M.namedBy M.capNames t).1)).skip), .bool ((M.setNum x_rules y ((M.namedBy M.capNames t).1)).relay), .bool ((M.setNum x_rules y ((M.namedBy M.capNames t).1)).feed), .bool ((M.setNum x_rules y ((M.namedBy M.capNames t).1)).again), .int .i64 ((M.setNum x_rules y ((M.namedBy M.capNames t).1)).capture), .int .i64 ((M.setNum x_rules y ((M.namedBy M.capNames t).1)).slam), .slice Ax_9 x_problems.length cx_9, .map (some bx_10)]) ty_2.h rfl rfl rfl rfl rfl (by have := numIx_le y; simp only [List.length_cons, List.length_nil]; omega) (num_set r0)) ?_
  rintro _ _ _ ⟨rfl, rfl⟩ _
  refine znl ?_
  refine zN <| Qa rfl <| JL.nil ?_
  refine zrb [0, 0, 0] hb (Up.refl _ _) ?_
  have hE : (.int .i64 0 : Value) = .int .i64 ((M.valP y t).2) := by first | rfl | (rw [hV]; done) | (rw [hR]; done) | (rw [hV]; rfl) | (rw [hR]; rfl)
  have hE100 : (M.valR x_rules y t) = (M.setNum x_rules y ((M.namedBy M.capNames t).1)) := by first | rfl | (rw [hV]; done) | (rw [hR]; done) | (rw [hV]; rfl) | (rw [hR]; rfl)
  refine ⟨Ax_9, cx_9, gx_9, hE, ?_, ?_, ?_⟩
  · rw [hE100]
  all_goals (first | omega | (simp only [hE100]; omega) | (simp [hE100]; done))
 have hc9 : ¬ y = M.captT := by have h9 := h1; simp at h9; exact h9
 refine zS <| Qq (p_eqlT und_9 rfl rfl) <| Qa rfl <| JL.nil ?_
 refine zi (fun h3 h3' => ?_) fun h3 h3' => ?_
 ·
  have hy9 : y = M.slamT := by have h9 := h3; simp at h9; exact h9
  refine Js.region <| Qm rfl <| zv rfl (fun w hw => c_impl_SlamNamed t) <| Qm rfl <| Qx rfl rfl <| Qx rfl rfl <| Qa rfl <| Qa rfl <| JL.nil <| Js.blockEnd <| Js.seq <| zS <| Qm rfl <| Qd rfl rfl ?_
  refine JL.nil ?_
  refine zi (fun h4 h4' => ?_) fun h4 h4' => ?_
  ·
   have hV := M.valP_s3 hy9 (by simpa using h4)
   have hR := M.valR_n (r := x_rules) hV (by decide)
   refine zS <| Qa rfl <| JL.nil ?_
   refine zrb [0, 0, 0] hb (Up.refl _ _) ?_
   have hE : (.int .i64 4 : Value) = .int .i64 ((M.valP y t).2) := by first | rfl | (rw [hV]; done) | (rw [hR]; done) | (rw [hV]; rfl) | (rw [hR]; rfl)
   have hE100 : (M.valR x_rules y t) = x_rules := by first | rfl | (rw [hV]; done) | (rw [hR]; done) | (rw [hV]; rfl) | (rw [hR]; rfl)
   refine ⟨Ax_9, cx_9, gx_9, hE, ?_, ?_, ?_⟩
   · rw [hE100]
   all_goals (first | omega | (simp only [hE100]; omega) | (simp [hE100]; done))
  have hV := M.valP_s0 hy9 (by simpa using h4)
  have hR := M.valR_y (r := x_rules) hV
  refine Js.skip <| zS <| Qm rfl <| Qc rfl <| Qf fh rfl <| Qm rfl <| zv rfl (fun w hw => c_impl_Rules_number x_rules y ⟨_, _, [.int .i64 x_rules.pits, .int .i64 x_rules.seeds, .bool x_rules.stores, .bool x_rules.skip, .bool x_rules.relay, .bool x_rules.feed, .bool x_rules.again, .int .i64 x_rules.capture, .int .i64 x_rules.slam], rfl, ⟨rfl, rfl, rfl, rfl, rfl, rfl, rfl, rfl, rfl, trivial⟩, Mem.boxR (i := 0) rfl 0 9 _ hw⟩) <| Qm rfl <| Qc rfl ?_
  refine JL.s (e_storeB (i := 0) (c' := [.int .i64 ((M.setNum x_rules y ((M.namedBy M.slamNames t).1)).pits), .int .i64 ((M.setNum x_rules y ((M.namedBy M.slamNames t).1)).seeds), .bool ((M.setNum x_rules y ((M.namedBy M.slamNames t).1)).stores), .bool ((M.setNum x_rules y ((M.namedBy M.slamNames t).1)).skip), .bool ((M.setNum x_rules y ((M.namedBy M.slamNames t).1)).relay), .bool ((M.setNum x_rules y ((M.namedBy M.slamNames t).1)).feed), .bool ((M.setNum x_rules y ((M.namedBy M.slamNames t).1)).again), .int .i64 ((M.setNum x_rules y ((M.namedBy M.slamNames t).1)).capture), .int .i64 ((M.setNum x_rules y ((M.namedBy M.slamNames t).1)).slam), .slice Ax_9 x_problems.length cx_9, .map (some bx_10)]) ty_2.h rfl rfl rfl rfl rfl (by have := numIx_le y; simp only [List.length_cons, List.length_nil]; omega) (num_set r0)) ?_
  rintro _ _ _ ⟨rfl, rfl⟩ _
  refine znl ?_
  refine zN <| Qa rfl <| JL.nil ?_
  refine zrb [0, 0, 0] hb (Up.refl _ _) ?_
  have hE : (.int .i64 0 : Value) = .int .i64 ((M.valP y t).2) := by first | rfl | (rw [hV]; done) | (rw [hR]; done) | (rw [hV]; rfl) | (rw [hR]; rfl)
  have hE100 : (M.valR x_rules y t) = (M.setNum x_rules y ((M.namedBy M.slamNames t).1)) := by first | rfl | (rw [hV]; done) | (rw [hR]; done) | (rw [hV]; rfl) | (rw [hR]; rfl)
  refine ⟨Ax_9, cx_9, gx_9, hE, ?_, ?_, ?_⟩
  · rw [hE100]
  all_goals (first | omega | (simp only [hE100]; omega) | (simp [hE100]; done))
 have hs9 : ¬ y = M.slamT := by have h9 := h3; simp at h9; exact h9
 refine zS <| Qm rfl <| zv rfl (fun w hw => c_impl_ReadDecimal t (ok_ hw)) <| Qm rfl <| Qx rfl rfl <| Qx rfl rfl <| Qa rfl <| Qa rfl <| zJ <| zS <| Qm rfl <| Qt rfl <| JL.nil ?_
 refine zi (fun h5 h5' => ?_) fun h5 h5' => ?_
 ·
  have hV := M.valP_n3 hc9 hs9 (by simpa using h5)
  have hR := M.valR_n (r := x_rules) hV (by decide)
  refine zS <| Qa rfl <| JL.nil ?_
  refine zrb [0, 0, 0] hb (Up.refl _ _) ?_
  have hE : (.int .i64 3 : Value) = .int .i64 ((M.valP y t).2) := by first | rfl | (rw [hV]; done) | (rw [hR]; done) | (rw [hV]; rfl) | (rw [hR]; rfl)
  have hE100 : (M.valR x_rules y t) = x_rules := by first | rfl | (rw [hV]; done) | (rw [hR]; done) | (rw [hV]; rfl) | (rw [hR]; rfl)
  refine ⟨Ax_9, cx_9, gx_9, hE, ?_, ?_, ?_⟩
  · rw [hE100]
  all_goals (first | omega | (simp only [hE100]; omega) | (simp [hE100]; done))
 have hn9 : (M.num t).2 = true := by simpa using h5
 refine Js.skip <| zS <| Qm rfl <| Qa rfl <| zN <| Qm rfl <| Qq (p_eqlT und_9 rfl rfl) <| Qm rfl <| zg (Gd.t1 rfl rfl rfl) (fun hc => p_move rfl) <| zgv (Gd.t1 rfl rfl rfl) (fun hc => (opds_3 (gh hc rfl) rfl rfl)) (fun hc => (fun w hw => c_impl_between ((M.num t).1) 2 8)) ?_
 refine zg (Gd.t1 rfl rfl rfl) (fun hc => p_not (gh hc rfl)) <| Qq (p_pickAnd rfl rfl rfl) <| Qm rfl <| zg (Gd.f1 rfl rfl rfl) (fun hc => p_move rfl) <| zg (Gd.f1 rfl rfl rfl) (fun hc => p_eqlT und_9 (gh hc rfl) rfl) <| zg (Gd.f1 rfl rfl rfl) (fun hc => p_move (gh hc rfl)) <| zg (Gd.t2 rfl rfl rfl) (fun hc => p_move rfl) <| zgv (Gd.t2 rfl rfl rfl) (fun hc => (opds_3 (gh hc rfl) rfl rfl)) (fun hc => (fun w hw => c_impl_between ((M.num t).1) 1 6)) ?_
 refine zg (Gd.t2 rfl rfl rfl) (fun hc => p_not (gh hc rfl)) <| zg (Gd.f1 rfl rfl rfl) (fun hc => p_pickAnd (gh hc rfl) (gvl rfl hc) rfl) <| Qq (p_pickOr rfl rfl rfl) <| JL.nil ?_
 refine zi (fun h6 h6' => ?_) fun h6 h6' => ?_
 ·
  have hV := M.valP_n4 hc9 hs9 hn9 (by have h9 := h6; simp only [Bool.or_eq_true, Bool.and_eq_true, decide_eq_true_eq, Bool.not_eq_true'] at h9; exact h9)
  have hR := M.valR_n (r := x_rules) hV (by decide)
  refine zS <| Qa rfl <| JL.nil ?_
  refine zrb [0, 0, 0] hb (Up.refl _ _) ?_
  have hE : (.int .i64 4 : Value) = .int .i64 ((M.valP y t).2) := by first | rfl | (rw [hV]; done) | (rw [hR]; done) | (rw [hV]; rfl) | (rw [hR]; rfl)
  have hE100 : (M.valR x_rules y t) = x_rules := by first | rfl | (rw [hV]; done) | (rw [hR]; done) | (rw [hV]; rfl) | (rw [hR]; rfl)
  refine ⟨Ax_9, cx_9, gx_9, hE, ?_, ?_, ?_⟩
  · rw [hE100]
  all_goals (first | omega | (simp only [hE100]; omega) | (simp [hE100]; done))
 have hV := M.valP_n0 hc9 hs9 hn9 (by have h9 := h6; intro h8; have h7 := Bool.eq_false_iff.1 h9; apply h7; simp only [Bool.or_eq_true, Bool.and_eq_true, decide_eq_true_eq, Bool.not_eq_true']; exact h8)
 have hR := M.valR_y (r := x_rules) hV
 refine Js.skip <| Js.blockEnd <| Js.seq <| zS <| Qm rfl <| Qd rfl rfl <| JL.nil ?_
 refine Js.condF rfl (by decide) ?_
 refine Js.skip <| zS <| Qm rfl <| Qc rfl <| Qf fh rfl <| Qm rfl <| zv rfl (fun w hw => c_impl_Rules_number x_rules y ⟨_, _, [.int .i64 x_rules.pits, .int .i64 x_rules.seeds, .bool x_rules.stores, .bool x_rules.skip, .bool x_rules.relay, .bool x_rules.feed, .bool x_rules.again, .int .i64 x_rules.capture, .int .i64 x_rules.slam], rfl, ⟨rfl, rfl, rfl, rfl, rfl, rfl, rfl, rfl, rfl, trivial⟩, Mem.boxR (i := 0) rfl 0 9 _ hw⟩) <| Qm rfl <| Qc rfl ?_
 refine JL.s (e_storeB (i := 0) (c' := [.int .i64 ((M.setNum x_rules y ((M.num t).1)).pits), .int .i64 ((M.setNum x_rules y ((M.num t).1)).seeds), .bool ((M.setNum x_rules y ((M.num t).1)).stores), .bool ((M.setNum x_rules y ((M.num t).1)).skip), .bool ((M.setNum x_rules y ((M.num t).1)).relay), .bool ((M.setNum x_rules y ((M.num t).1)).feed), .bool ((M.setNum x_rules y ((M.num t).1)).again), .int .i64 ((M.setNum x_rules y ((M.num t).1)).capture), .int .i64 ((M.setNum x_rules y ((M.num t).1)).slam), .slice Ax_9 x_problems.length cx_9, .map (some bx_10)]) ty_2.h rfl rfl rfl rfl rfl (by have := numIx_le y; simp only [List.length_cons, List.length_nil]; omega) (num_set r0)) ?_
 rintro _ _ _ ⟨rfl, rfl⟩ _
 refine znl ?_
 refine zN <| Qa rfl <| JL.nil ?_
 refine zrb [0, 0, 0] hb (Up.refl _ _) ?_
 have hE : (.int .i64 0 : Value) = .int .i64 ((M.valP y t).2) := by first | rfl | (rw [hV]; done) | (rw [hR]; done) | (rw [hV]; rfl) | (rw [hR]; rfl)
 have hE100 : (M.valR x_rules y t) = (M.setNum x_rules y ((M.num t).1)) := by first | rfl | (rw [hV]; done) | (rw [hR]; done) | (rw [hV]; rfl) | (rw [hR]; rfl)
 refine ⟨Ax_9, cx_9, gx_9, hE, ?_, ?_, ?_⟩
 · rw [hE100]
 all_goals (first | omega | (simp only [hE100]; omega) | (simp [hE100]; done))
theorem c_impl_ruleReader_word (x_rules : M.Rul) (x_problems : List M.Prb) (x_given : List (List UInt8 × Int)) {Ax_9 : Option Addr} {cx_9 : Nat} {gx_9 : List Nat} {bx_10 : Nat} (at1 : Int) (wd : List UInt8) {bx : Nat} {w : World} (hb : Bw w [boxO bx [.int .i64 x_rules.pits, .int .i64 x_rules.seeds, .bool x_rules.stores, .bool x_rules.skip, .bool x_rules.relay, .bool x_rules.feed, .bool x_rules.again, .int .i64 x_rules.capture, .int .i64 x_rules.slam, .slice Ax_9 x_problems.length cx_9, .map (some bx_10)] 195, rowO 190 3 (.slice Ax_9 x_problems.length cx_9) x_problems.length (fltV vcProblem x_problems) gx_9, mapS bx_10 x_given]) (h_tab : tabT.ok (offW w (([boxO bx [.int .i64 x_rules.pits, .int .i64 x_rules.seeds, .bool x_rules.stores, .bool x_rules.skip, .bool x_rules.relay, .bool x_rules.feed, .bool x_rules.again, .int .i64 x_rules.capture, .int .i64 x_rules.slam, .slice Ax_9 x_problems.length cx_9, .map (some bx_10)] 195, rowO 190 3 (.slice Ax_9 x_problems.length cx_9) x_problems.length (fltV vcProblem x_problems) gx_9, mapS bx_10 x_given] : List Own).flatMap (·.fp))) undef) (bd0 : x_problems.length ≤ cx_9 := by exact om_) (bd1 : cx_9 ≤ 9223372036854775807 := by exact om_) (r0 : wd.length ≤ 4194304 := by exact om_) (r1 : x_problems.length ≤ 1000000 := by exact om_) : RetB Tryz.prog 143 [.pointer (some ⟨bx, 0, none⟩), .int .i64 at1, .string (sB wd)] w [boxO bx [.int .i64 x_rules.pits, .int .i64 x_rules.seeds, .bool x_rules.stores, .bool x_rules.skip, .bool x_rules.relay, .bool x_rules.feed, .bool x_rules.again, .int .i64 x_rules.capture, .int .i64 x_rules.slam, .slice Ax_9 x_problems.length cx_9, .map (some bx_10)] 195, rowO 190 3 (.slice Ax_9 x_problems.length cx_9) x_problems.length (fltV vcProblem x_problems) gx_9, mapS bx_10 x_given] (fun v bs' => ∃ (Axx_9 : Option Addr) (cxx_9 : Nat) (gxx_9 : List Nat), v = .tuple #[] ∧ bs' = [boxO bx [.int .i64 (((M.rdW (M.Rdr.mk x_rules x_problems x_given) at1 wd).rules).pits), .int .i64 (((M.rdW (M.Rdr.mk x_rules x_problems x_given) at1 wd).rules).seeds), .bool (((M.rdW (M.Rdr.mk x_rules x_problems x_given) at1 wd).rules).stores), .bool (((M.rdW (M.Rdr.mk x_rules x_problems x_given) at1 wd).rules).skip), .bool (((M.rdW (M.Rdr.mk x_rules x_problems x_given) at1 wd).rules).relay), .bool (((M.rdW (M.Rdr.mk x_rules x_problems x_given) at1 wd).rules).feed), .bool (((M.rdW (M.Rdr.mk x_rules x_problems x_given) at1 wd).rules).again), .int .i64 (((M.rdW (M.Rdr.mk x_rules x_problems x_given) at1 wd).rules).capture), .int .i64 (((M.rdW (M.Rdr.mk x_rules x_problems x_given) at1 wd).rules).slam), .slice Axx_9 (((M.rdW (M.Rdr.mk x_rules x_problems x_given) at1 wd).problems).length) cxx_9, .map (some bx_10)] 195, rowO 190 3 (.slice Axx_9 (((M.rdW (M.Rdr.mk x_rules x_problems x_given) at1 wd).problems).length) cxx_9) (((M.rdW (M.Rdr.mk x_rules x_problems x_given) at1 wd).problems).length) (fltV vcProblem ((M.rdW (M.Rdr.mk x_rules x_problems x_given) at1 wd).problems)) gxx_9, mapS bx_10 ((M.rdW (M.Rdr.mk x_rules x_problems x_given) at1 wd).given)] ∧ ((M.rdW (M.Rdr.mk x_rules x_problems x_given) at1 wd).problems).length ≤ cxx_9 ∧ cxx_9 ≤ 9223372036854775807) := by
 have hcl := M.cutS_len wd [61]
 refine enterB hb @Tryz.func143 @Tryz.ntmps143 rfl rfl ?_
 refine zent ?_
 refine Js.trashE ?_
 refine zn ?_
 refine zS <| Qm rfl <| zv rfl (fun w hw => c_impl_cut wd ([61] : List UInt8)) <| Qm rfl <| Qx rfl rfl <| Qx rfl rfl <| Qx rfl rfl <| Qa rfl <| Qa rfl <| Qa rfl <| zN <| Qa rfl <| zJ <| zS ?_
 refine Qm rfl <| Qc rfl <| Qf fh rfl <| Q0 0 rfl rfl rfl <| Qm rfl <| Qw (q_lookS (i := 2) (g := x_given) (k := ((M.cutS wd ([61] : List UInt8)).1)) map_193 rfl rfl rfl) <| Qm rfl <| Qx rfl rfl <| Qx rfl rfl <| Qa rfl <| Qa rfl <| JL.nil <| Js.block <| Js.seq ?_
 refine Js.seq ?_
 rcases Bool.eq_false_or_eq_true (M.isNum (M.cutS wd [61]).1) with h1 | h1
 ·
  refine Js.region <| Qm rfl <| Qm rfl <| zg (Gd.t1 rfl rfl rfl) (fun hc => p_move rfl) <| zg (Gd.t1 rfl rfl rfl) (fun hc => p_nilCheck (gh hc rfl)) <| zg (Gd.t1 rfl rfl rfl) (fun hc => p_fieldAddr fld_195_0.h (gh hc rfl)) <| zg (Gd.t1 rfl rfl rfl) (fun hc => p_move rfl) <| zgv (Gd.t1 rfl rfl rfl) (fun hc => (opds_2 (gh hc rfl) (gh hc rfl))) (fun hc => (fun w hw => c_impl_Rules_number x_rules ((M.cutS wd ([61] : List UInt8)).1) ⟨_, _, [.int .i64 x_rules.pits, .int .i64 x_rules.seeds, .bool x_rules.stores, .bool x_rules.skip, .bool x_rules.relay, .bool x_rules.feed, .bool x_rules.again, .int .i64 x_rules.capture, .int .i64 x_rules.slam], rfl, ⟨rfl, rfl, rfl, rfl, rfl, rfl, rfl, rfl, rfl, trivial⟩, Mem.boxR (i := 0) rfl 0 9 _ hw⟩ (r0 := h1))) ?_
  refine zg (Gd.t1 rfl rfl rfl) (fun hc => p_eqlP1 @Tryz.underlying228 (gh hc rfl) rfl) <| Qq (p_pickAnd rfl rfl rfl) <| Qa rfl <| JL.nil ?_
  refine zi (fun h2 h2' => ?_) fun h2 h2' => ?_
  · exact absurd h2 (by simp)
  have q1 : ¬ ((M.cutS wd [61]).2.2 = true ∧ M.isNum (M.cutS wd [61]).1 = false) := by have h9 := h2; rintro ⟨a, b⟩; first | (rw [h1] at b; exact absurd b (by decide)) | (rw [a] at h9; exact absurd h9 (by decide))
  rcases Bool.eq_false_or_eq_true (M.isFlg (M.cutS wd [61]).1) with h3 | h3
  ·
   refine Js.region <| Qm rfl <| Qt rfl <| Qm rfl <| zg (Gd.t1 rfl rfl rfl) (fun hc => p_move rfl) <| zg (Gd.t1 rfl rfl rfl) (fun hc => p_nilCheck (gh hc rfl)) <| zg (Gd.t1 rfl rfl rfl) (fun hc => p_fieldAddr fld_195_0.h (gh hc rfl)) <| zg (Gd.t1 rfl rfl rfl) (fun hc => p_move rfl) <| zgv (Gd.t1 rfl rfl rfl) (fun hc => (opds_2 (gh hc rfl) (gh hc rfl))) (fun hc => (fun w hw => c_impl_Rules_flag x_rules ((M.cutS wd ([61] : List UInt8)).1) ⟨_, _, [.int .i64 x_rules.pits, .int .i64 x_rules.seeds, .bool x_rules.stores, .bool x_rules.skip, .bool x_rules.relay, .bool x_rules.feed, .bool x_rules.again, .int .i64 x_rules.capture, .int .i64 x_rules.slam], rfl, ⟨rfl, rfl, rfl, rfl, rfl, rfl, rfl, rfl, rfl, trivial⟩, Mem.boxR (i := 0) rfl 0 9 _ hw⟩ (r0 := (M.isFlg_iff h3)))) ?_
   refine zg (Gd.t1 rfl rfl rfl) (fun hc => p_eqlP1 @Tryz.underlying127 (gh hc rfl) rfl) <| Qq (p_pickAnd rfl rfl rfl) <| Qa rfl <| JL.nil ?_
   refine zi (fun h4 h4' => ?_) fun h4 h4' => ?_
   · exact absurd h4 (by simp)
   have q2 : ¬ ((M.cutS wd [61]).2.2 = false ∧ M.isFlg (M.cutS wd [61]).1 = false) := by have h9 := h4; rintro ⟨a, b⟩; first | (rw [h3] at b; exact absurd b (by decide)) | (rw [a] at h9; exact absurd h9 (by decide))
   refine zS <| Qm rfl <| Qa rfl <| JL.nil ?_
   refine zi (fun h5 h5' => ?_) fun h5 h5' => ?_
   ·
    have hE := M.rdW_2 (x := (M.Rdr.mk x_rules x_problems x_given)) (a := at1) q1 q2 (by simpa using h5)
    refine Js.region <| Qa rfl <| JL.nil <| Js.blockEnd <| zS <| Qm rfl <| Qd rfl rfl <| JL.nil ?_
    refine Js.condT rfl (by decide) ?_
    refine Js.region <| Qm rfl <| Qm rfl <| Qc rfl <| Qf fh rfl <| Q0 0 rfl rfl rfl <| Qm rfl <| Qm rfl <| Qm rfl <| Qb ?_
    refine zbs fun b6 => ?_
    refine JL.e (e_append (i := 2) (n' := (x_problems ++ [(M.Prb.mk 2 at1 wd)]).length) (vs' := fltV vcProblem (x_problems ++ [(M.Prb.mk 2 at1 wd)])) el_131 rfl rfl rfl rfl (src_row (i := 0) und_131 rfl rfl) (by omega) (by omega) ln2_ (by first | rfl | exact fltV_app _ _ _ | exact fltV_snoc _ _ _ | (simp [fltV]; done))) ?_
    rintro v8 _ _ ⟨⟨g9, rfl⟩, rfl⟩ _
    refine JL.fact (row_form' (i := 2) rfl) (fun hf10 => ?_)
    obtain ⟨A10, c10, rfl, bl10, bh10⟩ := hf10
    refine znl ?_
    refine Qc rfl <| Qf fh rfl <| zw 1 rfl rfl rfl ?_
    refine JL.nil ?_
    refine zrbE [1, 1, 1] hb (Up.refl _ _) ?_
    have hE100 : (M.rdW (M.Rdr.mk x_rules x_problems x_given) at1 wd).rules = x_rules := by first | rfl | (rw [hE]; done) | (rw [hE]; rfl)
    have hN1 : ((M.rdW (M.Rdr.mk x_rules x_problems x_given) at1 wd).problems).length = (x_problems ++ [(M.Prb.mk 2 at1 wd)]).length := by first | rfl | (rw [hE]; done) | (rw [hE]; rfl)
    have hE1 : (M.rdW (M.Rdr.mk x_rules x_problems x_given) at1 wd).problems = (x_problems ++ [(M.Prb.mk 2 at1 wd)]) := by first | rfl | (rw [hE]; done) | (rw [hE]; rfl)
    have hE2 : (M.rdW (M.Rdr.mk x_rules x_problems x_given) at1 wd).given = x_given := by first | rfl | (rw [hE]; done) | (rw [hE]; rfl)
    refine ⟨A10, c10, g9, rfl, ?_, ?_, ?_⟩
    · first | rfl | (dsimp only; rw [hE100, hN1, hE1, hE2]; done) | (dsimp only; rw [hE100, hN1, hE1, hE2]; rfl) | (dsimp only; simp only [hE100, hN1, hE1, hE2]) | (rw [hE100, hN1, hE1, hE2]; done) | (rw [hE100, hN1, hE1, hE2]; rfl)
    all_goals (try dsimp only)
    all_goals (first | omega | (simp only [hE100, hN1, hE1, hE2]; omega) | (simp [hE100, hN1, hE1, hE2]; done))
   have hm : M.mhas x_given (M.cutS wd [61]).1 = false := by simpa using h5
   refine zS <| Qm rfl <| Qa rfl <| JL.nil ?_
   refine zi (fun h11 h11' => ?_) fun h11 h11' => ?_
   ·
    have he : (M.cutS wd [61]).2.2 = true := by simpa using h11
    have hn : M.isNum (M.cutS wd [61]).1 = true := by cases h9 : M.isNum (M.cutS wd [61]).1; exact absurd ⟨he, h9⟩ q1; rfl
    refine zS <| Qm rfl <| Qc rfl <| Qf fh rfl <| Q0 0 rfl rfl rfl <| Qm rfl <| Qm rfl ?_
    refine JL.s (e_mapUpdS (i := 2) (g := x_given) (k := ((M.cutS wd ([61] : List UInt8)).1)) (v := at1) map_193 rfl rfl rfl rfl (hm)) ?_
    rintro _ _ _ ⟨rfl, rfl⟩ _
    refine znl ?_
    refine zG <| Qm rfl <| Qm rfl <| Qm rfl <| zBB 3 sp_ rfl (fun w hb _ hw => c_impl_ruleReader_value x_rules x_problems (M.mput x_given ((M.cutS wd ([61] : List UInt8)).1) at1) ((M.cutS wd ([61] : List UInt8)).1) ((M.cutS wd ([61] : List UInt8)).2.1) hb (ok_ hw) (r0 := hn)) ?_
    rintro _ _ G12 ⟨A12x_9, c12x_9, g12x_9, rfl, rfl, bl12_0, bl12_1⟩
    refine znl ?_
    refine Qa rfl <| JL.nil <| Js.blockEnd <| zS <| Qm rfl <| Qd rfl rfl <| JL.nil ?_
    refine zi (fun h13 h13' => ?_) fun h13 h13' => ?_
    ·
     have hE := M.rdW_n (x := (M.Rdr.mk x_rules x_problems x_given)) (a := at1) he hn hm rfl (by simpa using h13)
     refine Js.region <| Qm rfl <| Qm rfl <| Qc rfl <| Qf fh rfl <| Q0 0 rfl rfl rfl <| Qm rfl <| Qm rfl <| Qm rfl <| Qb ?_
     refine zbs fun b14 => ?_
     refine JL.e (e_append (i := 2) (n' := (x_problems ++ ([(M.Prb.mk ((M.valP ((M.cutS wd ([61] : List UInt8)).1) ((M.cutS wd ([61] : List UInt8)).2.1)).2) at1 wd)])).length) (vs' := fltV vcProblem (x_problems ++ ([(M.Prb.mk ((M.valP ((M.cutS wd ([61] : List UInt8)).1) ((M.cutS wd ([61] : List UInt8)).2.1)).2) at1 wd)]))) el_131 rfl rfl rfl rfl (src_row (i := 0) und_131 rfl rfl) (by omega) (by omega) ln2_ (by first | rfl | exact fltV_app _ _ _ | exact fltV_snoc _ _ _ | (simp [fltV]; done))) ?_
     rintro v16 _ _ ⟨⟨g17, rfl⟩, rfl⟩ _
     refine JL.fact (row_form' (i := 2) rfl) (fun hf18 => ?_)
     obtain ⟨A18, c18, rfl, bl18, bh18⟩ := hf18
     refine znl ?_
     refine Qc rfl <| Qf fh rfl <| zw 1 rfl rfl rfl ?_
     refine JL.nil ?_
     refine zrbE [1, 1, 1] hb (Up.refl _ _) ?_
     have hE100 : (M.rdW (M.Rdr.mk x_rules x_problems x_given) at1 wd).rules = (M.valR x_rules ((M.cutS wd ([61] : List UInt8)).1) ((M.cutS wd ([61] : List UInt8)).2.1)) := by first | rfl | (rw [hE]; done) | (rw [hE]; rfl)
     have hN1 : ((M.rdW (M.Rdr.mk x_rules x_problems x_given) at1 wd).problems).length = (x_problems ++ ([(M.Prb.mk ((M.valP ((M.cutS wd ([61] : List UInt8)).1) ((M.cutS wd ([61] : List UInt8)).2.1)).2) at1 wd)])).length := by first | rfl | (rw [hE]; done) | (rw [hE]; rfl)
     have hE1 : (M.rdW (M.Rdr.mk x_rules x_problems x_given) at1 wd).problems = (x_problems ++ ([(M.Prb.mk ((M.valP ((M.cutS wd ([61] : List UInt8)).1) ((M.cutS wd ([61] : List UInt8)).2.1)).2) at1 wd)])) := by first | rfl | (rw [hE]; done) | (rw [hE]; rfl)
     have hE2 : (M.rdW (M.Rdr.mk x_rules x_problems x_given) at1 wd).given = (M.mput x_given ((M.cutS wd ([61] : List UInt8)).1) at1) := by first | rfl | (rw [hE]; done) | (rw [hE]; rfl)
     refine ⟨A18, c18, g17, rfl, ?_, ?_, ?_⟩
     · first | rfl | (dsimp only; rw [hE100, hN1, hE1, hE2]; done) | (dsimp only; rw [hE100, hN1, hE1, hE2]; rfl) | (dsimp only; simp only [hE100, hN1, hE1, hE2]) | (rw [hE100, hN1, hE1, hE2]; done) | (rw [hE100, hN1, hE1, hE2]; rfl)
     all_goals (try dsimp only)
     all_goals (first | omega | (simp only [hE100, hN1, hE1, hE2]; omega) | (simp [hE100, hN1, hE1, hE2]; done))
    have hE := M.rdW_z (x := (M.Rdr.mk x_rules x_problems x_given)) (a := at1) he hn hm (by simpa using h13)
    refine Js.skip ?_
    refine zrbE [0, 0, 0] hb (Up.refl _ _) ?_
    have hE100 : (M.rdW (M.Rdr.mk x_rules x_problems x_given) at1 wd).rules = (M.valR x_rules ((M.cutS wd ([61] : List UInt8)).1) ((M.cutS wd ([61] : List UInt8)).2.1)) := by first | rfl | (rw [hE]; done) | (rw [hE]; rfl)
    have hN1 : ((M.rdW (M.Rdr.mk x_rules x_problems x_given) at1 wd).problems).length = x_problems.length := by first | rfl | (rw [hE]; done) | (rw [hE]; rfl)
    have hE1 : (M.rdW (M.Rdr.mk x_rules x_problems x_given) at1 wd).problems = x_problems := by first | rfl | (rw [hE]; done) | (rw [hE]; rfl)
    have hE2 : (M.rdW (M.Rdr.mk x_rules x_problems x_given) at1 wd).given = (M.mput x_given ((M.cutS wd ([61] : List UInt8)).1) at1) := by first | rfl | (rw [hE]; done) | (rw [hE]; rfl)
    refine ⟨A12x_9, c12x_9, g12x_9, rfl, ?_, ?_, ?_⟩
    · first | rfl | (dsimp only; rw [hE100, hN1, hE1, hE2]; done) | (dsimp only; rw [hE100, hN1, hE1, hE2]; rfl) | (dsimp only; simp only [hE100, hN1, hE1, hE2]) | (rw [hE100, hN1, hE1, hE2]; done) | (rw [hE100, hN1, hE1, hE2]; rfl)
    all_goals (try dsimp only)
    all_goals (first | omega | (simp only [hE100, hN1, hE1, hE2]; omega) | (simp [hE100, hN1, hE1, hE2]; done))
   have he : (M.cutS wd [61]).2.2 = false := by simpa using h11
   have hf : M.isFlg (M.cutS wd [61]).1 = true := by cases h9 : M.isFlg (M.cutS wd [61]).1; exact absurd ⟨he, h9⟩ q2; rfl
   have hE := M.rdW_f (x := (M.Rdr.mk x_rules x_problems x_given)) (a := at1) he hf hm
   refine zS <| Qm rfl <| Qc rfl <| Qf fh rfl <| Q0 0 rfl rfl rfl <| Qm rfl <| Qm rfl ?_
   refine JL.s (e_mapUpdS (i := 2) (g := x_given) (k := ((M.cutS wd ([61] : List UInt8)).1)) (v := at1) map_193 rfl rfl rfl rfl (hm)) ?_
   rintro _ _ _ ⟨rfl, rfl⟩ _
   refine znl ?_
   refine zG <| Qm rfl <| Qc rfl <| Qf fh rfl <| Qm rfl <| zv rfl (fun w hw => c_impl_Rules_flag x_rules ((M.cutS wd ([61] : List UInt8)).1) ⟨_, _, [.int .i64 x_rules.pits, .int .i64 x_rules.seeds, .bool x_rules.stores, .bool x_rules.skip, .bool x_rules.relay, .bool x_rules.feed, .bool x_rules.again, .int .i64 x_rules.capture, .int .i64 x_rules.slam], rfl, ⟨rfl, rfl, rfl, rfl, rfl, rfl, rfl, rfl, rfl, trivial⟩, Mem.boxR (i := 0) rfl 0 9 _ hw⟩ (r0 := (M.isFlg_iff hf))) <| Qc rfl ?_
   refine JL.s (e_storeB (i := 0) (c' := [.int .i64 ((M.setFlg x_rules (M.cutS wd [61]).1).pits), .int .i64 ((M.setFlg x_rules (M.cutS wd [61]).1).seeds), .bool ((M.setFlg x_rules (M.cutS wd [61]).1).stores), .bool ((M.setFlg x_rules (M.cutS wd [61]).1).skip), .bool ((M.setFlg x_rules (M.cutS wd [61]).1).relay), .bool ((M.setFlg x_rules (M.cutS wd [61]).1).feed), .bool ((M.setFlg x_rules (M.cutS wd [61]).1).again), .int .i64 ((M.setFlg x_rules (M.cutS wd [61]).1).capture), .int .i64 ((M.setFlg x_rules (M.cutS wd [61]).1).slam), .slice Ax_9 x_problems.length cx_9, .map (some bx_10)]) ty_4.h rfl rfl rfl rfl rfl (by have := flagIx_le hf; simp only [List.length_cons, List.length_nil]; omega) (flg_set hf)) ?_
   rintro _ _ _ ⟨rfl, rfl⟩ _
   refine znl ?_
   refine JL.nil <| Js.blockEnd <| zS <| Qm rfl <| Qd rfl rfl <| JL.nil ?_
   refine Js.condF rfl (by decide) ?_
   refine Js.skip ?_
   refine zrbE [0, 0, 0] hb (Up.refl _ _) ?_
   have hE100 : (M.rdW (M.Rdr.mk x_rules x_problems x_given) at1 wd).rules = (M.setFlg x_rules (M.cutS wd [61]).1) := by first | rfl | (rw [hE]; done) | (rw [hE]; rfl)
   have hN1 : ((M.rdW (M.Rdr.mk x_rules x_problems x_given) at1 wd).problems).length = x_problems.length := by first | rfl | (rw [hE]; done) | (rw [hE]; rfl)
   have hE1 : (M.rdW (M.Rdr.mk x_rules x_problems x_given) at1 wd).problems = x_problems := by first | rfl | (rw [hE]; done) | (rw [hE]; rfl)
   have hE2 : (M.rdW (M.Rdr.mk x_rules x_problems x_given) at1 wd).given = (M.mput x_given ((M.cutS wd ([61] : List UInt8)).1) at1) := by first | rfl | (rw [hE]; done) | (rw [hE]; rfl)
   refine ⟨Ax_9, cx_9, gx_9, rfl, ?_, ?_, ?_⟩
   · first | rfl | (dsimp only; rw [hE100, hN1, hE1, hE2]; done) | (dsimp only; rw [hE100, hN1, hE1, hE2]; rfl) | (dsimp only; simp only [hE100, hN1, hE1, hE2]) | (rw [hE100, hN1, hE1, hE2]; done) | (rw [hE100, hN1, hE1, hE2]; rfl)
   all_goals (try dsimp only)
   all_goals (first | omega | (simp only [hE100, hN1, hE1, hE2]; omega) | (simp [hE100, hN1, hE1, hE2]; done))
  refine Js.region <| Qm rfl <| Qt rfl <| Qm rfl <| zg (Gd.t1 rfl rfl rfl) (fun hc => p_move rfl) <| zg (Gd.t1 rfl rfl rfl) (fun hc => p_nilCheck (gh hc rfl)) <| zg (Gd.t1 rfl rfl rfl) (fun hc => p_fieldAddr fld_195_0.h (gh hc rfl)) <| zg (Gd.t1 rfl rfl rfl) (fun hc => p_move rfl) <| zgv (Gd.t1 rfl rfl rfl) (fun hc => (opds_2 (gh hc rfl) (gh hc rfl))) (fun hc => (fun w hw => c_impl_Rules_flagL x_rules ((M.cutS wd ([61] : List UInt8)).1) ⟨_, _, [.int .i64 x_rules.pits, .int .i64 x_rules.seeds, .bool x_rules.stores, .bool x_rules.skip, .bool x_rules.relay, .bool x_rules.feed, .bool x_rules.again, .int .i64 x_rules.capture, .int .i64 x_rules.slam], rfl, ⟨rfl, rfl, rfl, rfl, rfl, rfl, rfl, rfl, rfl, trivial⟩, Mem.boxR (i := 0) rfl 0 9 _ hw⟩ (r0 := h3))) ?_
  refine zg (Gd.t1 rfl rfl rfl) (fun hc => p_eqlP0 @Tryz.underlying127 (gh hc rfl) rfl) <| Qq (p_pickAnd rfl rfl rfl) <| Qa rfl <| JL.nil ?_
  refine zi (fun h19 h19' => ?_) fun h19 h19' => ?_
  ·
   have hE := M.rdW_1 (x := (M.Rdr.mk x_rules x_problems x_given)) (a := at1) (w := wd) (.inr ⟨by simpa using h19, h3⟩)
   refine Js.region <| Qa rfl <| JL.nil <| Js.blockEnd <| zS <| Qm rfl <| Qd rfl rfl <| JL.nil ?_
   refine Js.condT rfl (by decide) ?_
   refine Js.region <| Qm rfl <| Qm rfl <| Qc rfl <| Qf fh rfl <| Q0 0 rfl rfl rfl <| Qm rfl <| Qm rfl <| Qm rfl <| Qb ?_
   refine zbs fun b20 => ?_
   refine JL.e (e_append (i := 2) (n' := (x_problems ++ [(M.Prb.mk 1 at1 wd)]).length) (vs' := fltV vcProblem (x_problems ++ [(M.Prb.mk 1 at1 wd)])) el_131 rfl rfl rfl rfl (src_row (i := 0) und_131 rfl rfl) (by omega) (by omega) ln2_ (by first | rfl | exact fltV_app _ _ _ | exact fltV_snoc _ _ _ | (simp [fltV]; done))) ?_
   rintro v22 _ _ ⟨⟨g23, rfl⟩, rfl⟩ _
   refine JL.fact (row_form' (i := 2) rfl) (fun hf24 => ?_)
   obtain ⟨A24, c24, rfl, bl24, bh24⟩ := hf24
   refine znl ?_
   refine Qc rfl <| Qf fh rfl <| zw 1 rfl rfl rfl ?_
   refine JL.nil ?_
   refine zrbE [1, 1, 1] hb (Up.refl _ _) ?_
   have hE100 : (M.rdW (M.Rdr.mk x_rules x_problems x_given) at1 wd).rules = x_rules := by first | rfl | (rw [hE]; done) | (rw [hE]; rfl)
   have hN1 : ((M.rdW (M.Rdr.mk x_rules x_problems x_given) at1 wd).problems).length = (x_problems ++ [(M.Prb.mk 1 at1 wd)]).length := by first | rfl | (rw [hE]; done) | (rw [hE]; rfl)
   have hE1 : (M.rdW (M.Rdr.mk x_rules x_problems x_given) at1 wd).problems = (x_problems ++ [(M.Prb.mk 1 at1 wd)]) := by first | rfl | (rw [hE]; done) | (rw [hE]; rfl)
   have hE2 : (M.rdW (M.Rdr.mk x_rules x_problems x_given) at1 wd).given = x_given := by first | rfl | (rw [hE]; done) | (rw [hE]; rfl)
   refine ⟨A24, c24, g23, rfl, ?_, ?_, ?_⟩
   · first | rfl | (dsimp only; rw [hE100, hN1, hE1, hE2]; done) | (dsimp only; rw [hE100, hN1, hE1, hE2]; rfl) | (dsimp only; simp only [hE100, hN1, hE1, hE2]) | (rw [hE100, hN1, hE1, hE2]; done) | (rw [hE100, hN1, hE1, hE2]; rfl)
   all_goals (try dsimp only)
   all_goals (first | omega | (simp only [hE100, hN1, hE1, hE2]; omega) | (simp [hE100, hN1, hE1, hE2]; done))
  have q2 : ¬ ((M.cutS wd [61]).2.2 = false ∧ M.isFlg (M.cutS wd [61]).1 = false) := by have h9 := h19; rintro ⟨a, b⟩; first | (rw [h3] at b; exact absurd b (by decide)) | (rw [a] at h9; exact absurd h9 (by decide))
  refine zS <| Qm rfl <| Qa rfl <| JL.nil ?_
  refine zi (fun h25 h25' => ?_) fun h25 h25' => ?_
  ·
   have hE := M.rdW_2 (x := (M.Rdr.mk x_rules x_problems x_given)) (a := at1) q1 q2 (by simpa using h25)
   refine Js.region <| Qa rfl <| JL.nil <| Js.blockEnd <| zS <| Qm rfl <| Qd rfl rfl <| JL.nil ?_
   refine Js.condT rfl (by decide) ?_
   refine Js.region <| Qm rfl <| Qm rfl <| Qc rfl <| Qf fh rfl <| Q0 0 rfl rfl rfl <| Qm rfl <| Qm rfl <| Qm rfl <| Qb ?_
   refine zbs fun b26 => ?_
   refine JL.e (e_append (i := 2) (n' := (x_problems ++ [(M.Prb.mk 2 at1 wd)]).length) (vs' := fltV vcProblem (x_problems ++ [(M.Prb.mk 2 at1 wd)])) el_131 rfl rfl rfl rfl (src_row (i := 0) und_131 rfl rfl) (by omega) (by omega) ln2_ (by first | rfl | exact fltV_app _ _ _ | exact fltV_snoc _ _ _ | (simp [fltV]; done))) ?_
   rintro v28 _ _ ⟨⟨g29, rfl⟩, rfl⟩ _
   refine JL.fact (row_form' (i := 2) rfl) (fun hf30 => ?_)
   obtain ⟨A30, c30, rfl, bl30, bh30⟩ := hf30
   refine znl ?_
   refine Qc rfl <| Qf fh rfl <| zw 1 rfl rfl rfl ?_
   refine JL.nil ?_
   refine zrbE [1, 1, 1] hb (Up.refl _ _) ?_
   have hE100 : (M.rdW (M.Rdr.mk x_rules x_problems x_given) at1 wd).rules = x_rules := by first | rfl | (rw [hE]; done) | (rw [hE]; rfl)
   have hN1 : ((M.rdW (M.Rdr.mk x_rules x_problems x_given) at1 wd).problems).length = (x_problems ++ [(M.Prb.mk 2 at1 wd)]).length := by first | rfl | (rw [hE]; done) | (rw [hE]; rfl)
   have hE1 : (M.rdW (M.Rdr.mk x_rules x_problems x_given) at1 wd).problems = (x_problems ++ [(M.Prb.mk 2 at1 wd)]) := by first | rfl | (rw [hE]; done) | (rw [hE]; rfl)
   have hE2 : (M.rdW (M.Rdr.mk x_rules x_problems x_given) at1 wd).given = x_given := by first | rfl | (rw [hE]; done) | (rw [hE]; rfl)
   refine ⟨A30, c30, g29, rfl, ?_, ?_, ?_⟩
   · first | rfl | (dsimp only; rw [hE100, hN1, hE1, hE2]; done) | (dsimp only; rw [hE100, hN1, hE1, hE2]; rfl) | (dsimp only; simp only [hE100, hN1, hE1, hE2]) | (rw [hE100, hN1, hE1, hE2]; done) | (rw [hE100, hN1, hE1, hE2]; rfl)
   all_goals (try dsimp only)
   all_goals (first | omega | (simp only [hE100, hN1, hE1, hE2]; omega) | (simp [hE100, hN1, hE1, hE2]; done))
  have hm : M.mhas x_given (M.cutS wd [61]).1 = false := by simpa using h25
  refine zS <| Qm rfl <| Qa rfl <| JL.nil ?_
  refine zi (fun h31 h31' => ?_) fun h31 h31' => ?_
  ·
   have he : (M.cutS wd [61]).2.2 = true := by simpa using h31
   have hn : M.isNum (M.cutS wd [61]).1 = true := by cases h9 : M.isNum (M.cutS wd [61]).1; exact absurd ⟨he, h9⟩ q1; rfl
   refine zS <| Qm rfl <| Qc rfl <| Qf fh rfl <| Q0 0 rfl rfl rfl <| Qm rfl <| Qm rfl ?_
   refine JL.s (e_mapUpdS (i := 2) (g := x_given) (k := ((M.cutS wd ([61] : List UInt8)).1)) (v := at1) map_193 rfl rfl rfl rfl (hm)) ?_
   rintro _ _ _ ⟨rfl, rfl⟩ _
   refine znl ?_
   refine zG <| Qm rfl <| Qm rfl <| Qm rfl <| zBB 3 sp_ rfl (fun w hb _ hw => c_impl_ruleReader_value x_rules x_problems (M.mput x_given ((M.cutS wd ([61] : List UInt8)).1) at1) ((M.cutS wd ([61] : List UInt8)).1) ((M.cutS wd ([61] : List UInt8)).2.1) hb (ok_ hw) (r0 := hn)) ?_
   rintro _ _ G32 ⟨A32x_9, c32x_9, g32x_9, rfl, rfl, bl32_0, bl32_1⟩
   refine znl ?_
   refine Qa rfl <| JL.nil <| Js.blockEnd <| zS <| Qm rfl <| Qd rfl rfl <| JL.nil ?_
   refine zi (fun h33 h33' => ?_) fun h33 h33' => ?_
   ·
    have hE := M.rdW_n (x := (M.Rdr.mk x_rules x_problems x_given)) (a := at1) he hn hm rfl (by simpa using h33)
    refine Js.region <| Qm rfl <| Qm rfl <| Qc rfl <| Qf fh rfl <| Q0 0 rfl rfl rfl <| Qm rfl <| Qm rfl <| Qm rfl <| Qb ?_
    refine zbs fun b34 => ?_
    refine JL.e (e_append (i := 2) (n' := (x_problems ++ ([(M.Prb.mk ((M.valP ((M.cutS wd ([61] : List UInt8)).1) ((M.cutS wd ([61] : List UInt8)).2.1)).2) at1 wd)])).length) (vs' := fltV vcProblem (x_problems ++ ([(M.Prb.mk ((M.valP ((M.cutS wd ([61] : List UInt8)).1) ((M.cutS wd ([61] : List UInt8)).2.1)).2) at1 wd)]))) el_131 rfl rfl rfl rfl (src_row (i := 0) und_131 rfl rfl) (by omega) (by omega) ln2_ (by first | rfl | exact fltV_app _ _ _ | exact fltV_snoc _ _ _ | (simp [fltV]; done))) ?_
    rintro v36 _ _ ⟨⟨g37, rfl⟩, rfl⟩ _
    refine JL.fact (row_form' (i := 2) rfl) (fun hf38 => ?_)
    obtain ⟨A38, c38, rfl, bl38, bh38⟩ := hf38
    refine znl ?_
    refine Qc rfl <| Qf fh rfl <| zw 1 rfl rfl rfl ?_
    refine JL.nil ?_
    refine zrbE [1, 1, 1] hb (Up.refl _ _) ?_
    have hE100 : (M.rdW (M.Rdr.mk x_rules x_problems x_given) at1 wd).rules = (M.valR x_rules ((M.cutS wd ([61] : List UInt8)).1) ((M.cutS wd ([61] : List UInt8)).2.1)) := by first | rfl | (rw [hE]; done) | (rw [hE]; rfl)
    have hN1 : ((M.rdW (M.Rdr.mk x_rules x_problems x_given) at1 wd).problems).length = (x_problems ++ ([(M.Prb.mk ((M.valP ((M.cutS wd ([61] : List UInt8)).1) ((M.cutS wd ([61] : List UInt8)).2.1)).2) at1 wd)])).length := by first | rfl | (rw [hE]; done) | (rw [hE]; rfl)
    have hE1 : (M.rdW (M.Rdr.mk x_rules x_problems x_given) at1 wd).problems = (x_problems ++ ([(M.Prb.mk ((M.valP ((M.cutS wd ([61] : List UInt8)).1) ((M.cutS wd ([61] : List UInt8)).2.1)).2) at1 wd)])) := by first | rfl | (rw [hE]; done) | (rw [hE]; rfl)
    have hE2 : (M.rdW (M.Rdr.mk x_rules x_problems x_given) at1 wd).given = (M.mput x_given ((M.cutS wd ([61] : List UInt8)).1) at1) := by first | rfl | (rw [hE]; done) | (rw [hE]; rfl)
    refine ⟨A38, c38, g37, rfl, ?_, ?_, ?_⟩
    · first | rfl | (dsimp only; rw [hE100, hN1, hE1, hE2]; done) | (dsimp only; rw [hE100, hN1, hE1, hE2]; rfl) | (dsimp only; simp only [hE100, hN1, hE1, hE2]) | (rw [hE100, hN1, hE1, hE2]; done) | (rw [hE100, hN1, hE1, hE2]; rfl)
    all_goals (try dsimp only)
    all_goals (first | omega | (simp only [hE100, hN1, hE1, hE2]; omega) | (simp [hE100, hN1, hE1, hE2]; done))
   have hE := M.rdW_z (x := (M.Rdr.mk x_rules x_problems x_given)) (a := at1) he hn hm (by simpa using h33)
   refine Js.skip ?_
   refine zrbE [0, 0, 0] hb (Up.refl _ _) ?_
   have hE100 : (M.rdW (M.Rdr.mk x_rules x_problems x_given) at1 wd).rules = (M.valR x_rules ((M.cutS wd ([61] : List UInt8)).1) ((M.cutS wd ([61] : List UInt8)).2.1)) := by first | rfl | (rw [hE]; done) | (rw [hE]; rfl)
   have hN1 : ((M.rdW (M.Rdr.mk x_rules x_problems x_given) at1 wd).problems).length = x_problems.length := by first | rfl | (rw [hE]; done) | (rw [hE]; rfl)
   have hE1 : (M.rdW (M.Rdr.mk x_rules x_problems x_given) at1 wd).problems = x_problems := by first | rfl | (rw [hE]; done) | (rw [hE]; rfl)
   have hE2 : (M.rdW (M.Rdr.mk x_rules x_problems x_given) at1 wd).given = (M.mput x_given ((M.cutS wd ([61] : List UInt8)).1) at1) := by first | rfl | (rw [hE]; done) | (rw [hE]; rfl)
   refine ⟨A32x_9, c32x_9, g32x_9, rfl, ?_, ?_, ?_⟩
   · first | rfl | (dsimp only; rw [hE100, hN1, hE1, hE2]; done) | (dsimp only; rw [hE100, hN1, hE1, hE2]; rfl) | (dsimp only; simp only [hE100, hN1, hE1, hE2]) | (rw [hE100, hN1, hE1, hE2]; done) | (rw [hE100, hN1, hE1, hE2]; rfl)
   all_goals (try dsimp only)
   all_goals (first | omega | (simp only [hE100, hN1, hE1, hE2]; omega) | (simp [hE100, hN1, hE1, hE2]; done))
  exact absurd ⟨by simpa using h31, h3⟩ q2
 refine Js.region <| Qm rfl <| Qm rfl <| zg (Gd.t1 rfl rfl rfl) (fun hc => p_move rfl) <| zg (Gd.t1 rfl rfl rfl) (fun hc => p_nilCheck (gh hc rfl)) <| zg (Gd.t1 rfl rfl rfl) (fun hc => p_fieldAddr fld_195_0.h (gh hc rfl)) <| zg (Gd.t1 rfl rfl rfl) (fun hc => p_move rfl) <| zgv (Gd.t1 rfl rfl rfl) (fun hc => (opds_2 (gh hc rfl) (gh hc rfl))) (fun hc => (fun w hw => c_impl_Rules_numberL x_rules ((M.cutS wd ([61] : List UInt8)).1) ⟨_, _, [.int .i64 x_rules.pits, .int .i64 x_rules.seeds, .bool x_rules.stores, .bool x_rules.skip, .bool x_rules.relay, .bool x_rules.feed, .bool x_rules.again, .int .i64 x_rules.capture, .int .i64 x_rules.slam], rfl, ⟨rfl, rfl, rfl, rfl, rfl, rfl, rfl, rfl, rfl, trivial⟩, Mem.boxR (i := 0) rfl 0 9 _ hw⟩ (r0 := h1))) ?_
 refine zg (Gd.t1 rfl rfl rfl) (fun hc => p_eqlP0 @Tryz.underlying228 (gh hc rfl) rfl) <| Qq (p_pickAnd rfl rfl rfl) <| Qa rfl <| JL.nil ?_
 refine zi (fun h39 h39' => ?_) fun h39 h39' => ?_
 ·
  have hE := M.rdW_1 (x := (M.Rdr.mk x_rules x_problems x_given)) (a := at1) (w := wd) (.inl ⟨by simpa using h39, h1⟩)
  refine Js.skip ?_
  refine Js.condT rfl h39 ?_
  refine Js.region <| Qa rfl <| JL.nil <| Js.blockEnd <| zS <| Qm rfl <| Qd rfl rfl <| JL.nil ?_
  refine Js.condT rfl (by decide) ?_
  refine Js.region <| Qm rfl <| Qm rfl <| Qc rfl <| Qf fh rfl <| Q0 0 rfl rfl rfl <| Qm rfl <| Qm rfl <| Qm rfl <| Qb ?_
  refine zbs fun b40 => ?_
  refine JL.e (e_append (i := 2) (n' := (x_problems ++ [(M.Prb.mk 1 at1 wd)]).length) (vs' := fltV vcProblem (x_problems ++ [(M.Prb.mk 1 at1 wd)])) el_131 rfl rfl rfl rfl (src_row (i := 0) und_131 rfl rfl) (by omega) (by omega) ln2_ (by first | rfl | exact fltV_app _ _ _ | exact fltV_snoc _ _ _ | (simp [fltV]; done))) ?_
  rintro v42 _ _ ⟨⟨g43, rfl⟩, rfl⟩ _
  refine JL.fact (row_form' (i := 2) rfl) (fun hf44 => ?_)
  obtain ⟨A44, c44, rfl, bl44, bh44⟩ := hf44
  refine znl ?_
  refine Qc rfl <| Qf fh rfl <| zw 1 rfl rfl rfl ?_
  refine JL.nil ?_
  refine zrbE [1, 1, 1] hb (Up.refl _ _) ?_
  have hE100 : (M.rdW (M.Rdr.mk x_rules x_problems x_given) at1 wd).rules = x_rules := by first | rfl | (rw [hE]; done) | (rw [hE]; rfl)
  have hN1 : ((M.rdW (M.Rdr.mk x_rules x_problems x_given) at1 wd).problems).length = (x_problems ++ [(M.Prb.mk 1 at1 wd)]).length := by first | rfl | (rw [hE]; done) | (rw [hE]; rfl)
  have hE1 : (M.rdW (M.Rdr.mk x_rules x_problems x_given) at1 wd).problems = (x_problems ++ [(M.Prb.mk 1 at1 wd)]) := by first | rfl | (rw [hE]; done) | (rw [hE]; rfl)
  have hE2 : (M.rdW (M.Rdr.mk x_rules x_problems x_given) at1 wd).given = x_given := by first | rfl | (rw [hE]; done) | (rw [hE]; rfl)
  refine ⟨A44, c44, g43, rfl, ?_, ?_, ?_⟩
  · first | rfl | (dsimp only; rw [hE100, hN1, hE1, hE2]; done) | (dsimp only; rw [hE100, hN1, hE1, hE2]; rfl) | (dsimp only; simp only [hE100, hN1, hE1, hE2]) | (rw [hE100, hN1, hE1, hE2]; done) | (rw [hE100, hN1, hE1, hE2]; rfl)
  all_goals (try dsimp only)
  all_goals (first | omega | (simp only [hE100, hN1, hE1, hE2]; omega) | (simp [hE100, hN1, hE1, hE2]; done))
 have q1 : ¬ ((M.cutS wd [61]).2.2 = true ∧ M.isNum (M.cutS wd [61]).1 = false) := by have h9 := h39; rintro ⟨a, b⟩; first | (rw [h1] at b; exact absurd b (by decide)) | (rw [a] at h9; exact absurd h9 (by decide))
 rcases Bool.eq_false_or_eq_true (M.isFlg (M.cutS wd [61]).1) with h45 | h45
 ·
  refine Js.region <| Qm rfl <| Qt rfl <| Qm rfl <| zg (Gd.t1 rfl rfl rfl) (fun hc => p_move rfl) <| zg (Gd.t1 rfl rfl rfl) (fun hc => p_nilCheck (gh hc rfl)) <| zg (Gd.t1 rfl rfl rfl) (fun hc => p_fieldAddr fld_195_0.h (gh hc rfl)) <| zg (Gd.t1 rfl rfl rfl) (fun hc => p_move rfl) <| zgv (Gd.t1 rfl rfl rfl) (fun hc => (opds_2 (gh hc rfl) (gh hc rfl))) (fun hc => (fun w hw => c_impl_Rules_flag x_rules ((M.cutS wd ([61] : List UInt8)).1) ⟨_, _, [.int .i64 x_rules.pits, .int .i64 x_rules.seeds, .bool x_rules.stores, .bool x_rules.skip, .bool x_rules.relay, .bool x_rules.feed, .bool x_rules.again, .int .i64 x_rules.capture, .int .i64 x_rules.slam], rfl, ⟨rfl, rfl, rfl, rfl, rfl, rfl, rfl, rfl, rfl, trivial⟩, Mem.boxR (i := 0) rfl 0 9 _ hw⟩ (r0 := (M.isFlg_iff h45)))) ?_
  refine zg (Gd.t1 rfl rfl rfl) (fun hc => p_eqlP1 @Tryz.underlying127 (gh hc rfl) rfl) <| Qq (p_pickAnd rfl rfl rfl) <| Qa rfl <| JL.nil ?_
  refine zi (fun h46 h46' => ?_) fun h46 h46' => ?_
  · exact absurd h46 (by simp)
  have q2 : ¬ ((M.cutS wd [61]).2.2 = false ∧ M.isFlg (M.cutS wd [61]).1 = false) := by have h9 := h46; rintro ⟨a, b⟩; first | (rw [h45] at b; exact absurd b (by decide)) | (rw [a] at h9; exact absurd h9 (by decide))
  refine zS <| Qm rfl <| Qa rfl <| JL.nil ?_
  refine zi (fun h47 h47' => ?_) fun h47 h47' => ?_
  ·
   have hE := M.rdW_2 (x := (M.Rdr.mk x_rules x_problems x_given)) (a := at1) q1 q2 (by simpa using h47)
   refine Js.region <| Qa rfl <| JL.nil <| Js.blockEnd <| zS <| Qm rfl <| Qd rfl rfl <| JL.nil ?_
   refine Js.condT rfl (by decide) ?_
   refine Js.region <| Qm rfl <| Qm rfl <| Qc rfl <| Qf fh rfl <| Q0 0 rfl rfl rfl <| Qm rfl <| Qm rfl <| Qm rfl <| Qb ?_
   refine zbs fun b48 => ?_
   refine JL.e (e_append (i := 2) (n' := (x_problems ++ [(M.Prb.mk 2 at1 wd)]).length) (vs' := fltV vcProblem (x_problems ++ [(M.Prb.mk 2 at1 wd)])) el_131 rfl rfl rfl rfl (src_row (i := 0) und_131 rfl rfl) (by omega) (by omega) ln2_ (by first | rfl | exact fltV_app _ _ _ | exact fltV_snoc _ _ _ | (simp [fltV]; done))) ?_
   rintro v50 _ _ ⟨⟨g51, rfl⟩, rfl⟩ _
   refine JL.fact (row_form' (i := 2) rfl) (fun hf52 => ?_)
   obtain ⟨A52, c52, rfl, bl52, bh52⟩ := hf52
   refine znl ?_
   refine Qc rfl <| Qf fh rfl <| zw 1 rfl rfl rfl ?_
   refine JL.nil ?_
   refine zrbE [1, 1, 1] hb (Up.refl _ _) ?_
   have hE100 : (M.rdW (M.Rdr.mk x_rules x_problems x_given) at1 wd).rules = x_rules := by first | rfl | (rw [hE]; done) | (rw [hE]; rfl)
   have hN1 : ((M.rdW (M.Rdr.mk x_rules x_problems x_given) at1 wd).problems).length = (x_problems ++ [(M.Prb.mk 2 at1 wd)]).length := by first | rfl | (rw [hE]; done) | (rw [hE]; rfl)
   have hE1 : (M.rdW (M.Rdr.mk x_rules x_problems x_given) at1 wd).problems = (x_problems ++ [(M.Prb.mk 2 at1 wd)]) := by first | rfl | (rw [hE]; done) | (rw [hE]; rfl)
   have hE2 : (M.rdW (M.Rdr.mk x_rules x_problems x_given) at1 wd).given = x_given := by first | rfl | (rw [hE]; done) | (rw [hE]; rfl)
   refine ⟨A52, c52, g51, rfl, ?_, ?_, ?_⟩
   · first | rfl | (dsimp only; rw [hE100, hN1, hE1, hE2]; done) | (dsimp only; rw [hE100, hN1, hE1, hE2]; rfl) | (dsimp only; simp only [hE100, hN1, hE1, hE2]) | (rw [hE100, hN1, hE1, hE2]; done) | (rw [hE100, hN1, hE1, hE2]; rfl)
   all_goals (try dsimp only)
   all_goals (first | omega | (simp only [hE100, hN1, hE1, hE2]; omega) | (simp [hE100, hN1, hE1, hE2]; done))
  have hm : M.mhas x_given (M.cutS wd [61]).1 = false := by simpa using h47
  refine zS <| Qm rfl <| Qa rfl <| JL.nil ?_
  refine zi (fun h53 h53' => ?_) fun h53 h53' => ?_
  · exact absurd ⟨by simpa using h53, h1⟩ q1
  have he : (M.cutS wd [61]).2.2 = false := by simpa using h53
  have hf : M.isFlg (M.cutS wd [61]).1 = true := by cases h9 : M.isFlg (M.cutS wd [61]).1; exact absurd ⟨he, h9⟩ q2; rfl
  have hE := M.rdW_f (x := (M.Rdr.mk x_rules x_problems x_given)) (a := at1) he hf hm
  refine zS <| Qm rfl <| Qc rfl <| Qf fh rfl <| Q0 0 rfl rfl rfl <| Qm rfl <| Qm rfl ?_
  refine JL.s (e_mapUpdS (i := 2) (g := x_given) (k := ((M.cutS wd ([61] : List UInt8)).1)) (v := at1) map_193 rfl rfl rfl rfl (hm)) ?_
  rintro _ _ _ ⟨rfl, rfl⟩ _
  refine znl ?_
  refine zG <| Qm rfl <| Qc rfl <| Qf fh rfl <| Qm rfl <| zv rfl (fun w hw => c_impl_Rules_flag x_rules ((M.cutS wd ([61] : List UInt8)).1) ⟨_, _, [.int .i64 x_rules.pits, .int .i64 x_rules.seeds, .bool x_rules.stores, .bool x_rules.skip, .bool x_rules.relay, .bool x_rules.feed, .bool x_rules.again, .int .i64 x_rules.capture, .int .i64 x_rules.slam], rfl, ⟨rfl, rfl, rfl, rfl, rfl, rfl, rfl, rfl, rfl, trivial⟩, Mem.boxR (i := 0) rfl 0 9 _ hw⟩ (r0 := (M.isFlg_iff hf))) <| Qc rfl ?_
  refine JL.s (e_storeB (i := 0) (c' := [.int .i64 ((M.setFlg x_rules (M.cutS wd [61]).1).pits), .int .i64 ((M.setFlg x_rules (M.cutS wd [61]).1).seeds), .bool ((M.setFlg x_rules (M.cutS wd [61]).1).stores), .bool ((M.setFlg x_rules (M.cutS wd [61]).1).skip), .bool ((M.setFlg x_rules (M.cutS wd [61]).1).relay), .bool ((M.setFlg x_rules (M.cutS wd [61]).1).feed), .bool ((M.setFlg x_rules (M.cutS wd [61]).1).again), .int .i64 ((M.setFlg x_rules (M.cutS wd [61]).1).capture), .int .i64 ((M.setFlg x_rules (M.cutS wd [61]).1).slam), .slice Ax_9 x_problems.length cx_9, .map (some bx_10)]) ty_4.h rfl rfl rfl rfl rfl (by have := flagIx_le hf; simp only [List.length_cons, List.length_nil]; omega) (flg_set hf)) ?_
  rintro _ _ _ ⟨rfl, rfl⟩ _
  refine znl ?_
  refine JL.nil <| Js.blockEnd <| zS <| Qm rfl <| Qd rfl rfl <| JL.nil ?_
  refine Js.condF rfl (by decide) ?_
  refine Js.skip ?_
  refine zrbE [0, 0, 0] hb (Up.refl _ _) ?_
  have hE100 : (M.rdW (M.Rdr.mk x_rules x_problems x_given) at1 wd).rules = (M.setFlg x_rules (M.cutS wd [61]).1) := by first | rfl | (rw [hE]; done) | (rw [hE]; rfl)
  have hN1 : ((M.rdW (M.Rdr.mk x_rules x_problems x_given) at1 wd).problems).length = x_problems.length := by first | rfl | (rw [hE]; done) | (rw [hE]; rfl)
  have hE1 : (M.rdW (M.Rdr.mk x_rules x_problems x_given) at1 wd).problems = x_problems := by first | rfl | (rw [hE]; done) | (rw [hE]; rfl)
  have hE2 : (M.rdW (M.Rdr.mk x_rules x_problems x_given) at1 wd).given = (M.mput x_given ((M.cutS wd ([61] : List UInt8)).1) at1) := by first | rfl | (rw [hE]; done) | (rw [hE]; rfl)
  refine ⟨Ax_9, cx_9, gx_9, rfl, ?_, ?_, ?_⟩
  · first | rfl | (dsimp only; rw [hE100, hN1, hE1, hE2]; done) | (dsimp only; rw [hE100, hN1, hE1, hE2]; rfl) | (dsimp only; simp only [hE100, hN1, hE1, hE2]) | (rw [hE100, hN1, hE1, hE2]; done) | (rw [hE100, hN1, hE1, hE2]; rfl)
  all_goals (try dsimp only)
  all_goals (first | omega | (simp only [hE100, hN1, hE1, hE2]; omega) | (simp [hE100, hN1, hE1, hE2]; done))
 refine Js.region <| Qm rfl <| Qt rfl <| Qm rfl <| zg (Gd.t1 rfl rfl rfl) (fun hc => p_move rfl) <| zg (Gd.t1 rfl rfl rfl) (fun hc => p_nilCheck (gh hc rfl)) <| zg (Gd.t1 rfl rfl rfl) (fun hc => p_fieldAddr fld_195_0.h (gh hc rfl)) <| zg (Gd.t1 rfl rfl rfl) (fun hc => p_move rfl) <| zgv (Gd.t1 rfl rfl rfl) (fun hc => (opds_2 (gh hc rfl) (gh hc rfl))) (fun hc => (fun w hw => c_impl_Rules_flagL x_rules ((M.cutS wd ([61] : List UInt8)).1) ⟨_, _, [.int .i64 x_rules.pits, .int .i64 x_rules.seeds, .bool x_rules.stores, .bool x_rules.skip, .bool x_rules.relay, .bool x_rules.feed, .bool x_rules.again, .int .i64 x_rules.capture, .int .i64 x_rules.slam], rfl, ⟨rfl, rfl, rfl, rfl, rfl, rfl, rfl, rfl, rfl, trivial⟩, Mem.boxR (i := 0) rfl 0 9 _ hw⟩ (r0 := h45))) ?_
 refine zg (Gd.t1 rfl rfl rfl) (fun hc => p_eqlP0 @Tryz.underlying127 (gh hc rfl) rfl) <| Qq (p_pickAnd rfl rfl rfl) <| Qa rfl <| JL.nil ?_
 refine zi (fun h54 h54' => ?_) fun h54 h54' => ?_
 ·
  have hE := M.rdW_1 (x := (M.Rdr.mk x_rules x_problems x_given)) (a := at1) (w := wd) (.inr ⟨by simpa using h54, h45⟩)
  refine Js.region <| Qa rfl <| JL.nil <| Js.blockEnd <| zS <| Qm rfl <| Qd rfl rfl <| JL.nil ?_
  refine Js.condT rfl (by decide) ?_
  refine Js.region <| Qm rfl <| Qm rfl <| Qc rfl <| Qf fh rfl <| Q0 0 rfl rfl rfl <| Qm rfl <| Qm rfl <| Qm rfl <| Qb ?_
  refine zbs fun b55 => ?_
  refine JL.e (e_append (i := 2) (n' := (x_problems ++ [(M.Prb.mk 1 at1 wd)]).length) (vs' := fltV vcProblem (x_problems ++ [(M.Prb.mk 1 at1 wd)])) el_131 rfl rfl rfl rfl (src_row (i := 0) und_131 rfl rfl) (by omega) (by omega) ln2_ (by first | rfl | exact fltV_app _ _ _ | exact fltV_snoc _ _ _ | (simp [fltV]; done))) ?_
  rintro v57 _ _ ⟨⟨g58, rfl⟩, rfl⟩ _
  refine JL.fact (row_form' (i := 2) rfl) (fun hf59 => ?_)
  obtain ⟨A59, c59, rfl, bl59, bh59⟩ := hf59
  refine znl ?_
  refine Qc rfl <| Qf fh rfl <| zw 1 rfl rfl rfl ?_
  refine JL.nil ?_
  refine zrbE [1, 1, 1] hb (Up.refl _ _) ?_
  have hE100 : (M.rdW (M.Rdr.mk x_rules x_problems x_given) at1 wd).rules = x_rules := by first | rfl | (rw [hE]; done) | (rw [hE]; rfl)
  have hN1 : ((M.rdW (M.Rdr.mk x_rules x_problems x_given) at1 wd).problems).length = (x_problems ++ [(M.Prb.mk 1 at1 wd)]).length := by first | rfl | (rw [hE]; done) | (rw [hE]; rfl)
  have hE1 : (M.rdW (M.Rdr.mk x_rules x_problems x_given) at1 wd).problems = (x_problems ++ [(M.Prb.mk 1 at1 wd)]) := by first | rfl | (rw [hE]; done) | (rw [hE]; rfl)
  have hE2 : (M.rdW (M.Rdr.mk x_rules x_problems x_given) at1 wd).given = x_given := by first | rfl | (rw [hE]; done) | (rw [hE]; rfl)
  refine ⟨A59, c59, g58, rfl, ?_, ?_, ?_⟩
  · first | rfl | (dsimp only; rw [hE100, hN1, hE1, hE2]; done) | (dsimp only; rw [hE100, hN1, hE1, hE2]; rfl) | (dsimp only; simp only [hE100, hN1, hE1, hE2]) | (rw [hE100, hN1, hE1, hE2]; done) | (rw [hE100, hN1, hE1, hE2]; rfl)
  all_goals (try dsimp only)
  all_goals (first | omega | (simp only [hE100, hN1, hE1, hE2]; omega) | (simp [hE100, hN1, hE1, hE2]; done))
 have q2 : ¬ ((M.cutS wd [61]).2.2 = false ∧ M.isFlg (M.cutS wd [61]).1 = false) := by have h9 := h54; rintro ⟨a, b⟩; first | (rw [h45] at b; exact absurd b (by decide)) | (rw [a] at h9; exact absurd h9 (by decide))
 refine zS <| Qm rfl <| Qa rfl <| JL.nil ?_
 refine zi (fun h60 h60' => ?_) fun h60 h60' => ?_
 ·
  have hE := M.rdW_2 (x := (M.Rdr.mk x_rules x_problems x_given)) (a := at1) q1 q2 (by simpa using h60)
  refine Js.region <| Qa rfl <| JL.nil <| Js.blockEnd <| zS <| Qm rfl <| Qd rfl rfl <| JL.nil ?_
  refine Js.condT rfl (by decide) ?_
  refine Js.region <| Qm rfl <| Qm rfl <| Qc rfl <| Qf fh rfl <| Q0 0 rfl rfl rfl <| Qm rfl <| Qm rfl <| Qm rfl <| Qb ?_
  refine zbs fun b61 => ?_
  refine JL.e (e_append (i := 2) (n' := (x_problems ++ [(M.Prb.mk 2 at1 wd)]).length) (vs' := fltV vcProblem (x_problems ++ [(M.Prb.mk 2 at1 wd)])) el_131 rfl rfl rfl rfl (src_row (i := 0) und_131 rfl rfl) (by omega) (by omega) ln2_ (by first | rfl | exact fltV_app _ _ _ | exact fltV_snoc _ _ _ | (simp [fltV]; done))) ?_
  rintro v63 _ _ ⟨⟨g64, rfl⟩, rfl⟩ _
  refine JL.fact (row_form' (i := 2) rfl) (fun hf65 => ?_)
  obtain ⟨A65, c65, rfl, bl65, bh65⟩ := hf65
  refine znl ?_
  refine Qc rfl <| Qf fh rfl <| zw 1 rfl rfl rfl ?_
  refine JL.nil ?_
  refine zrbE [1, 1, 1] hb (Up.refl _ _) ?_
  have hE100 : (M.rdW (M.Rdr.mk x_rules x_problems x_given) at1 wd).rules = x_rules := by first | rfl | (rw [hE]; done) | (rw [hE]; rfl)
  have hN1 : ((M.rdW (M.Rdr.mk x_rules x_problems x_given) at1 wd).problems).length = (x_problems ++ [(M.Prb.mk 2 at1 wd)]).length := by first | rfl | (rw [hE]; done) | (rw [hE]; rfl)
  have hE1 : (M.rdW (M.Rdr.mk x_rules x_problems x_given) at1 wd).problems = (x_problems ++ [(M.Prb.mk 2 at1 wd)]) := by first | rfl | (rw [hE]; done) | (rw [hE]; rfl)
  have hE2 : (M.rdW (M.Rdr.mk x_rules x_problems x_given) at1 wd).given = x_given := by first | rfl | (rw [hE]; done) | (rw [hE]; rfl)
  refine ⟨A65, c65, g64, rfl, ?_, ?_, ?_⟩
  · first | rfl | (dsimp only; rw [hE100, hN1, hE1, hE2]; done) | (dsimp only; rw [hE100, hN1, hE1, hE2]; rfl) | (dsimp only; simp only [hE100, hN1, hE1, hE2]) | (rw [hE100, hN1, hE1, hE2]; done) | (rw [hE100, hN1, hE1, hE2]; rfl)
  all_goals (try dsimp only)
  all_goals (first | omega | (simp only [hE100, hN1, hE1, hE2]; omega) | (simp [hE100, hN1, hE1, hE2]; done))
 have hm : M.mhas x_given (M.cutS wd [61]).1 = false := by simpa using h60
 refine zS <| Qm rfl <| Qa rfl <| JL.nil ?_
 refine zi (fun h66 h66' => ?_) fun h66 h66' => ?_
 · exact absurd ⟨by simpa using h66, h1⟩ q1
 exact absurd ⟨by simpa using h66, h45⟩ q2
theorem c_impl_ruleReader_missing (x_rules : M.Rul) (x_problems : List M.Prb) (x_given : List (List UInt8 × Int)) {Ax_9 : Option Addr} {cx_9 : Nat} {gx_9 : List Nat} {bx_10 : Nat} (end1 : Int) {bx : Nat} {w : World} (hb : Bw w [boxO bx [.int .i64 x_rules.pits, .int .i64 x_rules.seeds, .bool x_rules.stores, .bool x_rules.skip, .bool x_rules.relay, .bool x_rules.feed, .bool x_rules.again, .int .i64 x_rules.capture, .int .i64 x_rules.slam, .slice Ax_9 x_problems.length cx_9, .map (some bx_10)] 195, rowO 190 3 (.slice Ax_9 x_problems.length cx_9) x_problems.length (fltV vcProblem x_problems) gx_9, mapS bx_10 x_given]) (bd0 : x_problems.length ≤ cx_9 := by exact om_) (bd1 : cx_9 ≤ 9223372036854775807 := by exact om_) (r0 : x_problems.length ≤ 1000000 := by exact om_) : RetB Tryz.prog 144 [.pointer (some ⟨bx, 0, none⟩), .int .i64 end1] w [boxO bx [.int .i64 x_rules.pits, .int .i64 x_rules.seeds, .bool x_rules.stores, .bool x_rules.skip, .bool x_rules.relay, .bool x_rules.feed, .bool x_rules.again, .int .i64 x_rules.capture, .int .i64 x_rules.slam, .slice Ax_9 x_problems.length cx_9, .map (some bx_10)] 195, rowO 190 3 (.slice Ax_9 x_problems.length cx_9) x_problems.length (fltV vcProblem x_problems) gx_9, mapS bx_10 x_given] (fun v bs' => ∃ (Axx_9 : Option Addr) (cxx_9 : Nat) (gxx_9 : List Nat), v = .tuple #[] ∧ bs' = [boxO bx [.int .i64 x_rules.pits, .int .i64 x_rules.seeds, .bool x_rules.stores, .bool x_rules.skip, .bool x_rules.relay, .bool x_rules.feed, .bool x_rules.again, .int .i64 x_rules.capture, .int .i64 x_rules.slam, .slice Axx_9 ((x_problems ++ M.mis x_given end1).length) cxx_9, .map (some bx_10)] 195, rowO 190 3 (.slice Axx_9 ((x_problems ++ M.mis x_given end1).length) cxx_9) ((x_problems ++ M.mis x_given end1).length) (fltV vcProblem (x_problems ++ M.mis x_given end1)) gxx_9, mapS bx_10 x_given] ∧ (x_problems ++ M.mis x_given end1).length ≤ cxx_9 ∧ cxx_9 ≤ 9223372036854775807) := by
 have hpl2 : M.pNames.length = 2 := rfl
 refine enterB hb @Tryz.func144 @Tryz.ntmps144 rfl rfl ?_
 refine zent ?_
 refine Js.trashE ?_
 refine zn ?_
 refine Js.seq <| zS <| zbs fun b1 => ?_
 refine Qz rfl <| Qm rfl <| JL.nil <| Js.block ?_
 refine zl [0, 1, 12, 13] (fun F U l os u m => ∃ (k : Nat) (qs : List M.Prb) (A3_0_9 : Option Addr) (c3_0_9 : Nat) (g3_0_9 : List Nat) (G3_4 : List Nat), l = F [(14, .int .i64 (k : Int))] ∧ os = U [nO, some (boxO bx [.int .i64 x_rules.pits, .int .i64 x_rules.seeds, .bool x_rules.stores, .bool x_rules.skip, .bool x_rules.relay, .bool x_rules.feed, .bool x_rules.again, .int .i64 x_rules.capture, .int .i64 x_rules.slam, .slice A3_0_9 qs.length c3_0_9, .map (some bx_10)] 195), some (rowO 190 3 (.slice A3_0_9 qs.length c3_0_9) qs.length (fltV vcProblem qs) g3_0_9), nO, some (anyO G3_4)] ∧ (qs = x_problems ++ M.misN x_given end1 k) ∧ (k ≤ 2) ∧ (qs.length ≤ c3_0_9) ∧ (c3_0_9 ≤ 9223372036854775807) ∧ m = 2 - k) ⟨0, x_problems, _, _, _, _, rfl, rfl, by rw [M.misN, List.append_nil], zt, zu, zu, rfl⟩ ?_
 rintro _ _ u3 _ ⟨k, qs, A3_0_9, c3_0_9, g3_0_9, G3_4, rfl, rfl, hM, hk, f3_2, f3_3, rfl⟩ x3
 refine zn ?_
 have hql : qs.length ≤ 1000000 + 2 := by rw [hM, List.length_append]; have := M.misN_len x_given end1 k; omega
 refine zS <| Ql rfl rfl <| zJ ?_
 refine zi (fun h4 h4' => ?_) fun h4 h4' => ?_
 ·
  obtain ⟨ye5, hye5⟩ : ∃ x, M.pNames[k]? = some x := ⟨_, List.getElem?_eq_getElem (by omega)⟩
  have hye5 : ([([112, 105, 116, 115] : List UInt8), ([115, 101, 101, 100, 115] : List UInt8)] : List (List UInt8))[k]? = some ye5 := hye5
  refine Js.skip <| Js.seq <| Js.block <| zS <| Qq (p_indexAddr el_72 rfl rfl (by omega) (by omega) rfl) <| Qw (q_load1 ty_9.h rfl (Mem.row (i := 0) rfl (txs_get' (xs := ([([112, 105, 116, 115] : List UInt8), ([115, 101, 101, 100, 115] : List UInt8)])) hye5))) <| Qa rfl <| zN <| Qm rfl <| Qc rfl <| Qf fh rfl <| Q0 1 rfl rfl rfl <| Qm rfl <| Qw (q_lookS (i := 3) (g := x_given) (k := ye5) map_193 rfl rfl rfl) ?_
  refine Qm rfl <| Qx rfl rfl <| Qx rfl rfl <| Qa rfl <| Qa rfl <| zN <| Qm rfl <| Qt rfl <| JL.nil ?_
  refine zi (fun h8 h8' => ?_) fun h8 h8' => ?_
  ·
   have hM2 := M.misN_f hM (show M.pNames[k]? = some ye5 from hye5) (by simpa using h8)
   refine Js.region <| Qm rfl <| Qm rfl <| Qc rfl <| Qf fh rfl <| Q0 1 rfl rfl rfl <| Qm rfl <| Qm rfl <| Qb ?_
   refine zbs fun b9 => ?_
   refine JL.e (e_append (i := 3) (n' := (qs ++ [(M.Prb.mk 5 end1 ye5)]).length) (vs' := fltV vcProblem (qs ++ [(M.Prb.mk 5 end1 ye5)])) el_131 rfl rfl rfl rfl (src_row (i := 0) und_131 rfl rfl) (by omega) (by omega) ln2_ (by first | rfl | exact fltV_app _ _ _ | exact fltV_snoc _ _ _ | (simp [fltV]; done))) ?_
   rintro v11 _ _ ⟨⟨g12, rfl⟩, rfl⟩ _
   refine JL.fact (row_form' (i := 3) rfl) (fun hf13 => ?_)
   obtain ⟨A13, c13, rfl, bl13, bh13⟩ := hf13
   refine znl ?_
   refine Qc rfl <| Qf fh rfl <| zw 2 rfl rfl rfl ?_
   refine JL.nil <| Js.blockEnd <| Js.region <| Qp rfl rfl <| Qm rfl <| JL.nil ?_
   refine zf [1, 1, 1, 1] fun GG14 => ?_
   refine zn ?_
   exact zag ⟨k + 1, qs ++ [(M.Prb.mk 5 end1 ye5)], _, _, _, _, rfl, rfl, by exact hM2, zt, zu, zu, rfl⟩ x3
  have hM2 := M.misN_t hM (show M.pNames[k]? = some ye5 from hye5) (by simpa using h8)
  refine Js.skip <| Js.blockEnd <| Js.region <| Qp rfl rfl <| Qm rfl <| JL.nil ?_
  exact zag ⟨k + 1, qs, _, _, _, _, rfl, rfl, by exact hM2, zt, zu, zu, rfl⟩ x3
 have hk2 : k = 2 := by have := h4'; omega
 have hql : qs.length ≤ 1000000 + 2 := by rw [hM, List.length_append]; have := M.misN_len x_given end1 k; omega
 refine zx ?_
 refine zS <| Qm rfl <| Qc rfl <| Qf fh rfl <| Q0 1 rfl rfl rfl <| Qw (q_lookS (i := 3) (g := x_given) (k := ([97, 103, 97, 105, 110] : List UInt8)) map_193 rfl rfl rfl) <| Qm rfl <| Qx rfl rfl <| Qx rfl rfl <| Qa rfl <| Qa rfl <| zN <| Qm rfl <| Qc rfl ?_
 refine Qf fh rfl <| Q0 1 rfl rfl rfl <| Qw (q_lookS (i := 3) (g := x_given) (k := ([115, 116, 111, 114, 101, 115] : List UInt8)) map_193 rfl rfl rfl) <| Qm rfl <| Qx rfl rfl <| Qx rfl rfl <| Qa rfl <| Qa rfl <| zN <| Qm rfl <| Qm rfl <| zg (Gd.t1 rfl rfl rfl) (fun hc => p_move rfl) <| zg (Gd.t1 rfl rfl rfl) (fun hc => p_not (gh hc rfl)) <| Qq (p_pickAnd rfl rfl rfl) ?_
 refine JL.nil ?_
 refine zi (fun h15 h15' => ?_) fun h15 h15' => ?_
 ·
  have h29 : M.mhas x_given M.agaiT = true ∧ M.mhas x_given M.storT = false := by have h9 := h15; simp only [Bool.and_eq_true, Bool.not_eq_true'] at h9; exact h9
  have hE := M.mis_t hM hk2 h29.1 h29.2
  refine Js.region <| Qm rfl <| Qm rfl <| Qc rfl <| Qf fh rfl <| Q0 1 rfl rfl rfl <| Qm rfl <| Qb ?_
  refine zbs fun b16 => ?_
  refine JL.e (e_append (i := 3) (n' := (qs ++ ([(M.Prb.mk 6 (M.mval x_given ([97, 103, 97, 105, 110] : List UInt8)) ([97, 103, 97, 105, 110] : List UInt8))])).length) (vs' := fltV vcProblem (qs ++ ([(M.Prb.mk 6 (M.mval x_given ([97, 103, 97, 105, 110] : List UInt8)) ([97, 103, 97, 105, 110] : List UInt8))]))) el_131 rfl rfl rfl rfl (src_row (i := 0) und_131 rfl rfl) (by omega) (by omega) ln2_ (by first | rfl | exact fltV_app _ _ _ | exact fltV_snoc _ _ _ | (simp [fltV]; done))) ?_
  rintro v18 _ _ ⟨⟨g19, rfl⟩, rfl⟩ _
  refine JL.fact (row_form' (i := 3) rfl) (fun hf20 => ?_)
  obtain ⟨A20, c20, rfl, bl20, bh20⟩ := hf20
  refine znl ?_
  refine Qc rfl <| Qf fh rfl <| zw 2 rfl rfl rfl ?_
  refine JL.nil ?_
  refine zrbE [2, 2, 2] hb x3 ?_
  have hN10 : (x_problems ++ M.mis x_given end1).length = (qs ++ ([(M.Prb.mk 6 (M.mval x_given ([97, 103, 97, 105, 110] : List UInt8)) ([97, 103, 97, 105, 110] : List UInt8))])).length := by first | rfl | exact hE | (rw [hE]; done) | (rw [hE]; rfl)
  have hE10 : (x_problems ++ M.mis x_given end1) = (qs ++ ([(M.Prb.mk 6 (M.mval x_given ([97, 103, 97, 105, 110] : List UInt8)) ([97, 103, 97, 105, 110] : List UInt8))])) := by first | rfl | exact hE | (rw [hE]; done) | (rw [hE]; rfl)
  refine ⟨A20, c20, g19, rfl, ?_, ?_, ?_⟩
  · first | rfl | (dsimp only; rw [hN10, hE10]; done) | (dsimp only; rw [hN10, hE10]; rfl) | (dsimp only; simp only [hN10, hE10]) | (rw [hN10, hE10]; done) | (rw [hN10, hE10]; rfl)
  all_goals (try dsimp only)
  all_goals (first | (rw [hN10, hE10]; omega) | omega | (simp only [*]; omega) | (simp; done))
 have h29 : ¬ (M.mhas x_given M.agaiT = true ∧ M.mhas x_given M.storT = false) := by have h9 := h15; intro h8; have h7 := Bool.eq_false_iff.1 h9; apply h7; simp only [Bool.and_eq_true, Bool.not_eq_true']; exact h8
 have hE := M.mis_f hM hk2 h29
 refine Js.skip ?_
 refine zrbE [1, 1, 1] hb x3 ?_
 have hN10 : (x_problems ++ M.mis x_given end1).length = qs.length := by first | rfl | exact hE | (rw [hE]; done) | (rw [hE]; rfl)
 have hE10 : (x_problems ++ M.mis x_given end1) = qs := by first | rfl | exact hE | (rw [hE]; done) | (rw [hE]; rfl)
 refine ⟨A3_0_9, c3_0_9, g3_0_9, rfl, ?_, ?_, ?_⟩
 · first | rfl | (dsimp only; rw [hN10, hE10]; done) | (dsimp only; rw [hN10, hE10]; rfl) | (dsimp only; simp only [hN10, hE10]) | (rw [hN10, hE10]; done) | (rw [hN10, hE10]; rfl)
 all_goals (try dsimp only)
 all_goals (first | (rw [hN10, hE10]; omega) | omega | (simp only [*]; omega) | (simp; done))
theorem c_impl_CheckRules (s : List UInt8) {w : World} (h_tab : tabT.ok w undef) (r0 : s.length ≤ 4194304 := by exact om_) : Ret Tryz.prog 94 [.string (sB s)] w (Ty.tup [Ty.agg (cRules ((M.chkT s).1)), Ty.sl 190 3 ((M.chkT s).2.1).length (lProblem ((M.chkT s).2.1)), Ty.int ((M.chkT s).2.2)]) := by
 refine enter @Tryz.func94 @Tryz.ntmps94 rfl rfl ?_
 refine zent ?_
 refine zS <| za zeh fun b1 => Qa rfl <| Qa rfl <| zJ <| zS <| Qm rfl <| Qq (p_lenS und_9 rfl) <| Qg rfl rfl <| JL.nil ?_
 refine zi (fun h2 h2' => ?_) fun h2 h2' => ?_
 ·
  have hE := M.chkT_5 (s := s) (by have := h2'; omega)
  have hq0 : 0 = ((M.chkT s).1).pits := rp_ hE
  have hq1 : 0 = ((M.chkT s).1).seeds := rp_ hE
  have hq2 : false = ((M.chkT s).1).stores := rp_ hE
  have hq3 : false = ((M.chkT s).1).skip := rp_ hE
  have hq4 : false = ((M.chkT s).1).relay := rp_ hE
  have hq5 : false = ((M.chkT s).1).feed := rp_ hE
  have hq6 : false = ((M.chkT s).1).again := rp_ hE
  have hq7 : 0 = ((M.chkT s).1).capture := rp_ hE
  have hq8 : 0 = ((M.chkT s).1).slam := rp_ hE
  have hq9 : [] = (M.chkT s).2.1 := rp_ hE
  have hq10 : 5 = (M.chkT s).2.2 := rp_ hE
  refine zS <| Qb ?_
  refine zw 0 rfl rfl rfl ?_
  refine Qa rfl <| Qa rfl <| JL.nil ?_
  exact zro (Up.refl _ _)
 have h200 : ¬ 200 < s.length := by have := h2'; omega
 have hsl := M.split_len 32 s
 refine Js.skip <| zS <| zbs fun b3 => ?_
 refine JL.e (e_mapNewS) ?_
 rintro _ _ _ ⟨b5, rfl, rfl, rfl⟩ _
 refine znl ?_
 refine Qb ?_
 refine zb rfl fun b6 => Qa rfl <| zN <| Qa rfl <| zJ <| zS <| Qm rfl <| zp rfl (fun w hw => c_impl_parts s) ?_
 intro u7 x7 A8 c8 h8 bl8 bh8
 refine Qz rfl <| Qm rfl <| JL.nil <| Js.block ?_
 refine zl [0, 2, 5, 18, 19] (fun F U l os u m => ∃ (j k : Nat) (a : Int) (r : M.Rul) (qs : List M.Prb) (g : List (List UInt8 × Int)) (A9_5_9 : Option Addr) (c9_5_9 : Nat) (g9_5_9 : List Nat), l = F [(6, .int .i64 a), (20, .int .i64 (j : Int))] ∧ os = U [some (boxO b6 [.int .i64 r.pits, .int .i64 r.seeds, .bool r.stores, .bool r.skip, .bool r.relay, .bool r.feed, .bool r.again, .int .i64 r.capture, .int .i64 r.slam, .slice A9_5_9 qs.length c9_5_9, .map (some b5)] 195), some (mapS b5 g), some (rowO 190 3 (.slice A9_5_9 qs.length c9_5_9) qs.length (fltV vcProblem qs) g9_5_9)] ∧ (M.RelC ⟨r, qs, g⟩ (M.chkN s k)) ∧ (M.PtI s j a k) ∧ (j ≤ (M.split 32 s).length) ∧ (k ≤ (M.wds s).length) ∧ (qs.length ≤ c9_5_9) ∧ (c9_5_9 ≤ 9223372036854775807) ∧ m = (M.split 32 s).length - j) ⟨0, 0, 0, M.Rul.zero, [], [], _, _, _, rfl, rfl, by exact M.RelC.zero, by exact M.PtI.zero s, zt, by omega, zu, zu, rfl⟩ ?_
 rintro _ _ u9 _ ⟨j, k, a, r, qs, g, A9_5_9, c9_5_9, g9_5_9, rfl, rfl, hR, hP, hj, hk, f9_4, f9_5, rfl⟩ x9
 refine zn ?_
 have hq9 := hR.plen
 dsimp only at hq9
 have ha9 := hP.a0
 have hwl := M.wds_len s
 have hsl := M.split_len 32 s
 refine zS <| Ql rfl rfl <| zJ ?_
 refine zi (fun h10 h10' => ?_) fun h10 h10' => ?_
 ·
  obtain ⟨ye11, hye11⟩ : ∃ x, (M.split 32 s)[j]? = some x := ⟨_, List.getElem?_eq_getElem (by omega)⟩
  have hY : (M.split 32 s)[j]? = some ye11 := hye11
  have hyl := M.split_mem 32 s ye11 (List.mem_of_getElem? hY)
  have hy12 := hye11
  obtain ⟨b12, o12, he12, hc12⟩ := strs_elem (Ty.mono _ h8 x9.vis) hy12
  refine Js.skip <| Js.seq <| Js.block <| zS <| Qq (p_indexAddr el_72 rfl rfl (by omega) (by omega) he12) <| QC hc12 rfl <| Qa rfl <| zJ <| zS <| Qm rfl <| Qq (p_neqT und_9 rfl rfl) <| JL.nil ?_
  refine zi (fun h13 h13' => ?_) fun h13 h13' => ?_
  ·
   obtain ⟨hP2, hw2, hp2⟩ := hP.word' hY (by simpa using h13)
   have hR2 := M.rel_word hR hw2 hp2
   have hkl := (List.getElem?_eq_some_iff.1 hw2).1
   refine Js.region <| Qm rfl <| Qm rfl <| Qm rfl ?_
   refine zhl [0, 1, 0] ?_
   refine zB 3 sp_ rfl (fun w hb hw => c_impl_ruleReader_word r qs g a ye11 hb (ok_ hw)) ?_
   rintro _ _ G14 ⟨A14x_9, c14x_9, g14x_9, rfl, rfl, bl14_0, bl14_1⟩
   refine znl ?_
   refine zG <| Qm rfl <| Qm rfl <| Qq (p_lenS und_9 rfl) <| Qp rfl rfl <| Qp rfl rfl <| Qa rfl <| JL.nil <| Js.blockEnd <| Js.region <| Qp rfl rfl <| Qm rfl <| JL.nil ?_
   refine zd [0, 1, 0, 1] rfl fun u15 x15 => ?_
   exact zag ⟨j + 1, k + 1, a + ((ye11.length : Int) + 1), ((M.rdW (M.Rdr.mk r qs g) a ye11).rules), (M.rdW (M.Rdr.mk r qs g) a ye11).problems, (M.rdW (M.Rdr.mk r qs g) a ye11).given, _, _, _, rfl, rfl, by first | exact hR2 | exact hR, by exact hP2, zt, by omega, zu, zu, rfl⟩ (x9.trans x15)
  have hP2 := hP.blank' hY (by simpa using h13)
  refine Js.skip <| Js.region <| Qm rfl <| Qm rfl <| Qq (p_lenS und_9 rfl) <| Qp rfl rfl <| Qp rfl rfl <| Qa rfl <| JL.nil <| Js.blockEnd <| Js.region <| Qp rfl rfl <| Qm rfl <| JL.nil ?_
  exact zag ⟨j + 1, k, a + ((ye11.length : Int) + 1), r, qs, g, _, _, _, rfl, rfl, by first | exact hR2 | exact hR, by exact hP2, zt, by omega, zu, zu, rfl⟩ x9
 have hA := M.rel_done hR hP (by have := h10'; omega) hk
 have hq9 := hR.plen
 dsimp only at hq9
 have hwl := M.wds_len s
 have hml := M.mis_len g (s.length : Int)
 refine zx ?_
 refine zS <| Qm rfl <| Qm rfl <| Qq (p_lenS und_9 rfl) ?_
 refine zhl [0, 1, 0] ?_
 refine zB 3 sp_ rfl (fun w hb hw => c_impl_ruleReader_missing r qs g (s.length : Int) hb) ?_
 rintro _ _ G16 ⟨A16x_9, c16x_9, g16x_9, rfl, rfl, bl16_0, bl16_1⟩
 refine znl ?_
 refine zJ <| zS <| Qm rfl <| Qc rfl <| Qf fh rfl <| Q0 0 rfl rfl rfl <| Qz rfl <| Qg rfl rfl <| JL.nil ?_
 refine zi (fun h17 h17' => ?_) fun h17 h17' => ?_
 ·
  have hE := M.chkT_p h200 hA (by have := h17'; dsimp only; omega)
  refine Js.seq ?_
  refine zk [2] (fun F U l os u => l = F [(3, .slice A16x_9 ((qs ++ M.mis g (s.length : Int)).length) c16x_9), (4, .int .i64 0)] ∧ os = U []) ?_ ?_
  ·
   refine zdr [5] ?_
   refine JH.p 0 rfl (q_bld) ?_
   refine jM 1 rfl rfl ?_
   refine jN 2 rfl rfl ?_
   refine jF 3 fld_195_1 rfl rfl ?_
   refine y2 4 5 ?_ ?_
   ·
    refine JHo.q rfl (q_load1 ty_131.h rfl (Mem.box (i := 0) rfl rfl)) ?_
    refine y1 5 ?_
    refine yst rfl rfl rfl ?_
    refine jA 6 rfl rfl ?_
    refine jA 7 rfl rfl ?_
    refine yd ?_
    exact zm ⟨rfl, rfl⟩ (Up.refl _ _)
   refine yst rfl rfl rfl ?_
   refine y1 4 ?_
   refine JHo.q rfl (q_load1 ty_131.h rfl (Mem.box (i := 0) rfl rfl)) ?_
   refine jA 6 rfl rfl ?_
   refine jA 7 rfl rfl ?_
   refine yd ?_
   exact zm ⟨rfl, rfl⟩ (Up.refl _ _)
  rintro _ _ u18 ⟨rfl, rfl⟩ x18
  refine zn ?_
  have hq0 : 0 = ((M.chkT s).1).pits := rp_ hE
  have hq1 : 0 = ((M.chkT s).1).seeds := rp_ hE
  have hq2 : false = ((M.chkT s).1).stores := rp_ hE
  have hq3 : false = ((M.chkT s).1).skip := rp_ hE
  have hq4 : false = ((M.chkT s).1).relay := rp_ hE
  have hq5 : false = ((M.chkT s).1).feed := rp_ hE
  have hq6 : false = ((M.chkT s).1).again := rp_ hE
  have hq7 : 0 = ((M.chkT s).1).capture := rp_ hE
  have hq8 : 0 = ((M.chkT s).1).slam := rp_ hE
  have hq9 : (qs ++ M.mis g (s.length : Int)) = (M.chkT s).2.1 := rp_ hE
  have hq10 : 0 = (M.chkT s).2.2 := rp_ hE
  exact zro ((x7.trans x9).trans x18) (g := by exact (gv_tup (gvc gv_ (gvc (gv_flat lProblem (xs := (qs ++ M.mis g (s.length : Int))) po_ (by first | rfl | (simp [fltV]; done)) (by first | with_reducible rfl | assumption | rfl)) (gvc gv_ gvn)))))
 have hE := M.chkT_n h200 hA (by have := h17'; dsimp only; omega)
 refine Js.skip <| Js.seq ?_
 refine zk [2] (fun F U l os u => l = F [(3, .slice A16x_9 ((qs ++ M.mis g (s.length : Int)).length) c16x_9), (4, .int .i64 0)] ∧ os = U [nO, nO, nO, nO, some (boxO b1 [.int .i64 r.pits, .int .i64 r.seeds, .bool r.stores, .bool r.skip, .bool r.relay, .bool r.feed, .bool r.again, .int .i64 r.capture, .int .i64 r.slam] 29)]) ?_ ?_
 ·
  refine zdr [8] ?_
  refine jM 0 rfl rfl ?_
  refine jN 1 rfl rfl ?_
  refine jF 2 fld_195_0 rfl rfl ?_
  refine JH.q 3 rfl (L9 0 rfl rfl) ?_
  refine jM 4 rfl rfl ?_
  refine jN 5 rfl rfl ?_
  refine jF 6 fld_195_1 rfl rfl ?_
  refine y2 7 8 ?_ ?_
  ·
   refine JHo.q rfl (q_load1 ty_131.h rfl (Mem.box (i := 0) rfl rfl)) ?_
   refine y1 8 ?_
   refine yst rfl rfl rfl ?_
   refine jA 9 rfl rfl ?_
   refine jA 10 rfl rfl ?_
   refine yd ?_
   exact zm ⟨rfl, rfl⟩ (Up.refl _ _)
  refine yst rfl rfl rfl ?_
  refine y1 7 ?_
  refine JHo.q rfl (q_load1 ty_131.h rfl (Mem.box (i := 0) rfl rfl)) ?_
  refine jA 9 rfl rfl ?_
  refine jA 10 rfl rfl ?_
  refine yd ?_
  exact zm ⟨rfl, rfl⟩ (Up.refl _ _)
 rintro _ _ u19 ⟨rfl, rfl⟩ x19
 refine zn ?_
 have hq0 : r.pits = ((M.chkT s).1).pits := rp_ hE
 have hq1 : r.seeds = ((M.chkT s).1).seeds := rp_ hE
 have hq2 : r.stores = ((M.chkT s).1).stores := rp_ hE
 have hq3 : r.skip = ((M.chkT s).1).skip := rp_ hE
 have hq4 : r.relay = ((M.chkT s).1).relay := rp_ hE
 have hq5 : r.feed = ((M.chkT s).1).feed := rp_ hE
 have hq6 : r.again = ((M.chkT s).1).again := rp_ hE
 have hq7 : r.capture = ((M.chkT s).1).capture := rp_ hE
 have hq8 : r.slam = ((M.chkT s).1).slam := rp_ hE
 have hq9 : (qs ++ M.mis g (s.length : Int)) = (M.chkT s).2.1 := rp_ hE
 have hq10 : 0 = (M.chkT s).2.2 := rp_ hE
 exact zro ((x7.trans x9).trans x19) (g := by exact (gv_tup (gvc gv_ (gvc (gv_flat lProblem (xs := (qs ++ M.mis g (s.length : Int))) po_ (by first | rfl | (simp [fltV]; done)) (by first | with_reducible rfl | assumption | rfl)) (gvc gv_ gvn)))))
theorem c_impl_ReadRules (s : List UInt8) {w : World} (h_tab : tabT.ok w undef) (r0 : s.length ≤ 4194304 := by exact om_) : Ret Tryz.prog 41 [.string (sB s)] w (Ty.tup [Ty.agg (cRules ((M.readR s).1)), Ty.bool ((M.readR s).2)]) := by
 have hcl := M.chkT_len s
 refine enter @Tryz.func41 @Tryz.ntmps41 rfl rfl ?_
 refine zent ?_
 refine zS <| za zeh fun b1 => Qa rfl <| zN <| Qm rfl <| zcs rfl (fun w hw => c_impl_CheckRules s (ok_ hw)) ?_
 intro f3 A4 c4 bl4 bh4
 refine Qm rfl <| Qx rfl rfl <| Qx rfl rfl <| Qx rfl rfl <| za zeh fun b5 => zw 0 rfl rfl rfl ?_
 refine Qa rfl <| Qa rfl <| zJ <| zS <| Qm rfl <| Qd rfl rfl <| Qm rfl <| zg (Gd.f1 rfl rfl rfl) (fun hc => p_move rfl) <| zg (Gd.f1 rfl rfl rfl) (fun hc => p_len el_131 (gh hc rfl)) <| zg (Gd.f1 rfl rfl rfl) (fun hc => p_gtr (gh hc rfl) rfl) <| Qq (p_pickOr rfl rfl rfl) <| Qm rfl <| zgq (Gd.f1 rfl rfl rfl) (fun hc => L9 0 rfl rfl) <| zgv (Gd.f1 rfl rfl rfl) (fun hc => (opds_1 (gh hc rfl))) (fun hc => (fun w hw => c_impl_RulesText ((M.chkT s).1) (ok_ hw) (ok_ hw))) ?_
 refine zg (Gd.f1 rfl rfl rfl) (fun hc => p_move rfl) <| zg (Gd.f1 rfl rfl rfl) (fun hc => p_neqT und_9 (gh hc rfl) (gh hc rfl)) <| Qq (p_pickOr rfl rfl rfl) <| JL.nil ?_
 refine zi (fun h6 h6' => ?_) fun h6 h6' => ?_
 ·
  have hE := M.readR_n (s := s) (by have h9 := h6; simp only [Bool.or_eq_true, Bool.not_eq_true', decide_eq_true_eq, decide_eq_false_iff_not] at h9; rintro ⟨a, b, c⟩; rcases h9 with (h9 | h9) | h9; exact h9 a; (rw [b] at h9; exact absurd h9 (by decide)); exact h9 c)
  have hq0 : 0 = ((M.readR s).1).pits := rp_ hE
  have hq1 : 0 = ((M.readR s).1).seeds := rp_ hE
  have hq2 : false = ((M.readR s).1).stores := rp_ hE
  have hq3 : false = ((M.readR s).1).skip := rp_ hE
  have hq4 : false = ((M.readR s).1).relay := rp_ hE
  have hq5 : false = ((M.readR s).1).feed := rp_ hE
  have hq6 : false = ((M.readR s).1).again := rp_ hE
  have hq7 : 0 = ((M.readR s).1).capture := rp_ hE
  have hq8 : 0 = ((M.readR s).1).slam := rp_ hE
  have hq9 : false = (M.readR s).2 := rp_ hE
  refine zS <| Qb ?_
  refine zw 3 rfl rfl rfl ?_
  refine Qa rfl <| JL.nil ?_
  exact zro (Up.refl _ _)
 have h8 : (M.chkT s).2.2 = 0 ∧ (M.chkT s).2.1 = [] ∧ M.rulesTR (M.chkT s).1 = s := by have h9 := h6; simp only [Bool.or_eq_false_iff, Bool.not_eq_false', decide_eq_true_eq, decide_eq_false_iff_not] at h9; exact ⟨h9.1.1, List.length_eq_zero_iff.1 (by have := h9.1.2; omega), h9.2⟩
 have hE := M.readR_y h8.1 h8.2.1 h8.2.2
 have hq0 : (((M.chkT s).1).pits) = ((M.readR s).1).pits := rp_ hE
 have hq1 : (((M.chkT s).1).seeds) = ((M.readR s).1).seeds := rp_ hE
 have hq2 : (((M.chkT s).1).stores) = ((M.readR s).1).stores := rp_ hE
 have hq3 : (((M.chkT s).1).skip) = ((M.readR s).1).skip := rp_ hE
 have hq4 : (((M.chkT s).1).relay) = ((M.readR s).1).relay := rp_ hE
 have hq5 : (((M.chkT s).1).feed) = ((M.readR s).1).feed := rp_ hE
 have hq6 : (((M.chkT s).1).again) = ((M.readR s).1).again := rp_ hE
 have hq7 : (((M.chkT s).1).capture) = ((M.readR s).1).capture := rp_ hE
 have hq8 : (((M.chkT s).1).slam) = ((M.readR s).1).slam := rp_ hE
 have hq9 : true = (M.readR s).2 := rp_ hE
 refine Js.skip <| zS <| Q9 0 rfl rfl ?_
 refine zw 3 rfl rfl rfl ?_
 refine Qa rfl <| JL.nil ?_
 exact zro (Up.refl _ _)
theorem c_impl_textLines (s : List UInt8) {w : World} (h_tab : tabT.ok w undef) (r0 : s.length ≤ 2000000 := by exact om_) : Ret Tryz.prog 40 [.string (sB s)] w (Ty.tup [Ty.strs 9 ((M.textL s).1), Ty.bool ((M.textL s).2)]) := by
 refine enter @Tryz.func40 @Tryz.ntmps40 rfl rfl ?_
 refine zent ?_
 refine zS <| Qa rfl <| Qa rfl <| zN <| zbs fun b1 => ?_
 refine Qa rfl <| zJ <| Js.block ?_
 refine zl [] (fun F U l os u m => ∃ (cur : List UInt8) (out : List (List UInt8)) (A3_4 : Option Addr) (c3_4 : Nat) (g3_4 : List Nat), l = F [(0, .string (sB cur)), (4, .slice A3_4 out.length c3_4)] ∧ os = U [some (rowO 9 1 (.slice A3_4 out.length c3_4) out.length (txs_ out) g3_4)] ∧ (M.LinI s cur out true) ∧ (cur.length ≤ s.length) ∧ (out.length ≤ c3_4) ∧ (c3_4 ≤ 9223372036854775807) ∧ m = cur.length) ⟨s, [], _, _, _, rfl, rfl, by exact M.LinI.zero s, by exact Nat.le_refl _, zu, zu, rfl⟩ ?_
 rintro _ _ u3 _ ⟨cur, out, A3_4, c3_4, g3_4, rfl, rfl, hL, hl, f3_2, f3_3, rfl⟩ x3
 refine zn ?_
 have hol := hL.len
 have hcl := M.cutS_len cur [10]
 refine Js.seq <| zS <| Qm rfl <| Qq (p_neqT und_9 rfl rfl) <| JL.nil ?_
 refine zi (fun h4 h4' => ?_) fun h4 h4' => ?_
 ·
  have hne : cur ≠ [] := by simpa using h4
  have hcp := List.length_pos_iff.2 hne
  refine Js.skip <| Js.block <| zS <| Qm rfl <| zv rfl (fun w hw => c_impl_cut cur ([10] : List UInt8)) <| Qm rfl <| Qx rfl rfl <| Qx rfl rfl <| Qx rfl rfl <| Qa rfl <| Qa rfl <| Qa rfl <| zJ <| zS ?_
  refine Qm rfl <| Qt rfl <| JL.nil ?_
  refine zi (fun h5 h5' => ?_) fun h5 h5' => ?_
  ·
   have hE := M.textL_n hL (by simpa using h5) hne
   have hq0 : [] = (M.textL s).1 := rp_ hE
   have hq1 : false = (M.textL s).2 := rp_ hE
   refine zS <| Qa rfl <| Qa rfl <| JL.nil ?_
   exact zro x3 (g := by exact (gv_tup (gvc (gv_strsN (by first | rfl | assumption)) (gvc gv_ gvn))))
  have hc9 : (M.cutS cur [10]).2.2 = true := by simpa using h5
  have hL2 := hL.more hc9
  have hc8 := (M.recL_more hc9).2.2
  refine Js.skip <| zS <| Qm rfl <| Qm rfl <| zbs fun b6 => ?_
  refine JL.e (e_append (i := 1) (n' := (out ++ ([(M.cutS cur ([10] : List UInt8)).1])).length) (vs' := txs_ (out ++ ([(M.cutS cur ([10] : List UInt8)).1]))) el_72 rfl rfl rfl rfl (src_row (i := 0) und_72 rfl rfl) (by omega) (by omega) ln2_ (by first | rfl | (simp [txs_]; done))) ?_
  rintro v8 _ _ ⟨⟨g9, rfl⟩, rfl⟩ _
  refine JL.fact (row_form' (i := 1) rfl) (fun hf10 => ?_)
  obtain ⟨A10, c10, rfl, bl10, bh10⟩ := hf10
  refine znl ?_
  refine Qa rfl <| zG <| Qm rfl <| Qa rfl <| JL.nil <| Js.blockEnd ?_
  refine zd [1] rfl fun u11 x11 => ?_
  exact zag ⟨(M.cutS cur ([10] : List UInt8)).2.1, out ++ ([(M.cutS cur ([10] : List UInt8)).1]), _, _, _, rfl, rfl, by exact hL2, by omega, zu, zu, rfl⟩ (x3.trans x11) (by omega)
 have hcur : cur = [] := by simpa using h4
 rw [hcur] at hL
 have hE := M.textL_y hL
 have hol := hL.len
 refine zx ?_
 have hq0 : out = (M.textL s).1 := rp_ hE
 have hq1 : true = (M.textL s).2 := rp_ hE
 refine zS <| Qm rfl <| Qa rfl <| Qa rfl <| JL.nil ?_
 exact zro x3 (g := by exact (gv_tup (gvc (gv_strsE (ys := out) po_ (by assumption) (by rfl)) (gvc gv_ gvn))))
theorem c_impl_readChoice (s : List UInt8) {w : World} (h_tab : tabT.ok w undef) (r0 : s.length ≤ 2000000 := by exact om_) : Ret Tryz.prog 44 [.string (sB s)] w (Ty.tup [Ty.agg (cChoice ((M.chI s).1)), Ty.bool ((M.chI s).2)]) := by
 have hc1 := M.cutS_len s [47]
 have hc2 := M.cutS_len (M.cutS s [47]).2.1 [47]
 refine enter @Tryz.func44 @Tryz.ntmps44 rfl rfl ?_
 refine zent ?_
 have hq0 : ((M.num ((M.cutS s ([47] : List UInt8)).1)).1) = ((M.chI s).1).move := by first | rfl | (simp [M.chI]; done)
 have hq1 : ((M.num ((M.cutS ((M.cutS s ([47] : List UInt8)).2.1) ([47] : List UInt8)).1)).1) = ((M.chI s).1).games := by first | rfl | (simp [M.chI]; done)
 have hq2 : ((M.num ((M.cutS ((M.cutS s ([47] : List UInt8)).2.1) ([47] : List UInt8)).2.1)).1) = ((M.chI s).1).score := by first | rfl | (simp [M.chI]; done)
 have hq3 : ((((((M.cutS s ([47] : List UInt8)).2.2) && ((M.cutS ((M.cutS s ([47] : List UInt8)).2.1) ([47] : List UInt8)).2.2)) && ((M.num ((M.cutS s ([47] : List UInt8)).1)).2)) && ((M.num ((M.cutS ((M.cutS s ([47] : List UInt8)).2.1) ([47] : List UInt8)).1)).2)) && ((M.num ((M.cutS ((M.cutS s ([47] : List UInt8)).2.1) ([47] : List UInt8)).2.1)).2)) = (M.chI s).2 := by first | rfl | (simp [M.chI]; done)
 refine zS <| za zeh fun b1 => Qa rfl <| zN <| Qm rfl <| zv rfl (fun w hw => c_impl_cut s ([47] : List UInt8)) <| Qm rfl <| Qx rfl rfl <| Qx rfl rfl <| Qx rfl rfl <| Qa rfl <| Qa rfl <| Qa rfl <| zN ?_
 refine Qm rfl <| zv rfl (fun w hw => c_impl_cut ((M.cutS s ([47] : List UInt8)).2.1) ([47] : List UInt8)) <| Qm rfl <| Qx rfl rfl <| Qx rfl rfl <| Qx rfl rfl <| Qa rfl <| Qa rfl <| Qa rfl <| zN <| Qm rfl <| zv rfl (fun w hw => c_impl_ReadDecimal ((M.cutS s ([47] : List UInt8)).1) (ok_ hw)) <| Qm rfl <| Qx rfl rfl ?_
 refine Qx rfl rfl <| Qa rfl <| Qa rfl <| zN <| Qm rfl <| zv rfl (fun w hw => c_impl_ReadDecimal ((M.cutS ((M.cutS s ([47] : List UInt8)).2.1) ([47] : List UInt8)).1) (ok_ hw)) <| Qm rfl <| Qx rfl rfl <| Qx rfl rfl <| Qa rfl <| Qa rfl <| zN <| Qm rfl <| zv rfl (fun w hw => c_impl_ReadDecimal ((M.cutS ((M.cutS s ([47] : List UInt8)).2.1) ([47] : List UInt8)).2.1) (ok_ hw)) ?_
 refine Qm rfl <| Qx rfl rfl <| Qx rfl rfl <| Qa rfl <| Qa rfl <| zN <| Qm rfl <| Qm rfl <| Qm rfl <| Qb ?_
 refine Qm rfl <| Qm rfl <| zg (Gd.t1 rfl rfl rfl) (fun hc => p_move rfl) <| Qq (p_pickAnd rfl rfl rfl) <| Qm rfl <| zg (Gd.t1 rfl rfl rfl) (fun hc => p_move rfl) <| Qq (p_pickAnd rfl rfl rfl) <| Qm rfl <| zg (Gd.t1 rfl rfl rfl) (fun hc => p_move rfl) <| Qq (p_pickAnd rfl rfl rfl) <| Qm rfl <| zg (Gd.t1 rfl rfl rfl) (fun hc => p_move rfl) <| Qq (p_pickAnd rfl rfl rfl) <| zw 0 rfl rfl rfl ?_
 refine Qa rfl <| JL.nil ?_
 exact zro (Up.refl _ _)
theorem c_impl_ReadBook (s : List UInt8) {w : World} (h_tab : tabT.ok w undef) (r0 : s.length ≤ 2000000 := by exact om_) : Ret Tryz.prog 12 [.string (sB s)] w (Ty.tup [Ty.agg (cBook ((M.readB s).1)), Ty.bool ((M.readB s).2)]) := by
 refine enter @Tryz.func12 @Tryz.ntmps12 rfl rfl ?_
 refine zent ?_
 have htl := M.textL_len s
 have htm := M.textL_mem s
 refine zS <| za zeh fun b1 => Qa rfl <| zN <| Qm rfl <| zp rfl (fun w hw => c_impl_textLines s (ok_ hw)) ?_
 intro u2 x2 A3 c3 h3 bl3 bh3
 refine Qm rfl <| Qx rfl rfl <| Qx rfl rfl <| Qa rfl <| Qa rfl <| zJ <| zS <| Qm rfl <| Qt rfl <| Qm rfl <| zg (Gd.f1 rfl rfl rfl) (fun hc => p_move rfl) <| zg (Gd.f1 rfl rfl rfl) (fun hc => p_len el_72 (gh hc rfl)) <| zg (Gd.f1 rfl rfl rfl) (fun hc => p_eql (gh hc rfl) rfl) <| Qq (p_pickOr rfl rfl rfl) ?_
 refine JL.nil ?_
 refine zi (fun h4 h4' => ?_) fun h4 h4' => ?_
 ·
  have hE := M.readB_t (s := s) (by have h9 := h4; simp at h9; first | exact h9 | exact h9.imp id (fun h => by simp [h]))
  have hq0 : 0 = (((M.readB s).1).rules).pits := rp_ hE
  have hq1 : 0 = (((M.readB s).1).rules).seeds := rp_ hE
  have hq2 : false = (((M.readB s).1).rules).stores := rp_ hE
  have hq3 : false = (((M.readB s).1).rules).skip := rp_ hE
  have hq4 : false = (((M.readB s).1).rules).relay := rp_ hE
  have hq5 : false = (((M.readB s).1).rules).feed := rp_ hE
  have hq6 : false = (((M.readB s).1).rules).again := rp_ hE
  have hq7 : 0 = (((M.readB s).1).rules).capture := rp_ hE
  have hq8 : 0 = (((M.readB s).1).rules).slam := rp_ hE
  have hq9 : [] = ((M.readB s).1).entries := rp_ hE
  have hq10 : false = (M.readB s).2 := rp_ hE
  refine zS <| Qb ?_
  refine zw 0 rfl rfl rfl ?_
  refine Qa rfl <| JL.nil ?_
  exact zro x2
 obtain ⟨ht1, ht2⟩ : (M.textL s).2 = true ∧ ¬ (M.textL s).1.length = 0 := by have h9 := h4; simp at h9; exact ⟨h9.1, by first | exact h9.2 | (simpa using h9.2) | (have := h9.2; omega)⟩
 obtain ⟨hw1, hw2, hw3, hw4, hw5⟩ := M.textL_1 ht1 ht2
 obtain ⟨ye5, hye5⟩ : ∃ x, ((M.textL s).1)[0]? = some x := ⟨_, List.getElem?_eq_getElem (by omega)⟩
 have hy0 : M.hd0 s = ye5 := (Option.some.inj (hye5.symm.trans hw5)).symm
 have hm0 := htm _ (List.mem_of_getElem? hye5)
 have hy6 := hye5
 obtain ⟨b6, o6, he6, hc6⟩ := strs_elem h3 hy6
 refine Js.skip <| zS <| Qm rfl <| Qq (p_indexAddr el_72 rfl rfl (by omega) (by omega) he6) <| QC hc6 rfl <| zc rfl (fun w hw => c_impl_ReadRules ye5 (ok_ hw)) <| Qm rfl <| Qx rfl rfl <| Qx rfl rfl <| za zeh fun b9 => zw 0 rfl rfl rfl ?_
 refine Qa rfl <| zJ <| zS <| Qm rfl <| Qt rfl <| JL.nil ?_
 refine zi (fun h10 h10' => ?_) fun h10 h10' => ?_
 ·
  have hE := M.readB_r (s := s) (by rw [hy0]; simpa using h10)
  have hq0 : 0 = (((M.readB s).1).rules).pits := rp_ hE
  have hq1 : 0 = (((M.readB s).1).rules).seeds := rp_ hE
  have hq2 : false = (((M.readB s).1).rules).stores := rp_ hE
  have hq3 : false = (((M.readB s).1).rules).skip := rp_ hE
  have hq4 : false = (((M.readB s).1).rules).relay := rp_ hE
  have hq5 : false = (((M.readB s).1).rules).feed := rp_ hE
  have hq6 : false = (((M.readB s).1).rules).again := rp_ hE
  have hq7 : 0 = (((M.readB s).1).rules).capture := rp_ hE
  have hq8 : 0 = (((M.readB s).1).rules).slam := rp_ hE
  have hq9 : [] = ((M.readB s).1).entries := rp_ hE
  have hq10 : false = (M.readB s).2 := rp_ hE
  refine zS <| Qb ?_
  refine zw 1 rfl rfl rfl ?_
  refine Qa rfl <| JL.nil ?_
  exact zro x2
 have hR : (M.readR (M.hd0 s)).2 = true := by rw [hy0]; simpa using h10
 have hl12 : (((M.textL s).1).drop 1).length = ((M.textL s).1).length - 1 := by rw [List.length_drop]
 have hs12 := strs_drop (a := 1) h3 (by omega) (by omega) hl12
 refine Js.skip <| zS <| Q9 0 rfl rfl ?_
 refine Qb ?_
 refine za zeh fun b11 => zw 0 rfl rfl rfl ?_
 refine zJ <| zS <| Qm rfl <| Qq (p_cast (v' := .slice (cutA 1 A3 1 c3) ((((M.textL s).1).drop 1).length) (c3 - 1)) (p_slice (lo' := 1) (hi' := ((M.textL s).1).length) (mx' := c3) el_72 rfl rfl ⟨rfl, rfl⟩ ⟨_, rfl, by omega⟩) (by rw [hl12])) <| Qz rfl <| Qm rfl <| JL.nil <| Js.block ?_
 refine Js.conv (fun w hw => St.nilRowS 67 2 hw) ?_
 refine Js.vals (Ts := lBookEntry []) (vs := []) (fun w => rfl) ?_
 refine zl [0, 2, 8, 45, 46] (fun F U l os u m => ∃ (k : Nat) (acc : List M.Ent) (A13_8_9 : Option Addr) (c13_8_9 : Nat) (g13_8_9 : List Nat) (vs13_8_9 : List Value) (fl13_8_9 : List Nat), l = F [(47, .int .i64 (k : Int))] ∧ os = U [some (ownC (lBookEntry acc) vs13_8_9 fl13_8_9), some (rowO 67 2 (.slice A13_8_9 acc.length c13_8_9) acc.length vs13_8_9 g13_8_9), some (boxO b11 [.int .i64 (((M.readR ye5).1).pits), .int .i64 (((M.readR ye5).1).seeds), .bool (((M.readR ye5).1).stores), .bool (((M.readR ye5).1).skip), .bool (((M.readR ye5).1).relay), .bool (((M.readR ye5).1).feed), .bool (((M.readR ye5).1).again), .int .i64 (((M.readR ye5).1).capture), .int .i64 (((M.readR ye5).1).slam), .slice A13_8_9 acc.length c13_8_9] 32)] ∧ (M.GbI (((M.textL s).1).drop 1) k acc) ∧ (k ≤ (((M.textL s).1).drop 1).length) ∧ (M.SzR 2000100 acc) ∧ (acc.length ≤ c13_8_9) ∧ (c13_8_9 ≤ 9223372036854775807) ∧ m = (((M.textL s).1).drop 1).length - k) ⟨0, [], _, _, _, _, _, rfl, rfl, by exact M.GbI.zero _, zt, by exact M.SzR.nil _, zu, zu, rfl⟩ ?_
 rintro _ _ u13 _ ⟨k, acc, A13_8_9, c13_8_9, g13_8_9, vs13_8_9, fl13_8_9, rfl, rfl, hG, hk, hSz, f13_3, f13_4, rfl⟩ x13
 refine zn ?_
 have hgn := hG.n
 refine zS <| Ql rfl rfl <| zJ ?_
 refine zi (fun h14 h14' => ?_) fun h14 h14' => ?_
 ·
  have hkk : k < (((M.textL s).1).drop 1).length := by have := h14'; omega
  obtain ⟨ye15, hye15⟩ : ∃ x, (((M.textL s).1).drop 1)[k]? = some x := ⟨_, List.getElem?_eq_getElem (by omega)⟩
  have hm1 := htm _ (List.mem_of_mem_drop (List.mem_of_getElem? hye15))
  have hsp := M.split_p 32 ye15
  have hsl := M.split_len 32 ye15
  have hy16 := hye15
  obtain ⟨b16, o16, he16, hc16⟩ := strs_elem (Ty.mono _ hs12 x13.vis) hy16
  refine Js.skip <| Js.seq <| Js.block <| zS <| Qq (p_indexAddr el_72 rfl rfl (by omega) (by omega) he16) <| QC hc16 rfl <| Qa rfl <| zN <| Qm rfl <| zp rfl (fun w hw => c_impl_parts ye15) ?_
  intro u17 x17 A18 c18 h18 bl18 bh18
  obtain ⟨ye19, hye19⟩ : ∃ x, (M.split 32 ye15)[0]? = some x := ⟨_, List.getElem?_eq_getElem (by omega)⟩
  have hw0 := M.w0_get hye19
  have hm2 := M.split_mem 32 _ _ (List.mem_of_getElem? hye19)
  have hnl := M.nums_len ye19
  have hy20 := hye19
  obtain ⟨b20, o20, he20, hc20⟩ := strs_elem h18 hy20
  refine Qa rfl <| zN <| Qm rfl <| Qq (p_indexAddr el_72 rfl rfl (by omega) (by omega) he20) <| QC hc20 rfl <| zcs rfl (fun w hw => c_impl_readNumbers ye19 (ok_ hw)) ?_
  intro A22 c22 bl22 bh22
  refine Qm rfl <| Qx rfl rfl <| Qx rfl rfl <| Qa rfl <| Qa rfl <| zJ <| zS <| Qm rfl <| Qt rfl <| JL.nil ?_
  refine zi (fun h23 h23' => ?_) fun h23 h23' => ?_
  ·
   have hbad : (M.lineS ye15).2 = false := by rw [M.lineS_n (by rw [hw0]; simpa using h23)]
   have hgb := hG.bad hye15 hbad
   rw [hw4] at hgb
   have hE := M.readB_g hgb
   have hq0 : 0 = (((M.readB s).1).rules).pits := rp_ hE
   have hq1 : 0 = (((M.readB s).1).rules).seeds := rp_ hE
   have hq2 : false = (((M.readB s).1).rules).stores := rp_ hE
   have hq3 : false = (((M.readB s).1).rules).skip := rp_ hE
   have hq4 : false = (((M.readB s).1).rules).relay := rp_ hE
   have hq5 : false = (((M.readB s).1).rules).feed := rp_ hE
   have hq6 : false = (((M.readB s).1).rules).again := rp_ hE
   have hq7 : 0 = (((M.readB s).1).rules).capture := rp_ hE
   have hq8 : 0 = (((M.readB s).1).rules).slam := rp_ hE
   have hq9 : [] = ((M.readB s).1).entries := rp_ hE
   have hq10 : false = (M.readB s).2 := rp_ hE
   refine zS <| Qb ?_
   refine zw 5 rfl rfl rfl ?_
   refine Qa rfl <| JL.nil ?_
   exact zro ((x2.trans x13).trans x17)
  have hn1 : (M.nums (M.w0 ye15)).2 = true := by rw [hw0]; simpa using h23
  have hl25 : ((M.split 32 ye15).drop 1).length = (M.split 32 ye15).length - 1 := by rw [List.length_drop]
  have hs25 := strs_drop (a := 1) h18 (by omega) (by omega) hl25
  refine Js.skip <| zS <| Qm rfl <| Qb ?_
  refine za zeh fun b24 => zw 0 rfl rfl rfl ?_
  refine zJ <| zS <| Qm rfl <| Qq (p_cast (v' := .slice (cutA 1 A18 1 c18) (((M.split 32 ye15).drop 1).length) (c18 - 1)) (p_slice (lo' := 1) (hi' := (M.split 32 ye15).length) (mx' := c18) el_72 rfl rfl ⟨rfl, rfl⟩ ⟨_, rfl, by omega⟩) (by rw [hl25])) <| Qz rfl <| Qm rfl <| JL.nil <| Js.block ?_
  refine Js.conv (fun w hw => St.nilRowS 58 3 hw) ?_
  refine zl [0, 2, 8, 14, 45, 46, 47, 66, 67] (fun F U l os u m => ∃ (j : Nat) (cs : List M.Cho) (A26_14_1 : Option Addr) (c26_14_1 : Nat) (g26_14_1 : List Nat), l = F [(68, .int .i64 (j : Int))] ∧ os = U [some (rowO 58 3 (.slice A26_14_1 cs.length c26_14_1) cs.length (fltV vcChoice cs) g26_14_1), some (boxO b24 [.slice A22 (((M.nums ye19).1).length) c22, .slice A26_14_1 cs.length c26_14_1] 67)] ∧ (M.GoI ((M.split 32 ye15).drop 1) j cs) ∧ (j ≤ ((M.split 32 ye15).drop 1).length) ∧ (cs.length ≤ c26_14_1) ∧ (c26_14_1 ≤ 9223372036854775807) ∧ m = ((M.split 32 ye15).drop 1).length - j) ⟨0, [], _, _, _, rfl, rfl, by exact M.GoI.zero _, zt, zu, zu, rfl⟩ ?_
  rintro _ _ u26 _ ⟨j, cs, A26_14_1, c26_14_1, g26_14_1, rfl, rfl, hGo, hj, f26_2, f26_3, rfl⟩ x26
  refine zn ?_
  have hcl := hGo.len
  refine zS <| Ql rfl rfl <| zJ ?_
  refine zi (fun h27 h27' => ?_) fun h27 h27' => ?_
  ·
   obtain ⟨ye28, hye28⟩ : ∃ x, ((M.split 32 ye15).drop 1)[j]? = some x := ⟨_, List.getElem?_eq_getElem (by omega)⟩
   have hm3 := M.split_mem 32 _ _ (List.mem_of_mem_drop (List.mem_of_getElem? hye28))
   have hcs := M.ch_same ye28
   have hcb := M.chI_bd ye28
   have hy29 := hye28
   obtain ⟨b29, o29, he29, hc29⟩ := strs_elem (Ty.mono _ hs25 x26.vis) hy29
   refine Js.skip <| Js.seq <| Js.block <| zS <| Qq (p_indexAddr el_72 rfl rfl (by omega) (by omega) he29) <| QC hc29 rfl <| Qa rfl <| zN <| Qm rfl <| zc rfl (fun w hw => c_impl_readChoice ye28 (ok_ hw)) <| Qm rfl <| Qx rfl rfl <| Qx rfl rfl <| za zeh fun b32 => ?_
   refine zw 0 rfl rfl rfl ?_
   refine Qa rfl <| zJ <| zS <| Qm rfl <| Qt rfl <| JL.nil ?_
   refine zi (fun h33 h33' => ?_) fun h33 h33' => ?_
   ·
    have hbad : (M.lineS ye15).2 = false := by rw [M.lineS_y hn1]; exact (hGo.bad hye28 (by rw [← hcs.1]; simpa using h33)).1
    have hgb := hG.bad hye15 hbad
    rw [hw4] at hgb
    have hE := M.readB_g hgb
    have hq0 : 0 = (((M.readB s).1).rules).pits := rp_ hE
    have hq1 : 0 = (((M.readB s).1).rules).seeds := rp_ hE
    have hq2 : false = (((M.readB s).1).rules).stores := rp_ hE
    have hq3 : false = (((M.readB s).1).rules).skip := rp_ hE
    have hq4 : false = (((M.readB s).1).rules).relay := rp_ hE
    have hq5 : false = (((M.readB s).1).rules).feed := rp_ hE
    have hq6 : false = (((M.readB s).1).rules).again := rp_ hE
    have hq7 : 0 = (((M.readB s).1).rules).capture := rp_ hE
    have hq8 : 0 = (((M.readB s).1).rules).slam := rp_ hE
    have hq9 : [] = ((M.readB s).1).entries := rp_ hE
    have hq10 : false = (M.readB s).2 := rp_ hE
    refine zS <| Qb ?_
    refine zw 8 rfl rfl rfl ?_
    refine Qa rfl <| JL.nil ?_
    exact zro (((x2.trans x13).trans x17).trans x26)
   have hgd : (M.chS ye28).2 = true := by rw [← hcs.1]; simpa using h33
   have hG2 := hGo.step hye28 hgd
   rw [← hcs.2 hgd] at hG2
   refine Js.skip <| Js.region <| Qf fh rfl <| Q0 2 rfl rfl rfl <| Q9 0 rfl rfl ?_
   refine zbs fun b34 => ?_
   refine JL.e (e_append (i := 2) (n' := (cs ++ [((M.chI ye28).1)]).length) (vs' := fltV vcChoice (cs ++ [((M.chI ye28).1)])) el_54 rfl rfl rfl rfl (src_row (i := 0) und_54 rfl rfl) (by omega) (by omega) ln2_ (by first | rfl | exact fltV_app _ _ _ | exact fltV_snoc _ _ _ | (simp [fltV]; done))) ?_
   rintro v36 _ _ ⟨⟨g37, rfl⟩, rfl⟩ _
   refine JL.fact (row_form' (i := 2) rfl) (fun hf38 => ?_)
   obtain ⟨A38, c38, rfl, bl38, bh38⟩ := hf38
   refine znl ?_
   refine Qf fh rfl <| zw 3 rfl rfl rfl ?_
   refine JL.nil <| Js.blockEnd <| Js.region <| Qp rfl rfl <| Qm rfl <| JL.nil ?_
   refine zd [2, 2, 2, 2, 2, 2, 2, 2] rfl fun u39 x39 => ?_
   exact zag ⟨j + 1, cs ++ [((M.chI ye28).1)], _, _, _, rfl, rfl, by exact hG2, zt, zu, zu, rfl⟩ (x26.trans x39)
  have hdn := hGo.done (by have := h27'; omega)
  have hls : M.lineS ye15 = (M.Ent.mk (M.nums ye19).1 cs, true) := by rw [M.lineS_y hn1, hdn, hw0]
  have hG3 := hG.step hye15 (by rw [hls])
  rw [hls] at hG3
  have hwl : ((M.split 32 ye15).drop 1).length ≤ (M.split 32 ye15).length := by rw [List.length_drop]; omega
  have hSz2 := hSz.snoc (x := M.Ent.mk (M.nums ye19).1 cs) (by dsimp only; omega) (by dsimp only; omega)
  refine zx ?_
  refine Js.region <| Qf fh rfl <| Q0 5 rfl rfl rfl <| Q9 1 rfl rfl ?_
  refine zbs fun b40 => ?_
  refine JL.e (e_append (i := 5) (n' := (acc ++ [(M.Ent.mk ((M.nums ye19).1) cs)]).length) (vs' := vs13_8_9 ++ [.slice A22 (((M.nums ye19).1).length) c22, .slice A26_14_1 cs.length c26_14_1]) el_30 rfl rfl rfl rfl (src_row (i := 0) und_30 rfl rfl) (by omega) (by omega) ln2_ (rfl)) ?_
  rintro v42 _ _ ⟨⟨g43, rfl⟩, rfl⟩ _
  refine JL.fact (row_form' (i := 5) rfl) (fun hf44 => ?_)
  obtain ⟨A44, c44, rfl, bl44, bh44⟩ := hf44
  refine znl ?_
  refine Qf fh rfl <| zw 6 rfl rfl rfl ?_
  refine JL.nil ?_
  refine Js.pk (cBookEntry (M.Ent.mk ((M.nums ye19).1) cs)) [.slice A22 (((M.nums ye19).1).length) c22, .slice A26_14_1 cs.length c26_14_1] (fun f46 G46 => ?_) (by exact (gv_agg (gvc gv_ (gvc (gv_flat lChoice (xs := cs) po_ (by first | rfl | (simp [fltV]; done)) (by first | with_reducible rfl | assumption | rfl)) gvn))))
  refine zn ?_
  refine Js.joinL (i := 4) (j := 0) (Vs := lBookEntry (acc ++ [(M.Ent.mk ((M.nums ye19).1) cs)])) rfl rfl (lBookEntry_snoc _ _) (fun f47 => ?_)
  refine zn ?_
  refine Js.blockEnd <| Js.region <| Qp rfl rfl <| Qm rfl <| JL.nil ?_
  refine zd [0, 3, 3, 3, 3] rfl fun u48 x48 => ?_
  exact zag ⟨k + 1, acc ++ [(M.Ent.mk ((M.nums ye19).1) cs)], _, _, _, _, _, rfl, rfl, by exact hG3, zt, by exact hSz2, zu, zu, rfl⟩ (((x13.trans x17).trans x26).trans x48)
 have hgb := hG.done (by have := h14'; omega)
 rw [hw4] at hgb
 have hbk : M.bookS s = M.Boo.mk (M.readR ye5).1 acc := by unfold M.bookS; rw [hgb, hy0]
 have hgn := hG.n
 have hld : (((M.textL s).1).drop 1).length ≤ (M.textL s).1.length := by rw [List.length_drop]; omega
 refine zx ?_
 refine Js.seq <| zS <| Q9 2 rfl rfl ?_
 refine zv rfl (fun w hw => c_impl_ValidBook (M.Boo.mk ((M.readR ye5).1) acc) (by exact ⟨_, rfl, ⟨rfl, rfl, rfl, rfl, rfl, rfl, rfl, rfl, rfl, (srow_ok lBookEntry (xs := acc) (hw.pr (i := 1) rfl) (hw.pr (i := 0) rfl) (lBookEntry_length _)), trivial⟩⟩) (r0 := (by dsimp only; omega)) (r1 := (hSz.mono (by omega)))) <| Qt rfl <| Qm rfl <| zgq (Gd.f1 rfl rfl rfl) (fun hc => L9 2 rfl rfl) <| zgv (Gd.f1 rfl rfl rfl) (fun hc => (opds_1 (gh hc rfl))) (fun hc => (fun w hw => c_impl_BookText (M.Boo.mk ((M.readR ye5).1) acc) (by exact ⟨_, rfl, ⟨rfl, rfl, rfl, rfl, rfl, rfl, rfl, rfl, rfl, (srow_ok lBookEntry (xs := acc) (hw.pr (i := 1) rfl) (hw.pr (i := 0) rfl) (lBookEntry_length _)), trivial⟩⟩) (ok_ hw) (r0 := (by dsimp only; omega)) (r1 := (hSz.mono (by omega))))) ?_
 refine zg (Gd.f1 rfl rfl rfl) (fun hc => p_move rfl) <| zg (Gd.f1 rfl rfl rfl) (fun hc => p_neqT und_9 (gh hc rfl) (gh hc rfl)) <| Qq (p_pickOr rfl rfl rfl) <| JL.nil ?_
 refine zi (fun h49 h49' => ?_) fun h49 h49' => ?_
 ·
  have hE : M.readB s = (M.Boo.zero, false) := by cases h5 : M.okB (M.bookS s) with | false => exact M.readB_v h5 | true => (exfalso; have h6 := M.book_text hw1 hw2 hR (by rw [hgb]); rw [hbk] at h5 h6; have h9 := h49; simp [h5, M.booTR_y h5, h6] at h9)
  have hq0 : 0 = (((M.readB s).1).rules).pits := rp_ hE
  have hq1 : 0 = (((M.readB s).1).rules).seeds := rp_ hE
  have hq2 : false = (((M.readB s).1).rules).stores := rp_ hE
  have hq3 : false = (((M.readB s).1).rules).skip := rp_ hE
  have hq4 : false = (((M.readB s).1).rules).relay := rp_ hE
  have hq5 : false = (((M.readB s).1).rules).feed := rp_ hE
  have hq6 : false = (((M.readB s).1).rules).again := rp_ hE
  have hq7 : 0 = (((M.readB s).1).rules).capture := rp_ hE
  have hq8 : 0 = (((M.readB s).1).rules).slam := rp_ hE
  have hq9 : [] = ((M.readB s).1).entries := rp_ hE
  have hq10 : false = (M.readB s).2 := rp_ hE
  refine zS <| Qb ?_
  refine zw 4 rfl rfl rfl ?_
  refine Qa rfl <| JL.nil ?_
  exact zro (x2.trans x13)
 have hok9 : M.okB (M.Boo.mk (M.readR ye5).1 acc) = true := by have h9 := h49; simp at h9; exact h9.1
 have hE := M.readB_y hw1 hw2 hR (by rw [hgb]) (by rw [hbk]; exact hok9)
 rw [hbk] at hE
 have hq0 : (((M.readR ye5).1).pits) = (((M.readB s).1).rules).pits := rp_ hE
 have hq1 : (((M.readR ye5).1).seeds) = (((M.readB s).1).rules).seeds := rp_ hE
 have hq2 : (((M.readR ye5).1).stores) = (((M.readB s).1).rules).stores := rp_ hE
 have hq3 : (((M.readR ye5).1).skip) = (((M.readB s).1).rules).skip := rp_ hE
 have hq4 : (((M.readR ye5).1).relay) = (((M.readB s).1).rules).relay := rp_ hE
 have hq5 : (((M.readR ye5).1).feed) = (((M.readB s).1).rules).feed := rp_ hE
 have hq6 : (((M.readR ye5).1).again) = (((M.readB s).1).rules).again := rp_ hE
 have hq7 : (((M.readR ye5).1).capture) = (((M.readB s).1).rules).capture := rp_ hE
 have hq8 : (((M.readR ye5).1).slam) = (((M.readB s).1).rules).slam := rp_ hE
 have hq9 : acc = ((M.readB s).1).entries := rp_ hE
 have hq10 : true = (M.readB s).2 := rp_ hE
 refine Js.skip <| zS <| Q9 2 rfl rfl ?_
 refine zw 4 rfl rfl rfl ?_
 refine Qa rfl <| JL.nil ?_
 exact zro (x2.trans x13)
end Go.Proofs.YtjklnidbndopiaaGreatDoor

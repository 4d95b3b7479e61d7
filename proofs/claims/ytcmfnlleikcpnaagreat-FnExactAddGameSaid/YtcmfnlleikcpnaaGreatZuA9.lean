/- Walks: L3. -/
import Derived.Test.YtcmfnlleikcpnaaGreatZuA3
import Derived.Test.YtcmfnlleikcpnaaGreatZuA8
import Derived.Test.YtcmfnlleikcpnaaGreatZuA6
set_option linter.unusedSimpArgs false
set_option linter.unusedVariables false
set_option maxRecDepth 100000
attribute [local irreducible] Go.Proofs.YtcmfnlleikcpnaaGreat.gv
namespace Go.Proofs.YtcmfnlleikcpnaaGreat
open Go.RowKit

set_option maxHeartbeats 1000000 in
theorem c_laws_markInt64S (a : List Int) {Aa_0 : Option Addr} {ca_0 : Nat} {ga_0 : List Nat} (k : Int) {w : World} (hb : Bw w [rowO 2 1 (.slice Aa_0 a.length ca_0) a.length (ints_ a) ga_0]) (bd0 : a.length ≤ ca_0 := by exact om_) (bd1 : ca_0 ≤ 9223372036854775807 := by exact om_) (r0 : a.length ≤ 4194304 := by exact om_) (r1 : 0 ≤ k := by exact om_) (r2 : k ≤ 100000000 := by exact om_) : RetB Tryz.prog 19 [.slice Aa_0 a.length ca_0, .int .i64 k] w [rowO 2 1 (.slice Aa_0 a.length ca_0) a.length (ints_ a) ga_0] (fun v bs' => v = .int .i64 (k + (a.length : Int)) ∧ bs' = [rowO 2 1 (.slice Aa_0 a.length ca_0) a.length (ints_ (M.up k a.length)) ga_0]) := by
 refine enterB hb @Tryz.func19 @Tryz.ntmps19 rfl rfl ?_
 refine zent ?_
 refine Js.trashE ?_
 refine zn ?_
 refine zS <| Qa rfl <| zJ <| zS <| Qa rfl <| JL.nil <| Js.block ?_
 refine zl [0] (fun F U l os u m => ∃ (i : Nat) (kk : Int) (xs : List Int) (G1_1 : List Nat), l = F [(1, .int .i64 kk), (5, .int .i64 (i : Int))] ∧ os = U [some (rowO 2 1 (.slice Aa_0 a.length ca_0) a.length (ints_ xs) ga_0), some (anyO G1_1)] ∧ (xs = M.mkd a k i) ∧ (i ≤ a.length) ∧ (xs.length = a.length) ∧ (kk = k + (i : Int)) ∧ m = a.length - i) ⟨0, k, a, _, rfl, rfl, by exact M.mkd_zero a k, zt, by rfl, by simp, rfl⟩ ?_
 rintro _ _ u1 _ ⟨i, kk, xs, G1_1, rfl, rfl, hX, hi, hl, hkk, rfl⟩ x1
 refine zn ?_
 refine Js.seq <| zS <| Qm rfl <| Qm rfl <| Qz rfl <| Ql rfl rfl <| JL.nil ?_
 refine zi (fun h2 h2' => ?_) fun h2 h2' => ?_
 ·
  refine Js.skip <| Js.seq <| Js.block <| zS <| Qm rfl <| Qm rfl <| Qm rfl ?_
  refine JL.fact (row_some (i := 0) rfl (by omega)) (fun hf4 => ?_)
  obtain ⟨b4, rfl⟩ := hf4
  refine Qq (p_indexAddr el_27 rfl rfl (by omega) (by omega) rfl) ?_
  refine JL.s (e_storeRow (i := 0) (xs' := ints_ (xs.set i kk)) ty_2.h rfl rfl rfl rfl rfl rfl (ints_lt (i := i) (by omega)) (ints_setL (i := i) (by omega))) ?_
  rintro _ _ _ ⟨rfl, rfl⟩ _
  refine znl ?_
  refine zG <| Qm rfl <| Qp rfl rfl <| Qa rfl <| JL.nil <| Js.blockEnd <| Js.region <| Qm rfl <| Qp rfl rfl <| Qa rfl <| JL.nil ?_
  exact zag ⟨i + 1, kk + 1, xs.set i kk, _, rfl, rfl, by rw [hX, hkk]; exact M.mkd_step (by omega), zt, by rw [List.length_set]; exact hl, zt, rfl⟩ x1
 have hi2 : i = a.length := by have := h2'; omega
 have hM : M.up k a.length = xs := by rw [hX]; exact (M.mkd_end hi2).symm
 refine zx ?_
 refine zS <| Qm rfl <| Qa rfl <| JL.nil ?_
 refine zrb [0] hb x1 ?_
 have hE : (.int .i64 kk : Value) = .int .i64 (k + (a.length : Int)) := by first | exact hM | (refine congrArg (Value.int .i64) ?_; omega)
 have hE1 : M.up k a.length = xs := by first | exact hM | (refine congrArg (Value.int .i64) ?_; omega)
 refine ⟨hE, ?_⟩
 · rw [hE1]

set_option maxHeartbeats 1000000 in
theorem c_laws_heldInt64S (a : List Int) {v_a : Value} (k : Int) {w : World} (h_a : (Ty.ints 2 a).ok w v_a) (r0 : a.length ≤ 4194304 := by exact om_) (r1 : 0 ≤ k := by exact om_) (r2 : k ≤ 100000000 := by exact om_) : RetV Tryz.prog 20 [v_a, .int .i64 k] w (.int .i64 (M.held a k)) := by
 revert v_a; apply opn
 intro A1 c1 h1 bl1 bh1
 have h_a := h1
 refine enter @Tryz.func20 @Tryz.ntmps20 rfl rfl ?_
 refine zent ?_
 refine zS <| Qa rfl <| zJ <| zS <| Qa rfl <| JL.nil <| Js.block ?_
 refine zl [0] (fun F U l os u m => ∃ (i : Nat) (kk : Int), l = F [(1, .int .i64 kk), (5, .int .i64 (i : Int))] ∧ os = U [] ∧ (a.take i = M.up k i) ∧ (i ≤ a.length) ∧ (kk = k + (i : Int)) ∧ m = a.length - i) ⟨0, k, rfl, rfl, by rfl, zt, by simp, rfl⟩ ?_
 rintro _ _ u2 _ ⟨i, kk, rfl, rfl, hU, hi, hkk, rfl⟩ x2
 refine zn ?_
 refine Js.seq <| zS <| Qm rfl <| Qm rfl <| Qz rfl <| Ql rfl rfl <| JL.nil ?_
 refine zi (fun h3 h3' => ?_) fun h3 h3' => ?_
 ·
  obtain ⟨b4, o4, he4, hc4⟩ := ints_elem (Ty.mono _ h1 x2.vis) (i := i) (by omega)
  refine Js.skip <| Js.seq <| Js.block <| Js.seq <| zS <| Qm rfl <| Qm rfl <| Qq (p_indexAddr el_27 rfl rfl (by omega) (by omega) he4) <| QC hc4 rfl <| Qm rfl <| Qd rfl rfl <| JL.nil ?_
  refine zi (fun h5 h5' => ?_) fun h5 h5' => ?_
  ·
   have hE := M.held_no (a := a) (k := k) (i := i) (by omega) (by rw [← hkk]; simpa using h5)
   refine zS <| Qa rfl <| JL.nil ?_
   refine zR x2 ?_
   first | (rw [hE]; rfl) | (rw [hE, hkk]; rfl)
  have he : M.nth a i = k + (i : Int) := by rw [← hkk]; simpa using h5
  refine Js.skip <| Js.region <| Qm rfl <| Qp rfl rfl <| Qa rfl <| JL.nil <| Js.blockEnd <| Js.region <| Qm rfl <| Qp rfl rfl <| Qa rfl <| JL.nil ?_
  exact zag ⟨i + 1, kk + 1, rfl, rfl, by exact M.held_step (by omega) hU he, zt, zt, rfl⟩ x2
 have hE := M.held_yes (a := a) (k := k) (i := i) (by have := h3'; omega) hU
 refine zx ?_
 refine zS <| Qm rfl <| Qa rfl <| JL.nil ?_
 refine zR x2 ?_
 first | (rw [hE]; rfl) | (rw [hE, hkk]; rfl)

set_option maxHeartbeats 1000000 in
theorem c_laws_markPosition (a_pits a_stores : List Int) (a_player : Int) {Aa_0 : Option Addr} {ca_0 : Nat} {ga_0 : List Nat} {Aa_1 : Option Addr} {ca_1 : Nat} {ga_1 : List Nat} (k : Int) {w : World} (hb : Bw w [rowO 2 1 (.slice Aa_0 a_pits.length ca_0) a_pits.length (ints_ a_pits) ga_0, rowO 2 1 (.slice Aa_1 a_stores.length ca_1) a_stores.length (ints_ a_stores) ga_1]) (bd0 : a_pits.length ≤ ca_0 := by exact om_) (bd1 : ca_0 ≤ 9223372036854775807 := by exact om_) (bd2 : a_stores.length ≤ ca_1 := by exact om_) (bd3 : ca_1 ≤ 9223372036854775807 := by exact om_) (r0 : a_pits.length ≤ 4194304 := by exact om_) (r1 : a_stores.length ≤ 4194304 := by exact om_) (r2 : 0 ≤ k := by exact om_) (r3 : k ≤ 50000000 := by exact om_) : RetB Tryz.prog 18 [.agg #[.slice Aa_0 a_pits.length ca_0, .slice Aa_1 a_stores.length ca_1, .int .i64 a_player], .int .i64 k] w [rowO 2 1 (.slice Aa_0 a_pits.length ca_0) a_pits.length (ints_ a_pits) ga_0, rowO 2 1 (.slice Aa_1 a_stores.length ca_1) a_stores.length (ints_ a_stores) ga_1] (fun v bs' => v = .int .i64 (k + (a_pits.length : Int) + (a_stores.length : Int)) ∧ bs' = [rowO 2 1 (.slice Aa_0 a_pits.length ca_0) a_pits.length (ints_ (M.up k a_pits.length)) ga_0, rowO 2 1 (.slice Aa_1 a_stores.length ca_1) a_stores.length (ints_ (M.up (k + (a_pits.length : Int)) a_stores.length)) ga_1]) := by
 refine enterB hb @Tryz.func18 @Tryz.ntmps18 rfl rfl ?_
 refine zent ?_
 refine Js.trashE ?_
 refine zn ?_
 refine zS <| zb rfl fun b1 => Qa rfl <| zN <| Qf fh rfl <| Q0 0 rfl rfl rfl <| Qm rfl ?_
 refine zhl [1] ?_
 refine zBB 1 sp_ rfl (fun w hb _ hw => c_laws_markInt64S a_pits k hb) ?_
 rintro _ _ G2 ⟨rfl, rfl⟩
 refine znl ?_
 refine Qa rfl <| zN <| Qf fh rfl <| Q0 2 rfl rfl rfl <| Qm rfl ?_
 refine zhl [3] ?_
 refine zBB 1 sp_ rfl (fun w hb _ hw => c_laws_markInt64S a_stores (k + (a_pits.length : Int)) hb) ?_
 rintro _ _ G3 ⟨rfl, rfl⟩
 refine znl ?_
 refine Qa rfl <| zN <| Qm rfl <| Qa rfl <| JL.nil ?_
 refine zrb [2, 0] hb (Up.refl _ _) ?_
 have hE : (.int .i64 ((k + (a_pits.length : Int)) + (a_stores.length : Int)) : Value) = .int .i64 (k + (a_pits.length : Int) + (a_stores.length : Int)) := by rfl
 exact ⟨hE, rfl⟩

set_option maxHeartbeats 1000000 in
theorem c_laws_markGame (a_rules : M.Rul) (a_start : M.Pos) (a_moves : List Int) (a_now : M.Pos) (a_resigned : Int) {Aa_9 : Option Addr} {ca_9 : Nat} {ga_9 : List Nat} {Aa_10 : Option Addr} {ca_10 : Nat} {ga_10 : List Nat} {Aa_12 : Option Addr} {ca_12 : Nat} {ga_12 : List Nat} {Aa_13 : Option Addr} {ca_13 : Nat} {ga_13 : List Nat} {Aa_14 : Option Addr} {ca_14 : Nat} {ga_14 : List Nat} (k : Int) {w : World} (hb : Bw w [rowO 2 1 (.slice Aa_9 a_start.pits.length ca_9) a_start.pits.length (ints_ a_start.pits) ga_9, rowO 2 1 (.slice Aa_10 a_start.stores.length ca_10) a_start.stores.length (ints_ a_start.stores) ga_10, rowO 2 1 (.slice Aa_12 a_moves.length ca_12) a_moves.length (ints_ a_moves) ga_12, rowO 2 1 (.slice Aa_13 a_now.pits.length ca_13) a_now.pits.length (ints_ a_now.pits) ga_13, rowO 2 1 (.slice Aa_14 a_now.stores.length ca_14) a_now.stores.length (ints_ a_now.stores) ga_14]) (bd0 : a_start.pits.length ≤ ca_9 := by exact om_) (bd1 : ca_9 ≤ 9223372036854775807 := by exact om_) (bd2 : a_start.stores.length ≤ ca_10 := by exact om_) (bd3 : ca_10 ≤ 9223372036854775807 := by exact om_) (bd4 : a_moves.length ≤ ca_12 := by exact om_) (bd5 : ca_12 ≤ 9223372036854775807 := by exact om_) (bd6 : a_now.pits.length ≤ ca_13 := by exact om_) (bd7 : ca_13 ≤ 9223372036854775807 := by exact om_) (bd8 : a_now.stores.length ≤ ca_14 := by exact om_) (bd9 : ca_14 ≤ 9223372036854775807 := by exact om_) (r0 : a_start.pits.length ≤ 4194304 := by exact om_) (r1 : a_start.stores.length ≤ 4194304 := by exact om_) (r2 : a_moves.length ≤ 4194304 := by exact om_) (r3 : a_now.pits.length ≤ 4194304 := by exact om_) (r4 : a_now.stores.length ≤ 4194304 := by exact om_) (r5 : 0 ≤ k := by exact om_) (r6 : k ≤ 10000000 := by exact om_) : RetB Tryz.prog 29 [.agg #[.int .i64 a_rules.pits, .int .i64 a_rules.seeds, .bool a_rules.stores, .bool a_rules.skip, .bool a_rules.relay, .bool a_rules.feed, .bool a_rules.again, .int .i64 a_rules.capture, .int .i64 a_rules.slam, .slice Aa_9 a_start.pits.length ca_9, .slice Aa_10 a_start.stores.length ca_10, .int .i64 a_start.player, .slice Aa_12 a_moves.length ca_12, .slice Aa_13 a_now.pits.length ca_13, .slice Aa_14 a_now.stores.length ca_14, .int .i64 a_now.player, .int .i64 a_resigned], .int .i64 k] w [rowO 2 1 (.slice Aa_9 a_start.pits.length ca_9) a_start.pits.length (ints_ a_start.pits) ga_9, rowO 2 1 (.slice Aa_10 a_start.stores.length ca_10) a_start.stores.length (ints_ a_start.stores) ga_10, rowO 2 1 (.slice Aa_12 a_moves.length ca_12) a_moves.length (ints_ a_moves) ga_12, rowO 2 1 (.slice Aa_13 a_now.pits.length ca_13) a_now.pits.length (ints_ a_now.pits) ga_13, rowO 2 1 (.slice Aa_14 a_now.stores.length ca_14) a_now.stores.length (ints_ a_now.stores) ga_14] (fun v bs' => v = .int .i64 (k + M.szp a_start + (a_moves.length : Int) + M.szp a_now) ∧ bs' = [rowO 2 1 (.slice Aa_9 a_start.pits.length ca_9) a_start.pits.length (ints_ ((M.markP a_start k).pits)) ga_9, rowO 2 1 (.slice Aa_10 a_start.stores.length ca_10) a_start.stores.length (ints_ ((M.markP a_start k).stores)) ga_10, rowO 2 1 (.slice Aa_12 a_moves.length ca_12) a_moves.length (ints_ (M.up (k + M.szp a_start) a_moves.length)) ga_12, rowO 2 1 (.slice Aa_13 a_now.pits.length ca_13) a_now.pits.length (ints_ ((M.markP a_now (k + M.szp a_start + (a_moves.length : Int))).pits)) ga_13, rowO 2 1 (.slice Aa_14 a_now.stores.length ca_14) a_now.stores.length (ints_ ((M.markP a_now (k + M.szp a_start + (a_moves.length : Int))).stores)) ga_14]) := by
 refine enterB hb @Tryz.func29 @Tryz.ntmps29 rfl rfl ?_
 refine zent ?_
 refine Js.trashE ?_
 refine zn ?_
 refine zS <| zb rfl fun b1 => Qa rfl <| zN <| Qf fh rfl <| Q9 0 rfl rfl ?_
 refine Qm rfl ?_
 refine zhl [1, 1] ?_
 refine zBB 2 sp_ rfl (fun w hb _ hw => c_laws_markPosition a_start.pits a_start.stores a_start.player k hb) ?_
 rintro _ _ G2 ⟨rfl, rfl⟩
 refine znl ?_
 refine Qa rfl <| zN <| Qf fh rfl <| Q0 3 rfl rfl rfl <| Qm rfl ?_
 refine zhl [4] ?_
 refine zBB 1 sp_ rfl (fun w hb _ hw => c_laws_markInt64S a_moves (k + (a_start.pits.length : Int) + (a_start.stores.length : Int)) hb) ?_
 rintro _ _ G3 ⟨rfl, rfl⟩
 refine znl ?_
 refine Qa rfl <| zN <| Qf fh rfl <| Q9 5 rfl rfl ?_
 refine Qm rfl ?_
 refine zhl [6, 6] ?_
 refine zBB 2 sp_ rfl (fun w hb _ hw => c_laws_markPosition a_now.pits a_now.stores a_now.player ((k + (a_start.pits.length : Int) + (a_start.stores.length : Int)) + (a_moves.length : Int)) hb) ?_
 rintro _ _ G4 ⟨rfl, rfl⟩
 refine znl ?_
 refine Qa rfl <| zN <| Qm rfl <| Qa rfl <| JL.nil ?_
 refine zrb [5, 5, 3, 0, 0] hb (Up.refl _ _) ?_
 have hE : (.int .i64 (((k + (a_start.pits.length : Int) + (a_start.stores.length : Int)) + (a_moves.length : Int)) + (a_now.pits.length : Int) + (a_now.stores.length : Int)) : Value) = .int .i64 (k + M.szp a_start + (a_moves.length : Int) + M.szp a_now) := by first | rfl | (simp only [M.markP, M.szp, ← Int.add_assoc]; done) | (simp only [M.markP, M.szp, ← Int.add_assoc]; rfl)
 have hE1 : (M.markP a_start k).pits = M.up k a_start.pits.length := by first | rfl | (simp only [M.markP, M.szp, ← Int.add_assoc]; done) | (simp only [M.markP, M.szp, ← Int.add_assoc]; rfl)
 have hE2 : (M.markP a_start k).stores = M.up (k + (a_start.pits.length : Int)) a_start.stores.length := by first | rfl | (simp only [M.markP, M.szp, ← Int.add_assoc]; done) | (simp only [M.markP, M.szp, ← Int.add_assoc]; rfl)
 have hE3 : M.up (k + M.szp a_start) a_moves.length = M.up (k + (a_start.pits.length : Int) + (a_start.stores.length : Int)) a_moves.length := by first | rfl | (simp only [M.markP, M.szp, ← Int.add_assoc]; done) | (simp only [M.markP, M.szp, ← Int.add_assoc]; rfl)
 have hE4 : (M.markP a_now (k + M.szp a_start + (a_moves.length : Int))).pits = M.up ((k + (a_start.pits.length : Int) + (a_start.stores.length : Int)) + (a_moves.length : Int)) a_now.pits.length := by first | rfl | (simp only [M.markP, M.szp, ← Int.add_assoc]; done) | (simp only [M.markP, M.szp, ← Int.add_assoc]; rfl)
 have hE5 : (M.markP a_now (k + M.szp a_start + (a_moves.length : Int))).stores = M.up (((k + (a_start.pits.length : Int) + (a_start.stores.length : Int)) + (a_moves.length : Int)) + (a_now.pits.length : Int)) a_now.stores.length := by first | rfl | (simp only [M.markP, M.szp, ← Int.add_assoc]; done) | (simp only [M.markP, M.szp, ← Int.add_assoc]; rfl)
 refine ⟨hE, ?_⟩
 · rw [hE1, hE2, hE3, hE4, hE5]

end Go.Proofs.YtcmfnlleikcpnaaGreat

namespace Go.Proofs.YtcmfnlleikcpnaaGreat
open Go.RowKit

set_option maxHeartbeats 1000000 in
theorem c_laws_toChoice (a : M.Cho) {v_a : Value} {w : World} (h_a : (Ty.agg (cChoice a)).ok w v_a) : Ret Tryz.prog 181 [v_a] w (Ty.agg (cChoice a)) := by
 revert v_a; apply opn
 refine enter @Tryz.func181 @Tryz.ntmps181 rfl rfl ?_
 refine zent ?_
 refine zS <| zb rfl fun b1 => za zeh fun b2 => zN <| za zeh fun b3 => zN <| Qf fh rfl <| Q0 2 rfl rfl rfl <| Qf fh rfl <| zw 0 rfl rfl rfl ?_
 refine zN <| Qf fh rfl <| Q0 2 rfl rfl rfl <| Qf fh rfl <| zw 0 rfl rfl rfl ?_
 refine zN <| Qf fh rfl <| Q0 2 rfl rfl rfl <| Qf fh rfl <| zw 0 rfl rfl rfl ?_
 refine zN <| Q9 0 rfl rfl ?_
 refine zw 1 rfl rfl rfl ?_
 refine JL.nil ?_
 exact zro (Up.refl _ _)

set_option maxHeartbeats 1000000 in
theorem c_laws_toChoiceS (a : List M.Cho) {v_a : Value} {w : World} (h_a : (Ty.sl 81 3 a.length (lChoice a)).ok w v_a) (r0 : a.length ≤ 4194304 := by exact om_) : Ret Tryz.prog 164 [v_a] w (Ty.sl 81 3 a.length (lChoice a)) := by
 revert v_a; apply opn
 intro A1 c1 h1 bl1 bh1
 have h_a := h1
 refine enter @Tryz.func164 @Tryz.ntmps164 rfl rfl ?_
 refine zent ?_
 refine zS <| Qa rfl <| zN <| Qm rfl <| Qz rfl <| zmkF vcChoice M.Cho.zero (a0 := (a.length : Int)) (m := a.length) (by omega) (by omega) fun b2 => Qa rfl <| zJ <| zS <| Qa rfl <| JL.nil <| Js.block ?_
 refine zl [0, 3] (fun F U l os u m => ∃ (i : Nat) (xs : List M.Cho), l = F [(4, .int .i64 (i : Int))] ∧ os = U [some (rowO 81 3 (.slice (some ⟨b2, 0, none⟩) a.length a.length) a.length (fltV vcChoice xs) [])] ∧ (xs = M.cpS M.Cho.zero a i) ∧ (i ≤ a.length) ∧ (xs.length = a.length) ∧ m = a.length - i) ⟨0, List.replicate a.length M.Cho.zero, rfl, rfl, by exact M.cpS_zero _ _, zt, by simp, rfl⟩ ?_
 rintro _ _ u3 _ ⟨i, xs, rfl, rfl, hX, hi, hl, rfl⟩ x3
 refine zn ?_
 refine Js.seq <| zS <| Qm rfl <| Qm rfl <| Qz rfl <| Ql rfl rfl <| JL.nil ?_
 refine zi (fun h4 h4' => ?_) fun h4 h4' => ?_
 ·
  have hgt : a[i]? = some (M.cho a i) := M.cho_get (by omega)
  have hy5 : a[i]? = some (M.cho a i) := M.cho_get (by omega)
  obtain ⟨b5, o5, he5, hr5⟩ := elem_Choice (Ty.mono _ h1 x3.vis) hy5
  refine Js.skip <| Js.seq <| Js.block <| Js.region <| Qm rfl <| Qm rfl <| Qm rfl <| Qm rfl <| Qq (p_indexAddr el_156 rfl rfl (by omega) (by omega) he5) <| QS 0 hr5 rfl ?_
  refine zp rfl (fun w hw => c_laws_toChoice (M.cho a i) (ok_ hw)) ?_
  intro u6 x6
  have hy7 : xs[i]? = some (M.cho xs i) := M.cho_get (by first | omega | (simp only [List.length_set, List.length_append, List.length_cons, List.length_nil, List.length_take, List.length_drop, List.length_replicate]; omega))
  refine Qq (p_indexAddr el_67 rfl rfl (by first | omega | (simp only [List.length_set, List.length_append, List.length_cons, List.length_nil, List.length_take, List.length_drop, List.length_replicate]; omega)) (by first | omega | (simp only [List.length_set, List.length_append, List.length_cons, List.length_nil, List.length_take, List.length_drop, List.length_replicate]; omega)) rfl) ?_
  refine JL.s (e_storeRow (i := 0) (xs' := fltV vcChoice (xs.set i (M.cho a i))) ty_81.h rfl rfl rfl rfl rfl rfl (fltV_lt (C := vcChoice) (j := 0) (fun _ => rfl) (by first | omega | (simp only [List.length_set, List.length_append, List.length_cons, List.length_nil, List.length_take, List.length_drop, List.length_replicate]; omega)) (by decide)) (fltV_set (C := vcChoice) (y := (M.cho a i)) (fun _ => rfl) (by first | omega | (simp only [List.length_set, List.length_append, List.length_cons, List.length_nil, List.length_take, List.length_drop, List.length_replicate]; omega)))) ?_
  rintro _ _ _ ⟨rfl, rfl⟩ _
  refine znl ?_
  refine JL.nil <| Js.blockEnd <| Js.region <| Qm rfl <| Qp rfl rfl <| Qa rfl <| JL.nil ?_
  exact zag ⟨i + 1, xs.set i (M.cho a i), rfl, rfl, by rw [hX]; exact M.cpS_step hgt, zt, by rw [List.length_set]; exact hl, rfl⟩ (x3.trans x6)
 have hE : xs = a := by rw [hX]; exact M.cpS_all (by have := h4'; omega)
 refine zx ?_
 have hq0 : xs = a := by exact hE
 refine zS <| Qm rfl <| Qa rfl <| JL.nil ?_
 exact zro x3 (g := by exact (gv_flat lChoice (xs := xs) po_ (by first | rfl | (simp [fltV]; done)) (by first | with_reducible rfl | assumption | rfl)))

set_option maxHeartbeats 1000000 in
theorem c_laws_toBookEntry (a : M.Ent) {v_a : Value} {w : World} (h_a : (Ty.agg (cBookEntry a)).ok w v_a) (r0 : a.pits.length ≤ 4194304 := by exact om_) (r1 : a.choices.length ≤ 4194304 := by exact om_) : Ret Tryz.prog 122 [v_a] w (Ty.agg (cBookEntry a)) := by
 revert v_a; apply opn
 intro A1 c1 h1 bl1 bh1 A2 c2 h2 bl2 bh2
 refine enter @Tryz.func122 @Tryz.ntmps122 rfl rfl ?_
 refine zent ?_
 refine zS <| zb rfl fun b3 => za zeh fun b4 => zN <| za zeh fun b5 => zN <| Qf fh rfl <| Q0 2 rfl rfl rfl <| zcs rfl (fun w hw => c_laws_toInt64S a.pits (ok_ hw)) ?_
 intro A6 c6 bl6 bh6
 refine Qf fh rfl <| zw 1 rfl rfl rfl ?_
 refine zN <| Qf fh rfl <| Q0 3 rfl rfl rfl <| zcs rfl (fun w hw => c_laws_toChoiceS a.choices (ok_ hw)) ?_
 intro A7 c7 bl7 bh7
 refine Qf fh rfl <| zw 2 rfl rfl rfl ?_
 refine zN <| Q9 2 rfl rfl ?_
 refine zw 3 rfl rfl rfl ?_
 refine JL.nil ?_
 exact zro (Up.refl _ _) (g := by exact (gv_agg (gvc gv_ (gvc (gv_flat lChoice (xs := a.choices) po_ (by first | rfl | (simp [fltV]; done)) (by first | with_reducible rfl | assumption | rfl)) gvn))))

set_option maxHeartbeats 1000000 in
theorem c_laws_toBookEntryS (a : List M.Ent) {v_a : Value} {w : World} (h_a : (Ty.sl 89 2 a.length (lBookEntry a)).ok w v_a) (r0 : a.length ≤ 4194304 := by exact om_) (r1 : ∀ x ∈ a, x.pits.length ≤ 4194304 ∧ x.choices.length ≤ 4194304 := by exact om_) : Ret Tryz.prog 61 [v_a] w (Ty.sl 89 2 a.length (lBookEntry a)) := by
 revert v_a; apply opn
 intro A1 c1 h1 bl1 bh1
 have h_a := h1
 refine enter @Tryz.func61 @Tryz.ntmps61 rfl rfl ?_
 refine zent ?_
 refine zS <| Qa rfl <| zN <| Qm rfl <| Qz rfl <| zmkN cBookEntry M.Ent.zero (a0 := (a.length : Int)) (m := a.length) (by omega) (by omega) zown_BookEntry fun b2 => Qa rfl <| zJ <| zS <| Qa rfl <| JL.nil <| Js.block ?_
 refine zl [0, 3] (fun F U l os u m => ∃ (i : Nat) (xs : List M.Ent) (vs3_0 : List Value) (fl3_0 : List Nat), l = F [(4, .int .i64 (i : Int))] ∧ os = U [some (rowO 89 2 (.slice (some ⟨b2, 0, none⟩) a.length a.length) a.length vs3_0 []), some (ownC (lBookEntry xs) vs3_0 fl3_0)] ∧ (xs = M.cpS M.Ent.zero a i) ∧ (i ≤ a.length) ∧ (xs.length = a.length) ∧ m = a.length - i) ⟨0, List.replicate a.length M.Ent.zero, _, _, rfl, rfl, by exact M.cpS_zero _ _, zt, by simp, rfl⟩ ?_
 rintro _ _ u3 _ ⟨i, xs, vs3_0, fl3_0, rfl, rfl, hX, hi, hl, rfl⟩ x3
 refine zn ?_
 refine Js.seq <| zS <| Qm rfl <| Qm rfl <| Qz rfl <| Ql rfl rfl <| JL.nil ?_
 refine zi (fun h4 h4' => ?_) fun h4 h4' => ?_
 ·
  have hgt : a[i]? = some (M.ent a i) := M.ent_get (by omega)
  obtain ⟨e1_, e2_⟩ := r1 _ (List.mem_of_getElem? hgt)
  have hy5 : a[i]? = some (M.ent a i) := M.ent_get (by omega)
  obtain ⟨b5, o5, A5_0, c5_0, A5_1, c5_1, he5, hr5, h5_0, h5_1, bl5_0, bh5_0, bl5_1, bh5_1⟩ := elem_BookEntry (Ty.mono _ h1 x3.vis) hy5
  refine Js.skip <| Js.seq <| Js.block <| Js.region <| Qm rfl <| Qm rfl <| Qm rfl <| Qm rfl <| Qq (p_indexAddr el_24 rfl rfl (by omega) (by omega) he5) <| QS 0 hr5 rfl ?_
  refine zcs rfl (fun w hw => c_laws_toBookEntry (M.ent a i) (ok_ hw)) ?_
  intro A6_0 c6_0 bl6_0 bh6_0 A6_1 c6_1 bl6_1 bh6_1 f6
  have hy7 : xs[i]? = some (M.ent xs i) := M.ent_get (by first | omega | (simp only [List.length_set, List.length_append, List.length_cons, List.length_nil, List.length_take, List.length_drop, List.length_replicate]; omega))
  refine JL.fact (fun w hw => elemv_BookEntry (Mem.ownC (i := 2) rfl w hw) hy7) (fun hf7 => ?_)
  obtain ⟨A7_0, c7_0, A7_1, c7_1, he7, bl7_0, bh7_0, bl7_1, bh7_1⟩ := hf7
  refine Qq (p_indexAddr el_35 rfl rfl (by omega) (by omega) rfl) ?_
  refine JL.fact (fun w hw => elem_in cBookEntry (m := 2) (k := i) (xs := xs) (fun _ => rfl) (Mem.ownC (i := 2) rfl w hw) (by first | omega | (simp only [List.length_set, List.length_append, List.length_cons, List.length_nil, List.length_take, List.length_drop, List.length_replicate]; omega))) (fun hl8 => ?_)
  refine JL.ex3 (fun w hw => St.elemS cBookEntry (m := 2) (i := 2) (xs := xs) (fun _ => rfl) rfl hy7 he7 hw) (fun f8_1 f8_2 f8_3 => ?_)
  refine znl ?_
  refine JL.pk (cBookEntry (M.ent a i)) [.slice A6_0 (((M.ent a i).pits).length) c6_0, .slice A6_1 (((M.ent a i).choices).length) c6_1] (fun f9 G9 => ?_)
  refine znl ?_
  refine JL.s (e_storeRow (i := 5) (xs' := setL vs3_0 (0 + i * 2) [.slice A6_0 (((M.ent a i).pits).length) c6_0, .slice A6_1 (((M.ent a i).choices).length) c6_1]) ty_89.h rfl rfl rfl rfl rfl rfl (by omega) rfl) ?_
  rintro _ _ _ ⟨rfl, rfl⟩ _
  refine zhl [4, 0, 2] ?_
  refine JL.conv (fun w hw => St.closeE cBookEntry (k := i) (m := 2) (xs := xs) (y := (M.ent a i)) (vs := vs3_0) (vs' := (setL vs3_0 (0 + i * 2) [.slice A6_0 (((M.ent a i).pits).length) c6_0, .slice A6_1 (((M.ent a i).choices).length) c6_1])) (by first | omega | (simp only [List.length_set, List.length_append, List.length_cons, List.length_nil, List.length_take, List.length_drop, List.length_replicate]; omega)) rfl rfl hw) ?_
  refine znl ?_
  refine znl ?_
  refine JL.nil <| Js.blockEnd <| Js.region <| Qm rfl <| Qp rfl rfl <| Qa rfl <| JL.nil ?_
  refine zd [3, 0] rfl fun u10 x10 => ?_
  exact zag ⟨i + 1, xs.set i (M.ent a i), _, _, rfl, rfl, by rw [hX]; exact M.cpS_step hgt, zt, by rw [List.length_set]; exact hl, rfl⟩ (x3.trans x10)
 have hE : xs = a := by rw [hX]; exact M.cpS_all (by have := h4'; omega)
 refine zx ?_
 have hq0 : xs = a := by exact hE
 refine zS <| Qm rfl <| Qa rfl <| JL.nil ?_
 exact zro x3

set_option maxHeartbeats 2000000 in
theorem c_laws_toBook (a : M.Boo) {v_a : Value} {w : World} (h_a : (Ty.agg (cBook a)).ok w v_a) (r0 : a.entries.length ≤ 4194304 := by exact om_) (r1 : ∀ x ∈ a.entries, x.pits.length ≤ 4194304 ∧ x.choices.length ≤ 4194304 := by exact om_) : Ret Tryz.prog 11 [v_a] w (Ty.agg (cBook a)) := by
 revert v_a; apply opn
 intro A1 c1 h1 bl1 bh1
 refine enter @Tryz.func11 @Tryz.ntmps11 rfl rfl ?_
 refine zent ?_
 refine zS <| zb rfl fun b2 => za zeh fun b3 => zN <| za zeh fun b4 => zN <| Qf fh rfl <| Q9 2 rfl rfl ?_
 refine zc rfl (fun w hw => c_laws_toRules a.rules (ok_ hw)) <| Qf fh rfl <| zw 0 rfl rfl rfl ?_
 refine zN <| Qf fh rfl <| Q0 2 rfl rfl rfl <| zcs rfl (fun w hw => c_laws_toBookEntryS a.entries (ok_ hw) (r1 := r1)) ?_
 intro A6 c6 vs6 f6 bl6 bh6
 refine Qf fh rfl <| zw 2 rfl rfl rfl ?_
 refine zN <| Q9 2 rfl rfl ?_
 refine zw 3 rfl rfl rfl ?_
 refine JL.nil ?_
 exact zro (Up.refl _ _)

set_option maxHeartbeats 1000000 in
theorem c_laws_szChoiceS (a : List M.Cho) {v_a : Value} (left : Int) {w : World} (h_a : (Ty.sl 81 3 a.length (lChoice a)).ok w v_a) (r0 : -1 ≤ left := by exact om_) (r1 : left ≤ 1048576 := by exact om_) : RetV Tryz.prog 157 [v_a, .int .i64 left] w (.int .i64 (M.szL a.length left)) := by
 have q1 := M.szL_cases a.length left
 revert v_a; apply opn
 intro A1 c1 h1 bl1 bh1
 have h_a := h1
 refine enter @Tryz.func157 @Tryz.ntmps157 rfl rfl ?_
 refine zent ?_
 refine zS <| Qa rfl <| zN <| Qm rfl <| Qm rfl <| Qz rfl <| Qs rfl rfl <| Qa rfl <| zJ <| zS <| Qm rfl <| Ql rfl rfl <| JL.nil ?_
 refine zi (fun h2 h2' => ?_) fun h2 h2' => ?_
 ·
  refine zS <| Qa rfl <| JL.nil ?_
  refine zR (Up.refl _ _) ?_
  refine congrArg (fun n => Ending.returned (Value.int .i64 n)) ?_; omega
 refine Js.skip <| zS <| Qm rfl <| Qa rfl <| JL.nil ?_
 refine zR (Up.refl _ _) ?_
 refine congrArg (fun n => Ending.returned (Value.int .i64 n)) ?_; omega

set_option maxHeartbeats 1000000 in
theorem c_laws_szBookEntry (a : M.Ent) {v_a : Value} (left : Int) {w : World} (h_a : (Ty.agg (cBookEntry a)).ok w v_a) (r0 : -1 ≤ left := by exact om_) (r1 : left ≤ 1048576 := by exact om_) : RetV Tryz.prog 112 [v_a, .int .i64 left] w (.int .i64 (M.szL (a.pits.length + a.choices.length) left)) := by
 have q1 := M.szL_cases a.pits.length left
 have q2 := M.szL_cases a.choices.length (M.szL a.pits.length left)
 have q3 := M.szL_cases (a.pits.length + a.choices.length) left
 revert v_a; apply opn
 intro A1 c1 h1 bl1 bh1 A2 c2 h2 bl2 bh2
 refine enter @Tryz.func112 @Tryz.ntmps112 rfl rfl ?_
 refine zent ?_
 refine zS <| zb rfl fun b3 => Qa rfl <| zN <| Qf fh rfl <| Q0 0 rfl rfl rfl <| Qm rfl <| zv rfl (fun w hw => c_laws_szInt64S a.pits left (ok_ hw)) <| Qa rfl <| zJ <| zS <| Qm rfl <| Ql rfl rfl <| JL.nil ?_
 refine zi (fun h4 h4' => ?_) fun h4 h4' => ?_
 ·
  refine zS <| Qa rfl <| JL.nil ?_
  refine zR (Up.refl _ _) ?_
  refine congrArg (fun n => Ending.returned (Value.int .i64 n)) ?_; omega
 refine Js.skip <| zS <| Qf fh rfl <| Q0 0 rfl rfl rfl <| Qm rfl <| zv rfl (fun w hw => c_laws_szChoiceS a.choices (M.szL a.pits.length left) (ok_ hw)) <| Qa rfl <| zJ <| zS <| Qm rfl <| Ql rfl rfl <| JL.nil ?_
 refine zi (fun h5 h5' => ?_) fun h5 h5' => ?_
 ·
  refine zS <| Qa rfl <| JL.nil ?_
  refine zR (Up.refl _ _) ?_
  refine congrArg (fun n => Ending.returned (Value.int .i64 n)) ?_; omega
 refine Js.skip <| zS <| Qm rfl <| Qa rfl <| JL.nil ?_
 refine zR (Up.refl _ _) ?_
 refine congrArg (fun n => Ending.returned (Value.int .i64 n)) ?_; omega

set_option maxHeartbeats 1000000 in
theorem c_laws_szBookEntryS (a : List M.Ent) {v_a : Value} (left : Int) {w : World} (h_a : (Ty.sl 89 2 a.length (lBookEntry a)).ok w v_a) (r0 : -1 ≤ left := by exact om_) (r1 : left ≤ 1048576 := by exact om_) : RetV Tryz.prog 52 [v_a, .int .i64 left] w (.int .i64 (M.szL (a.length + M.totE a) left)) := by
 have q1 := M.szL_cases (a.length + M.totE a) left
 revert v_a; apply opn
 intro A1 c1 h1 bl1 bh1
 have h_a := h1
 refine enter @Tryz.func52 @Tryz.ntmps52 rfl rfl ?_
 refine zent ?_
 refine zS <| Qa rfl <| zN <| Qm rfl <| Qm rfl <| Qz rfl <| Qs rfl rfl <| Qa rfl <| zJ <| zS <| Qm rfl <| Ql rfl rfl <| JL.nil ?_
 refine zi (fun h2 h2' => ?_) fun h2 h2' => ?_
 ·
  refine zS <| Qa rfl <| JL.nil ?_
  refine zR (Up.refl _ _) ?_
  refine congrArg (fun n => Ending.returned (Value.int .i64 n)) ?_; omega
 refine Js.skip <| Js.seq <| zS <| Qa rfl <| JL.nil <| Js.block ?_
 refine zl [0] (fun F U l os u m => ∃ (i : Nat) (ll : Int), l = F [(1, .int .i64 ll), (5, .int .i64 (i : Int))] ∧ os = U [] ∧ (ll = left - (a.length : Int) - (M.totE (a.take i) : Int)) ∧ (0 ≤ ll) ∧ (i ≤ a.length) ∧ (ll ≤ 1048576) ∧ m = a.length - i) ⟨0, left - (a.length : Int), rfl, rfl, by simp [M.totE], zt, zt, by omega, rfl⟩ ?_
 rintro _ _ u3 _ ⟨i, ll, rfl, rfl, hL, hge, hi, hle, rfl⟩ x3
 refine zn ?_
 refine Js.seq <| zS <| Qm rfl <| Qm rfl <| Qz rfl <| Ql rfl rfl <| JL.nil ?_
 refine zi (fun h4 h4' => ?_) fun h4 h4' => ?_
 ·
  have t1 := M.totE_step (es := a) (i := i) (by omega)
  have t2 := M.totE_le a (i + 1)
  have q2 := M.szL_cases ((M.ent a i).pits.length + (M.ent a i).choices.length) ll
  have hy5 : a[i]? = some (M.ent a i) := M.ent_get (by omega)
  obtain ⟨b5, o5, A5_0, c5_0, A5_1, c5_1, he5, hr5, h5_0, h5_1, bl5_0, bh5_0, bl5_1, bh5_1⟩ := elem_BookEntry (Ty.mono _ h1 x3.vis) hy5
  refine Js.skip <| Js.seq <| Js.block <| zS <| Qm rfl <| Qm rfl <| Qq (p_indexAddr el_24 rfl rfl (by omega) (by omega) he5) <| QS 0 hr5 rfl ?_
  refine Qm rfl <| zv rfl (fun w hw => c_laws_szBookEntry (M.ent a i) ll (ok_ hw)) <| Qa rfl <| zN <| Qm rfl <| Ql rfl rfl <| JL.nil ?_
  refine zi (fun h6 h6' => ?_) fun h6 h6' => ?_
  ·
   refine zS <| Qa rfl <| JL.nil ?_
   refine zR x3 ?_
   refine congrArg (fun n => Ending.returned (Value.int .i64 n)) ?_; omega
  refine Js.skip <| Js.blockEnd <| Js.region <| Qm rfl <| Qp rfl rfl <| Qa rfl <| JL.nil ?_
  exact zag ⟨i + 1, M.szL ((M.ent a i).pits.length + (M.ent a i).choices.length) ll, rfl, rfl, by omega, by omega, zt, by omega, rfl⟩ x3
 have t3 : a.take i = a := List.take_of_length_le (by have := h4'; omega)
 rw [t3] at hL
 refine zx ?_
 refine zS <| Qm rfl <| Qa rfl <| JL.nil ?_
 refine zR x3 ?_
 refine congrArg (fun n => Ending.returned (Value.int .i64 n)) ?_; omega

set_option maxHeartbeats 1000000 in
theorem c_laws_szBook (a : M.Boo) {v_a : Value} (left : Int) {w : World} (h_a : (Ty.agg (cBook a)).ok w v_a) (r0 : -1 ≤ left := by exact om_) (r1 : left ≤ 1048576 := by exact om_) : RetV Tryz.prog 8 [v_a, .int .i64 left] w (.int .i64 (M.szL (a.entries.length + M.totE a.entries) left)) := by
 have q1 := M.szL_cases (a.entries.length + M.totE a.entries) left
 revert v_a; apply opn
 intro A1 c1 h1 bl1 bh1
 refine enter @Tryz.func8 @Tryz.ntmps8 rfl rfl ?_
 refine zent ?_
 refine zS <| zb rfl fun b2 => Qa rfl <| zN <| Qf fh rfl <| Q0 0 rfl rfl rfl <| Qm rfl <| zv rfl (fun w hw => c_laws_szBookEntryS a.entries left (ok_ hw)) <| Qa rfl <| zJ <| zS <| Qm rfl <| Ql rfl rfl <| JL.nil ?_
 refine zi (fun h3 h3' => ?_) fun h3 h3' => ?_
 ·
  refine zS <| Qa rfl <| JL.nil ?_
  refine zR (Up.refl _ _) ?_
  refine congrArg (fun n => Ending.returned (Value.int .i64 n)) ?_; omega
 refine Js.skip <| zS <| Qm rfl <| Qa rfl <| JL.nil ?_
 refine zR (Up.refl _ _) ?_
 refine congrArg (fun n => Ending.returned (Value.int .i64 n)) ?_; omega

set_option maxHeartbeats 1000000 in
theorem c_laws_eqChoice (a : M.Cho) {v_a : Value} (b : M.Cho) {v_b : Value} {w : World} (h_a : (Ty.agg (cChoice a)).ok w v_a) (h_b : (Ty.agg (cChoice b)).ok w v_b) : RetV Tryz.prog 182 [v_a, v_b] w (.bool (decide (a = b))) := by
 revert v_a; apply opn
 revert v_b; apply opn
 refine enter @Tryz.func182 @Tryz.ntmps182 rfl rfl ?_
 refine zent ?_
 refine zS <| zb rfl fun b1 => zb rfl fun b2 => Qa rfl <| zJ <| zS <| Qf fh rfl <| Q0 1 rfl rfl rfl <| Qf fh rfl <| Q0 0 rfl rfl rfl <| Qd rfl rfl <| JL.nil ?_
 refine zi (fun h3 h3' => ?_) fun h3 h3' => ?_
 ·
  have hne : a ≠ b := by rintro rfl; simp at h3
  refine zS <| Qa rfl <| JL.nil ?_
  refine zR (Up.refl _ _) ?_
  first | (rw [decide_eq_false hne]; rfl) | (rw [decide_eq_true (M.cho_ext q0 q1 q2)]; rfl)
 have q0 : a.move = b.move := by simpa using h3
 refine Js.skip <| Js.seq <| zS <| Qf fh rfl <| Q0 1 rfl rfl rfl <| Qf fh rfl <| Q0 0 rfl rfl rfl <| Qd rfl rfl <| JL.nil ?_
 refine zi (fun h4 h4' => ?_) fun h4 h4' => ?_
 ·
  have hne : a ≠ b := by rintro rfl; simp at h4
  refine zS <| Qa rfl <| JL.nil ?_
  refine zR (Up.refl _ _) ?_
  first | (rw [decide_eq_false hne]; rfl) | (rw [decide_eq_true (M.cho_ext q0 q1 q2)]; rfl)
 have q1 : a.games = b.games := by simpa using h4
 refine Js.skip <| Js.seq <| zS <| Qf fh rfl <| Q0 1 rfl rfl rfl <| Qf fh rfl <| Q0 0 rfl rfl rfl <| Qd rfl rfl <| JL.nil ?_
 refine zi (fun h5 h5' => ?_) fun h5 h5' => ?_
 ·
  have hne : a ≠ b := by rintro rfl; simp at h5
  refine zS <| Qa rfl <| JL.nil ?_
  refine zR (Up.refl _ _) ?_
  first | (rw [decide_eq_false hne]; rfl) | (rw [decide_eq_true (M.cho_ext q0 q1 q2)]; rfl)
 have q2 : a.score = b.score := by simpa using h5
 refine Js.skip <| zS <| Qa rfl <| JL.nil ?_
 refine zR (Up.refl _ _) ?_
 first | (rw [decide_eq_false hne]; rfl) | (rw [decide_eq_true (M.cho_ext q0 q1 q2)]; rfl)

set_option maxHeartbeats 1000000 in
theorem c_laws_eqChoiceS (a : List M.Cho) {v_a : Value} (b : List M.Cho) {v_b : Value} {w : World} (h_a : (Ty.sl 81 3 a.length (lChoice a)).ok w v_a) (h_b : (Ty.sl 81 3 b.length (lChoice b)).ok w v_b) (r0 : a.length ≤ 4194304 := by exact om_) (r1 : b.length ≤ 4194304 := by exact om_) : RetV Tryz.prog 165 [v_a, v_b] w (.bool (decide (a = b))) := by
 revert v_a; apply opn
 intro A1 c1 h1 bl1 bh1
 have h_a := h1
 revert v_b; apply opn
 intro A2 c2 h2 bl2 bh2
 have h_b := h2
 refine enter @Tryz.func165 @Tryz.ntmps165 rfl rfl ?_
 refine zent ?_
 refine zS <| Qa rfl <| zJ <| zS <| Qm rfl <| Qz rfl <| Qm rfl <| Qz rfl <| Qd rfl rfl <| JL.nil ?_
 refine zi (fun h3 h3' => ?_) fun h3 h3' => ?_
 ·
  have e1 : decide (a = b) = false := by simp; rintro rfl; simp at h3
  refine zS <| Qa rfl <| JL.nil ?_
  refine zR (Up.refl _ _) ?_
  simp [outV, e1]
 have hlen : a.length = b.length := by have := h3'; omega
 refine Js.skip <| Js.seq <| zS <| Qa rfl <| JL.nil <| Js.block ?_
 refine zl [0, 1] (fun F U l os u m => ∃ (k : Nat), l = F [(5, .int .i64 (k : Int))] ∧ os = U [] ∧ (k ≤ a.length) ∧ (a.take k = b.take k) ∧ m = a.length - k) ⟨0, rfl, rfl, zt, by rfl, rfl⟩ ?_
 rintro _ _ u4 _ ⟨k, rfl, rfl, hk, hU, rfl⟩ x4
 refine zn ?_
 refine Js.seq <| zS <| Qm rfl <| Qm rfl <| Qz rfl <| Ql rfl rfl <| JL.nil ?_
 refine zi (fun h5 h5' => ?_) fun h5 h5' => ?_
 ·
  obtain ⟨ye6, hye6⟩ : ∃ x, a[k]? = some x := ⟨_, List.getElem?_eq_getElem (by omega)⟩
  obtain ⟨ye7, hye7⟩ : ∃ x, b[k]? = some x := ⟨_, List.getElem?_eq_getElem (by omega)⟩
  refine Js.skip <| Js.seq <| Js.block <| Js.seq ?_
  refine zdr [] ?_
  refine JH.p 0 rfl (p_move rfl) ?_
  refine JH.p 1 rfl (p_move rfl) ?_
  have hy8 := hye6
  obtain ⟨b8, o8, he8, hr8⟩ := elem_Choice (Ty.mono _ h1 x4.vis) hy8
  refine JH.p 2 rfl (p_indexAddr el_67 rfl rfl (by omega) (by omega) he8) ?_
  refine JH.w 3 rfl (fun os' u' hv => LS 0 (hr8.vis hv) rfl) ?_
  refine JH.p 4 rfl (p_move rfl) ?_
  refine JH.p 5 rfl (p_move rfl) ?_
  have hy9 := hye7
  obtain ⟨b9, o9, he9, hr9⟩ := elem_Choice (Ty.mono _ h2 x4.vis) hy9
  refine JH.p 6 rfl (p_indexAddr el_67 rfl rfl (by omega) (by omega) he9) ?_
  refine JH.w 7 rfl (fun os' u' hv => LS 0 (hr9.vis hv) rfl) ?_
  refine y1 8 ?_
  refine yv rfl rfl (fun w hw => c_laws_eqChoice ye6 ye7 (ok_ hw) (ok_ hw)) ?_
  refine JH.p 9 rfl (p_not rfl) ?_
  refine yd ?_
  refine zi (fun h10 h10' => ?_) fun h10 h10' => ?_
  ·
   have e1 : decide (a = b) = false := decide_eq_false (M.upto_ne hye6 hye7 (by simpa using h10))
   refine zS <| Qa rfl <| JL.nil ?_
   refine zR x4 ?_
   simp [outV, e1]
  have hab : ye6 = ye7 := by simpa using h10
  rw [← hab] at hye7
  have hU2 := M.upto_step hU hye6 hye7
  refine Js.skip <| Js.blockEnd <| Js.region <| Qm rfl <| Qp rfl rfl <| Qa rfl <| JL.nil ?_
  exact zag ⟨k + 1, rfl, rfl, zt, by exact hU2, rfl⟩ x4
 have e1 : a = b := M.upto_done hU (by have := h5'; omega) (by have := h5'; omega)
 refine zx ?_
 refine zS <| Qa rfl <| JL.nil ?_
 refine zR x4 ?_
 simp [outV, e1]

set_option maxHeartbeats 1000000 in
theorem c_laws_eqBookEntry (a : M.Ent) {v_a : Value} (b : M.Ent) {v_b : Value} {w : World} (h_a : (Ty.agg (cBookEntry a)).ok w v_a) (h_b : (Ty.agg (cBookEntry b)).ok w v_b) (r0 : a.pits.length ≤ 4194304 := by exact om_) (r1 : a.choices.length ≤ 4194304 := by exact om_) (r2 : b.pits.length ≤ 4194304 := by exact om_) (r3 : b.choices.length ≤ 4194304 := by exact om_) : RetV Tryz.prog 127 [v_a, v_b] w (.bool (decide (a = b))) := by
 revert v_a; apply opn
 intro A1 c1 h1 bl1 bh1 A2 c2 h2 bl2 bh2
 revert v_b; apply opn
 intro A3 c3 h3 bl3 bh3 A4 c4 h4 bl4 bh4
 refine enter @Tryz.func127 @Tryz.ntmps127 rfl rfl ?_
 refine zent ?_
 refine zS <| zb rfl fun b5 => zb rfl fun b6 => Qa rfl <| zJ <| zS <| Qf fh rfl <| Q0 1 rfl rfl rfl <| Qf fh rfl <| Q0 0 rfl rfl rfl <| zv rfl (fun w hw => c_laws_eqInt64S a.pits b.pits (ok_ hw) (ok_ hw)) <| Qt rfl <| JL.nil ?_
 refine zi (fun h7 h7' => ?_) fun h7 h7' => ?_
 ·
  have hne : a ≠ b := by rintro rfl; simp at h7
  refine zS <| Qa rfl <| JL.nil ?_
  refine zR (Up.refl _ _) ?_
  first | (rw [decide_eq_false hne]; rfl) | (rw [decide_eq_true (M.ent_ext q0 q1)]; rfl)
 have q0 : a.pits = b.pits := by simpa using h7
 refine Js.skip <| Js.seq <| zS <| Qf fh rfl <| Q0 1 rfl rfl rfl <| Qf fh rfl <| Q0 0 rfl rfl rfl <| zv rfl (fun w hw => c_laws_eqChoiceS a.choices b.choices (ok_ hw) (ok_ hw)) <| Qt rfl <| JL.nil ?_
 refine zi (fun h8 h8' => ?_) fun h8 h8' => ?_
 ·
  have hne : a ≠ b := by rintro rfl; simp at h8
  refine zS <| Qa rfl <| JL.nil ?_
  refine zR (Up.refl _ _) ?_
  first | (rw [decide_eq_false hne]; rfl) | (rw [decide_eq_true (M.ent_ext q0 q1)]; rfl)
 have q1 : a.choices = b.choices := by simpa using h8
 refine Js.skip <| zS <| Qa rfl <| JL.nil ?_
 refine zR (Up.refl _ _) ?_
 first | (rw [decide_eq_false hne]; rfl) | (rw [decide_eq_true (M.ent_ext q0 q1)]; rfl)

set_option maxHeartbeats 1000000 in
theorem c_laws_eqBookEntryS (a : List M.Ent) {v_a : Value} (b : List M.Ent) {v_b : Value} {w : World} (h_a : (Ty.sl 89 2 a.length (lBookEntry a)).ok w v_a) (h_b : (Ty.sl 89 2 b.length (lBookEntry b)).ok w v_b) (r0 : a.length ≤ 4194304 := by exact om_) (r1 : b.length ≤ 4194304 := by exact om_) (r2 : ∀ x ∈ a, x.pits.length ≤ 4194304 ∧ x.choices.length ≤ 4194304 := by exact om_) (r3 : ∀ x ∈ b, x.pits.length ≤ 4194304 ∧ x.choices.length ≤ 4194304 := by exact om_) : RetV Tryz.prog 69 [v_a, v_b] w (.bool (decide (a = b))) := by
 revert v_a; apply opn
 intro A1 c1 h1 bl1 bh1
 have h_a := h1
 revert v_b; apply opn
 intro A2 c2 h2 bl2 bh2
 have h_b := h2
 refine enter @Tryz.func69 @Tryz.ntmps69 rfl rfl ?_
 refine zent ?_
 refine zS <| Qa rfl <| zJ <| zS <| Qm rfl <| Qz rfl <| Qm rfl <| Qz rfl <| Qd rfl rfl <| JL.nil ?_
 refine zi (fun h3 h3' => ?_) fun h3 h3' => ?_
 ·
  have e1 : decide (a = b) = false := by simp; rintro rfl; simp at h3
  refine zS <| Qa rfl <| JL.nil ?_
  refine zR (Up.refl _ _) ?_
  simp [outV, e1]
 have hlen : a.length = b.length := by have := h3'; omega
 refine Js.skip <| Js.seq <| zS <| Qa rfl <| JL.nil <| Js.block ?_
 refine zl [0, 1] (fun F U l os u m => ∃ (k : Nat), l = F [(5, .int .i64 (k : Int))] ∧ os = U [] ∧ (k ≤ a.length) ∧ (a.take k = b.take k) ∧ m = a.length - k) ⟨0, rfl, rfl, zt, by rfl, rfl⟩ ?_
 rintro _ _ u4 _ ⟨k, rfl, rfl, hk, hU, rfl⟩ x4
 refine zn ?_
 refine Js.seq <| zS <| Qm rfl <| Qm rfl <| Qz rfl <| Ql rfl rfl <| JL.nil ?_
 refine zi (fun h5 h5' => ?_) fun h5 h5' => ?_
 ·
  obtain ⟨ye6, hye6⟩ : ∃ x, a[k]? = some x := ⟨_, List.getElem?_eq_getElem (by omega)⟩
  obtain ⟨ye7, hye7⟩ : ∃ x, b[k]? = some x := ⟨_, List.getElem?_eq_getElem (by omega)⟩
  refine Js.skip <| Js.seq <| Js.block <| Js.seq ?_
  refine zdr [] ?_
  refine JH.p 0 rfl (p_move rfl) ?_
  refine JH.p 1 rfl (p_move rfl) ?_
  have hy8 := hye6
  obtain ⟨b8, o8, A8_0, c8_0, A8_1, c8_1, he8, hr8, h8_0, h8_1, bl8_0, bh8_0, bl8_1, bh8_1⟩ := elem_BookEntry (Ty.mono _ h1 x4.vis) hy8
  refine JH.p 2 rfl (p_indexAddr el_35 rfl rfl (by omega) (by omega) he8) ?_
  refine JH.w 3 rfl (fun os' u' hv => LS 0 (hr8.vis hv) rfl) ?_
  refine JH.p 4 rfl (p_move rfl) ?_
  refine JH.p 5 rfl (p_move rfl) ?_
  have hy9 := hye7
  obtain ⟨b9, o9, A9_0, c9_0, A9_1, c9_1, he9, hr9, h9_0, h9_1, bl9_0, bh9_0, bl9_1, bh9_1⟩ := elem_BookEntry (Ty.mono _ h2 x4.vis) hy9
  refine JH.p 6 rfl (p_indexAddr el_35 rfl rfl (by omega) (by omega) he9) ?_
  refine JH.w 7 rfl (fun os' u' hv => LS 0 (hr9.vis hv) rfl) ?_
  refine y1 8 ?_
  refine yv rfl rfl (fun w hw => c_laws_eqBookEntry ye6 ye7 (ok_ hw) (ok_ hw) (r0 := (by have := r2 _ (List.mem_of_getElem? hye6); omega)) (r1 := (by have := r2 _ (List.mem_of_getElem? hye6); omega)) (r2 := (by have := r3 _ (List.mem_of_getElem? hye7); omega)) (r3 := (by have := r3 _ (List.mem_of_getElem? hye7); omega))) ?_
  refine JH.p 9 rfl (p_not rfl) ?_
  refine yd ?_
  refine zi (fun h10 h10' => ?_) fun h10 h10' => ?_
  ·
   have e1 : decide (a = b) = false := decide_eq_false (M.upto_ne hye6 hye7 (by simpa using h10))
   refine zS <| Qa rfl <| JL.nil ?_
   refine zR x4 ?_
   simp [outV, e1]
  have hab : ye6 = ye7 := by simpa using h10
  rw [← hab] at hye7
  have hU2 := M.upto_step hU hye6 hye7
  refine Js.skip <| Js.blockEnd <| Js.region <| Qm rfl <| Qp rfl rfl <| Qa rfl <| JL.nil ?_
  exact zag ⟨k + 1, rfl, rfl, zt, by exact hU2, rfl⟩ x4
 have e1 : a = b := M.upto_done hU (by have := h5'; omega) (by have := h5'; omega)
 refine zx ?_
 refine zS <| Qa rfl <| JL.nil ?_
 refine zR x4 ?_
 simp [outV, e1]

set_option maxHeartbeats 1000000 in
theorem c_laws_eqBook (a : M.Boo) {v_a : Value} (b : M.Boo) {v_b : Value} {w : World} (h_a : (Ty.agg (cBook a)).ok w v_a) (h_b : (Ty.agg (cBook b)).ok w v_b) (r0 : a.entries.length ≤ 4194304 := by exact om_) (r1 : ∀ x ∈ a.entries, x.pits.length ≤ 4194304 ∧ x.choices.length ≤ 4194304 := by exact om_) (r2 : b.entries.length ≤ 4194304 := by exact om_) (r3 : ∀ x ∈ b.entries, x.pits.length ≤ 4194304 ∧ x.choices.length ≤ 4194304 := by exact om_) : RetV Tryz.prog 15 [v_a, v_b] w (.bool (decide (a = b))) := by
 revert v_a; apply opn
 intro A1 c1 h1 bl1 bh1
 revert v_b; apply opn
 intro A2 c2 h2 bl2 bh2
 refine enter @Tryz.func15 @Tryz.ntmps15 rfl rfl ?_
 refine zent ?_
 refine zS <| zb rfl fun b3 => zb rfl fun b4 => Qa rfl <| zJ <| zS <| Qf fh rfl <| Q9 1 rfl rfl ?_
 refine Qf fh rfl <| Q9 0 rfl rfl ?_
 refine zv rfl (fun w hw => c_laws_eqRules a.rules b.rules (ok_ hw) (ok_ hw)) <| Qt rfl <| JL.nil ?_
 refine zi (fun h5 h5' => ?_) fun h5 h5' => ?_
 ·
  have hne : a ≠ b := by rintro rfl; simp at h5
  refine zS <| Qa rfl <| JL.nil ?_
  refine zR (Up.refl _ _) ?_
  first | (rw [decide_eq_false hne]; rfl) | (rw [decide_eq_true (M.boo_ext q0 q1)]; rfl)
 have q0 : a.rules = b.rules := by simpa using h5
 refine Js.skip <| Js.seq <| zS <| Qf fh rfl <| Q0 1 rfl rfl rfl <| Qf fh rfl <| Q0 0 rfl rfl rfl <| zv rfl (fun w hw => c_laws_eqBookEntryS a.entries b.entries (ok_ hw) (ok_ hw) (r2 := r1) (r3 := r3)) <| Qt rfl <| JL.nil ?_
 refine zi (fun h6 h6' => ?_) fun h6 h6' => ?_
 ·
  have hne : a ≠ b := by rintro rfl; simp at h6
  refine zS <| Qa rfl <| JL.nil ?_
  refine zR (Up.refl _ _) ?_
  first | (rw [decide_eq_false hne]; rfl) | (rw [decide_eq_true (M.boo_ext q0 q1)]; rfl)
 have q1 : a.entries = b.entries := by simpa using h6
 refine Js.skip <| zS <| Qa rfl <| JL.nil ?_
 refine zR (Up.refl _ _) ?_
 first | (rw [decide_eq_false hne]; rfl) | (rw [decide_eq_true (M.boo_ext q0 q1)]; rfl)

end Go.Proofs.YtcmfnlleikcpnaaGreat

namespace Go.Proofs.YtcmfnlleikcpnaaGreat
open Go.RowKit

set_option maxHeartbeats 1000000 in
theorem c_laws_markChoiceS (a : List M.Cho) {Aa_0 : Option Addr} {ca_0 : Nat} {ga_0 : List Nat} (k : Int) {w : World} (hb : Bw w [rowO 81 3 (.slice Aa_0 a.length ca_0) a.length (fltV vcChoice a) ga_0]) (bd0 : a.length ≤ ca_0 := by exact om_) (bd1 : ca_0 ≤ 9223372036854775807 := by exact om_) (r0 : a.length ≤ 4194304 := by exact om_) (r1 : 0 ≤ k := by exact om_) (r2 : k ≤ 50000000 := by exact om_) : RetB Tryz.prog 128 [.slice Aa_0 a.length ca_0, .int .i64 k] w [rowO 81 3 (.slice Aa_0 a.length ca_0) a.length (fltV vcChoice a) ga_0] (fun v bs' => v = .int .i64 (k + 3 * (a.length : Int)) ∧ bs' = [rowO 81 3 (.slice Aa_0 a.length ca_0) a.length (fltV vcChoice (M.mkL M.fC M.sC k a)) ga_0]) := by
 refine enterB hb @Tryz.func128 @Tryz.ntmps128 rfl rfl ?_
 refine zent ?_
 refine Js.trashE ?_
 refine zn ?_
 refine zS <| Qa rfl <| zJ <| zS <| Qa rfl <| JL.nil <| Js.block ?_
 refine zl [0] (fun F U l os u m => ∃ (i : Nat) (kk : Int) (xs : List M.Cho) (G1_1 : List Nat), l = F [(1, .int .i64 kk), (5, .int .i64 (i : Int))] ∧ os = U [some (rowO 81 3 (.slice Aa_0 a.length ca_0) a.length (fltV vcChoice xs) ga_0), some (anyO G1_1)] ∧ (xs = M.mkd2 M.fC M.sC k a i) ∧ (i ≤ a.length) ∧ (xs.length = a.length) ∧ (kk = k + 3 * (i : Int)) ∧ m = a.length - i) ⟨0, k, a, _, rfl, rfl, by exact M.mkd2_zero _ _ k a, zt, by rfl, by simp, rfl⟩ ?_
 rintro _ _ u1 _ ⟨i, kk, xs, G1_1, rfl, rfl, hX, hi, hl, hkk, rfl⟩ x1
 refine zn ?_
 refine Js.seq <| zS <| Qm rfl <| Qm rfl <| Qz rfl <| Ql rfl rfl <| JL.nil ?_
 refine zi (fun h2 h2' => ?_) fun h2 h2' => ?_
 ·
  have hxi : i < xs.length := by have := h2'; omega
  have hya9 := M.mkd2_get M.fC M.sC (k := k) (by rw [← hX]; exact M.cho_get hxi)
  have hs9 : M.szs M.sC (a.take i) = 3 * (i : Int) := by rw [M.szs_C, List.length_take]; omega
  have hq9 : xs.set i ⟨kk, kk + 1, kk + 1 + 1⟩ = M.mkd2 M.fC M.sC k a (i + 1) := by have h7 := M.mkd2_step M.fC M.sC (k := k) hya9; rw [← hX, hs9, ← hkk] at h7; rw [show kk + 1 + 1 = kk + 2 by omega]; exact h7
  refine Js.skip <| Js.seq <| Js.block <| zS <| Qm rfl <| Qm rfl <| Qm rfl ?_
  refine JL.fact (row_some (i := 0) rfl (by first | omega | (simp only [List.length_set, List.length_append, List.length_cons, List.length_nil, List.length_take, List.length_drop, List.length_replicate]; omega))) (fun hf4 => ?_)
  obtain ⟨b4, rfl⟩ := hf4
  have hy3 : xs[i]? = some (M.cho xs i) := M.cho_get (by first | omega | (simp only [List.length_set, List.length_append, List.length_cons, List.length_nil, List.length_take, List.length_drop, List.length_replicate]; omega))
  refine Qq (p_indexAddr el_67 rfl rfl (by first | omega | (simp only [List.length_set, List.length_append, List.length_cons, List.length_nil, List.length_take, List.length_drop, List.length_replicate]; omega)) (by first | omega | (simp only [List.length_set, List.length_append, List.length_cons, List.length_nil, List.length_take, List.length_drop, List.length_replicate]; omega)) rfl) <| Qf fh rfl ?_
  refine JL.s (e_storeRow (i := 0) (xs' := fltV vcChoice (xs.set i (M.Cho.mk kk ((M.cho xs i).games) ((M.cho xs i).score)))) ty_2.h rfl rfl rfl rfl rfl rfl (fltV_lt (C := vcChoice) (j := 0) (fun _ => rfl) (by first | omega | (simp only [List.length_set, List.length_append, List.length_cons, List.length_nil, List.length_take, List.length_drop, List.length_replicate]; omega)) (by decide)) (fltV_cell (C := vcChoice) (j := 0) (y' := (M.Cho.mk kk ((M.cho xs i).games) ((M.cho xs i).score))) (fun _ => rfl) hy3 (by decide) rfl)) ?_
  rintro _ _ _ ⟨rfl, rfl⟩ _
  refine znl ?_
  have hy5 : (xs.set i (M.Cho.mk kk ((M.cho xs i).games) ((M.cho xs i).score)))[i]? = some (M.cho (xs.set i (M.Cho.mk kk ((M.cho xs i).games) ((M.cho xs i).score))) i) := M.cho_get (by first | omega | (simp only [List.length_set, List.length_append, List.length_cons, List.length_nil, List.length_take, List.length_drop, List.length_replicate]; omega))
  refine zN <| Qm rfl <| Qp rfl rfl <| Qa rfl <| zN <| Qm rfl <| Qm rfl <| Qm rfl <| Qq (p_indexAddr el_67 rfl rfl (by first | omega | (simp only [List.length_set, List.length_append, List.length_cons, List.length_nil, List.length_take, List.length_drop, List.length_replicate]; omega)) (by first | omega | (simp only [List.length_set, List.length_append, List.length_cons, List.length_nil, List.length_take, List.length_drop, List.length_replicate]; omega)) rfl) <| Qf fh rfl ?_
  refine JL.s (e_storeRow (i := 0) (xs' := fltV vcChoice ((xs.set i (M.Cho.mk kk ((M.cho xs i).games) ((M.cho xs i).score))).set i (M.Cho.mk ((M.cho (xs.set i (M.Cho.mk kk ((M.cho xs i).games) ((M.cho xs i).score))) i).move) (kk + 1) ((M.cho (xs.set i (M.Cho.mk kk ((M.cho xs i).games) ((M.cho xs i).score))) i).score)))) ty_2.h rfl rfl rfl rfl rfl rfl (fltV_lt (C := vcChoice) (j := 1) (fun _ => rfl) (by first | omega | (simp only [List.length_set, List.length_append, List.length_cons, List.length_nil, List.length_take, List.length_drop, List.length_replicate]; omega)) (by decide)) (fltV_cell (C := vcChoice) (j := 1) (y' := (M.Cho.mk ((M.cho (xs.set i (M.Cho.mk kk ((M.cho xs i).games) ((M.cho xs i).score))) i).move) (kk + 1) ((M.cho (xs.set i (M.Cho.mk kk ((M.cho xs i).games) ((M.cho xs i).score))) i).score))) (fun _ => rfl) hy5 (by decide) rfl)) ?_
  rintro _ _ _ ⟨rfl, rfl⟩ _
  refine znl ?_
  have hy6 : ((xs.set i (M.Cho.mk kk ((M.cho xs i).games) ((M.cho xs i).score))).set i (M.Cho.mk ((M.cho (xs.set i (M.Cho.mk kk ((M.cho xs i).games) ((M.cho xs i).score))) i).move) (kk + 1) ((M.cho (xs.set i (M.Cho.mk kk ((M.cho xs i).games) ((M.cho xs i).score))) i).score)))[i]? = some (M.cho ((xs.set i (M.Cho.mk kk ((M.cho xs i).games) ((M.cho xs i).score))).set i (M.Cho.mk ((M.cho (xs.set i (M.Cho.mk kk ((M.cho xs i).games) ((M.cho xs i).score))) i).move) (kk + 1) ((M.cho (xs.set i (M.Cho.mk kk ((M.cho xs i).games) ((M.cho xs i).score))) i).score))) i) := M.cho_get (by first | omega | (simp only [List.length_set, List.length_append, List.length_cons, List.length_nil, List.length_take, List.length_drop, List.length_replicate]; omega))
  refine zN <| Qm rfl <| Qp rfl rfl <| Qa rfl <| zN <| Qm rfl <| Qm rfl <| Qm rfl <| Qq (p_indexAddr el_67 rfl rfl (by first | omega | (simp only [List.length_set, List.length_append, List.length_cons, List.length_nil, List.length_take, List.length_drop, List.length_replicate]; omega)) (by first | omega | (simp only [List.length_set, List.length_append, List.length_cons, List.length_nil, List.length_take, List.length_drop, List.length_replicate]; omega)) rfl) <| Qf fh rfl ?_
  refine JL.s (e_storeRow (i := 0) (xs' := fltV vcChoice (((xs.set i (M.Cho.mk kk ((M.cho xs i).games) ((M.cho xs i).score))).set i (M.Cho.mk ((M.cho (xs.set i (M.Cho.mk kk ((M.cho xs i).games) ((M.cho xs i).score))) i).move) (kk + 1) ((M.cho (xs.set i (M.Cho.mk kk ((M.cho xs i).games) ((M.cho xs i).score))) i).score))).set i (M.Cho.mk ((M.cho ((xs.set i (M.Cho.mk kk ((M.cho xs i).games) ((M.cho xs i).score))).set i (M.Cho.mk ((M.cho (xs.set i (M.Cho.mk kk ((M.cho xs i).games) ((M.cho xs i).score))) i).move) (kk + 1) ((M.cho (xs.set i (M.Cho.mk kk ((M.cho xs i).games) ((M.cho xs i).score))) i).score))) i).move) ((M.cho ((xs.set i (M.Cho.mk kk ((M.cho xs i).games) ((M.cho xs i).score))).set i (M.Cho.mk ((M.cho (xs.set i (M.Cho.mk kk ((M.cho xs i).games) ((M.cho xs i).score))) i).move) (kk + 1) ((M.cho (xs.set i (M.Cho.mk kk ((M.cho xs i).games) ((M.cho xs i).score))) i).score))) i).games) ((kk + 1) + 1)))) ty_2.h rfl rfl rfl rfl rfl rfl (fltV_lt (C := vcChoice) (j := 2) (fun _ => rfl) (by first | omega | (simp only [List.length_set, List.length_append, List.length_cons, List.length_nil, List.length_take, List.length_drop, List.length_replicate]; omega)) (by decide)) (fltV_cell (C := vcChoice) (j := 2) (y' := (M.Cho.mk ((M.cho ((xs.set i (M.Cho.mk kk ((M.cho xs i).games) ((M.cho xs i).score))).set i (M.Cho.mk ((M.cho (xs.set i (M.Cho.mk kk ((M.cho xs i).games) ((M.cho xs i).score))) i).move) (kk + 1) ((M.cho (xs.set i (M.Cho.mk kk ((M.cho xs i).games) ((M.cho xs i).score))) i).score))) i).move) ((M.cho ((xs.set i (M.Cho.mk kk ((M.cho xs i).games) ((M.cho xs i).score))).set i (M.Cho.mk ((M.cho (xs.set i (M.Cho.mk kk ((M.cho xs i).games) ((M.cho xs i).score))) i).move) (kk + 1) ((M.cho (xs.set i (M.Cho.mk kk ((M.cho xs i).games) ((M.cho xs i).score))) i).score))) i).games) ((kk + 1) + 1))) (fun _ => rfl) hy6 (by decide) rfl)) ?_
  rintro _ _ _ ⟨rfl, rfl⟩ _
  refine znl ?_
  refine zG <| Qm rfl <| Qp rfl rfl <| Qa rfl <| JL.nil <| Js.blockEnd <| Js.region <| Qm rfl <| Qp rfl rfl <| Qa rfl <| JL.nil ?_
  exact zag ⟨i + 1, ((kk + 1) + 1) + 1, ((xs.set i (M.Cho.mk kk ((M.cho xs i).games) ((M.cho xs i).score))).set i (M.Cho.mk ((M.cho (xs.set i (M.Cho.mk kk ((M.cho xs i).games) ((M.cho xs i).score))) i).move) (kk + 1) ((M.cho (xs.set i (M.Cho.mk kk ((M.cho xs i).games) ((M.cho xs i).score))) i).score))).set i (M.Cho.mk ((M.cho ((xs.set i (M.Cho.mk kk ((M.cho xs i).games) ((M.cho xs i).score))).set i (M.Cho.mk ((M.cho (xs.set i (M.Cho.mk kk ((M.cho xs i).games) ((M.cho xs i).score))) i).move) (kk + 1) ((M.cho (xs.set i (M.Cho.mk kk ((M.cho xs i).games) ((M.cho xs i).score))) i).score))) i).move) ((M.cho ((xs.set i (M.Cho.mk kk ((M.cho xs i).games) ((M.cho xs i).score))).set i (M.Cho.mk ((M.cho (xs.set i (M.Cho.mk kk ((M.cho xs i).games) ((M.cho xs i).score))) i).move) (kk + 1) ((M.cho (xs.set i (M.Cho.mk kk ((M.cho xs i).games) ((M.cho xs i).score))) i).score))) i).games) ((kk + 1) + 1)), _, rfl, rfl, by rw [M.cho_set (by omega), M.cho_set (by simp; omega), List.set_set, List.set_set]; exact hq9, zt, by simp; exact hl, zt, rfl⟩ x1
 have hi2 : i = a.length := by have := h2'; omega
 have hM : M.mkL M.fC M.sC k a = xs := by rw [hX]; exact (M.mkd2_end _ _ hi2).symm
 refine zx ?_
 refine zS <| Qm rfl <| Qa rfl <| JL.nil ?_
 refine zrb [0] hb x1 ?_
 have hE : (.int .i64 kk : Value) = .int .i64 (k + 3 * (a.length : Int)) := by first | exact hM | (refine congrArg (Value.int .i64) ?_; omega)
 have hE1 : M.mkL M.fC M.sC k a = xs := by first | exact hM | (refine congrArg (Value.int .i64) ?_; omega)
 refine ⟨hE, ?_⟩
 · rw [hE1]

set_option maxHeartbeats 1000000 in
theorem c_laws_heldChoiceS (a : List M.Cho) {v_a : Value} (k : Int) {w : World} (h_a : (Ty.sl 81 3 a.length (lChoice a)).ok w v_a) (r0 : a.length ≤ 4194304 := by exact om_) (r1 : 0 ≤ k := by exact om_) (r2 : k ≤ 50000000 := by exact om_) : RetV Tryz.prog 136 [v_a, .int .i64 k] w (.int .i64 (M.heldL M.hC k a)) := by
 revert v_a; apply opn
 intro A1 c1 h1 bl1 bh1
 have h_a := h1
 refine enter @Tryz.func136 @Tryz.ntmps136 rfl rfl ?_
 refine zent ?_
 refine zS <| Qa rfl <| zJ <| zS <| Qa rfl <| JL.nil <| Js.block ?_
 refine zl [0] (fun F U l os u m => ∃ (i : Nat) (kk : Int), l = F [(1, .int .i64 kk), (5, .int .i64 (i : Int))] ∧ os = U [] ∧ (M.heldL M.hC kk (a.drop i) = M.heldL M.hC k a) ∧ (i ≤ a.length) ∧ (kk = k + 3 * (i : Int)) ∧ m = a.length - i) ⟨0, k, rfl, rfl, by rfl, zt, by simp, rfl⟩ ?_
 rintro _ _ u2 _ ⟨i, kk, rfl, rfl, hS, hi, hkk, rfl⟩ x2
 refine zn ?_
 refine Js.seq <| zS <| Qm rfl <| Qm rfl <| Qz rfl <| Ql rfl rfl <| JL.nil ?_
 refine zi (fun h3 h3' => ?_) fun h3 h3' => ?_
 ·
  have hia : i < a.length := by have := h3'; omega
  have hY := M.cho_get hia
  have hy4 : a[i]? = some (M.cho a i) := M.cho_get (by omega)
  obtain ⟨b4, o4, he4, hr4⟩ := elem_Choice (Ty.mono _ h1 x2.vis) hy4
  refine Js.skip <| Js.seq <| Js.block <| Js.seq <| zS <| Qm rfl <| Qm rfl <| Qq (p_indexAddr el_67 rfl rfl (by omega) (by omega) he4) <| Qf fh rfl <| QC (hr4 0 _ rfl) rfl <| Qm rfl <| Qd rfl rfl <| JL.nil ?_
  refine zi (fun h5 h5' => ?_) fun h5 h5' => ?_
  ·
   have hE := M.heldL_no M.hC hS hY (by rw [M.hC_1 (by simpa using h5)]; decide)
   refine zS <| Qa rfl <| JL.nil ?_
   refine zR x2 ?_
   first | (rw [hE]; rfl)
  have q1 : (M.cho a i).move = kk := by simpa using h5
  have hy6 : a[i]? = some (M.cho a i) := M.cho_get (by omega)
  obtain ⟨b6, o6, he6, hr6⟩ := elem_Choice (Ty.mono _ h1 x2.vis) hy6
  refine Js.skip <| zS <| Qm rfl <| Qp rfl rfl <| Qa rfl <| zJ <| zS <| Qm rfl <| Qm rfl <| Qq (p_indexAddr el_67 rfl rfl (by omega) (by omega) he6) <| Qf fh rfl <| QC (hr6 1 _ rfl) rfl <| Qm rfl <| Qd rfl rfl ?_
  refine JL.nil ?_
  refine zi (fun h7 h7' => ?_) fun h7 h7' => ?_
  ·
   have hE := M.heldL_no M.hC hS hY (by rw [M.hC_2 q1 (by simpa using h7)]; decide)
   refine zS <| Qa rfl <| JL.nil ?_
   refine zR x2 ?_
   first | (rw [hE]; rfl)
  have q2 : (M.cho a i).games = kk + 1 := by simpa using h7
  have hy8 : a[i]? = some (M.cho a i) := M.cho_get (by omega)
  obtain ⟨b8, o8, he8, hr8⟩ := elem_Choice (Ty.mono _ h1 x2.vis) hy8
  refine Js.skip <| zS <| Qm rfl <| Qp rfl rfl <| Qa rfl <| zJ <| zS <| Qm rfl <| Qm rfl <| Qq (p_indexAddr el_67 rfl rfl (by omega) (by omega) he8) <| Qf fh rfl <| QC (hr8 2 _ rfl) rfl <| Qm rfl <| Qd rfl rfl ?_
  refine JL.nil ?_
  refine zi (fun h9 h9' => ?_) fun h9 h9' => ?_
  ·
   have hE := M.heldL_no M.hC hS hY (by rw [M.hC_3 q1 q2 (by have := h9'; omega)]; decide)
   refine zS <| Qa rfl <| JL.nil ?_
   refine zR x2 ?_
   first | (rw [hE]; rfl)
  have q3 : (M.cho a i).score = kk + 2 := by have := h9'; omega
  have q4 := M.hC_0 q1 q2 q3
  have hS2 := M.heldL_step M.hC hS hY (by omega)
  rw [q4] at hS2
  have q5 : kk + 1 + 1 + 1 = kk + 3 := by omega
  rw [← q5] at hS2
  refine Js.skip <| Js.region <| Qm rfl <| Qp rfl rfl <| Qa rfl <| JL.nil <| Js.blockEnd <| Js.region <| Qm rfl <| Qp rfl rfl <| Qa rfl <| JL.nil ?_
  exact zag ⟨i + 1, ((kk + 1) + 1) + 1, rfl, rfl, by exact hS2, zt, zt, rfl⟩ x2
 have hE := M.heldL_end M.hC hS (by have := h3'; omega)
 refine zx ?_
 refine zS <| Qm rfl <| Qa rfl <| JL.nil ?_
 refine zR x2 ?_
 first | (rw [hE]; rfl)

set_option maxHeartbeats 1000000 in
theorem c_laws_markBookEntryS (a : List M.Ent) {Aa_0 : Option Addr} {ca_0 : Nat} {ga_0 : List Nat} {vsa_0 : List Value} {fa_0 : List Nat} (k : Int) {w : World} (hb : Bw w [rowO 89 2 (.slice Aa_0 a.length ca_0) a.length vsa_0 ga_0, ownC (lBookEntry a) vsa_0 fa_0]) (bd0 : a.length ≤ ca_0 := by exact om_) (bd1 : ca_0 ≤ 9223372036854775807 := by exact om_) (r0 : a.length ≤ 4194304 := by exact om_) (r1 : M.totE a ≤ 4194304 := by exact om_) (r2 : 0 ≤ k := by exact om_) (r3 : k ≤ 20000000 := by exact om_) : RetB Tryz.prog 70 [.slice Aa_0 a.length ca_0, .int .i64 k] w [rowO 89 2 (.slice Aa_0 a.length ca_0) a.length vsa_0 ga_0, ownC (lBookEntry a) vsa_0 fa_0] (fun v bs' => ∃ (vsxa : List Value) (fxa : List Nat), v = .int .i64 (k + M.szs M.sE a) ∧ bs' = [rowO 89 2 (.slice Aa_0 a.length ca_0) a.length vsxa ga_0, ownC (lBookEntry (M.mkL M.fE M.sE k a)) vsxa fxa]) := by
 refine enterB hb @Tryz.func70 @Tryz.ntmps70 rfl rfl ?_
 refine zent ?_
 refine Js.trashE ?_
 refine zn ?_
 refine zS <| Qa rfl <| zJ <| zS <| Qa rfl <| JL.nil <| Js.block ?_
 refine zl [0] (fun F U l os u m => ∃ (i : Nat) (kk : Int) (xs : List M.Ent) (vs1_0 : List Value) (fl1_0 : List Nat) (G1_2 : List Nat), l = F [(1, .int .i64 kk), (5, .int .i64 (i : Int))] ∧ os = U [some (rowO 89 2 (.slice Aa_0 a.length ca_0) a.length vs1_0 ga_0), some (ownC (lBookEntry xs) vs1_0 fl1_0), some (anyO G1_2)] ∧ (xs = M.mkd2 M.fE M.sE k a i) ∧ (i ≤ a.length) ∧ (xs.length = a.length) ∧ (kk = k + M.szs M.sE (a.take i)) ∧ (0 ≤ kk) ∧ (kk ≤ 33000000) ∧ m = a.length - i) ⟨0, k, a, _, _, _, rfl, rfl, by exact M.mkd2_zero _ _ k a, zt, by rfl, by simp [M.szs], zt, zt, rfl⟩ ?_
 rintro _ _ u1 _ ⟨i, kk, xs, vs1_0, fl1_0, G1_2, rfl, rfl, hX, hi, hl, hkk, hk0, hk1, rfl⟩ x1
 refine zn ?_
 refine Js.seq <| zS <| Qm rfl <| Qm rfl <| Qz rfl <| Ql rfl rfl <| JL.nil ?_
 refine zi (fun h2 h2' => ?_) fun h2 h2' => ?_
 ·
  have hxi : i < xs.length := by have := h2'; omega
  have hya9 := M.mkd2_get M.fE M.sE (k := k) (by rw [← hX]; exact M.ent_get hxi)
  have hyl9 := M.totE_mem (List.mem_of_getElem? hya9)
  have hsq9 : M.sE (M.ent xs i) = ((M.ent xs i).pits.length : Int) + 3 * ((M.ent xs i).choices.length : Int) := rfl
  have hst9 := M.szs_step M.sE _ _ _ hya9
  have hsl9 := M.szs_E_take a (i + 1)
  have hq9 : xs.set i ⟨M.up kk (M.ent xs i).pits.length, M.mkL M.fC M.sC (kk + ((M.ent xs i).pits.length : Int)) (M.ent xs i).choices⟩ = M.mkd2 M.fE M.sE k a (i + 1) := by have h7 := M.mkd2_step M.fE M.sE (k := k) hya9; rw [← hX, ← hkk] at h7; exact h7
  refine Js.skip <| Js.seq <| Js.block <| zS <| Qm rfl <| Qm rfl ?_
  refine JL.fact (row_some (i := 0) rfl (by omega)) (fun hf4 => ?_)
  obtain ⟨b4, rfl⟩ := hf4
  have hy3 : xs[i]? = some (M.ent xs i) := M.ent_get (by first | omega | (simp only [List.length_set, List.length_append, List.length_cons, List.length_nil, List.length_take, List.length_drop, List.length_replicate]; omega))
  refine JL.fact (fun w hw => elemv_BookEntry (Mem.ownC (i := 1) rfl w hw) hy3) (fun hf3 => ?_)
  obtain ⟨A3_0, c3_0, A3_1, c3_1, he3, bl3_0, bh3_0, bl3_1, bh3_1⟩ := hf3
  refine Qq (p_indexAddr el_35 rfl rfl (by omega) (by omega) rfl) <| Qf fh rfl <| Qw (q_load1 ty_27.h rfl (fun w hw => (Mem.rowR' (i := 0) rfl he3 w hw) 0 _ rfl)) <| Qm rfl ?_
  refine JL.fact (fun w hw => elem_in cBookEntry (m := 2) (k := i) (xs := xs) (fun _ => rfl) (Mem.ownC (i := 1) rfl w hw) (by omega)) (fun hl5 => ?_)
  refine JL.ex3 (fun w hw => St.elemS cBookEntry (m := 2) (i := 1) (xs := xs) (fun _ => rfl) rfl hy3 he3 hw) (fun f5_1 f5_2 f5_3 => ?_)
  refine JL.unp 0 ?_
  refine znl ?_
  refine zhl [1] ?_
  refine zBB 1 sp_ rfl (fun w hb _ hw => c_laws_markInt64S ((M.ent xs i).pits) kk hb) ?_
  rintro _ _ G6 ⟨rfl, rfl⟩
  refine znl ?_
  refine Qa rfl <| zG <| Qm rfl <| Qm rfl <| Qq (p_indexAddr el_35 rfl rfl (by omega) (by omega) rfl) <| Qf fh rfl <| Qw (q_load1 ty_67.h rfl (fun w hw => (Mem.rowR' (i := 5) rfl he3 w hw) 1 _ rfl)) <| Qm rfl ?_
  refine zhl [2] ?_
  refine zBB 1 sp_ rfl (fun w hb _ hw => c_laws_markChoiceS ((M.ent xs i).choices) (kk + (((M.ent xs i).pits).length : Int)) hb) ?_
  rintro _ _ G8 ⟨rfl, rfl⟩
  refine znl ?_
  refine Qa rfl <| JL.nil <| Js.blockEnd <| Js.region <| Qm rfl <| Qp rfl rfl <| Qa rfl <| JL.nil ?_
  refine Js.pk (cBookEntry (M.Ent.mk (M.up kk ((M.ent xs i).pits).length) (M.mkL M.fC M.sC (kk + (((M.ent xs i).pits).length : Int)) ((M.ent xs i).choices)))) [.slice A3_0 (((M.ent xs i).pits).length) c3_0, .slice A3_1 (((M.ent xs i).choices).length) c3_1] (fun f10 G10 => ?_) (by exact (gv_agg (gvc gv_ (gvc (gv_flat lChoice (xs := (M.mkL M.fC M.sC (kk + (((M.ent xs i).pits).length : Int)) ((M.ent xs i).choices))) po_ (by first | rfl | (simp [fltV]; done)) (by first | with_reducible rfl | assumption | rfl)) gvn))))
  refine Js.front (i := 4) rfl ?_
  refine zn ?_
  refine Js.front (i := 1) rfl ?_
  refine zn ?_
  refine Js.front (i := 5) rfl ?_
  refine zn ?_
  refine Js.conv (fun w hw => St.closeE cBookEntry (k := i) (m := 2) (xs := xs) (y := (M.Ent.mk (M.up kk ((M.ent xs i).pits).length) (M.mkL M.fC M.sC (kk + (((M.ent xs i).pits).length : Int)) ((M.ent xs i).choices)))) (vs := vs1_0) (vs' := vs1_0) (by omega) rfl (setL_same he3 rfl) hw) ?_
  refine zn ?_
  refine zf [4, 0] fun GG11 => ?_
  refine zn ?_
  exact zag ⟨i + 1, (kk + (((M.ent xs i).pits).length : Int)) + 3 * (((M.ent xs i).choices).length : Int), xs.set i (M.Ent.mk (M.up kk ((M.ent xs i).pits).length) (M.mkL M.fC M.sC (kk + (((M.ent xs i).pits).length : Int)) ((M.ent xs i).choices))), _, _, _, rfl, rfl, by exact hq9, zt, by rw [List.length_set]; exact hl, by omega, by omega, by omega, rfl⟩ x1
 have hi2 : i = a.length := by have := h2'; omega
 have hM : M.mkL M.fE M.sE k a = xs := by rw [hX]; exact (M.mkd2_end _ _ hi2).symm
 have hN : kk = k + M.szs M.sE a := by rw [hkk, List.take_of_length_le (by omega)]
 refine zx ?_
 refine zS <| Qm rfl <| Qa rfl <| JL.nil ?_
 refine zrb [0, 0] hb x1 ?_
 have hE : (.int .i64 kk : Value) = .int .i64 (k + M.szs M.sE a) := by first | exact hM | (rw [hN]; rfl) | (refine congrArg (Value.int .i64) ?_; omega)
 have hE1 : M.mkL M.fE M.sE k a = xs := by first | exact hM | (rw [hN]; rfl) | (refine congrArg (Value.int .i64) ?_; omega)
 refine ⟨vs1_0, fl1_0, hE, ?_⟩
 · rw [hE1]

set_option maxHeartbeats 1000000 in
theorem c_laws_heldBookEntryS (a : List M.Ent) {v_a : Value} (k : Int) {w : World} (h_a : (Ty.sl 89 2 a.length (lBookEntry a)).ok w v_a) (r0 : a.length ≤ 4194304 := by exact om_) (r1 : M.totE a ≤ 4194304 := by exact om_) (r2 : 0 ≤ k := by exact om_) (r3 : k ≤ 20000000 := by exact om_) : RetV Tryz.prog 81 [v_a, .int .i64 k] w (.int .i64 (M.heldL M.hE k a)) := by
 revert v_a; apply opn
 intro A1 c1 h1 bl1 bh1
 have h_a := h1
 refine enter @Tryz.func81 @Tryz.ntmps81 rfl rfl ?_
 refine zent ?_
 refine zS <| Qa rfl <| zJ <| zS <| Qa rfl <| JL.nil <| Js.block ?_
 refine zl [0] (fun F U l os u m => ∃ (i : Nat) (kk : Int), l = F [(1, .int .i64 kk), (5, .int .i64 (i : Int))] ∧ os = U [] ∧ (M.heldL M.hE kk (a.drop i) = M.heldL M.hE k a) ∧ (i ≤ a.length) ∧ (0 ≤ kk) ∧ (kk ≤ k + 3 * (M.totE (a.take i) : Int)) ∧ m = a.length - i) ⟨0, k, rfl, rfl, by rfl, zt, zt, by simp [M.totE], rfl⟩ ?_
 rintro _ _ u2 _ ⟨i, kk, rfl, rfl, hS, hi, hk0, hk1, rfl⟩ x2
 refine zn ?_
 refine Js.seq <| zS <| Qm rfl <| Qm rfl <| Qz rfl <| Ql rfl rfl <| JL.nil ?_
 refine zi (fun h3 h3' => ?_) fun h3 h3' => ?_
 ·
  have hia : i < a.length := by have := h3'; omega
  have hY := M.ent_get hia
  have hyl9 := M.totE_mem (List.mem_of_getElem? hY)
  have t1 := M.totE_step hia
  have t2 := M.totE_le a i
  have t3 := M.totE_le a (i + 1)
  have hb1 := M.held_bd (M.ent a i).pits (k := kk) hk0
  have hy4 : a[i]? = some (M.ent a i) := M.ent_get (by omega)
  obtain ⟨b4, o4, A4_0, c4_0, A4_1, c4_1, he4, hr4, h4_0, h4_1, bl4_0, bh4_0, bl4_1, bh4_1⟩ := elem_BookEntry (Ty.mono _ h1 x2.vis) hy4
  refine Js.skip <| Js.seq <| Js.block <| zS <| Qm rfl <| Qm rfl <| Qq (p_indexAddr el_35 rfl rfl (by omega) (by omega) he4) <| Qf fh rfl <| QC (hr4 0 _ rfl) rfl <| Qm rfl <| zv rfl (fun w hw => c_laws_heldInt64S ((M.ent a i).pits) kk (ok_ hw)) <| Qa rfl <| zJ <| zS ?_
  refine Qm rfl <| Ql rfl rfl <| JL.nil ?_
  refine zi (fun h5 h5' => ?_) fun h5 h5' => ?_
  ·
   have hE := M.heldL_no M.hE hS hY (by rw [M.hE_1 (by simpa using h5)]; decide)
   refine zS <| Qa rfl <| JL.nil ?_
   refine zR x2 ?_
   first | (rw [hE]; rfl)
  have q1 : ¬ M.held (M.ent a i).pits kk < 0 := by simpa using h5
  have hb2 := M.heldC_bd (M.ent a i).choices (k := M.held (M.ent a i).pits kk) (by omega)
  have hy6 : a[i]? = some (M.ent a i) := M.ent_get (by omega)
  obtain ⟨b6, o6, A6_0, c6_0, A6_1, c6_1, he6, hr6, h6_0, h6_1, bl6_0, bh6_0, bl6_1, bh6_1⟩ := elem_BookEntry (Ty.mono _ h1 x2.vis) hy6
  refine Js.skip <| zS <| Qm rfl <| Qm rfl <| Qq (p_indexAddr el_35 rfl rfl (by omega) (by omega) he6) <| Qf fh rfl <| QC (hr6 1 _ rfl) rfl <| Qm rfl <| zv rfl (fun w hw => c_laws_heldChoiceS ((M.ent a i).choices) (M.held ((M.ent a i).pits) kk) (ok_ hw)) <| Qa rfl <| zN <| Qm rfl <| Ql rfl rfl <| JL.nil ?_
  refine zi (fun h7 h7' => ?_) fun h7 h7' => ?_
  ·
   have hE := M.heldL_no M.hE hS hY (by rw [M.hE_2 q1 (by simpa using h7)]; decide)
   refine zS <| Qa rfl <| JL.nil ?_
   refine zR x2 ?_
   first | (rw [hE]; rfl)
  have q2 : ¬ M.heldL M.hC (M.held (M.ent a i).pits kk) (M.ent a i).choices < 0 := by simpa using h7
  have hS2 := M.heldL_step M.hE hS hY (by rw [M.hE_0 q1 q2]; omega)
  rw [M.hE_0 q1 q2] at hS2
  refine Js.skip <| Js.blockEnd <| Js.region <| Qm rfl <| Qp rfl rfl <| Qa rfl <| JL.nil ?_
  exact zag ⟨i + 1, M.heldL M.hC (M.held ((M.ent a i).pits) kk) ((M.ent a i).choices), rfl, rfl, by exact hS2, zt, zt, zt, rfl⟩ x2
 have hE := M.heldL_end M.hE hS (by have := h3'; omega)
 refine zx ?_
 refine zS <| Qm rfl <| Qa rfl <| JL.nil ?_
 refine zR x2 ?_
 first | (rw [hE]; rfl)

set_option maxHeartbeats 1000000 in
theorem c_laws_markBook (a_rules : M.Rul) (a_entries : List M.Ent) {Aa_9 : Option Addr} {ca_9 : Nat} {ga_9 : List Nat} {vsa_9 : List Value} {fa_9 : List Nat} (k : Int) {w : World} (hb : Bw w [rowO 89 2 (.slice Aa_9 a_entries.length ca_9) a_entries.length vsa_9 ga_9, ownC (lBookEntry a_entries) vsa_9 fa_9]) (bd0 : a_entries.length ≤ ca_9 := by exact om_) (bd1 : ca_9 ≤ 9223372036854775807 := by exact om_) (r0 : a_entries.length ≤ 4194304 := by exact om_) (r1 : M.totE a_entries ≤ 4194304 := by exact om_) (r2 : 0 ≤ k := by exact om_) (r3 : k ≤ 20000000 := by exact om_) : RetB Tryz.prog 17 [.agg #[.int .i64 a_rules.pits, .int .i64 a_rules.seeds, .bool a_rules.stores, .bool a_rules.skip, .bool a_rules.relay, .bool a_rules.feed, .bool a_rules.again, .int .i64 a_rules.capture, .int .i64 a_rules.slam, .slice Aa_9 a_entries.length ca_9], .int .i64 k] w [rowO 89 2 (.slice Aa_9 a_entries.length ca_9) a_entries.length vsa_9 ga_9, ownC (lBookEntry a_entries) vsa_9 fa_9] (fun v bs' => ∃ (vsxa_w0 : List Value) (fxa_w0 : List Nat), v = .int .i64 (k + M.szs M.sE a_entries) ∧ bs' = [rowO 89 2 (.slice Aa_9 a_entries.length ca_9) a_entries.length vsxa_w0 ga_9, ownC (lBookEntry (M.mkL M.fE M.sE k a_entries)) vsxa_w0 fxa_w0]) := by
 refine enterB hb @Tryz.func17 @Tryz.ntmps17 rfl rfl ?_
 refine zent ?_
 refine Js.trashE ?_
 refine zn ?_
 refine zS <| zb rfl fun b1 => Qa rfl <| zN <| Qf fh rfl <| Q0 0 rfl rfl rfl <| Qm rfl ?_
 refine zhl [1, 1] ?_
 refine zBB 2 sp_ rfl (fun w hb _ hw => c_laws_markBookEntryS a_entries k hb) ?_
 rintro _ _ G2 ⟨vs2_a, f2_a, rfl, rfl⟩
 refine znl ?_
 refine Qa rfl <| zN <| Qm rfl <| Qa rfl <| JL.nil ?_
 refine zrb [0, 0] hb (Up.refl _ _) ?_
 exact ⟨_, _, rfl, rfl⟩

set_option maxHeartbeats 1000000 in
theorem c_laws_heldBook (a : M.Boo) {v_a : Value} (k : Int) {w : World} (h_a : (Ty.agg (cBook a)).ok w v_a) (r0 : a.entries.length ≤ 4194304 := by exact om_) (r1 : M.totE a.entries ≤ 4194304 := by exact om_) (r2 : 0 ≤ k := by exact om_) (r3 : k ≤ 20000000 := by exact om_) : RetV Tryz.prog 23 [v_a, .int .i64 k] w (.int .i64 (M.heldL M.hE k a.entries)) := by
 have hbb := M.heldE_bd a.entries r2
 revert v_a; apply opn
 intro A1 c1 h1 bl1 bh1
 refine enter @Tryz.func23 @Tryz.ntmps23 rfl rfl ?_
 refine zent ?_
 refine zS <| zb rfl fun b2 => Qa rfl <| zN <| Qf fh rfl <| Q0 0 rfl rfl rfl <| Qm rfl <| zv rfl (fun w hw => c_laws_heldBookEntryS a.entries k (ok_ hw)) <| Qa rfl <| zJ <| zS <| Qm rfl <| Ql rfl rfl <| JL.nil ?_
 refine zi (fun h3 h3' => ?_) fun h3 h3' => ?_
 ·
  have hE : M.heldL M.hE k a.entries = -1 := by have := h3'; omega
  refine zS <| Qa rfl <| JL.nil ?_
  refine zR (Up.refl _ _) ?_
  first | (rw [hE]; rfl) | rfl
 refine Js.skip <| zS <| Qm rfl <| Qa rfl <| JL.nil ?_
 refine zR (Up.refl _ _) ?_
 first | (rw [hE]; rfl) | rfl

end Go.Proofs.YtcmfnlleikcpnaaGreat

namespace Go.Proofs.YtcmfnlleikcpnaaGreat
open Go.RowKit

set_option maxHeartbeats 8000000 in
theorem c_laws_FnExactAddGame (aB : M.Boo) {v_aB : Value} (aG : M.Gam) {v_aG : Value} {w : World} (h_aB : (Ty.agg (cBook aB)).ok w v_aB) (h_aG : (Ty.agg (cGame aG)).ok w v_aG) : RetV Tryz.prog 5 [v_aB, v_aG] w (.bool true) := by
 have q4 := M.szL_cases (aB.entries.length + M.totE aB.entries) 1048576
 have q5 := M.szL_cases (aG.start.pits.length + aG.start.stores.length + aG.moves.length + aG.now.pits.length + aG.now.stores.length) (M.szL (aB.entries.length + M.totE aB.entries) 1048576)
 change (_ < _ ∧ M.szG aG _ = -1) ∨ (_ ≤ _ ∧ M.szG aG _ = _) at q5
 have z1 := M.szs_E_le aB.entries
 have z2 := M.szs_E_nn aB.entries
 have v1_ := M.szp_nn aG.start
 have v2_ := M.szp_nn aG.now
 have z5 := M.mkL_len M.fE M.sE 1 (M.addGame aB aG).1.entries
 have z6 := M.totE_mk (M.addGame aB aG).1.entries 1
 have z7 := M.szs_E_le (M.addGame aB aG).1.entries
 have z8 := M.szs_E_nn (M.addGame aB aG).1.entries
 revert v_aB; apply opn
 intro A1 c1 h1 bl1 bh1
 revert v_aG; apply opn
 intro A2 c2 h2 bl2 bh2 A3 c3 h3 bl3 bh3 A4 c4 h4 bl4 bh4 A5 c5 h5 bl5 bh5 A6 c6 h6 bl6 bh6
 refine enter @Tryz.func5 @Tryz.ntmps5 rfl rfl ?_
 refine zent ?_
 refine zS <| zb rfl fun b7 => zb rfl fun b8 => Qa rfl <| zN <| Qa rfl <| zN <| Q9 1 rfl rfl ?_
 refine Qm rfl <| zv rfl (fun w hw => c_laws_szBook aB 1048576 (ok_ hw)) <| Qa rfl <| zJ <| zS <| Qm rfl <| Ql rfl rfl <| JL.nil ?_
 refine zi (fun h9 h9' => ?_) fun h9 h9' => ?_
 ·
  refine zS <| Qa rfl <| JL.nil ?_
  exact zr (Up.refl _ _)
 refine Js.skip <| zS <| Q9 0 rfl rfl ?_
 refine Qm rfl <| zv rfl (fun w hw => c_laws_szGame aG (M.szL (aB.entries.length + M.totE aB.entries) 1048576) (ok_ hw)) <| Qa rfl <| zJ <| zS <| Qm rfl <| Ql rfl rfl <| JL.nil ?_
 refine zi (fun h10 h10' => ?_) fun h10 h10' => ?_
 ·
  refine zS <| Qa rfl <| JL.nil ?_
  exact zr (Up.refl _ _)
 have z4 := M.addGame_tot (b := aB) aG (by omega)
 refine Js.skip <| Js.seq ?_
 refine zk [2, 3] (fun F U l os u => ∃ (b21 : Nat) (A20 : Option Addr) (c20 : Nat), l = F [(6, .pointer (some ⟨b21, 0, none⟩)), (7, .int .i64 ((M.addGame aB aG).2))] ∧ os = [boxO b21 [.int .i64 ((((M.addGame aB aG).1).rules).pits), .int .i64 ((((M.addGame aB aG).1).rules).seeds), .bool ((((M.addGame aB aG).1).rules).stores), .bool ((((M.addGame aB aG).1).rules).skip), .bool ((((M.addGame aB aG).1).rules).relay), .bool ((((M.addGame aB aG).1).rules).feed), .bool ((((M.addGame aB aG).1).rules).again), .int .i64 ((((M.addGame aB aG).1).rules).capture), .int .i64 ((((M.addGame aB aG).1).rules).slam), .slice A20 ((((M.addGame aB aG).1).entries).length) c20] 37] ++ U [] ∧ ((((M.addGame aB aG).1).entries).length ≤ c20) ∧ (c20 ≤ 9223372036854775807) ∧ ((Ty.sl 89 2 (((M.addGame aB aG).1).entries).length (lBookEntry (((M.addGame aB aG).1).entries))).ok u (.slice A20 ((((M.addGame aB aG).1).entries).length) c20))) ?_ ?_
 ·
  refine zdr [9] ?_
  refine JH.q 0 rfl (L9 1 rfl rfl) ?_
  refine JH.q 2 rfl (L9 0 rfl rfl) ?_
  refine y2 1 8 ?_ ?_
  ·
   refine yp rfl rfl (fun w hw => c_laws_toBook aB (ok_ hw) (r1 := (M.totE_small (n := 4194304) (by omega)))) ?_
   intro u46 x46 A47 c47 h47 bl47 bh47
   refine y2 3 8 ?_ ?_
   ·
    refine yp rfl rfl (fun w hw => c_laws_toGame aG (ok_ hw)) ?_
    intro u48 x48 A49 c49 h49 bl49 bh49 A50 c50 h50 bl50 bh50 A51 c51 h51 bl51 bh51 A52 c52 h52 bl52 bh52 A53 c53 h53 bl53 bh53
    refine y2 4 8 ?_ ?_
    ·
     refine yp rfl rfl (fun w hw => c_spec_AddGame aB aG (ok_ hw) (ok_ hw)) ?_
     intro u54 x54 A55 c55 h55 bl55 bh55
     refine JH.p 5 rfl (p_move rfl) ?_
     refine JH.p 6 rfl (p_extract rfl rfl) ?_
     refine JH.p 7 rfl (p_extract rfl rfl) ?_
     refine y1 8 ?_
     refine ya rfl fun b56 => ?_
     refine y1 9 ?_
     refine yst rfl rfl rfl ?_
     refine JH.p 10 rfl (p_assign rfl) ?_
     refine yd ?_
     exact zm ⟨_, _, _, rfl, rfl, zt, zt, h55⟩ ((x46.trans x48).trans x54)
    refine ya rfl fun b57 => ?_
    refine y1 4 ?_
    refine yp rfl rfl (fun w hw => c_spec_AddGame aB aG (ok_ hw) (ok_ hw)) ?_
    intro u58 x58 A59 c59 h59 bl59 bh59
    refine JH.p 5 rfl (p_move rfl) ?_
    refine JH.p 6 rfl (p_extract rfl rfl) ?_
    refine JH.p 7 rfl (p_extract rfl rfl) ?_
    refine y1 9 ?_
    refine yst rfl rfl rfl ?_
    refine JH.p 10 rfl (p_assign rfl) ?_
    refine yd ?_
    exact zm ⟨_, _, _, rfl, rfl, zt, zt, h59⟩ ((x46.trans x48).trans x58)
   refine ya rfl fun b60 => ?_
   refine y1 3 ?_
   refine yp rfl rfl (fun w hw => c_laws_toGame aG (ok_ hw)) ?_
   intro u61 x61 A62 c62 h62 bl62 bh62 A63 c63 h63 bl63 bh63 A64 c64 h64 bl64 bh64 A65 c65 h65 bl65 bh65 A66 c66 h66 bl66 bh66
   refine y1 4 ?_
   refine yp rfl rfl (fun w hw => c_spec_AddGame aB aG (ok_ hw) (ok_ hw)) ?_
   intro u67 x67 A68 c68 h68 bl68 bh68
   refine JH.p 5 rfl (p_move rfl) ?_
   refine JH.p 6 rfl (p_extract rfl rfl) ?_
   refine JH.p 7 rfl (p_extract rfl rfl) ?_
   refine y1 9 ?_
   refine yst rfl rfl rfl ?_
   refine JH.p 10 rfl (p_assign rfl) ?_
   refine yd ?_
   exact zm ⟨_, _, _, rfl, rfl, zt, zt, h68⟩ ((x46.trans x61).trans x67)
  refine ya rfl fun b69 => ?_
  refine y1 1 ?_
  refine yp rfl rfl (fun w hw => c_laws_toBook aB (ok_ hw) (r1 := (M.totE_small (n := 4194304) (by omega)))) ?_
  intro u70 x70 A71 c71 h71 bl71 bh71
  refine y1 3 ?_
  refine yp rfl rfl (fun w hw => c_laws_toGame aG (ok_ hw)) ?_
  intro u72 x72 A73 c73 h73 bl73 bh73 A74 c74 h74 bl74 bh74 A75 c75 h75 bl75 bh75 A76 c76 h76 bl76 bh76 A77 c77 h77 bl77 bh77
  refine y1 4 ?_
  refine yp rfl rfl (fun w hw => c_spec_AddGame aB aG (ok_ hw) (ok_ hw)) ?_
  intro u78 x78 A79 c79 h79 bl79 bh79
  refine JH.p 5 rfl (p_move rfl) ?_
  refine JH.p 6 rfl (p_extract rfl rfl) ?_
  refine JH.p 7 rfl (p_extract rfl rfl) ?_
  refine y1 9 ?_
  refine yst rfl rfl rfl ?_
  refine JH.p 10 rfl (p_assign rfl) ?_
  refine yd ?_
  exact zm ⟨_, _, _, rfl, rfl, zt, zt, h79⟩ ((x70.trans x72).trans x78)
 rintro _ _ u45 ⟨b21, A20, c20, rfl, rfl, f45_0, f45_1, f45_2⟩ x45
 refine zn ?_
 refine zS <| Q9 2 rfl rfl ?_
 refine zc rfl (fun w hw => c_laws_toBook aB (ok_ hw) (r1 := (M.totE_small (n := 4194304) (by omega)))) ?_
 intro A81 c81 vs81 f81 bl81 bh81
 refine za zeh fun b82 => zw 0 rfl rfl rfl ?_
 refine zN <| Q9 4 rfl rfl ?_
 refine zc rfl (fun w hw => c_laws_toGame aG (ok_ hw)) ?_
 intro A84 c84 bl84 bh84 A85 c85 bl85 bh85 A86 c86 bl86 bh86 A87 c87 bl87 bh87 A88 c88 bl88 bh88
 refine za zeh fun b89 => zw 0 rfl rfl rfl ?_
 refine zN <| Q9 6 rfl rfl ?_
 refine Q9 0 rfl rfl ?_
 refine zc rfl (fun w hw => c_impl_AddGame aB aG (by exact ⟨_, rfl, ⟨rfl, rfl, rfl, rfl, rfl, rfl, rfl, rfl, rfl, (srow_ok lBookEntry (xs := aB.entries) (hw.pr (i := 7) rfl) (hw.pr (i := 8) rfl) (lBookEntry_length _)), trivial⟩⟩) (ok_ hw)) ?_
 intro A92 c92 vs92 f92 bl92 bh92
 refine Qm rfl <| Qx rfl rfl <| Qx rfl rfl <| za zeh fun b93 => zw 0 rfl rfl rfl ?_
 refine Qa rfl <| zJ <| zS <| Q9 0 rfl rfl ?_
 refine Q9 12 rfl rfl ?_
 refine zv rfl (fun w hw => c_laws_eqBook ((M.addGame aB aG).1) ((M.addGame aB aG).1) (by exact ⟨_, rfl, ⟨rfl, rfl, rfl, rfl, rfl, rfl, rfl, rfl, rfl, (srow_ok lBookEntry (xs := (((M.addGame aB aG).1).entries)) (hw.pr (i := 1) rfl) (hw.pr (i := 2) rfl) (lBookEntry_length _)), trivial⟩⟩) (ok_ hw) (r1 := (M.totE_small (n := 4194304) (by omega))) (r3 := (M.totE_small (n := 4194304) (by omega)))) <| Qt rfl <| Qm rfl <| zg (Gd.f1 rfl rfl rfl) (fun hc => p_move rfl) <| zg (Gd.f1 rfl rfl rfl) (fun hc => p_move rfl) <| zg (Gd.f1 rfl rfl rfl) (fun hc => p_neq (gh hc rfl) (gh hc rfl)) <| Qq (p_pickOr rfl rfl rfl) <| JL.nil ?_
 refine zi (fun h94 h94' => ?_) fun h94 h94' => ?_
 · exact absurd h94 (by simp)
 refine Js.skip <| Js.seq <| Js.seq ?_
 refine zdr [] ?_
 refine JH.q 0 rfl (L9 9 rfl rfl) ?_
 refine JH.q 1 rfl (L9 14 rfl rfl) ?_
 refine y1 2 ?_
 refine yp rfl rfl (fun w hw => c_laws_toBook aB (ok_ hw) (r1 := (M.totE_small (n := 4194304) (by omega)))) ?_
 intro u95 x95 A96 c96 h96 bl96 bh96
 refine y1 3 ?_
 refine yv rfl rfl (fun w hw => c_laws_eqBook aB aB (by exact ⟨_, rfl, ⟨rfl, rfl, rfl, rfl, rfl, rfl, rfl, rfl, rfl, (srow_ok lBookEntry (xs := aB.entries) (hw.pr (i := 10) rfl) (hw.pr (i := 11) rfl) (lBookEntry_length _)), trivial⟩⟩) (ok_ hw) (r1 := (M.totE_small (n := 4194304) (by omega))) (r3 := (M.totE_small (n := 4194304) (by omega)))) ?_
 refine JH.p 4 rfl (p_not rfl) ?_
 refine yd ?_
 refine zi (fun h97 h97' => ?_) fun h97 h97' => ?_
 · exact absurd h97 (by simp)
 refine Js.skip <| Js.seq <| Js.seq ?_
 refine zdr [] ?_
 refine JH.q 0 rfl (L9 3 rfl rfl) ?_
 refine JH.q 1 rfl (L9 13 rfl rfl) ?_
 refine y1 2 ?_
 refine yp rfl rfl (fun w hw => c_laws_toGame aG (ok_ hw)) ?_
 intro u98 x98 A99 c99 h99 bl99 bh99 A100 c100 h100 bl100 bh100 A101 c101 h101 bl101 bh101 A102 c102 h102 bl102 bh102 A103 c103 h103 bl103 bh103
 refine y1 3 ?_
 refine yv rfl rfl (fun w hw => c_laws_eqGame aG aG (ok_ hw) (ok_ hw)) ?_
 refine JH.p 4 rfl (p_not rfl) ?_
 refine yd ?_
 refine zi (fun h104 h104' => ?_) fun h104 h104' => ?_
 · exact absurd h104 (by simp)
 refine Js.skip <| zS <| Qa rfl <| zN <| Q9 9 rfl rfl ?_
 refine Qm rfl ?_
 refine zhl [10, 10] ?_
 refine zB 2 sp_ rfl (fun w hb hw => c_laws_markBook aB.rules aB.entries 1 hb) ?_
 rintro _ _ G105 ⟨vs105a_w0, f105a_w0, rfl, rfl⟩
 refine znl ?_
 refine Qa rfl <| zN <| Q9 6 rfl rfl ?_
 refine Qm rfl ?_
 refine zhl [11, 10, 9, 8, 7] ?_
 refine zB 5 sp_ rfl (fun w hb hw => c_laws_markGame aG.rules aG.start aG.moves aG.now aG.resigned (1 + M.szs M.sE aB.entries) hb) ?_
 rintro _ _ G106 ⟨rfl, rfl⟩
 refine znl ?_
 refine Qa rfl <| zJ <| zS <| Qm rfl <| Ql rfl rfl <| Qm rfl <| zgq (Gd.f1 rfl rfl rfl) (fun hc => L9 9 rfl rfl) <| zgq (Gd.f1 rfl rfl rfl) (fun hc => L9 14 rfl rfl) <| zgv (Gd.f1 rfl rfl rfl) (fun hc => (opds_2 (gh hc rfl) (gh hc rfl))) (fun hc => (fun w hw => c_laws_eqBook ((M.addGame aB aG).1) ((M.addGame aB aG).1) (by exact ⟨_, rfl, ⟨rfl, rfl, rfl, rfl, rfl, rfl, rfl, rfl, rfl, (srow_ok lBookEntry (xs := (((M.addGame aB aG).1).entries)) (hw.pr (i := 10) rfl) (hw.pr (i := 11) rfl) (lBookEntry_length _)), trivial⟩⟩) (ok_ hw) (r0 := (by have hc9 := hc; (try simp only [Bool.not_eq_true', decide_eq_false_iff_not, Int.not_lt] at hc9); omega)) (r1 := (M.totE_small (n := 4194304) (by omega))) (r2 := (by have hc9 := hc; (try simp only [Bool.not_eq_true', decide_eq_false_iff_not, Int.not_lt] at hc9); omega)) (r3 := (M.totE_small (n := 4194304) (by omega))))) ?_
 refine zg (Gd.f1 rfl rfl rfl) (fun hc => p_not (gh hc rfl)) <| Qq (p_pickOr rfl rfl rfl) <| Qm rfl <| zg (Gd.f1 rfl rfl rfl) (fun hc => p_move rfl) <| zg (Gd.f1 rfl rfl rfl) (fun hc => p_move rfl) <| zg (Gd.f1 rfl rfl rfl) (fun hc => p_neq (gh hc rfl) (gh hc rfl)) <| Qq (p_pickOr rfl rfl rfl) <| JL.nil ?_
 refine zi (fun h107 h107' => ?_) fun h107 h107' => ?_
 · exact absurd h107 (by simp only [decide_true, Bool.not_true, Bool.or_false, decide_eq_true_eq]; omega)
 refine Js.skip <| zS <| Qa rfl <| zN <| Q9 9 rfl rfl ?_
 refine Qm rfl ?_
 refine zhl [10, 10] ?_
 refine zB 2 sp_ rfl (fun w hb hw => c_laws_markBook (((M.addGame aB aG).1).rules) (((M.addGame aB aG).1).entries) 1 hb) ?_
 rintro _ _ G108 ⟨vs108a_w0, f108a_w0, rfl, rfl⟩
 refine znl ?_
 refine Qa rfl <| zN <| Qa rfl <| zN <| Q9 12 rfl rfl ?_
 refine Qm rfl <| zv rfl (fun w hw => c_laws_heldBook (M.Boo.mk (((M.addGame aB aG).1).rules) (M.mkL M.fE M.sE 1 (((M.addGame aB aG).1).entries))) 1 (by exact ⟨_, rfl, ⟨rfl, rfl, rfl, rfl, rfl, rfl, rfl, rfl, rfl, (srow_ok lBookEntry (xs := (M.mkL M.fE M.sE 1 (((M.addGame aB aG).1).entries))) (hw.pr (i := 0) rfl) (hw.pr (i := 1) rfl) (lBookEntry_length _)), trivial⟩⟩)) <| Qa rfl <| zJ <| zS <| Qm rfl <| Ql rfl rfl <| JL.nil ?_
 refine zi (fun h109 h109' => ?_) fun h109 h109' => ?_
 · exact absurd h109 (by rw [M.held_E _ (by decide)]; simp only [decide_eq_true_eq]; omega)
 refine Js.skip <| Js.seq <| zS <| Qm rfl <| Qm rfl <| Qd rfl rfl <| JL.nil ?_
 refine zi (fun h110 h110' => ?_) fun h110 h110' => ?_
 · exact absurd h110 (by rw [M.held_E _ (by decide)]; simp)
 refine Js.skip <| Js.seq ?_
 refine zk [6, 7, 10, 13] (fun F U l os u => ∃ (b121 : Nat) (A120 : Option Addr) (c120 : Nat), l = F [(15, .pointer (some ⟨b121, 0, none⟩)), (16, .int .i64 ((M.addGame aB aG).2))] ∧ os = [boxO b121 [.int .i64 ((((M.addGame aB aG).1).rules).pits), .int .i64 ((((M.addGame aB aG).1).rules).seeds), .bool ((((M.addGame aB aG).1).rules).stores), .bool ((((M.addGame aB aG).1).rules).skip), .bool ((((M.addGame aB aG).1).rules).relay), .bool ((((M.addGame aB aG).1).rules).feed), .bool ((((M.addGame aB aG).1).rules).again), .int .i64 ((((M.addGame aB aG).1).rules).capture), .int .i64 ((((M.addGame aB aG).1).rules).slam), .slice A120 ((((M.addGame aB aG).1).entries).length) c120] 37] ++ U [] ∧ ((((M.addGame aB aG).1).entries).length ≤ c120) ∧ (c120 ≤ 9223372036854775807) ∧ ((Ty.sl 89 2 (((M.addGame aB aG).1).entries).length (lBookEntry (((M.addGame aB aG).1).entries))).ok u (.slice A120 ((((M.addGame aB aG).1).entries).length) c120))) ?_ ?_
 ·
  refine zdr [9] ?_
  refine JH.q 0 rfl (L9 17 rfl rfl) ?_
  refine JH.q 2 rfl (L9 16 rfl rfl) ?_
  refine y2 1 8 ?_ ?_
  ·
   refine yp rfl rfl (fun w hw => c_laws_toBook aB (ok_ hw) (r1 := (M.totE_small (n := 4194304) (by omega)))) ?_
   intro u146 x146 A147 c147 h147 bl147 bh147
   refine y2 3 8 ?_ ?_
   ·
    refine yp rfl rfl (fun w hw => c_laws_toGame aG (ok_ hw)) ?_
    intro u148 x148 A149 c149 h149 bl149 bh149 A150 c150 h150 bl150 bh150 A151 c151 h151 bl151 bh151 A152 c152 h152 bl152 bh152 A153 c153 h153 bl153 bh153
    refine y2 4 8 ?_ ?_
    ·
     refine yp rfl rfl (fun w hw => c_impl_AddGame aB aG (ok_ hw) (ok_ hw)) ?_
     intro u154 x154 A155 c155 h155 bl155 bh155
     refine JH.p 5 rfl (p_move rfl) ?_
     refine JH.p 6 rfl (p_extract rfl rfl) ?_
     refine JH.p 7 rfl (p_extract rfl rfl) ?_
     refine y1 8 ?_
     refine ya rfl fun b156 => ?_
     refine y1 9 ?_
     refine yst rfl rfl rfl ?_
     refine JH.p 10 rfl (p_assign rfl) ?_
     refine yd ?_
     exact zm ⟨_, _, _, rfl, rfl, zt, zt, h155⟩ ((x146.trans x148).trans x154)
    refine ya rfl fun b157 => ?_
    refine y1 4 ?_
    refine yp rfl rfl (fun w hw => c_impl_AddGame aB aG (ok_ hw) (ok_ hw)) ?_
    intro u158 x158 A159 c159 h159 bl159 bh159
    refine JH.p 5 rfl (p_move rfl) ?_
    refine JH.p 6 rfl (p_extract rfl rfl) ?_
    refine JH.p 7 rfl (p_extract rfl rfl) ?_
    refine y1 9 ?_
    refine yst rfl rfl rfl ?_
    refine JH.p 10 rfl (p_assign rfl) ?_
    refine yd ?_
    exact zm ⟨_, _, _, rfl, rfl, zt, zt, h159⟩ ((x146.trans x148).trans x158)
   refine ya rfl fun b160 => ?_
   refine y1 3 ?_
   refine yp rfl rfl (fun w hw => c_laws_toGame aG (ok_ hw)) ?_
   intro u161 x161 A162 c162 h162 bl162 bh162 A163 c163 h163 bl163 bh163 A164 c164 h164 bl164 bh164 A165 c165 h165 bl165 bh165 A166 c166 h166 bl166 bh166
   refine y1 4 ?_
   refine yp rfl rfl (fun w hw => c_impl_AddGame aB aG (ok_ hw) (ok_ hw)) ?_
   intro u167 x167 A168 c168 h168 bl168 bh168
   refine JH.p 5 rfl (p_move rfl) ?_
   refine JH.p 6 rfl (p_extract rfl rfl) ?_
   refine JH.p 7 rfl (p_extract rfl rfl) ?_
   refine y1 9 ?_
   refine yst rfl rfl rfl ?_
   refine JH.p 10 rfl (p_assign rfl) ?_
   refine yd ?_
   exact zm ⟨_, _, _, rfl, rfl, zt, zt, h168⟩ ((x146.trans x161).trans x167)
  refine ya rfl fun b169 => ?_
  refine y1 1 ?_
  refine yp rfl rfl (fun w hw => c_laws_toBook aB (ok_ hw) (r1 := (M.totE_small (n := 4194304) (by omega)))) ?_
  intro u170 x170 A171 c171 h171 bl171 bh171
  refine y1 3 ?_
  refine yp rfl rfl (fun w hw => c_laws_toGame aG (ok_ hw)) ?_
  intro u172 x172 A173 c173 h173 bl173 bh173 A174 c174 h174 bl174 bh174 A175 c175 h175 bl175 bh175 A176 c176 h176 bl176 bh176 A177 c177 h177 bl177 bh177
  refine y1 4 ?_
  refine yp rfl rfl (fun w hw => c_impl_AddGame aB aG (ok_ hw) (ok_ hw)) ?_
  intro u178 x178 A179 c179 h179 bl179 bh179
  refine JH.p 5 rfl (p_move rfl) ?_
  refine JH.p 6 rfl (p_extract rfl rfl) ?_
  refine JH.p 7 rfl (p_extract rfl rfl) ?_
  refine y1 9 ?_
  refine yst rfl rfl rfl ?_
  refine JH.p 10 rfl (p_assign rfl) ?_
  refine yd ?_
  exact zm ⟨_, _, _, rfl, rfl, zt, zt, h179⟩ ((x170.trans x172).trans x178)
 rintro _ _ u145 ⟨b121, A120, c120, rfl, rfl, f145_0, f145_1, f145_2⟩ x145
 refine zn ?_
 refine Js.seq <| zS <| Q9 0 rfl rfl ?_
 refine Q9 16 rfl rfl ?_
 refine zv rfl (fun w hw => c_laws_eqBook ((M.addGame aB aG).1) ((M.addGame aB aG).1) (ok_ hw) (ok_ hw) (r1 := (M.totE_small (n := 4194304) (by omega))) (r3 := (M.totE_small (n := 4194304) (by omega)))) <| Qt rfl <| Qm rfl <| zg (Gd.f1 rfl rfl rfl) (fun hc => p_move rfl) <| zg (Gd.f1 rfl rfl rfl) (fun hc => p_move rfl) <| zg (Gd.f1 rfl rfl rfl) (fun hc => p_neq (gh hc rfl) (gh hc rfl)) <| Qq (p_pickOr rfl rfl rfl) <| JL.nil ?_
 refine Js.condF rfl h94 ?_
 refine Js.skip <| zS <| Qa rfl <| zN <| Q9 13 rfl rfl ?_
 refine Qm rfl <| zv rfl (fun w hw => c_laws_heldBook (M.Boo.mk (((M.addGame aB aG).1).rules) (M.mkL M.fE M.sE 1 (((M.addGame aB aG).1).entries))) 1 (by exact ⟨_, rfl, ⟨rfl, rfl, rfl, rfl, rfl, rfl, rfl, rfl, rfl, (srow_ok lBookEntry (xs := (M.mkL M.fE M.sE 1 (((M.addGame aB aG).1).entries))) (hw.pr (i := 1) rfl) (hw.pr (i := 2) rfl) (lBookEntry_length _)), trivial⟩⟩)) <| Qa rfl <| zJ <| zS <| Qm rfl <| Ql rfl rfl <| JL.nil ?_
 refine Js.condF rfl h109 ?_
 refine Js.skip <| Js.seq <| zS <| Qm rfl <| Qm rfl <| Qd rfl rfl <| JL.nil ?_
 refine Js.condF rfl h110 ?_
 refine Js.skip <| zS <| Qa rfl <| JL.nil ?_
 exact zr (((x45.trans x95).trans x98).trans x145)

end Go.Proofs.YtcmfnlleikcpnaaGreat


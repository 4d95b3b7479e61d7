/- Walks: L33. -/
import Derived.Test.YtjklnidbndopiaaGreatDoorZbA4
import Derived.Test.YtjklnidbndopiaaGreatDoorZbA9
import Derived.Test.YtjklnidbndopiaaGreatDoorZbA7
import Derived.Test.YtjklnidbndopiaaGreatDoorZbA5
set_option linter.unusedSimpArgs false
set_option linter.unusedVariables false
set_option maxRecDepth 100000
attribute [local irreducible] Go.Proofs.YtjklnidbndopiaaGreatDoor.gv
set_option maxHeartbeats 4000000
namespace Go.Proofs.YtjklnidbndopiaaGreatDoor
open Go.RowKit
theorem c_laws_markChoiceS (a : List M.Cho) {Aa_0 : Option Addr} {ca_0 : Nat} {ga_0 : List Nat} (k : Int) {w : World} (hb : Bw w [rowO 58 3 (.slice Aa_0 a.length ca_0) a.length (fltV vcChoice a) ga_0]) (bd0 : a.length ≤ ca_0 := by exact om_) (bd1 : ca_0 ≤ 9223372036854775807 := by exact om_) (r0 : a.length ≤ 4194304 := by exact om_) (r1 : 0 ≤ k := by exact om_) (r2 : k ≤ 50000000 := by exact om_) : RetB Tryz.prog 97 [.slice Aa_0 a.length ca_0, .int .i64 k] w [rowO 58 3 (.slice Aa_0 a.length ca_0) a.length (fltV vcChoice a) ga_0] (fun v bs' => v = .int .i64 (k + 3 * (a.length : Int)) ∧ bs' = [rowO 58 3 (.slice Aa_0 a.length ca_0) a.length (fltV vcChoice (M.mkL M.fC M.sC k a)) ga_0]) := by
 refine enterB hb @Tryz.func97 @Tryz.ntmps97 rfl rfl ?_
 refine zent ?_
 refine Js.trashE ?_
 refine zn ?_
 refine zS <| Qa rfl <| zJ <| zS <| Qa rfl <| JL.nil <| Js.block ?_
 refine zl [0] (fun F U l os u m => ∃ (i : Nat) (kk : Int) (xs : List M.Cho) (G1_1 : List Nat), l = F [(1, .int .i64 kk), (5, .int .i64 (i : Int))] ∧ os = U [some (rowO 58 3 (.slice Aa_0 a.length ca_0) a.length (fltV vcChoice xs) ga_0), some (anyO G1_1)] ∧ (xs = M.mkd2 M.fC M.sC k a i) ∧ (i ≤ a.length) ∧ (xs.length = a.length) ∧ (kk = k + 3 * (i : Int)) ∧ m = a.length - i) ⟨0, k, a, _, rfl, rfl, by exact M.mkd2_zero _ _ k a, zt, by rfl, by simp, rfl⟩ ?_
 rintro _ _ u1 _ ⟨i, kk, xs, G1_1, rfl, rfl, hX, hi, hl, hkk, rfl⟩ x1
 refine zn ?_
 refine Js.seq <| zS <| Qm rfl <| Qm rfl <| Qz rfl <| Ql rfl rfl <| JL.nil ?_
 refine zi (fun h2 h2' => ?_) fun h2 h2' => ?_
 ·
  have hxi : i < xs.length := by have := h2'; omega
  have hya9 := M.mkd2_get M.fC M.sC (k := k) (by rw [← hX]; exact M.cho_get hxi)
  have hs9 : M.szs M.sC (a.take i) = 3 * (i : Int) := by rw [M.szs_C, List.length_take]; omega
  have hq9 : xs.set i ⟨kk, kk + 1, kk + 1 + 1⟩ = M.mkd2 M.fC M.sC k a (i + 1) := by have h7 := M.mkd2_step M.fC M.sC (k := k) hya9; rw [← hX, hs9, ← hkk] at h7; rw [show kk + 1 + 1 = kk + 2 by omega]; exact h7
  refine Js.skip <| Js.seq <| Js.block <| zS <| Qm rfl <| Qm rfl <| Qm rfl ?_
  refine JL.fact (row_some (i := 0) rfl len_) (fun hf4 => ?_)
  obtain ⟨b4, rfl⟩ := hf4
  have hy3 : xs[i]? = some (M.cho xs i) := M.cho_get len_
  refine Qq (p_indexAddr el_54 rfl rfl len_ len_ rfl) <| Qf fh rfl ?_
  refine JL.s (e_storeRow (i := 0) (xs' := fltV vcChoice (xs.set i (M.Cho.mk kk ((M.cho xs i).games) ((M.cho xs i).score)))) ty_2.h rfl rfl rfl rfl rfl rfl (fltV_lt (C := vcChoice) (j := 0) (fun _ => rfl) len_ (by decide)) (fltV_cell (C := vcChoice) (j := 0) (y' := (M.Cho.mk kk ((M.cho xs i).games) ((M.cho xs i).score))) (fun _ => rfl) hy3 (by decide) rfl)) ?_
  rintro _ _ _ ⟨rfl, rfl⟩ _
  refine znl ?_
  have hy5 : (xs.set i (M.Cho.mk kk ((M.cho xs i).games) ((M.cho xs i).score)))[i]? = some (M.cho (xs.set i (M.Cho.mk kk ((M.cho xs i).games) ((M.cho xs i).score))) i) := M.cho_get len_
  refine zN <| Qm rfl <| Qp rfl rfl <| Qa rfl <| zN <| Qm rfl <| Qm rfl <| Qm rfl <| Qq (p_indexAddr el_54 rfl rfl len_ len_ rfl) <| Qf fh rfl ?_
  refine JL.s (e_storeRow (i := 0) (xs' := fltV vcChoice ((xs.set i (M.Cho.mk kk ((M.cho xs i).games) ((M.cho xs i).score))).set i (M.Cho.mk ((M.cho (xs.set i (M.Cho.mk kk ((M.cho xs i).games) ((M.cho xs i).score))) i).move) (kk + 1) ((M.cho (xs.set i (M.Cho.mk kk ((M.cho xs i).games) ((M.cho xs i).score))) i).score)))) ty_2.h rfl rfl rfl rfl rfl rfl (fltV_lt (C := vcChoice) (j := 1) (fun _ => rfl) len_ (by decide)) (fltV_cell (C := vcChoice) (j := 1) (y' := (M.Cho.mk ((M.cho (xs.set i (M.Cho.mk kk ((M.cho xs i).games) ((M.cho xs i).score))) i).move) (kk + 1) ((M.cho (xs.set i (M.Cho.mk kk ((M.cho xs i).games) ((M.cho xs i).score))) i).score))) (fun _ => rfl) hy5 (by decide) rfl)) ?_
  rintro _ _ _ ⟨rfl, rfl⟩ _
  refine znl ?_
  have hy6 : ((xs.set i (M.Cho.mk kk ((M.cho xs i).games) ((M.cho xs i).score))).set i (M.Cho.mk ((M.cho (xs.set i (M.Cho.mk kk ((M.cho xs i).games) ((M.cho xs i).score))) i).move) (kk + 1) ((M.cho (xs.set i (M.Cho.mk kk ((M.cho xs i).games) ((M.cho xs i).score))) i).score)))[i]? = some (M.cho ((xs.set i (M.Cho.mk kk ((M.cho xs i).games) ((M.cho xs i).score))).set i (M.Cho.mk ((M.cho (xs.set i (M.Cho.mk kk ((M.cho xs i).games) ((M.cho xs i).score))) i).move) (kk + 1) ((M.cho (xs.set i (M.Cho.mk kk ((M.cho xs i).games) ((M.cho xs i).score))) i).score))) i) := M.cho_get len_
  refine zN <| Qm rfl <| Qp rfl rfl <| Qa rfl <| zN <| Qm rfl <| Qm rfl <| Qm rfl <| Qq (p_indexAddr el_54 rfl rfl len_ len_ rfl) <| Qf fh rfl ?_
  refine JL.s (e_storeRow (i := 0) (xs' := fltV vcChoice (((xs.set i (M.Cho.mk kk ((M.cho xs i).games) ((M.cho xs i).score))).set i (M.Cho.mk ((M.cho (xs.set i (M.Cho.mk kk ((M.cho xs i).games) ((M.cho xs i).score))) i).move) (kk + 1) ((M.cho (xs.set i (M.Cho.mk kk ((M.cho xs i).games) ((M.cho xs i).score))) i).score))).set i (M.Cho.mk ((M.cho ((xs.set i (M.Cho.mk kk ((M.cho xs i).games) ((M.cho xs i).score))).set i (M.Cho.mk ((M.cho (xs.set i (M.Cho.mk kk ((M.cho xs i).games) ((M.cho xs i).score))) i).move) (kk + 1) ((M.cho (xs.set i (M.Cho.mk kk ((M.cho xs i).games) ((M.cho xs i).score))) i).score))) i).move) ((M.cho ((xs.set i (M.Cho.mk kk ((M.cho xs i).games) ((M.cho xs i).score))).set i (M.Cho.mk ((M.cho (xs.set i (M.Cho.mk kk ((M.cho xs i).games) ((M.cho xs i).score))) i).move) (kk + 1) ((M.cho (xs.set i (M.Cho.mk kk ((M.cho xs i).games) ((M.cho xs i).score))) i).score))) i).games) ((kk + 1) + 1)))) ty_2.h rfl rfl rfl rfl rfl rfl (fltV_lt (C := vcChoice) (j := 2) (fun _ => rfl) len_ (by decide)) (fltV_cell (C := vcChoice) (j := 2) (y' := (M.Cho.mk ((M.cho ((xs.set i (M.Cho.mk kk ((M.cho xs i).games) ((M.cho xs i).score))).set i (M.Cho.mk ((M.cho (xs.set i (M.Cho.mk kk ((M.cho xs i).games) ((M.cho xs i).score))) i).move) (kk + 1) ((M.cho (xs.set i (M.Cho.mk kk ((M.cho xs i).games) ((M.cho xs i).score))) i).score))) i).move) ((M.cho ((xs.set i (M.Cho.mk kk ((M.cho xs i).games) ((M.cho xs i).score))).set i (M.Cho.mk ((M.cho (xs.set i (M.Cho.mk kk ((M.cho xs i).games) ((M.cho xs i).score))) i).move) (kk + 1) ((M.cho (xs.set i (M.Cho.mk kk ((M.cho xs i).games) ((M.cho xs i).score))) i).score))) i).games) ((kk + 1) + 1))) (fun _ => rfl) hy6 (by decide) rfl)) ?_
  rintro _ _ _ ⟨rfl, rfl⟩ _
  refine znl ?_
  refine zG <| Qm rfl <| Qp rfl rfl <| Qa rfl <| JL.nil <| Js.blockEnd <| Js.region <| Qm rfl <| Qp rfl rfl <| Qa rfl <| JL.nil ?_
  exact zag ⟨i + 1, ((kk + 1) + 1) + 1, ((xs.set i (M.Cho.mk kk ((M.cho xs i).games) ((M.cho xs i).score))).set i (M.Cho.mk ((M.cho (xs.set i (M.Cho.mk kk ((M.cho xs i).games) ((M.cho xs i).score))) i).move) (kk + 1) ((M.cho (xs.set i (M.Cho.mk kk ((M.cho xs i).games) ((M.cho xs i).score))) i).score))).set i (M.Cho.mk ((M.cho ((xs.set i (M.Cho.mk kk ((M.cho xs i).games) ((M.cho xs i).score))).set i (M.Cho.mk ((M.cho (xs.set i (M.Cho.mk kk ((M.cho xs i).games) ((M.cho xs i).score))) i).move) (kk + 1) ((M.cho (xs.set i (M.Cho.mk kk ((M.cho xs i).games) ((M.cho xs i).score))) i).score))) i).move) ((M.cho ((xs.set i (M.Cho.mk kk ((M.cho xs i).games) ((M.cho xs i).score))).set i (M.Cho.mk ((M.cho (xs.set i (M.Cho.mk kk ((M.cho xs i).games) ((M.cho xs i).score))) i).move) (kk + 1) ((M.cho (xs.set i (M.Cho.mk kk ((M.cho xs i).games) ((M.cho xs i).score))) i).score))) i).games) ((kk + 1) + 1)), _, rfl, rfl, by rw [M.cho_set (by omega), M.cho_set (by simp; omega), List.set_set, List.set_set]; exact hq9, zt, by simp; exact hl, zt, rfl⟩ x1
 have hi2 : i = a.length := by have := h2'; omega
 have hM : M.mkL M.fC M.sC k a = xs := by rw [hX]; exact (M.mkd2_end _ _ hi2).symm
 refine zx ?_
 refine zS <| Qm rfl <| Qa rfl <| JL.nil ?_
 refine zrb [0] hb x1 ?_
 have hE : (.int .i64 kk : Value) = .int .i64 (k + 3 * (a.length : Int)) := by first | exact hM | (refine congrArg (Value.int .i64) ?_; omega)
 have hE1 : M.mkL M.fC M.sC k a = xs := by first | exact hM | (refine congrArg (Value.int .i64) ?_; omega)
 refine ⟨hE, ?_⟩
 · rw [hE1]
theorem c_laws_heldChoiceS (a : List M.Cho) {v_a : Value} (k : Int) {w : World} (h_a : (Ty.sl 58 3 a.length (lChoice a)).ok w v_a) (r0 : a.length ≤ 4194304 := by exact om_) (r1 : 0 ≤ k := by exact om_) (r2 : k ≤ 50000000 := by exact om_) : RetV Tryz.prog 99 [v_a, .int .i64 k] w (.int .i64 (M.heldL M.hC k a)) := by
 revert v_a; apply opn
 intro A1 c1 h1 bl1 bh1
 have h_a := h1
 refine enter @Tryz.func99 @Tryz.ntmps99 rfl rfl ?_
 refine zent ?_
 refine zS <| Qa rfl <| zJ <| zS <| Qa rfl <| JL.nil <| Js.block ?_
 refine zl [0] (fun F U l os u m => ∃ (i : Nat) (kk : Int), l = F [(1, .int .i64 kk), (5, .int .i64 (i : Int))] ∧ os = U [] ∧ (M.heldL M.hC kk (a.drop i) = M.heldL M.hC k a) ∧ (i ≤ a.length) ∧ (kk = k + 3 * (i : Int)) ∧ m = a.length - i) ⟨0, k, rfl, rfl, by rfl, zt, by simp, rfl⟩ ?_
 rintro _ _ u2 _ ⟨i, kk, rfl, rfl, hS, hi, hkk, rfl⟩ x2
 refine zn ?_
 refine Js.seq <| zS <| Qm rfl <| Qm rfl <| Qz rfl <| Ql rfl rfl <| JL.nil ?_
 refine zi (fun h3 h3' => ?_) fun h3 h3' => ?_
 ·
  have hia : i < a.length := by have := h3'; omega
  have hY := M.cho_get hia
  have hy4 : a[i]? = some (M.cho a i) := M.cho_get (by omega)
  obtain ⟨b4, o4, he4, hr4⟩ := elem_Choice (Ty.mono _ h1 x2.vis) hy4
  refine Js.skip <| Js.seq <| Js.block <| Js.seq <| zS <| Qm rfl <| Qm rfl <| Qq (p_indexAddr el_54 rfl rfl (by omega) (by omega) he4) <| Qf fh rfl <| QC (hr4 0 _ rfl) rfl <| Qm rfl <| Qd rfl rfl <| JL.nil ?_
  refine zi (fun h5 h5' => ?_) fun h5 h5' => ?_
  ·
   have hE := M.heldL_no M.hC hS hY (by rw [M.hC_1 (by simpa using h5)]; decide)
   refine zS <| Qa rfl <| JL.nil ?_
   refine zR x2 ?_
   first | (rw [hE]; rfl)
  have q1 : (M.cho a i).move = kk := by simpa using h5
  have hy6 : a[i]? = some (M.cho a i) := M.cho_get (by omega)
  obtain ⟨b6, o6, he6, hr6⟩ := elem_Choice (Ty.mono _ h1 x2.vis) hy6
  refine Js.skip <| zS <| Qm rfl <| Qp rfl rfl <| Qa rfl <| zJ <| zS <| Qm rfl <| Qm rfl <| Qq (p_indexAddr el_54 rfl rfl (by omega) (by omega) he6) <| Qf fh rfl <| QC (hr6 1 _ rfl) rfl <| Qm rfl <| Qd rfl rfl ?_
  refine JL.nil ?_
  refine zi (fun h7 h7' => ?_) fun h7 h7' => ?_
  ·
   have hE := M.heldL_no M.hC hS hY (by rw [M.hC_2 q1 (by simpa using h7)]; decide)
   refine zS <| Qa rfl <| JL.nil ?_
   refine zR x2 ?_
   first | (rw [hE]; rfl)
  have q2 : (M.cho a i).games = kk + 1 := by simpa using h7
  have hy8 : a[i]? = some (M.cho a i) := M.cho_get (by omega)
  obtain ⟨b8, o8, he8, hr8⟩ := elem_Choice (Ty.mono _ h1 x2.vis) hy8
  refine Js.skip <| zS <| Qm rfl <| Qp rfl rfl <| Qa rfl <| zJ <| zS <| Qm rfl <| Qm rfl <| Qq (p_indexAddr el_54 rfl rfl (by omega) (by omega) he8) <| Qf fh rfl <| QC (hr8 2 _ rfl) rfl <| Qm rfl <| Qd rfl rfl ?_
  refine JL.nil ?_
  refine zi (fun h9 h9' => ?_) fun h9 h9' => ?_
  ·
   have hE := M.heldL_no M.hC hS hY (by rw [M.hC_3 q1 q2 (by have := h9'; omega)]; decide)
   refine zS <| Qa rfl <| JL.nil ?_
   refine zR x2 ?_
   first | (rw [hE]; rfl)
  have q3 : (M.cho a i).score = kk + 2 := by have := h9'; omega
  have q4 := M.hC_0 q1 q2 q3
  have hS2 := M.heldL_step M.hC hS hY (by omega)
  rw [q4] at hS2
  have q5 : kk + 1 + 1 + 1 = kk + 3 := by omega
  rw [← q5] at hS2
  refine Js.skip <| Js.region <| Qm rfl <| Qp rfl rfl <| Qa rfl <| JL.nil <| Js.blockEnd <| Js.region <| Qm rfl <| Qp rfl rfl <| Qa rfl <| JL.nil ?_
  exact zag ⟨i + 1, ((kk + 1) + 1) + 1, rfl, rfl, by exact hS2, zt, zt, rfl⟩ x2
 have hE := M.heldL_end M.hC hS (by have := h3'; omega)
 refine zx ?_
 refine zS <| Qm rfl <| Qa rfl <| JL.nil ?_
 refine zR x2 ?_
 first | (rw [hE]; rfl)
theorem c_laws_markBookEntryS (a : List M.Ent) {Aa_0 : Option Addr} {ca_0 : Nat} {ga_0 : List Nat} {vsa_0 : List Value} {fa_0 : List Nat} (k : Int) {w : World} (hb : Bw w [rowO 67 2 (.slice Aa_0 a.length ca_0) a.length vsa_0 ga_0, ownC (lBookEntry a) vsa_0 fa_0]) (bd0 : a.length ≤ ca_0 := by exact om_) (bd1 : ca_0 ≤ 9223372036854775807 := by exact om_) (r0 : a.length ≤ 4194304 := by exact om_) (r1 : M.totE a ≤ 4194304 := by exact om_) (r2 : 0 ≤ k := by exact om_) (r3 : k ≤ 20000000 := by exact om_) : RetB Tryz.prog 45 [.slice Aa_0 a.length ca_0, .int .i64 k] w [rowO 67 2 (.slice Aa_0 a.length ca_0) a.length vsa_0 ga_0, ownC (lBookEntry a) vsa_0 fa_0] (fun v bs' => ∃ (vsxa : List Value) (fxa : List Nat), v = .int .i64 (k + M.szs M.sE a) ∧ bs' = [rowO 67 2 (.slice Aa_0 a.length ca_0) a.length vsxa ga_0, ownC (lBookEntry (M.mkL M.fE M.sE k a)) vsxa fxa]) := by
 refine enterB hb @Tryz.func45 @Tryz.ntmps45 rfl rfl ?_
 refine zent ?_
 refine Js.trashE ?_
 refine zn ?_
 refine zS <| Qa rfl <| zJ <| zS <| Qa rfl <| JL.nil <| Js.block ?_
 refine zl [0] (fun F U l os u m => ∃ (i : Nat) (kk : Int) (xs : List M.Ent) (vs1_0 : List Value) (fl1_0 : List Nat) (G1_2 : List Nat), l = F [(1, .int .i64 kk), (5, .int .i64 (i : Int))] ∧ os = U [some (rowO 67 2 (.slice Aa_0 a.length ca_0) a.length vs1_0 ga_0), some (ownC (lBookEntry xs) vs1_0 fl1_0), some (anyO G1_2)] ∧ (xs = M.mkd2 M.fE M.sE k a i) ∧ (i ≤ a.length) ∧ (xs.length = a.length) ∧ (kk = k + M.szs M.sE (a.take i)) ∧ (0 ≤ kk) ∧ (kk ≤ 33000000) ∧ m = a.length - i) ⟨0, k, a, _, _, _, rfl, rfl, by exact M.mkd2_zero _ _ k a, zt, by rfl, by simp [M.szs], zt, zt, rfl⟩ ?_
 rintro _ _ u1 _ ⟨i, kk, xs, vs1_0, fl1_0, G1_2, rfl, rfl, hX, hi, hl, hkk, hk0, hk1, rfl⟩ x1
 refine zn ?_
 refine Js.seq <| zS <| Qm rfl <| Qm rfl <| Qz rfl <| Ql rfl rfl <| JL.nil ?_
 refine zi (fun h2 h2' => ?_) fun h2 h2' => ?_
 ·
  have hxi : i < xs.length := by have := h2'; omega
  have hya9 := M.mkd2_get M.fE M.sE (k := k) (by rw [← hX]; exact M.ent_get hxi)
  have hyl9 := M.totE_mem (List.mem_of_getElem? hya9)
  have hsq9 : M.sE (M.ent xs i) = ((M.ent xs i).pits.length : Int) + 3 * ((M.ent xs i).choices.length : Int) := rfl
  have hst9 := M.szs_step M.sE _ _ _ hya9
  have hsl9 := M.szs_E_take a (i + 1)
  have hq9 : xs.set i ⟨M.up kk (M.ent xs i).pits.length, M.mkL M.fC M.sC (kk + ((M.ent xs i).pits.length : Int)) (M.ent xs i).choices⟩ = M.mkd2 M.fE M.sE k a (i + 1) := by have h7 := M.mkd2_step M.fE M.sE (k := k) hya9; rw [← hX, ← hkk] at h7; exact h7
  refine Js.skip <| Js.seq <| Js.block <| zS <| Qm rfl <| Qm rfl ?_
  refine JL.fact (row_some (i := 0) rfl (by omega)) (fun hf4 => ?_)
  obtain ⟨b4, rfl⟩ := hf4
  have hy3 : xs[i]? = some (M.ent xs i) := M.ent_get len_
  refine JL.fact (fun w hw => elemv_BookEntry (Mem.ownC (i := 1) rfl w hw) hy3) (fun hf3 => ?_)
  obtain ⟨A3_0, c3_0, A3_1, c3_1, he3, bl3_0, bh3_0, bl3_1, bh3_1⟩ := hf3
  refine Qq (p_indexAddr el_30 rfl rfl (by omega) (by omega) rfl) <| Qf fh rfl <| Qw (q_load1 ty_42.h rfl (fun w hw => (Mem.rowR' (i := 0) rfl he3 w hw) 0 _ rfl)) <| Qm rfl ?_
  refine JL.fact (fun w hw => elem_in cBookEntry (m := 2) (k := i) (xs := xs) (fun _ => rfl) (Mem.ownC (i := 1) rfl w hw) (by omega)) (fun hl5 => ?_)
  refine JL.ex3 (fun w hw => St.elemS cBookEntry (m := 2) (i := 1) (xs := xs) (fun _ => rfl) rfl hy3 he3 hw) (fun f5_1 f5_2 f5_3 => ?_)
  refine JL.unp 0 ?_
  refine znl ?_
  refine zhl [1] ?_
  refine zBB 1 sp_ rfl (fun w hb _ hw => c_laws_markInt64S ((M.ent xs i).pits) kk hb) ?_
  rintro _ _ G6 ⟨rfl, rfl⟩
  refine znl ?_
  refine Qa rfl <| zG <| Qm rfl <| Qm rfl <| Qq (p_indexAddr el_30 rfl rfl (by omega) (by omega) rfl) <| Qf fh rfl <| Qw (q_load1 ty_54.h rfl (fun w hw => (Mem.rowR' (i := 5) rfl he3 w hw) 1 _ rfl)) <| Qm rfl ?_
  refine zhl [2] ?_
  refine zBB 1 sp_ rfl (fun w hb _ hw => c_laws_markChoiceS ((M.ent xs i).choices) (kk + (((M.ent xs i).pits).length : Int)) hb) ?_
  rintro _ _ G8 ⟨rfl, rfl⟩
  refine znl ?_
  refine Qa rfl <| JL.nil <| Js.blockEnd <| Js.region <| Qm rfl <| Qp rfl rfl <| Qa rfl <| JL.nil ?_
  refine Js.pk (cBookEntry (M.Ent.mk (M.up kk ((M.ent xs i).pits).length) (M.mkL M.fC M.sC (kk + (((M.ent xs i).pits).length : Int)) ((M.ent xs i).choices)))) [.slice A3_0 (((M.ent xs i).pits).length) c3_0, .slice A3_1 (((M.ent xs i).choices).length) c3_1] (fun f10 G10 => ?_) (by exact (gv_agg (gvc gv_ (gvc (gv_flat lChoice (xs := (M.mkL M.fC M.sC (kk + (((M.ent xs i).pits).length : Int)) ((M.ent xs i).choices))) po_ (by first | rfl | (simp [fltV]; done)) (by first | with_reducible rfl | assumption | rfl)) gvn))))
  refine Js.front (i := 4) rfl ?_
  refine zn ?_
  refine Js.front (i := 1) rfl ?_
  refine zn ?_
  refine Js.front (i := 5) rfl ?_
  refine zn ?_
  refine Js.conv (fun w hw => St.closeE cBookEntry (k := i) (m := 2) (xs := xs) (y := (M.Ent.mk (M.up kk ((M.ent xs i).pits).length) (M.mkL M.fC M.sC (kk + (((M.ent xs i).pits).length : Int)) ((M.ent xs i).choices)))) (vs := vs1_0) (vs' := vs1_0) (by omega) rfl (setL_same he3 rfl) hw) ?_
  refine zn ?_
  refine zf [4, 0] fun GG11 => ?_
  refine zn ?_
  exact zag ⟨i + 1, (kk + (((M.ent xs i).pits).length : Int)) + 3 * (((M.ent xs i).choices).length : Int), xs.set i (M.Ent.mk (M.up kk ((M.ent xs i).pits).length) (M.mkL M.fC M.sC (kk + (((M.ent xs i).pits).length : Int)) ((M.ent xs i).choices))), _, _, _, rfl, rfl, by exact hq9, zt, by rw [List.length_set]; exact hl, by omega, by omega, by omega, rfl⟩ x1
 have hi2 : i = a.length := by have := h2'; omega
 have hM : M.mkL M.fE M.sE k a = xs := by rw [hX]; exact (M.mkd2_end _ _ hi2).symm
 have hN : kk = k + M.szs M.sE a := by rw [hkk, List.take_of_length_le (by omega)]
 refine zx ?_
 refine zS <| Qm rfl <| Qa rfl <| JL.nil ?_
 refine zrb [0, 0] hb x1 ?_
 have hE : (.int .i64 kk : Value) = .int .i64 (k + M.szs M.sE a) := by first | exact hM | (rw [hN]; rfl) | (refine congrArg (Value.int .i64) ?_; omega)
 have hE1 : M.mkL M.fE M.sE k a = xs := by first | exact hM | (rw [hN]; rfl) | (refine congrArg (Value.int .i64) ?_; omega)
 refine ⟨vs1_0, fl1_0, hE, ?_⟩
 · rw [hE1]
theorem c_laws_heldBookEntryS (a : List M.Ent) {v_a : Value} (k : Int) {w : World} (h_a : (Ty.sl 67 2 a.length (lBookEntry a)).ok w v_a) (r0 : a.length ≤ 4194304 := by exact om_) (r1 : M.totE a ≤ 4194304 := by exact om_) (r2 : 0 ≤ k := by exact om_) (r3 : k ≤ 20000000 := by exact om_) : RetV Tryz.prog 46 [v_a, .int .i64 k] w (.int .i64 (M.heldL M.hE k a)) := by
 revert v_a; apply opn
 intro A1 c1 h1 bl1 bh1
 have h_a := h1
 refine enter @Tryz.func46 @Tryz.ntmps46 rfl rfl ?_
 refine zent ?_
 refine zS <| Qa rfl <| zJ <| zS <| Qa rfl <| JL.nil <| Js.block ?_
 refine zl [0] (fun F U l os u m => ∃ (i : Nat) (kk : Int), l = F [(1, .int .i64 kk), (5, .int .i64 (i : Int))] ∧ os = U [] ∧ (M.heldL M.hE kk (a.drop i) = M.heldL M.hE k a) ∧ (i ≤ a.length) ∧ (0 ≤ kk) ∧ (kk ≤ k + 3 * (M.totE (a.take i) : Int)) ∧ m = a.length - i) ⟨0, k, rfl, rfl, by rfl, zt, zt, by simp [M.totE], rfl⟩ ?_
 rintro _ _ u2 _ ⟨i, kk, rfl, rfl, hS, hi, hk0, hk1, rfl⟩ x2
 refine zn ?_
 refine Js.seq <| zS <| Qm rfl <| Qm rfl <| Qz rfl <| Ql rfl rfl <| JL.nil ?_
 refine zi (fun h3 h3' => ?_) fun h3 h3' => ?_
 ·
  have hia : i < a.length := by have := h3'; omega
  have hY := M.ent_get hia
  have hyl9 := M.totE_mem (List.mem_of_getElem? hY)
  have t1 := M.totE_step hia
  have t2 := M.totE_le a i
  have t3 := M.totE_le a (i + 1)
  have hb1 := M.held_bd (M.ent a i).pits (k := kk) hk0
  have hy4 : a[i]? = some (M.ent a i) := M.ent_get (by omega)
  obtain ⟨b4, o4, A4_0, c4_0, A4_1, c4_1, he4, hr4, h4_0, h4_1, bl4_0, bh4_0, bl4_1, bh4_1⟩ := elem_BookEntry (Ty.mono _ h1 x2.vis) hy4
  refine Js.skip <| Js.seq <| Js.block <| zS <| Qm rfl <| Qm rfl <| Qq (p_indexAddr el_30 rfl rfl (by omega) (by omega) he4) <| Qf fh rfl <| QC (hr4 0 _ rfl) rfl <| Qm rfl <| zv rfl (fun w hw => c_laws_heldInt64S ((M.ent a i).pits) kk (ok_ hw)) <| Qa rfl <| zJ <| zS ?_
  refine Qm rfl <| Ql rfl rfl <| JL.nil ?_
  refine zi (fun h5 h5' => ?_) fun h5 h5' => ?_
  ·
   have hE := M.heldL_no M.hE hS hY (by rw [M.hE_1 (by simpa using h5)]; decide)
   refine zS <| Qa rfl <| JL.nil ?_
   refine zR x2 ?_
   first | (rw [hE]; rfl)
  have q1 : ¬ M.held (M.ent a i).pits kk < 0 := by simpa using h5
  have hb2 := M.heldC_bd (M.ent a i).choices (k := M.held (M.ent a i).pits kk) (by omega)
  have hy6 : a[i]? = some (M.ent a i) := M.ent_get (by omega)
  obtain ⟨b6, o6, A6_0, c6_0, A6_1, c6_1, he6, hr6, h6_0, h6_1, bl6_0, bh6_0, bl6_1, bh6_1⟩ := elem_BookEntry (Ty.mono _ h1 x2.vis) hy6
  refine Js.skip <| zS <| Qm rfl <| Qm rfl <| Qq (p_indexAddr el_30 rfl rfl (by omega) (by omega) he6) <| Qf fh rfl <| QC (hr6 1 _ rfl) rfl <| Qm rfl <| zv rfl (fun w hw => c_laws_heldChoiceS ((M.ent a i).choices) (M.held ((M.ent a i).pits) kk) (ok_ hw)) <| Qa rfl <| zN <| Qm rfl <| Ql rfl rfl <| JL.nil ?_
  refine zi (fun h7 h7' => ?_) fun h7 h7' => ?_
  ·
   have hE := M.heldL_no M.hE hS hY (by rw [M.hE_2 q1 (by simpa using h7)]; decide)
   refine zS <| Qa rfl <| JL.nil ?_
   refine zR x2 ?_
   first | (rw [hE]; rfl)
  have q2 : ¬ M.heldL M.hC (M.held (M.ent a i).pits kk) (M.ent a i).choices < 0 := by simpa using h7
  have hS2 := M.heldL_step M.hE hS hY (by rw [M.hE_0 q1 q2]; omega)
  rw [M.hE_0 q1 q2] at hS2
  refine Js.skip <| Js.blockEnd <| Js.region <| Qm rfl <| Qp rfl rfl <| Qa rfl <| JL.nil ?_
  exact zag ⟨i + 1, M.heldL M.hC (M.held ((M.ent a i).pits) kk) ((M.ent a i).choices), rfl, rfl, by exact hS2, zt, zt, zt, rfl⟩ x2
 have hE := M.heldL_end M.hE hS (by have := h3'; omega)
 refine zx ?_
 refine zS <| Qm rfl <| Qa rfl <| JL.nil ?_
 refine zR x2 ?_
 first | (rw [hE]; rfl)
theorem c_laws_markBook (a_rules : M.Rul) (a_entries : List M.Ent) {Aa_9 : Option Addr} {ca_9 : Nat} {ga_9 : List Nat} {vsa_9 : List Value} {fa_9 : List Nat} (k : Int) {w : World} (hb : Bw w [rowO 67 2 (.slice Aa_9 a_entries.length ca_9) a_entries.length vsa_9 ga_9, ownC (lBookEntry a_entries) vsa_9 fa_9]) (bd0 : a_entries.length ≤ ca_9 := by exact om_) (bd1 : ca_9 ≤ 9223372036854775807 := by exact om_) (r0 : a_entries.length ≤ 4194304 := by exact om_) (r1 : M.totE a_entries ≤ 4194304 := by exact om_) (r2 : 0 ≤ k := by exact om_) (r3 : k ≤ 20000000 := by exact om_) : RetB Tryz.prog 13 [.agg #[.int .i64 a_rules.pits, .int .i64 a_rules.seeds, .bool a_rules.stores, .bool a_rules.skip, .bool a_rules.relay, .bool a_rules.feed, .bool a_rules.again, .int .i64 a_rules.capture, .int .i64 a_rules.slam, .slice Aa_9 a_entries.length ca_9], .int .i64 k] w [rowO 67 2 (.slice Aa_9 a_entries.length ca_9) a_entries.length vsa_9 ga_9, ownC (lBookEntry a_entries) vsa_9 fa_9] (fun v bs' => ∃ (vsxa_w0 : List Value) (fxa_w0 : List Nat), v = .int .i64 (k + M.szs M.sE a_entries) ∧ bs' = [rowO 67 2 (.slice Aa_9 a_entries.length ca_9) a_entries.length vsxa_w0 ga_9, ownC (lBookEntry (M.mkL M.fE M.sE k a_entries)) vsxa_w0 fxa_w0]) := by
 refine enterB hb @Tryz.func13 @Tryz.ntmps13 rfl rfl ?_
 refine zent ?_
 refine Js.trashE ?_
 refine zn ?_
 refine zS <| zb rfl fun b1 => Qa rfl <| zN <| Qf fh rfl <| Q0 0 rfl rfl rfl <| Qm rfl ?_
 refine zhl [1, 1] ?_
 refine zBB 2 sp_ rfl (fun w hb _ hw => c_laws_markBookEntryS a_entries k hb) ?_
 rintro _ _ G2 ⟨vs2_a, f2_a, rfl, rfl⟩
 refine znl ?_
 refine Qa rfl <| zN <| Qm rfl <| Qa rfl <| JL.nil ?_
 refine zrb [0, 0] hb (Up.refl _ _) ?_
 exact ⟨_, _, rfl, rfl⟩
theorem c_laws_heldBook (a : M.Boo) {v_a : Value} (k : Int) {w : World} (h_a : (Ty.agg (cBook a)).ok w v_a) (r0 : a.entries.length ≤ 4194304 := by exact om_) (r1 : M.totE a.entries ≤ 4194304 := by exact om_) (r2 : 0 ≤ k := by exact om_) (r3 : k ≤ 20000000 := by exact om_) : RetV Tryz.prog 14 [v_a, .int .i64 k] w (.int .i64 (M.heldL M.hE k a.entries)) := by
 have hbb := M.heldE_bd a.entries r2
 revert v_a; apply opn
 intro A1 c1 h1 bl1 bh1
 refine enter @Tryz.func14 @Tryz.ntmps14 rfl rfl ?_
 refine zent ?_
 refine zS <| zb rfl fun b2 => Qa rfl <| zN <| Qf fh rfl <| Q0 0 rfl rfl rfl <| Qm rfl <| zv rfl (fun w hw => c_laws_heldBookEntryS a.entries k (ok_ hw)) <| Qa rfl <| zJ <| zS <| Qm rfl <| Ql rfl rfl <| JL.nil ?_
 refine zi (fun h3 h3' => ?_) fun h3 h3' => ?_
 ·
  have hE : M.heldL M.hE k a.entries = -1 := by have := h3'; omega
  refine zS <| Qa rfl <| JL.nil ?_
  refine zR (Up.refl _ _) ?_
  first | (rw [hE]; rfl) | rfl
 refine Js.skip <| zS <| Qm rfl <| Qa rfl <| JL.nil ?_
 refine zR (Up.refl _ _) ?_
 first | (rw [hE]; rfl) | rfl
theorem c_laws_FnExactReadBook (aS : List UInt8) {w : World} (h_tab : tabT.ok w undef) : RetV Tryz.prog 4 [.string (sB aS)] w (.bool true) := by
 obtain ⟨z3, z4⟩ := M.readB_tot aS
 have z5 := M.mkL_len M.fE M.sE 1 (M.readB aS).1.entries
 have z6 := M.totE_mk (M.readB aS).1.entries 1
 have z7 := M.szs_E_le (M.readB aS).1.entries
 have z8 := M.szs_E_nn (M.readB aS).1.entries
 refine enter @Tryz.func4 @Tryz.ntmps4 rfl rfl ?_
 refine zent ?_
 refine zS <| Qa rfl <| zJ <| zS <| Qm rfl <| Qq (p_lenS und_9 rfl) <| Qg rfl rfl <| JL.nil ?_
 refine zi (fun h1 h1' => ?_) fun h1 h1' => ?_
 ·
  refine zS <| Qa rfl <| JL.nil ?_
  exact zr (Up.refl _ _)
 refine Js.skip <| zS <| Qm rfl <| zp rfl (fun w hw => c_spec_ReadBook aS) ?_
 intro u2 x2 A3 c3 h3 bl3 bh3
 refine Qm rfl <| Qx rfl rfl <| Qx rfl rfl <| za zeh fun b4 => zw 0 rfl rfl rfl ?_
 refine Qa rfl <| zN <| Qm rfl <| zc rfl (fun w hw => c_impl_ReadBook aS (ok_ hw)) ?_
 intro A7 c7 vs7 f7 bl7 bh7
 refine Qm rfl <| Qx rfl rfl <| Qx rfl rfl <| za zeh fun b8 => zw 0 rfl rfl rfl ?_
 refine Qa rfl <| zJ <| zS <| Q9 0 rfl rfl ?_
 refine Q9 3 rfl rfl ?_
 refine zv rfl (fun w hw => c_laws_eqBook ((M.readB aS).1) ((M.readB aS).1) (by exact ⟨_, rfl, ⟨rfl, rfl, rfl, rfl, rfl, rfl, rfl, rfl, rfl, (srow_ok lBookEntry (xs := (((M.readB aS).1).entries)) (hw.pr (i := 1) rfl) (hw.pr (i := 2) rfl) (lBookEntry_length _)), trivial⟩⟩) (ok_ hw) (r1 := (M.totE_small (n := 4194304) (by omega))) (r3 := (M.totE_small (n := 4194304) (by omega)))) <| Qt rfl <| Qm rfl <| zg (Gd.f1 rfl rfl rfl) (fun hc => p_move rfl) <| zg (Gd.f1 rfl rfl rfl) (fun hc => p_move rfl) <| zg (Gd.f1 rfl rfl rfl) (fun hc => p_neqB und_4 (gh hc rfl) (gh hc rfl)) <| Qq (p_pickOr rfl rfl rfl) <| JL.nil ?_
 refine zi (fun h9 h9' => ?_) fun h9 h9' => ?_
 · exact absurd h9 (by simp)
 refine Js.skip <| zS <| Qa rfl <| zN <| Q9 0 rfl rfl ?_
 refine Qm rfl ?_
 refine zhl [1, 1] ?_
 refine zB 2 sp_ rfl (fun w hb hw => c_laws_markBook (((M.readB aS).1).rules) (((M.readB aS).1).entries) 1 hb) ?_
 rintro _ _ G10 ⟨vs10a_w0, f10a_w0, rfl, rfl⟩
 refine znl ?_
 refine Qa rfl <| zN <| Qa rfl <| zN <| Q9 3 rfl rfl ?_
 refine Qm rfl <| zv rfl (fun w hw => c_laws_heldBook (M.Boo.mk (((M.readB aS).1).rules) (M.mkL M.fE M.sE 1 (((M.readB aS).1).entries))) 1 (by exact ⟨_, rfl, ⟨rfl, rfl, rfl, rfl, rfl, rfl, rfl, rfl, rfl, (srow_ok lBookEntry (xs := (M.mkL M.fE M.sE 1 (((M.readB aS).1).entries))) (hw.pr (i := 0) rfl) (hw.pr (i := 1) rfl) (lBookEntry_length _)), trivial⟩⟩)) <| Qa rfl <| zJ <| zS <| Qm rfl <| Ql rfl rfl <| JL.nil ?_
 refine zi (fun h11 h11' => ?_) fun h11 h11' => ?_
 · exact absurd h11 (by rw [M.held_E _ (by decide)]; simp only [decide_eq_true_eq]; omega)
 refine Js.skip <| Js.seq <| zS <| Qm rfl <| Qm rfl <| Qd rfl rfl <| JL.nil ?_
 refine zi (fun h12 h12' => ?_) fun h12 h12' => ?_
 · exact absurd h12 (by rw [M.held_E _ (by decide)]; simp)
 refine Js.skip <| zS <| Qm rfl <| zp rfl (fun w hw => c_impl_ReadBook aS (ok_ hw)) ?_
 intro u13 x13 A14 c14 h14 bl14 bh14
 refine Qm rfl <| Qx rfl rfl <| Qx rfl rfl <| za zeh fun b15 => zw 0 rfl rfl rfl ?_
 refine Qa rfl <| zJ <| zS <| Q9 0 rfl rfl ?_
 refine Q9 5 rfl rfl ?_
 refine zv rfl (fun w hw => c_laws_eqBook ((M.readB aS).1) ((M.readB aS).1) (ok_ hw) (ok_ hw) (r1 := (M.totE_small (n := 4194304) (by omega))) (r3 := (M.totE_small (n := 4194304) (by omega)))) <| Qt rfl <| Qm rfl <| zg (Gd.f1 rfl rfl rfl) (fun hc => p_move rfl) <| zg (Gd.f1 rfl rfl rfl) (fun hc => p_move rfl) <| zg (Gd.f1 rfl rfl rfl) (fun hc => p_neqB und_4 (gh hc rfl) (gh hc rfl)) <| Qq (p_pickOr rfl rfl rfl) <| JL.nil ?_
 refine Js.condF rfl h9 ?_
 refine Js.skip <| zS <| Qa rfl <| zN <| Q9 4 rfl rfl ?_
 refine Qm rfl <| zv rfl (fun w hw => c_laws_heldBook (M.Boo.mk (((M.readB aS).1).rules) (M.mkL M.fE M.sE 1 (((M.readB aS).1).entries))) 1 (by exact ⟨_, rfl, ⟨rfl, rfl, rfl, rfl, rfl, rfl, rfl, rfl, rfl, (srow_ok lBookEntry (xs := (M.mkL M.fE M.sE 1 (((M.readB aS).1).entries))) (hw.pr (i := 1) rfl) (hw.pr (i := 2) rfl) (lBookEntry_length _)), trivial⟩⟩)) <| Qa rfl <| zJ <| zS <| Qm rfl <| Ql rfl rfl <| JL.nil ?_
 refine Js.condF rfl h11 ?_
 refine Js.skip <| Js.seq <| zS <| Qm rfl <| Qm rfl <| Qd rfl rfl <| JL.nil ?_
 refine Js.condF rfl h12 ?_
 refine Js.skip <| zS <| Qa rfl <| JL.nil ?_
 exact zr (x2.trans x13)
end Go.Proofs.YtjklnidbndopiaaGreatDoor

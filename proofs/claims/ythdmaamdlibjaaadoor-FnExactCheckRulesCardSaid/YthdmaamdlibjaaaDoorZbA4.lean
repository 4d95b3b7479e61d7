/- Walks: G1. -/
import Derived.Test.YthdmaamdlibjaaaDoorZbA3
import Derived.Test.YthdmaamdlibjaaaDoorZbA2
set_option linter.unusedSimpArgs false
set_option linter.unusedVariables false
set_option maxRecDepth 100000
attribute [local irreducible] Go.Proofs.YthdmaamdlibjaaaDoor.gv
set_option maxHeartbeats 1000000
namespace Go.Proofs.YthdmaamdlibjaaaDoor
open Go.RowKit
theorem c_impl_between (n low high : Int) {w : World}  : RetV Tryd.prog 51 [.int .i64 n, .int .i64 low, .int .i64 high] w (.bool (M.betw n low high)) := by
 refine enter @Tryd.func51 @Tryd.ntmps51 rfl rfl ?_
 refine zent ?_
 refine zS <| Qa rfl <| zN <| Qm rfl <| Qm rfl <| Qh rfl rfl <| Qm rfl <| zg (Gd.t1 rfl rfl rfl) (fun hc => p_move rfl) <| zg (Gd.t1 rfl rfl rfl) (fun hc => p_move rfl) <| zg (Gd.t1 rfl rfl rfl) (fun hc => p_leq (gh hc rfl) (gh hc rfl)) <| Qq (p_pickAnd rfl rfl rfl) <| Qa rfl <| JL.nil ?_
 refine zR (Up.refl _ _) ?_
 simp [outV, M.betw, Bool.and_comm]
theorem c_impl_Decimal (n : Int) {w : World} (h_tab : tabT.ok w undef) (r0 : -9223372036854775808 ≤ n := by exact om_) (r1 : n ≤ 9223372036854775807 := by exact om_) : RetV Tryd.prog 52 [.int .i64 n] w (.string (sB (M.dec n))) := by
 refine enter @Tryd.func52 @Tryd.ntmps52 rfl rfl ?_
 refine zent ?_
 refine zS <| Qa rfl <| zN <| Qm rfl <| zv rfl (fun w hw => c_strconv_FormatInt n 10 (ok_ hw)) <| Qa rfl <| JL.nil ?_
 exact zr (Up.refl _ _)
theorem c_impl_CaptureName (kind : Int) {w : World}  : RetV Tryd.prog 59 [.int .i64 kind] w (.string (sB (M.capName kind))) := by
 refine enter @Tryd.func59 @Tryd.ntmps59 rfl rfl ?_
 refine zent ?_
 refine zS <| Qa rfl <| zJ <| zS <| Qm rfl <| JL.nil <| Js.block <| zS <| Qe rfl rfl <| Qa rfl <| JL.nil ?_
 refine zi (fun h1 h1' => ?_) fun h1 h1' => ?_
 ·
  refine zS <| Qa rfl <| JL.nil ?_
  refine zR (Up.refl _ _) ?_
  first | (simp only [outV, M.capName, *, if_true, if_false]; done) | (simp [outV, M.capName, *])
 refine zS <| Qe rfl rfl <| Qa rfl <| JL.nil ?_
 refine zi (fun h2 h2' => ?_) fun h2 h2' => ?_
 ·
  refine zS <| Qa rfl <| JL.nil ?_
  refine zR (Up.refl _ _) ?_
  first | (simp only [outV, M.capName, *, if_true, if_false]; done) | (simp [outV, M.capName, *])
 refine zS <| Qe rfl rfl <| Qa rfl <| JL.nil ?_
 refine zi (fun h3 h3' => ?_) fun h3 h3' => ?_
 ·
  refine zS <| Qa rfl <| JL.nil ?_
  refine zR (Up.refl _ _) ?_
  first | (simp only [outV, M.capName, *, if_true, if_false]; done) | (simp [outV, M.capName, *])
 refine zS <| Qe rfl rfl <| Qa rfl <| JL.nil ?_
 refine zi (fun h4 h4' => ?_) fun h4 h4' => ?_
 ·
  refine zS <| Qa rfl <| JL.nil ?_
  refine zR (Up.refl _ _) ?_
  first | (simp only [outV, M.capName, *, if_true, if_false]; done) | (simp [outV, M.capName, *])
 refine Js.skip <| Js.blockEnd <| zS <| Qa rfl <| JL.nil ?_
 refine zR (Up.refl _ _) ?_
 first | (simp only [outV, M.capName, *, if_true, if_false]; done) | (simp [outV, M.capName, *])
theorem c_impl_SlamName (kind : Int) {w : World}  : RetV Tryd.prog 8 [.int .i64 kind] w (.string (sB (M.slamName kind))) := by
 refine enter @Tryd.func8 @Tryd.ntmps8 rfl rfl ?_
 refine zent ?_
 refine zS <| Qa rfl <| zJ <| zS <| Qm rfl <| JL.nil <| Js.block <| zS <| Qe rfl rfl <| Qa rfl <| JL.nil ?_
 refine zi (fun h1 h1' => ?_) fun h1 h1' => ?_
 ·
  refine zS <| Qa rfl <| JL.nil ?_
  refine zR (Up.refl _ _) ?_
  first | (simp only [outV, M.slamName, *, if_true, if_false]; done) | (simp [outV, M.slamName, *])
 refine zS <| Qe rfl rfl <| Qa rfl <| JL.nil ?_
 refine zi (fun h2 h2' => ?_) fun h2 h2' => ?_
 ·
  refine zS <| Qa rfl <| JL.nil ?_
  refine zR (Up.refl _ _) ?_
  first | (simp only [outV, M.slamName, *, if_true, if_false]; done) | (simp [outV, M.slamName, *])
 refine zS <| Qe rfl rfl <| Qa rfl <| JL.nil ?_
 refine zi (fun h3 h3' => ?_) fun h3 h3' => ?_
 ·
  refine zS <| Qa rfl <| JL.nil ?_
  refine zR (Up.refl _ _) ?_
  first | (simp only [outV, M.slamName, *, if_true, if_false]; done) | (simp [outV, M.slamName, *])
 refine Js.skip <| Js.blockEnd <| zS <| Qa rfl <| JL.nil ?_
 refine zR (Up.refl _ _) ?_
 first | (simp only [outV, M.slamName, *, if_true, if_false]; done) | (simp [outV, M.slamName, *])
theorem c_impl_Rules_flag (r : M.Rul) {v_r : Value} (y : List UInt8) {w : World} (h_r : (Ty.ref (cRules r)).ok w v_r) (r0 : y ∈ M.fNames := by exact om_) : RetV Tryd.prog 61 [v_r, .string (sB y)] w (addO v_r (M.flagIx y)) := by
 revert v_r; apply opn
 intro b1 o1 hr1
 refine enter @Tryd.func61 @Tryd.ntmps61 rfl rfl ?_
 refine zent ?_
 refine zS <| Qa rfl <| zJ <| zS <| Qm rfl <| JL.nil <| Js.block <| zS <| Qq (p_eqlT und_9 rfl rfl) <| Qa rfl <| JL.nil ?_
 refine zi (fun h2 h2' => ?_) fun h2 h2' => ?_
 ·
  have e52 := h2'
  refine zS <| Qm rfl <| Qc rfl <| Qf fh rfl <| Qa rfl <| JL.nil ?_
  refine zR (Up.refl _ _) ?_
  first | (rw [e52]; rfl) | (rw [e54]; rfl) | (rw [e56]; rfl) | (rw [e58]; rfl) | (rw [e60]; rfl) | (exfalso; simp only [M.fNames, List.mem_cons, List.not_mem_nil, or_false] at r0; rcases r0 with h | h | h | h | h <;> contradiction)
 have e52 := h2'
 refine zS <| Qq (p_eqlT und_9 rfl rfl) <| Qa rfl <| JL.nil ?_
 refine zi (fun h3 h3' => ?_) fun h3 h3' => ?_
 ·
  have e54 := h3'
  refine zS <| Qm rfl <| Qc rfl <| Qf fh rfl <| Qa rfl <| JL.nil ?_
  refine zR (Up.refl _ _) ?_
  first | (rw [e52]; rfl) | (rw [e54]; rfl) | (rw [e56]; rfl) | (rw [e58]; rfl) | (rw [e60]; rfl) | (exfalso; simp only [M.fNames, List.mem_cons, List.not_mem_nil, or_false] at r0; rcases r0 with h | h | h | h | h <;> contradiction)
 have e54 := h3'
 refine zS <| Qq (p_eqlT und_9 rfl rfl) <| Qa rfl <| JL.nil ?_
 refine zi (fun h4 h4' => ?_) fun h4 h4' => ?_
 ·
  have e56 := h4'
  refine zS <| Qm rfl <| Qc rfl <| Qf fh rfl <| Qa rfl <| JL.nil ?_
  refine zR (Up.refl _ _) ?_
  first | (rw [e52]; rfl) | (rw [e54]; rfl) | (rw [e56]; rfl) | (rw [e58]; rfl) | (rw [e60]; rfl) | (exfalso; simp only [M.fNames, List.mem_cons, List.not_mem_nil, or_false] at r0; rcases r0 with h | h | h | h | h <;> contradiction)
 have e56 := h4'
 refine zS <| Qq (p_eqlT und_9 rfl rfl) <| Qa rfl <| JL.nil ?_
 refine zi (fun h5 h5' => ?_) fun h5 h5' => ?_
 ·
  have e58 := h5'
  refine zS <| Qm rfl <| Qc rfl <| Qf fh rfl <| Qa rfl <| JL.nil ?_
  refine zR (Up.refl _ _) ?_
  first | (rw [e52]; rfl) | (rw [e54]; rfl) | (rw [e56]; rfl) | (rw [e58]; rfl) | (rw [e60]; rfl) | (exfalso; simp only [M.fNames, List.mem_cons, List.not_mem_nil, or_false] at r0; rcases r0 with h | h | h | h | h <;> contradiction)
 have e58 := h5'
 refine zS <| Qq (p_eqlT und_9 rfl rfl) <| Qa rfl <| JL.nil ?_
 refine zi (fun h6 h6' => ?_) fun h6 h6' => ?_
 ·
  have e60 := h6'
  refine zS <| Qm rfl <| Qc rfl <| Qf fh rfl <| Qa rfl <| JL.nil ?_
  refine zR (Up.refl _ _) ?_
  first | (rw [e52]; rfl) | (rw [e54]; rfl) | (rw [e56]; rfl) | (rw [e58]; rfl) | (rw [e60]; rfl) | (exfalso; simp only [M.fNames, List.mem_cons, List.not_mem_nil, or_false] at r0; rcases r0 with h | h | h | h | h <;> contradiction)
 have e60 := h6'
 refine Js.skip <| Js.blockEnd <| zS <| Qa rfl <| JL.nil ?_
 refine zR (Up.refl _ _) ?_
 first | (rw [e52]; rfl) | (rw [e54]; rfl) | (rw [e56]; rfl) | (rw [e58]; rfl) | (rw [e60]; rfl) | (exfalso; simp only [M.fNames, List.mem_cons, List.not_mem_nil, or_false] at r0; rcases r0 with h | h | h | h | h <;> contradiction)
theorem c_impl_SlamNamed (y : List UInt8) {w : World}  : RetV Tryd.prog 9 [.string (sB y)] w (.tuple #[.int .i64 ((M.namedBy M.slamNames y).1), .int .i64 ((M.namedBy M.slamNames y).2)]) := by
 refine enter @Tryd.func9 @Tryd.ntmps9 rfl rfl ?_
 refine zent ?_
 refine zS <| Qa rfl <| Qa rfl <| zJ <| zS <| Qa rfl <| JL.nil <| Js.block ?_
 refine zl [0] (fun F U l os u m => ∃ (k : Nat), l = F [(4, .int .i64 (k : Int))] ∧ os = U [] ∧ (k ≤ 3) ∧ (M.Nix M.slamNames y k) ∧ m = 3 - k) ⟨0, rfl, rfl, zt, by exact M.Nix.zero _ _, rfl⟩ ?_
 rintro _ _ u1 _ ⟨k, rfl, rfl, hk, hN, rfl⟩ x1
 refine zn ?_
 refine Js.seq <| zS <| Qm rfl <| Qk rfl rfl <| JL.nil ?_
 refine zi (fun h2 h2' => ?_) fun h2 h2' => ?_
 ·
  have hY := M.slam_at (k := k) (by have := h2'; omega)
  refine Js.skip <| Js.seq <| Js.block <| zS <| Qm rfl <| zv rfl (fun w hw => c_impl_SlamName (k : Int)) <| Qm rfl <| Qq (p_eqlT und_9 rfl rfl) <| JL.nil ?_
  refine zi (fun h3 h3' => ?_) fun h3 h3' => ?_
  ·
   have hE := M.named_hit hN hY (by simpa using h3)
   refine zS <| Qm rfl <| Qa rfl <| Qa rfl <| JL.nil ?_
   refine zR x1 ?_
   rw [hE]; rfl
  have hN2 := hN.step hY (by simpa using h3)
  refine Js.skip <| Js.blockEnd <| Js.region <| Qm rfl <| Qp rfl rfl <| Qa rfl <| JL.nil ?_
  exact zag ⟨k + 1, rfl, rfl, zt, by exact hN2, rfl⟩ x1
 have hE := M.named_miss hN (show 3 ≤ k by have := h2'; omega)
 refine zx ?_
 refine zS <| Qa rfl <| Qa rfl <| JL.nil ?_
 refine zR x1 ?_
 rw [hE]; rfl
theorem c_impl_Rules_number (r : M.Rul) {v_r : Value} (y : List UInt8) {w : World} (h_r : (Ty.ref (cRules r)).ok w v_r) (r0 : M.isNum y = true := by exact om_) : RetV Tryd.prog 67 [v_r, .string (sB y)] w (addO v_r (M.numIx y)) := by
 revert v_r; apply opn
 intro b1 o1 hr1
 refine enter @Tryd.func67 @Tryd.ntmps67 rfl rfl ?_
 refine zent ?_
 refine zS <| Qa rfl <| zJ <| zS <| Qm rfl <| JL.nil <| Js.block <| zS <| Qq (p_eqlT und_9 rfl rfl) <| Qa rfl <| JL.nil ?_
 refine zi (fun h2 h2' => ?_) fun h2 h2' => ?_
 ·
  have e69 := h2'
  refine zS <| Qm rfl <| Qc rfl <| Qf fh rfl <| Qa rfl <| JL.nil ?_
  refine zR (Up.refl _ _) ?_
  first | (rw [e69]; rfl) | (rw [e71]; rfl) | (rw [e73]; rfl) | (rw [e75]; rfl) | (exfalso; rcases M.isNum_iff r0 with h | h | h | h <;> contradiction)
 have e69 := h2'
 refine zS <| Qq (p_eqlT und_9 rfl rfl) <| Qa rfl <| JL.nil ?_
 refine zi (fun h3 h3' => ?_) fun h3 h3' => ?_
 ·
  have e71 := h3'
  refine zS <| Qm rfl <| Qc rfl <| Qf fh rfl <| Qa rfl <| JL.nil ?_
  refine zR (Up.refl _ _) ?_
  first | (rw [e69]; rfl) | (rw [e71]; rfl) | (rw [e73]; rfl) | (rw [e75]; rfl) | (exfalso; rcases M.isNum_iff r0 with h | h | h | h <;> contradiction)
 have e71 := h3'
 refine zS <| Qq (p_eqlT und_9 rfl rfl) <| Qa rfl <| JL.nil ?_
 refine zi (fun h4 h4' => ?_) fun h4 h4' => ?_
 ·
  have e73 := h4'
  refine zS <| Qm rfl <| Qc rfl <| Qf fh rfl <| Qa rfl <| JL.nil ?_
  refine zR (Up.refl _ _) ?_
  first | (rw [e69]; rfl) | (rw [e71]; rfl) | (rw [e73]; rfl) | (rw [e75]; rfl) | (exfalso; rcases M.isNum_iff r0 with h | h | h | h <;> contradiction)
 have e73 := h4'
 refine zS <| Qq (p_eqlT und_9 rfl rfl) <| Qa rfl <| JL.nil ?_
 refine zi (fun h5 h5' => ?_) fun h5 h5' => ?_
 ·
  have e75 := h5'
  refine zS <| Qm rfl <| Qc rfl <| Qf fh rfl <| Qa rfl <| JL.nil ?_
  refine zR (Up.refl _ _) ?_
  first | (rw [e69]; rfl) | (rw [e71]; rfl) | (rw [e73]; rfl) | (rw [e75]; rfl) | (exfalso; rcases M.isNum_iff r0 with h | h | h | h <;> contradiction)
 have e75 := h5'
 refine Js.skip <| Js.blockEnd <| zS <| Qa rfl <| JL.nil ?_
 refine zR (Up.refl _ _) ?_
 first | (rw [e69]; rfl) | (rw [e71]; rfl) | (rw [e73]; rfl) | (rw [e75]; rfl) | (exfalso; rcases M.isNum_iff r0 with h | h | h | h <;> contradiction)
theorem c_impl_Rules_numberL (r : M.Rul) {v_r : Value} (y : List UInt8) {w : World} (h_r : (Ty.ref (cRules r)).ok w v_r) (r0 : M.isNum y = false := by exact om_) : RetV Tryd.prog 67 [v_r, .string (sB y)] w (.pointer none) := by
 obtain ⟨q1, q2, q3, q4⟩ := M.isNum_no r0
 revert v_r; apply opn
 intro b1 o1 hr1
 refine enter @Tryd.func67 @Tryd.ntmps67 rfl rfl ?_
 refine zent ?_
 refine zS <| Qa rfl <| zJ <| zS <| Qm rfl <| JL.nil <| Js.block <| zS <| Qq (p_eqlT und_9 rfl rfl) <| Qa rfl <| JL.nil ?_
 refine zi (fun h2 h2' => ?_) fun h2 h2' => ?_
 · exact absurd h2' (by assumption)
 refine zS <| Qq (p_eqlT und_9 rfl rfl) <| Qa rfl <| JL.nil ?_
 refine zi (fun h3 h3' => ?_) fun h3 h3' => ?_
 · exact absurd h3' (by assumption)
 refine zS <| Qq (p_eqlT und_9 rfl rfl) <| Qa rfl <| JL.nil ?_
 refine zi (fun h4 h4' => ?_) fun h4 h4' => ?_
 · exact absurd h4' (by assumption)
 refine zS <| Qq (p_eqlT und_9 rfl rfl) <| Qa rfl <| JL.nil ?_
 refine zi (fun h5 h5' => ?_) fun h5 h5' => ?_
 · exact absurd h5' (by assumption)
 refine Js.skip <| Js.blockEnd <| zS <| Qa rfl <| JL.nil ?_
 refine zR (Up.refl _ _) ?_
 rfl
theorem c_impl_Rules_flagL (r : M.Rul) {v_r : Value} (y : List UInt8) {w : World} (h_r : (Ty.ref (cRules r)).ok w v_r) (r0 : M.isFlg y = false := by exact om_) : RetV Tryd.prog 61 [v_r, .string (sB y)] w (.pointer none) := by
 obtain ⟨q1, q2, q3, q4, q5⟩ := M.isFlg_no r0
 revert v_r; apply opn
 intro b1 o1 hr1
 refine enter @Tryd.func61 @Tryd.ntmps61 rfl rfl ?_
 refine zent ?_
 refine zS <| Qa rfl <| zJ <| zS <| Qm rfl <| JL.nil <| Js.block <| zS <| Qq (p_eqlT und_9 rfl rfl) <| Qa rfl <| JL.nil ?_
 refine zi (fun h2 h2' => ?_) fun h2 h2' => ?_
 · exact absurd h2' (by assumption)
 refine zS <| Qq (p_eqlT und_9 rfl rfl) <| Qa rfl <| JL.nil ?_
 refine zi (fun h3 h3' => ?_) fun h3 h3' => ?_
 · exact absurd h3' (by assumption)
 refine zS <| Qq (p_eqlT und_9 rfl rfl) <| Qa rfl <| JL.nil ?_
 refine zi (fun h4 h4' => ?_) fun h4 h4' => ?_
 · exact absurd h4' (by assumption)
 refine zS <| Qq (p_eqlT und_9 rfl rfl) <| Qa rfl <| JL.nil ?_
 refine zi (fun h5 h5' => ?_) fun h5 h5' => ?_
 · exact absurd h5' (by assumption)
 refine zS <| Qq (p_eqlT und_9 rfl rfl) <| Qa rfl <| JL.nil ?_
 refine zi (fun h6 h6' => ?_) fun h6 h6' => ?_
 · exact absurd h6' (by assumption)
 refine Js.skip <| Js.blockEnd <| zS <| Qa rfl <| JL.nil ?_
 refine zR (Up.refl _ _) ?_
 rfl
theorem c_impl_isDigit (c : Int) {w : World}  : RetV Tryd.prog 88 [.int .u8 c] w (.bool (M.isDig c)) := by
 refine enter @Tryd.func88 @Tryd.ntmps88 rfl rfl ?_
 refine zent ?_
 refine zS <| Qa rfl <| zN <| Qm rfl <| Qh rfl rfl <| Qm rfl <| zg (Gd.t1 rfl rfl rfl) (fun hc => p_move rfl) <| zg (Gd.t1 rfl rfl rfl) (fun hc => p_leq (gh hc rfl) rfl) <| Qq (p_pickAnd rfl rfl rfl) <| Qa rfl <| JL.nil ?_
 exact zr (Up.refl _ _)
theorem c_impl_ReadDecimal (t : List UInt8) {w : World} (h_tab : tabT.ok w undef) (r0 : t.length ≤ 4194304 := by exact om_) : RetV Tryd.prog 82 [.string (sB t)] w (.tuple #[.int .i64 ((M.num t).1), .bool ((M.num t).2)]) := by
 refine enter @Tryd.func82 @Tryd.ntmps82 rfl rfl ?_
 refine zent ?_
 have hbt1 := M.bat_bd t 0
 refine zS <| Qa rfl <| Qa rfl <| zN <| Qm rfl <| Qa rfl <| zJ <| zS <| Qm rfl <| Qq (p_lenS und_9 rfl) <| Qg rfl rfl <| Qm rfl <| zg (Gd.t1 rfl rfl rfl) (fun hc => p_move rfl) <| zg (Gd.t1 rfl rfl rfl) (fun hc => p_byteS (i := 0) und_9 (gh hc rfl) rfl (by first | have hc9 := hc; (try simp only [decide_eq_true_eq] at hc9); omega | (have h9 := List.length_pos_iff.2 (by simpa using hc); omega))) ?_
 refine zg (Gd.t1 rfl rfl rfl) (fun hc => p_eql (gh hc rfl) rfl) <| Qq (p_pickAnd rfl rfl rfl) <| JL.nil ?_
 refine zi (fun h2 h2' => ?_) fun h2 h2' => ?_
 ·
  have h8 : t ≠ [] := by have h9 := h2; simp at h9; exact List.length_pos_iff.1 (by omega)
  have hT : M.numT t = t.drop 1 := by have h9 := h2; simp at h9; exact M.numT_y h8 h9.2
  have hln : 1 ≤ t.length := List.length_pos_iff.2 h8
  refine Js.region <| Qm rfl <| Qq (p_dropS (i := 1) und_9 rfl rfl (by omega)) <| Qa rfl <| zJ <| zS <| Qm rfl <| Qq (p_lenS und_9 rfl) <| Qe rfl rfl <| Qm rfl <| zg (Gd.f1 rfl rfl rfl) (fun hc => p_move rfl) <| zg (Gd.f1 rfl rfl rfl) (fun hc => p_lenS und_9 (gh hc rfl)) <| zg (Gd.f1 rfl rfl rfl) (fun hc => p_gtr (gh hc rfl) rfl) <| Qq (p_pickOr rfl rfl rfl) ?_
  refine JL.nil ?_
  refine zi (fun h3 h3' => ?_) fun h3 h3' => ?_
  ·
   have hE := M.num_len (s := t) (by rw [hT]; have h9 := h3; simp at h9; omega)
   refine zS <| Qa rfl <| Qa rfl <| JL.nil ?_
   refine zR (Up.refl _ _) ?_
   first | (rw [hE]; rfl) | (rw [hE, hS]; rfl)
  have hl9 : ¬ ((M.numT t).length < 1 ∨ 18 < (M.numT t).length) := by rw [hT]; have h9 := h3; simp at h9; omega
  refine Js.skip <| zS <| Qa rfl <| zJ <| zS <| Qm rfl <| Qq (p_lenS und_9 rfl) <| Qm rfl <| JL.nil <| Js.block ?_
  refine zl [0, 4, 27] (fun F U l os u m => ∃ (k : Nat) (n : Int), l = F [(5, .int .i64 n), (28, .int .i64 (k : Int))] ∧ os = U [] ∧ (n = M.numN (M.numT t) k) ∧ (M.Digs (M.numT t) k) ∧ (k ≤ (M.numT t).length) ∧ m = (M.numT t).length - k) ⟨0, 0, rfl, rfl, by rfl, by exact M.Digs.zero _, zt, rfl⟩ ?_
  rintro _ _ u4 _ ⟨k, n, rfl, rfl, hN, hD, hk, rfl⟩ x4
  refine zn ?_
  obtain ⟨n1, n2⟩ := M.numN_18 hD (by omega)
  rw [← hN] at n1 n2
  refine zS <| Ql rfl rfl <| zJ ?_
  refine zi (fun h5 h5' => ?_) fun h5 h5' => ?_
  ·
   have hkk : k < (M.numT t).length := by rw [hT]; have := h5'; omega
   obtain ⟨n3, n4⟩ := M.numN_17 hD (by omega)
   rw [← hN] at n3 n4
   have hbt6 := M.bat_bd (t.drop 1) k
   refine Js.skip <| Js.seq <| Js.block <| zS <| Qm rfl <| Qa rfl <| zJ <| zS <| Qm rfl <| Qm rfl <| Qq (p_byteS (i := k) und_9 rfl rfl (by omega)) <| zv rfl (fun w hw => c_impl_isDigit (M.bat (t.drop 1) k)) <| Qt rfl <| JL.nil ?_
   refine zi (fun h7 h7' => ?_) fun h7 h7' => ?_
   ·
    have hE := M.num_dig (M.digs_no hkk (by rw [hT]; simpa using h7))
    refine zS <| Qa rfl <| Qa rfl <| JL.nil ?_
    refine zR x4 ?_
    first | (rw [hE]; rfl) | (rw [hE, hS]; rfl)
   have hd : M.isDig (M.bat (M.numT t) k) = true := by rw [hT]; simpa using h7
   have hD2 := hD.step hd
   obtain ⟨d1, d2⟩ := M.dig_bd hd
   rw [hT] at d1 d2
   have hbt8 := M.bat_bd (t.drop 1) k
   refine Js.skip <| Js.region <| Qm rfl <| Qu rfl rfl <| Qm rfl <| Qm rfl <| Qq (p_byteS (i := k) und_9 rfl rfl (by omega)) <| Qq (p_sub rfl rfl (IntWalk.u8_in _ (by omega))) <| Qq (p_conv @Tryd.underlying5 @Tryd.underlying2 rfl (IntWalk.i64_in _ (by omega))) <| Qp rfl rfl <| Qa rfl <| JL.nil <| Js.blockEnd <| Js.region ?_
   refine Qp rfl rfl <| Qm rfl <| JL.nil ?_
   exact zag ⟨k + 1, (10 * n) + ((M.bat (t.drop 1) k) - 48), rfl, rfl, by rw [hN, M.numN, hT], by exact hD2, zt, rfl⟩ x4
  have hke : k = (M.numT t).length := Nat.le_antisymm hk (by rw [hT]; have := h5'; omega)
  have hdg := M.digs_yes hD (by omega)
  rw [hke] at hN
  refine zx ?_
  refine Js.seq <| zS <| Qm rfl <| Qq (p_lenS und_9 rfl) <| Qm rfl <| Qq (p_lenS und_9 rfl) <| Ql rfl rfl <| JL.nil ?_
  refine zi (fun h9 h9' => ?_) fun h9 h9' => ?_
  ·
   have hS : M.numS t = -n := by rw [hN]; exact M.numS_neg (by rw [hT]; have := h9'; omega)
   refine Js.region <| Qm rfl <| Qq (p_neg (r := -n) rfl (by rw [Int.zero_sub]; exact IntWalk.i64_in _ (by omega))) <| Qa rfl <| zJ <| zS <| Qm rfl <| zv rfl (fun w hw => c_impl_Decimal (-n) (ok_ hw)) <| Qm rfl <| Qq (p_neqT und_9 rfl rfl) <| JL.nil ?_
   refine zi (fun h10 h10' => ?_) fun h10 h10' => ?_
   ·
    have hE := M.num_no (s := t) (by rw [hS]; simpa using h10)
    refine zS <| Qa rfl <| Qa rfl <| JL.nil ?_
    refine zR x4 ?_
    first | (rw [hE]; rfl) | (rw [hE, hS]; rfl)
   have hE := M.num_yes hl9 hdg (by rw [hS]; simpa using h10)
   refine Js.skip <| zS <| Qm rfl <| Qa rfl <| Qa rfl <| JL.nil ?_
   refine zR x4 ?_
   first | (rw [hE]; rfl) | (rw [hE, hS]; rfl)
  have hS : M.numS t = n := by rw [hN]; exact M.numS_pos (by rw [hT]; have := h9'; omega)
  refine Js.skip <| Js.seq <| zS <| Qm rfl <| zv rfl (fun w hw => c_impl_Decimal n (ok_ hw)) <| Qm rfl <| Qq (p_neqT und_9 rfl rfl) <| JL.nil ?_
  refine zi (fun h11 h11' => ?_) fun h11 h11' => ?_
  ·
   have hE := M.num_no (s := t) (by rw [hS]; simpa using h11)
   refine zS <| Qa rfl <| Qa rfl <| JL.nil ?_
   refine zR x4 ?_
   first | (rw [hE]; rfl) | (rw [hE, hS]; rfl)
  have hE := M.num_yes hl9 hdg (by rw [hS]; simpa using h11)
  refine Js.skip <| zS <| Qm rfl <| Qa rfl <| Qa rfl <| JL.nil ?_
  refine zR x4 ?_
  first | (rw [hE]; rfl) | (rw [hE, hS]; rfl)
 have hT : M.numT t = t := M.numT_n (by have h9 := h2; simp at h9; intro ⟨a, b⟩; exact h9 (List.length_pos_iff.2 a) b)
 refine Js.skip <| Js.seq <| zS <| Qm rfl <| Qq (p_lenS und_9 rfl) <| Qe rfl rfl <| Qm rfl <| zg (Gd.f1 rfl rfl rfl) (fun hc => p_move rfl) <| zg (Gd.f1 rfl rfl rfl) (fun hc => p_lenS und_9 (gh hc rfl)) <| zg (Gd.f1 rfl rfl rfl) (fun hc => p_gtr (gh hc rfl) rfl) <| Qq (p_pickOr rfl rfl rfl) <| JL.nil ?_
 refine zi (fun h12 h12' => ?_) fun h12 h12' => ?_
 ·
  have hE := M.num_len (s := t) (by rw [hT]; have h9 := h12; simp at h9; omega)
  refine zS <| Qa rfl <| Qa rfl <| JL.nil ?_
  refine zR (Up.refl _ _) ?_
  first | (rw [hE]; rfl) | (rw [hE, hS]; rfl)
 have hl9 : ¬ ((M.numT t).length < 1 ∨ 18 < (M.numT t).length) := by rw [hT]; have h9 := h12; simp at h9; omega
 refine Js.skip <| zS <| Qa rfl <| zJ <| zS <| Qm rfl <| Qq (p_lenS und_9 rfl) <| Qm rfl <| JL.nil <| Js.block ?_
 refine zl [0, 4, 27] (fun F U l os u m => ∃ (k : Nat) (n : Int), l = F [(5, .int .i64 n), (28, .int .i64 (k : Int))] ∧ os = U [] ∧ (n = M.numN (M.numT t) k) ∧ (M.Digs (M.numT t) k) ∧ (k ≤ (M.numT t).length) ∧ m = (M.numT t).length - k) ⟨0, 0, rfl, rfl, by rfl, by exact M.Digs.zero _, zt, rfl⟩ ?_
 rintro _ _ u13 _ ⟨k, n, rfl, rfl, hN, hD, hk, rfl⟩ x13
 refine zn ?_
 obtain ⟨n1, n2⟩ := M.numN_18 hD (by omega)
 rw [← hN] at n1 n2
 refine zS <| Ql rfl rfl <| zJ ?_
 refine zi (fun h14 h14' => ?_) fun h14 h14' => ?_
 ·
  have hkk : k < (M.numT t).length := by rw [hT]; have := h14'; omega
  obtain ⟨n3, n4⟩ := M.numN_17 hD (by omega)
  rw [← hN] at n3 n4
  have hbt15 := M.bat_bd t k
  refine Js.skip <| Js.seq <| Js.block <| zS <| Qm rfl <| Qa rfl <| zJ <| zS <| Qm rfl <| Qm rfl <| Qq (p_byteS (i := k) und_9 rfl rfl (by omega)) <| zv rfl (fun w hw => c_impl_isDigit (M.bat t k)) <| Qt rfl <| JL.nil ?_
  refine zi (fun h16 h16' => ?_) fun h16 h16' => ?_
  ·
   have hE := M.num_dig (M.digs_no hkk (by rw [hT]; simpa using h16))
   refine zS <| Qa rfl <| Qa rfl <| JL.nil ?_
   refine zR x13 ?_
   first | (rw [hE]; rfl) | (rw [hE, hS]; rfl)
  have hd : M.isDig (M.bat (M.numT t) k) = true := by rw [hT]; simpa using h16
  have hD2 := hD.step hd
  obtain ⟨d1, d2⟩ := M.dig_bd hd
  rw [hT] at d1 d2
  have hbt17 := M.bat_bd t k
  refine Js.skip <| Js.region <| Qm rfl <| Qu rfl rfl <| Qm rfl <| Qm rfl <| Qq (p_byteS (i := k) und_9 rfl rfl (by omega)) <| Qq (p_sub rfl rfl (IntWalk.u8_in _ (by omega))) <| Qq (p_conv @Tryd.underlying5 @Tryd.underlying2 rfl (IntWalk.i64_in _ (by omega))) <| Qp rfl rfl <| Qa rfl <| JL.nil <| Js.blockEnd <| Js.region ?_
  refine Qp rfl rfl <| Qm rfl <| JL.nil ?_
  exact zag ⟨k + 1, (10 * n) + ((M.bat t k) - 48), rfl, rfl, by rw [hN, M.numN, hT], by exact hD2, zt, rfl⟩ x13
 have hke : k = (M.numT t).length := Nat.le_antisymm hk (by rw [hT]; have := h14'; omega)
 have hdg := M.digs_yes hD (by omega)
 rw [hke] at hN
 refine zx ?_
 refine Js.seq <| zS <| Qm rfl <| Qq (p_lenS und_9 rfl) <| Qm rfl <| Qq (p_lenS und_9 rfl) <| Ql rfl rfl <| JL.nil ?_
 refine zi (fun h18 h18' => ?_) fun h18 h18' => ?_
 ·
  have hS : M.numS t = -n := by rw [hN]; exact M.numS_neg (by rw [hT]; have := h18'; omega)
  refine Js.region <| Qm rfl <| Qq (p_neg (r := -n) rfl (by rw [Int.zero_sub]; exact IntWalk.i64_in _ (by omega))) <| Qa rfl <| zJ <| zS <| Qm rfl <| zv rfl (fun w hw => c_impl_Decimal (-n) (ok_ hw)) <| Qm rfl <| Qq (p_neqT und_9 rfl rfl) <| JL.nil ?_
  refine zi (fun h19 h19' => ?_) fun h19 h19' => ?_
  ·
   have hE := M.num_no (s := t) (by rw [hS]; simpa using h19)
   refine zS <| Qa rfl <| Qa rfl <| JL.nil ?_
   refine zR x13 ?_
   first | (rw [hE]; rfl) | (rw [hE, hS]; rfl)
  have hE := M.num_yes hl9 hdg (by rw [hS]; simpa using h19)
  refine Js.skip <| zS <| Qm rfl <| Qa rfl <| Qa rfl <| JL.nil ?_
  refine zR x13 ?_
  first | (rw [hE]; rfl) | (rw [hE, hS]; rfl)
 have hS : M.numS t = n := by rw [hN]; exact M.numS_pos (by rw [hT]; have := h18'; omega)
 refine Js.skip <| Js.seq <| zS <| Qm rfl <| zv rfl (fun w hw => c_impl_Decimal n (ok_ hw)) <| Qm rfl <| Qq (p_neqT und_9 rfl rfl) <| JL.nil ?_
 refine zi (fun h20 h20' => ?_) fun h20 h20' => ?_
 ·
  have hE := M.num_no (s := t) (by rw [hS]; simpa using h20)
  refine zS <| Qa rfl <| Qa rfl <| JL.nil ?_
  refine zR x13 ?_
  first | (rw [hE]; rfl) | (rw [hE, hS]; rfl)
 have hE := M.num_yes hl9 hdg (by rw [hS]; simpa using h20)
 refine Js.skip <| zS <| Qm rfl <| Qa rfl <| Qa rfl <| JL.nil ?_
 refine zR x13 ?_
 first | (rw [hE]; rfl) | (rw [hE, hS]; rfl)
theorem c_impl_cut (s sep : List UInt8) {w : World} (r0 : s.length ≤ 4194304 := by exact om_) (r1 : sep.length ≤ 4194304 := by exact om_) : RetV Tryd.prog 73 [.string (sB s), .string (sB sep)] w (.tuple #[.string (sB ((M.cutS s sep).1)), .string (sB ((M.cutS s sep).2.1)), .bool ((M.cutS s sep).2.2)]) := by
 refine enter @Tryd.func73 @Tryd.ntmps73 rfl rfl ?_
 refine zent ?_
 refine zS <| Qa rfl <| Qa rfl <| Qa rfl <| zJ <| zS <| Qa rfl <| JL.nil <| Js.block ?_
 refine zl [0, 1] (fun F U l os u m => ∃ (k : Nat), l = F [(7, .int .i64 (k : Int))] ∧ os = U [] ∧ (k ≤ s.length + 1) ∧ (∀ i, i < k → (s.drop i).take sep.length ≠ sep) ∧ m = s.length + 1 - k) ⟨0, rfl, rfl, zt, by exact fun i h => absurd h (by omega), rfl⟩ ?_
 rintro _ _ u1 _ ⟨k, rfl, rfl, hk, hn, rfl⟩ x1
 refine zn ?_
 refine Js.seq <| zS <| Qm rfl <| Qm rfl <| Qq (p_lenS und_9 rfl) <| Qp rfl rfl <| Qm rfl <| Qq (p_lenS und_9 rfl) <| Qk rfl rfl <| JL.nil ?_
 refine zi (fun h2 h2' => ?_) fun h2 h2' => ?_
 ·
  have hks : k + sep.length ≤ s.length := by have := h2'; omega
  refine Js.skip <| Js.seq <| Js.block <| zS <| Qm rfl <| Qm rfl <| Qm rfl <| Qm rfl <| Qq (p_lenS und_9 rfl) <| Qp rfl rfl <| Qq (p_midS (i := k) (j := k + sep.length) und_9 rfl rfl rfl (by omega) (by omega)) <| Qm rfl <| Qq (p_eqlT und_9 rfl rfl) <| JL.nil ?_
  refine zi (fun h3 h3' => ?_) fun h3 h3' => ?_
  ·
   have hE := M.cutS_yes hks (by have h9 := h3; simp at h9; exact h9) hn
   refine Js.seq ?_
   refine zdr [] ?_
   refine jM 0 rfl rfl ?_
   refine jM 1 rfl rfl ?_
   refine JH.p 2 rfl (p_takeS (i := k) und_9 rfl rfl (by omega)) ?_
   refine jM 3 rfl rfl ?_
   refine jM 4 rfl rfl ?_
   refine jM 5 rfl rfl ?_
   refine JH.p 6 rfl (p_lenS und_9 rfl) ?_
   refine JH.p 7 rfl (p_add rfl rfl (IntWalk.i64_in _ (by omega))) ?_
   refine JH.p 8 rfl (p_dropS (i := k + sep.length) und_9 rfl rfl (by omega)) ?_
   refine jA 9 rfl rfl ?_
   refine jA 10 rfl rfl ?_
   refine jA 11 rfl rfl ?_
   refine yd ?_
   refine zR x1 ?_
   rw [hE]; rfl
  have hn2 := M.miss_step hn (by have h9 := h3; simp at h9; exact h9)
  refine Js.skip <| Js.blockEnd <| Js.region <| Qm rfl <| Qp rfl rfl <| Qa rfl <| JL.nil ?_
  exact zag ⟨k + 1, rfl, rfl, zt, by exact hn2, rfl⟩ x1
 have hE := M.cutS_no (k := k) (by have := h2'; omega) hn
 refine zx ?_
 refine zS <| Qm rfl <| Qa rfl <| Qa rfl <| Qa rfl <| JL.nil ?_
 refine zR x1 ?_
 rw [hE]; rfl
theorem c_impl_parts (s : List UInt8) {w : World} (r0 : s.length ≤ 4194304 := by exact om_) : Ret Tryd.prog 54 [.string (sB s)] w (Ty.strs 9 (M.split 32 s)) := by
 refine enter @Tryd.func54 @Tryd.ntmps54 rfl rfl ?_
 refine zent ?_
 refine zS <| Qa rfl <| zN <| zbs fun b1 => ?_
 refine Qa rfl <| JL.nil <| Js.block ?_
 refine zl [] (fun F U l os u m => ∃ (cur : List UInt8) (out : List (List UInt8)) (A3_3 : Option Addr) (c3_3 : Nat) (g3_3 : List Nat), l = F [(0, .string (sB cur)), (3, .slice A3_3 out.length c3_3)] ∧ os = U [some (rowO 9 1 (.slice A3_3 out.length c3_3) out.length (txs_ out) g3_3)] ∧ (out ++ M.split 32 cur = M.split 32 s) ∧ (cur.length ≤ s.length) ∧ (out.length ≤ c3_3) ∧ (c3_3 ≤ 9223372036854775807) ∧ m = cur.length) ⟨s, [], _, _, _, rfl, rfl, by rfl, by exact Nat.le_refl _, zu, zu, rfl⟩ ?_
 rintro _ _ u3 _ ⟨cur, out, A3_3, c3_3, g3_3, rfl, rfl, hP, hl, f3_2, f3_3, rfl⟩ x3
 refine zn ?_
 have hl3 := M.parts_len hP
 have hcl := M.cutS_len cur [32]
 refine Js.block <| zS <| Qm rfl <| zv rfl (fun w hw => c_impl_cut cur ([32] : List UInt8)) <| Qm rfl <| Qx rfl rfl <| Qx rfl rfl <| Qx rfl rfl <| Qa rfl <| Qa rfl <| Qa rfl <| zN <| Qm rfl <| Qm rfl ?_
 refine zbs fun b4 => ?_
 refine JL.e (e_append (i := 1) (n' := (out ++ ([(M.cutS cur ([32] : List UInt8)).1])).length) (vs' := txs_ (out ++ ([(M.cutS cur ([32] : List UInt8)).1]))) el_38 rfl rfl rfl rfl (src_row (i := 0) und_38 rfl rfl) (by omega) (by omega) ln2_ (by first | rfl | (simp [txs_]; done))) ?_
 rintro v6 _ _ ⟨⟨g7, rfl⟩, rfl⟩ _
 refine JL.fact (row_form' (i := 1) rfl) (fun hf8 => ?_)
 obtain ⟨A8, c8, rfl, bl8, bh8⟩ := hf8
 refine znl ?_
 refine Qa rfl <| zJ <| zS <| Qm rfl <| Qt rfl <| JL.nil ?_
 refine zi (fun h9 h9' => ?_) fun h9 h9' => ?_
 ·
  have hE := M.parts_last hP (by simpa using h9)
  have hq0 : (out ++ ([(M.cutS cur ([32] : List UInt8)).1])) = M.split 32 s := by exact hE
  refine zS <| Qm rfl <| Qa rfl <| JL.nil ?_
  exact zro x3 (g := by exact (gv_strsE (ys := out ++ ([(M.cutS cur ([32] : List UInt8)).1])) po_ (by assumption) (by rfl)))
 have hP2 := M.parts_more hP (by simpa using h9)
 have hP3 := hP2.2
 refine Js.skip <| Js.region <| Qm rfl <| Qa rfl <| JL.nil <| Js.blockEnd ?_
 refine zd [1] rfl fun u10 x10 => ?_
 exact zag ⟨(M.cutS cur ([32] : List UInt8)).2.1, out ++ ([(M.cutS cur ([32] : List UInt8)).1]), _, _, _, rfl, rfl, by exact hP2.1, by omega, zu, zu, rfl⟩ (x3.trans x10)
end Go.Proofs.YthdmaamdlibjaaaDoor

/- Walks: G3. -/
import Derived.Test.YtejnmechnhgmfaaZpTn
import Derived.Test.YtejnmechnhgmfaaZpNG2
set_option linter.unusedSimpArgs false
set_option linter.unusedVariables false
set_option maxRecDepth 100000
attribute [local irreducible] Go.Proofs.Ytejnmechnhgmfaa.gv
namespace Go.Proofs.Ytejnmechnhgmfaa
open Go.RowKit

set_option maxHeartbeats 1000000 in
theorem c_impl_Rules_taken (r : M.Rul) {v_r : Value} (s : M.Sw) {v_s : Value} (player : Int) {w : World} (h_r : (Ty.agg (cRules r)).ok w v_r) (h_s : (Ty.agg (cSown s)).ok w v_s) (r0 : 2 ≤ r.pits := by exact om_) (r1 : r.pits ≤ 8 := by exact om_) (r2 : player = 0 ∨ player = 1 := by exact om_) (r3 : M.Good r s.pits s.stores 0 := by exact om_) (r4 : -1 ≤ s.last := by exact om_) (r5 : s.last < 2 * r.pits := by exact om_) : Ret Try.prog 159 [v_r, v_s, .int .i64 player] w (Ty.ints 2 (M.taken r s player)) := by
 have l1 := r3.lp
 have l2 := r3.ls
 have hv : 0 ≤ M.getI s.pits s.last := M.nn_nth r3.np _
 have hv9 := r3.pit s.last
 revert v_r; apply opn
 revert v_s; apply opn
 intro A1 c1 h1 bl1 bh1 A2 c2 h2 bl2 bh2
 refine enter @Try.func159 @Try.ntmps159 rfl rfl ?_
 refine zent ?_
 obtain ⟨b3, o3, rfl⟩ := ints_some h1 (by omega)
 refine zS <| zb rfl fun b4 => zb rfl fun b5 => Qa rfl <| zN <| zbs fun b6 => ?_
 refine Qa rfl <| zJ <| zS <| Qf fh rfl <| Q0 1 rfl rfl rfl <| Ql rfl rfl <| JL.nil ?_
 refine zi (fun h8 h8' => ?_) fun h8 h8' => ?_
 ·
  have hR : M.taken r s player = [] := by unfold M.taken; rw [if_pos (by simpa using h8)]
  have hq0 : [] = M.taken r s player := by rw [hR]
  refine zS <| Qm rfl <| Qa rfl <| JL.nil ?_
  exact zro (Up.refl _ _)
 have hl0 : ¬ s.last < 0 := by simpa using h8
 refine Js.skip <| zS <| Q9 2 rfl rfl ?_
 refine Qf fh rfl <| Q0 1 rfl rfl rfl <| zv rfl (fun w hw => c_impl_Rules_owner r s.last (ok_ hw)) <| Qm rfl <| Qe rfl rfl <| Qa rfl <| zJ <| zS <| Qf fh rfl <| Q0 2 rfl rfl rfl <| JL.nil <| Js.block <| zS <| Qe rfl rfl ?_
 refine Qa rfl <| JL.nil ?_
 refine zi (fun h9 h9' => ?_) fun h9 h9' => ?_
 ·
  have hcap : r.capture = 1 := by simpa using h9
  refine zS <| Qf fh rfl <| Q0 1 rfl rfl rfl <| Qa rfl <| JL.nil <| Js.block ?_
  refine zl [2, 3, 4] (fun F U l os u m => ∃ (k : Int) (out : List Int) (A10_7 : Option Addr) (c10_7 : Nat) (g10_7 : List Nat), l = F [(7, .slice A10_7 out.length c10_7), (9, .int .i64 k)] ∧ os = U [some (rowO 2 1 (.slice A10_7 out.length c10_7) out.length (ints_ out) g10_7)] ∧ (out ++ M.ttI r player s.pits k = M.ttI r player s.pits s.last) ∧ (-1 ≤ k) ∧ (k < 2 * r.pits) ∧ ((out.length : Int) + k = s.last) ∧ (out.length ≤ c10_7) ∧ (c10_7 ≤ 9223372036854775807) ∧ m = (k + 1).toNat) ⟨s.last, [], _, _, _, rfl, rfl, by rfl, zt, zt, by simp, zu, zu, rfl⟩ ?_
  rintro _ _ u10 _ ⟨k, out, A10_7, c10_7, g10_7, rfl, rfl, hS, k0, k1, hl, f10_4, f10_5, rfl⟩ x10
  refine zn ?_
  refine Js.seq <| zS <| Qm rfl <| Qh rfl rfl <| Qm rfl <| zgq (Gd.t1 rfl rfl rfl) (fun hc => L9 2 rfl rfl) <| zg (Gd.t1 rfl rfl rfl) (fun hc => p_move rfl) <| zgv (Gd.t1 rfl rfl rfl) (fun hc => (opds_2 (gh hc rfl) (gh hc rfl))) (fun hc => (fun w hw => c_impl_Rules_owner r k (ok_ hw) (r0 := (by have hc9 := hc; (try simp only [decide_eq_true_eq] at hc9); omega)) (r1 := (by have hc9 := hc; (try simp only [decide_eq_true_eq] at hc9); omega)) (r2 := (by have hc9 := hc; (try simp only [decide_eq_true_eq] at hc9); omega)) (r3 := (by have hc9 := hc; (try simp only [decide_eq_true_eq] at hc9); omega)))) ?_
  refine zg (Gd.t1 rfl rfl rfl) (fun hc => p_move rfl) <| zg (Gd.t1 rfl rfl rfl) (fun hc => p_neq (gh hc rfl) (gh hc rfl)) <| Qq (p_pickAnd rfl rfl rfl) <| Qm rfl <| zg (Gd.t1 rfl rfl rfl) (fun hc => p_fieldAddr fld_129_0.h rfl) <| zgq (Gd.t1 rfl rfl rfl) (fun hc => q_load1 ty_24.h (gh hc rfl) (Mem.box (i := 1) rfl rfl)) <| zg (Gd.t1 rfl rfl rfl) (fun hc => p_move rfl) <| zg (Gd.t1 rfl rfl rfl) (fun hc => p_indexAddr el_24 (gh hc rfl) (gh hc rfl) (by have hc9 := hc; (try simp only [Bool.and_eq_true, decide_eq_true_eq, Bool.not_eq_true', decide_eq_false_iff_not] at hc9); omega) (by have hc9 := hc; (try simp only [Bool.and_eq_true, decide_eq_true_eq, Bool.not_eq_true', decide_eq_false_iff_not] at hc9); omega) rfl) ?_
  refine zgq (Gd.t1 rfl rfl rfl) (fun hc => q_load1 ty_2.h (gh hc rfl) (Mem.pub (ints_cellI (i := k) (Ty.mono _ h1 x10.vis) (by have hc9 := hc; (try simp only [Bool.and_eq_true, decide_eq_true_eq, Bool.not_eq_true', decide_eq_false_iff_not] at hc9); omega)))) ?_
  refine zgv (Gd.t1 rfl rfl rfl) (fun hc => (opds_3 (gh hc rfl) rfl rfl)) (fun hc => (fun w hw => c_impl_between (M.getI s.pits k) 2 3)) ?_
  refine Qq (p_pickAnd rfl rfl rfl) <| JL.nil ?_
  refine zi (fun h12 h12' => ?_) fun h12 h12' => ?_
  ·
   obtain ⟨⟨c0, c1⟩, c2⟩ : (0 ≤ k ∧ ¬ M.owner r k = player) ∧ M.betw (M.getI s.pits k) 2 3 = true := by simpa using h12
   have hS2 : (out ++ [k]) ++ M.ttI r player s.pits (k - 1) = M.ttI r player s.pits s.last := by rw [← hS, M.ttI_yes c0 c1 c2]; simp
   refine Js.skip <| Js.seq <| Js.block <| Js.region <| Qm rfl <| Qm rfl <| zbs fun b13 => ?_
   refine JL.e (e_append (i := 1) (n' := (out ++ [k]).length) (vs' := ints_ (out ++ [k])) el_24 rfl rfl rfl rfl (src_row (i := 0) und_24 rfl rfl) (by omega) (by omega) (by first | omega | (simp only [List.length_append, List.length_cons, List.length_nil] <;> omega)) (by simp [ints_])) ?_
   rintro v15 _ _ ⟨⟨g16, rfl⟩, rfl⟩ _
   refine JL.fact (row_form' (i := 1) rfl) (fun hf17 => ?_)
   obtain ⟨A17, c17, rfl, bl17, bh17⟩ := hf17
   refine znl ?_
   refine Qa rfl <| JL.nil <| Js.blockEnd <| Js.region <| Qm rfl <| Qs rfl rfl <| Qa rfl <| JL.nil ?_
   refine zd [1, 1, 1] rfl fun u18 x18 => ?_
   exact zag ⟨k - 1, out ++ [k], _, _, _, rfl, rfl, by exact hS2, zt, zt, by simp only [List.length_append, List.length_cons, List.length_nil]; omega, zu, zu, rfl⟩ (x10.trans x18)
  have hF : M.ttI r player s.pits k = [] := by rcases h12' with (h | h) | h; exact M.ttI_neg h; exact M.ttI_no (.inl h); exact M.ttI_no (.inr h)
  rw [hF, List.append_nil] at hS
  have hR : M.taken r s player = out := by unfold M.taken; rw [if_neg hl0, if_pos hcap, hS]; simp [M.ttI, hl0]
  refine zx ?_
  have hq0 : out = M.taken r s player := by rw [hR]
  refine Js.blockEnd <| zS <| Qm rfl <| Qa rfl <| JL.nil ?_
  exact zro x10
 have hcap1 : ¬ r.capture = 1 := by simpa using h9
 refine zS <| Qe rfl rfl <| Qa rfl <| JL.nil ?_
 refine zi (fun h19 h19' => ?_) fun h19 h19' => ?_
 ·
  have hcap : r.capture = 2 := by simpa using h19
  have ho : M.opp r s.last = 2 * r.pits - 1 - s.last := rfl
  have ho : M.opp r s.last = 2 * r.pits - 1 - s.last := rfl
  refine zS <| Q9 2 rfl rfl ?_
  refine Qf fh rfl <| Q0 1 rfl rfl rfl <| zv rfl (fun w hw => c_impl_Rules_opposite r s.last (ok_ hw)) <| Qa rfl <| zN <| Qm rfl <| Qm rfl <| zg (Gd.t1 rfl rfl rfl) (fun hc => p_fieldAddr fld_129_0.h rfl) <| zgq (Gd.t1 rfl rfl rfl) (fun hc => q_load1 ty_24.h (gh hc rfl) (Mem.box (i := 1) rfl rfl)) <| zg (Gd.t1 rfl rfl rfl) (fun hc => p_fieldAddr fld_129_2.h rfl) <| zgq (Gd.t1 rfl rfl rfl) (fun hc => q_load1 ty_2.h (gh hc rfl) (Mem.box (i := 1) rfl rfl)) <| zg (Gd.t1 rfl rfl rfl) (fun hc => p_indexAddr el_24 (gh hc rfl) (gh hc rfl) (by have hc9 := hc; (try simp only [decide_eq_true_eq] at hc9); omega) (by have hc9 := hc; (try simp only [decide_eq_true_eq] at hc9); omega) rfl) ?_
  refine zgq (Gd.t1 rfl rfl rfl) (fun hc => q_load1 ty_2.h (gh hc rfl) (Mem.pub (ints_cellI (i := s.last) h1 (by have hc9 := hc; (try simp only [decide_eq_true_eq] at hc9); omega)))) ?_
  refine zg (Gd.t1 rfl rfl rfl) (fun hc => p_eql (gh hc rfl) rfl) <| Qq (p_pickAnd rfl rfl rfl) <| Qm rfl <| zg (Gd.t1 rfl rfl rfl) (fun hc => p_fieldAddr fld_129_0.h rfl) <| zgq (Gd.t1 rfl rfl rfl) (fun hc => q_load1 ty_24.h (gh hc rfl) (Mem.box (i := 1) rfl rfl)) <| zg (Gd.t1 rfl rfl rfl) (fun hc => p_move rfl) <| zg (Gd.t1 rfl rfl rfl) (fun hc => p_indexAddr el_24 (gh hc rfl) (gh hc rfl) (by have hc9 := hc; (try simp only [Bool.and_eq_true, decide_eq_true_eq] at hc9); omega) (by have hc9 := hc; (try simp only [Bool.and_eq_true, decide_eq_true_eq] at hc9); omega) rfl) ?_
  refine zgq (Gd.t1 rfl rfl rfl) (fun hc => q_load1 ty_2.h (gh hc rfl) (Mem.pub (ints_cellI (i := M.opp r s.last) h1 (by have hc9 := hc; (try simp only [Bool.and_eq_true, decide_eq_true_eq] at hc9); omega)))) ?_
  refine zg (Gd.t1 rfl rfl rfl) (fun hc => p_gtr (gh hc rfl) rfl) <| Qq (p_pickAnd rfl rfl rfl) <| JL.nil ?_
  refine zi (fun h22 h22' => ?_) fun h22 h22' => ?_
  ·
   have hR : M.taken r s player = [s.last, M.opp r s.last] := by unfold M.taken; rw [if_neg hl0, if_neg hcap1, if_pos hcap, if_pos (by simpa [and_assoc] using h22)]
   refine Js.region <| Qm rfl <| Qf fh rfl <| Q0 1 rfl rfl rfl <| Qm rfl <| zbs fun b23 => ?_
   refine JL.e (e_append (i := 1) (n' := 2) (vs' := ints_ [s.last, (M.opp r s.last)]) el_24 rfl rfl rfl rfl (src_row (i := 0) und_24 rfl rfl) (by omega) (by omega) (by first | omega | (simp only [List.length_append, List.length_cons, List.length_nil] <;> omega)) (by simp [ints_])) ?_
   rintro v25 _ _ ⟨⟨g26, rfl⟩, rfl⟩ _
   refine JL.fact (row_form' (i := 1) rfl) (fun hf27 => ?_)
   obtain ⟨A27, c27, rfl, bl27, bh27⟩ := hf27
   refine znl ?_
   have hq0 : [s.last, (M.opp r s.last)] = M.taken r s player := by rw [hR]
   refine Qa rfl <| JL.nil <| Js.blockEnd <| zS <| Qm rfl <| Qa rfl <| JL.nil ?_
   exact zro (Up.refl _ _)
  have hR : M.taken r s player = [] := by unfold M.taken; rw [if_neg hl0, if_neg hcap1, if_pos hcap, if_neg (by simpa [and_assoc] using h22)]
  have hq0 : [] = M.taken r s player := by rw [hR]
  refine Js.skip <| Js.blockEnd <| zS <| Qm rfl <| Qa rfl <| JL.nil ?_
  exact zro (Up.refl _ _)
 have hcap2 : ¬ r.capture = 2 := by simpa using h19
 refine zS <| Qe rfl rfl <| Qa rfl <| JL.nil ?_
 refine zi (fun h28 h28' => ?_) fun h28 h28' => ?_
 ·
  have hcap : r.capture = 3 := by simpa using h28
  refine zS <| Qm rfl <| Qt rfl <| Qm rfl <| zg (Gd.t1 rfl rfl rfl) (fun hc => p_fieldAddr fld_129_0.h rfl) <| zgq (Gd.t1 rfl rfl rfl) (fun hc => q_load1 ty_24.h (gh hc rfl) (Mem.box (i := 1) rfl rfl)) <| zg (Gd.t1 rfl rfl rfl) (fun hc => p_fieldAddr fld_129_2.h rfl) <| zgq (Gd.t1 rfl rfl rfl) (fun hc => q_load1 ty_2.h (gh hc rfl) (Mem.box (i := 1) rfl rfl)) <| zg (Gd.t1 rfl rfl rfl) (fun hc => p_indexAddr el_24 (gh hc rfl) (gh hc rfl) (by have hc9 := hc; (try simp only [Bool.not_eq_true', decide_eq_false_iff_not] at hc9); omega) (by have hc9 := hc; (try simp only [Bool.not_eq_true', decide_eq_false_iff_not] at hc9); omega) rfl) ?_
  refine zgq (Gd.t1 rfl rfl rfl) (fun hc => q_load1 ty_2.h (gh hc rfl) (Mem.pub (ints_cellI (i := s.last) h1 (by have hc9 := hc; (try simp only [Bool.not_eq_true', decide_eq_false_iff_not] at hc9); omega)))) ?_
  refine zg (Gd.t1 rfl rfl rfl) (fun hc => p_rem (gh hc rfl) rfl (by have hc9 := hc; (try simp only [Bool.not_eq_true', decide_eq_false_iff_not] at hc9); omega) (Int.tmod_eq_emod_of_nonneg (by have hc9 := hc; (try simp only [Bool.not_eq_true', decide_eq_false_iff_not] at hc9); omega))) ?_
  refine zg (Gd.t1 rfl rfl rfl) (fun hc => p_eql (gh hc rfl) rfl) <| Qq (p_pickAnd rfl rfl rfl) <| JL.nil ?_
  refine zi (fun h30 h30' => ?_) fun h30 h30' => ?_
  ·
   have hR : M.taken r s player = [s.last] := by unfold M.taken; rw [if_neg hl0, if_neg hcap1, if_neg hcap2, if_pos hcap, if_pos (by simpa using h30)]
   refine Js.region <| Qm rfl <| Qf fh rfl <| Q0 1 rfl rfl rfl <| zbs fun b31 => ?_
   refine JL.e (e_append (i := 1) (n' := 1) (vs' := ints_ [s.last]) el_24 rfl rfl rfl rfl (src_row (i := 0) und_24 rfl rfl) (by omega) (by omega) (by first | omega | (simp only [List.length_append, List.length_cons, List.length_nil] <;> omega)) (by simp [ints_])) ?_
   rintro v33 _ _ ⟨⟨g34, rfl⟩, rfl⟩ _
   refine JL.fact (row_form' (i := 1) rfl) (fun hf35 => ?_)
   obtain ⟨A35, c35, rfl, bl35, bh35⟩ := hf35
   refine znl ?_
   have hq0 : [s.last] = M.taken r s player := by rw [hR]
   refine Qa rfl <| JL.nil <| Js.blockEnd <| zS <| Qm rfl <| Qa rfl <| JL.nil ?_
   exact zro (Up.refl _ _)
  have hR : M.taken r s player = [] := by unfold M.taken; rw [if_neg hl0, if_neg hcap1, if_neg hcap2, if_pos hcap, if_neg (by simpa using h30)]
  have hq0 : [] = M.taken r s player := by rw [hR]
  refine Js.skip <| Js.blockEnd <| zS <| Qm rfl <| Qa rfl <| JL.nil ?_
  exact zro (Up.refl _ _)
 have hcap3 : ¬ r.capture = 3 := by simpa using h28
 have hR : M.taken r s player = [] := by unfold M.taken; rw [if_neg hl0, if_neg hcap1, if_neg hcap2, if_neg hcap3]
 have hq0 : [] = M.taken r s player := by rw [hR]
 refine Js.skip <| Js.blockEnd <| zS <| Qm rfl <| Qa rfl <| JL.nil ?_
 exact zro (Up.refl _ _)

set_option maxHeartbeats 1000000 in
theorem c_impl_Rules_slams (r : M.Rul) {v_r : Value} (s : M.Sw) {v_s : Value} (player : Int) {w : World} (h_r : (Ty.agg (cRules r)).ok w v_r) (h_s : (Ty.agg (cSown s)).ok w v_s) (r0 : 2 ≤ r.pits := by exact om_) (r1 : r.pits ≤ 8 := by exact om_) (r2 : player = 0 ∨ player = 1 := by exact om_) (r3 : M.Good r s.pits s.stores 0 := by exact om_) (r4 : -1 ≤ s.last := by exact om_) (r5 : s.last < 2 * r.pits := by exact om_) : RetV Try.prog 150 [v_r, v_s, .int .i64 player] w (.bool (M.slams r s player)) := by
 have l1 := r3.lp
 have l2 := r3.ls
 have hao := M.Good.ok r3
 have hlen := M.taken_len (s := s) (player := player) r5 r1
 revert v_r; apply opn
 revert v_s; apply opn
 intro A1 c1 h1 bl1 bh1 A2 c2 h2 bl2 bh2
 refine enter @Try.func150 @Try.ntmps150 rfl rfl ?_
 refine zent ?_
 obtain ⟨b3, o3, rfl⟩ := ints_some h1 (by omega)
 refine zS <| zb rfl fun b4 => zb rfl fun b5 => Qa rfl <| zN <| Q9 1 rfl rfl ?_
 refine Qf fh rfl <| Q0 0 rfl rfl rfl <| Qm rfl <| Qs rfl rfl <| zv rfl (fun w hw => c_impl_Rules_side r s.pits (1 - player) (ok_ hw) (ok_ hw) (r4 := hao.1)) <| Qa rfl <| Qa rfl <| zJ <| zS <| Q9 1 rfl rfl ?_
 refine Q9 0 rfl rfl ?_
 refine Qm rfl <| zp rfl (fun w hw => c_impl_Rules_taken r s player (ok_ hw) (ok_ hw) (r3 := r3)) ?_
 intro u6 x6 A7 c7 h7 bl7 bh7
 refine Qz rfl <| Qm rfl <| JL.nil <| Js.block ?_
 refine zl [2, 3, 4, 7, 20, 21] (fun F U l os u m => ∃ (k : Nat) (g : Int), l = F [(8, .int .i64 g), (22, .int .i64 (k : Int))] ∧ os = U [] ∧ (g + M.gone r s player ((M.taken r s player).drop k) = M.gone r s player (M.taken r s player)) ∧ (k ≤ (M.taken r s player).length) ∧ (0 ≤ g) ∧ (g ≤ 96 * k) ∧ m = (M.taken r s player).length - k) ⟨0, 0, rfl, rfl, by simp, zt, zt, zt, rfl⟩ ?_
 rintro _ _ u8 _ ⟨k, g, rfl, rfl, hS, hk, g0, g1, rfl⟩ x8
 refine zn ?_
 refine zS <| Ql rfl rfl <| zJ ?_
 refine zi (fun h9 h9' => ?_) fun h9 h9' => ?_
 ·
  have hk2 : k < (M.taken r s player).length := by have := h9; simp at this; omega
  have hx := M.taken_mem (r := r) (s := s) (player := player) r5 (M.nth_mem hk2)
  have hvx := r3.pit (M.nth (M.taken r s player) k)
  have hS1 := hS
  rw [M.drop_nth hk2, M.gone_cons] at hS1
  obtain ⟨b10, o10, he10, hc10⟩ := ints_elem (Ty.mono _ h7 x8.vis) (i := k) (by omega)
  refine Js.skip <| Js.seq <| Js.block <| zS <| Qq (p_indexAddr el_24 rfl rfl (by omega) (by omega) he10) <| QC hc10 rfl <| Qa rfl <| zN <| Q9 1 rfl rfl ?_
  refine Qm rfl <| zv rfl (fun w hw => c_impl_Rules_owner r (M.nth (M.taken r s player) k) (ok_ hw)) <| Qm rfl <| Qd rfl rfl <| JL.nil ?_
  refine zi (fun h11 h11' => ?_) fun h11 h11' => ?_
  ·
   have hS2 : (g + M.getI s.pits (M.nth (M.taken r s player) k)) + M.gone r s player ((M.taken r s player).drop (k + 1)) = M.gone r s player (M.taken r s player) := by rw [if_neg (by simpa using h11)] at hS1; omega
   refine Js.region <| Qm rfl <| Qf fh rfl <| Q0 0 rfl rfl rfl <| Qm rfl <| Qq (p_indexAddr el_24 rfl rfl (by omega) (by omega) rfl) <| Qw (q_load1 ty_2.h rfl (Mem.pub (ints_cellI (i := M.nth (M.taken r s player) k) (Ty.mono _ h1 (x6.vis.trans x8.vis)) (by omega)))) <| Qp rfl rfl <| Qa rfl <| JL.nil <| Js.blockEnd <| Js.region <| Qp rfl rfl <| Qm rfl ?_
   refine JL.nil ?_
   exact zag ⟨k + 1, g + (M.getI s.pits (M.nth (M.taken r s player) k)), rfl, rfl, by exact hS2, zt, zt, zt, rfl⟩ x8
  have hS2 : g + M.gone r s player ((M.taken r s player).drop (k + 1)) = M.gone r s player (M.taken r s player) := by rw [if_pos (by simpa using h11)] at hS1; omega
  refine Js.skip <| Js.blockEnd <| Js.region <| Qp rfl rfl <| Qm rfl <| JL.nil ?_
  exact zag ⟨k + 1, g, rfl, rfl, by exact hS2, zt, zt, zt, rfl⟩ x8
 have hg : g = M.gone r s player (M.taken r s player) := by rw [← hS, List.drop_eq_nil_of_le (by omega), M.gone_nil]; omega
 refine zx ?_
 refine zS <| Qm rfl <| Qg rfl rfl <| Qm rfl <| zg (Gd.t1 rfl rfl rfl) (fun hc => p_move rfl) <| zg (Gd.t1 rfl rfl rfl) (fun hc => p_move rfl) <| zg (Gd.t1 rfl rfl rfl) (fun hc => p_eql (gh hc rfl) (gh hc rfl)) <| Qq (p_pickAnd rfl rfl rfl) <| Qa rfl <| JL.nil ?_
 refine zR (x6.trans x8) ?_
 subst hg; simp [outV, M.slams]

set_option maxHeartbeats 1000000 in
theorem c_impl_Rules_captured (r : M.Rul) {v_r : Value} (s : M.Sw) {v_s : Value} (player : Int) {w : World} (h_r : (Ty.agg (cRules r)).ok w v_r) (h_s : (Ty.agg (cSown s)).ok w v_s) (r0 : 2 ≤ r.pits := by exact om_) (r1 : r.pits ≤ 8 := by exact om_) (r2 : player = 0 ∨ player = 1 := by exact om_) (r3 : M.Good r s.pits s.stores 0 := by exact om_) (r4 : -1 ≤ s.last := by exact om_) (r5 : s.last < 2 * r.pits := by exact om_) : Ret Try.prog 158 [v_r, v_s, .int .i64 player] w (Ty.ints 2 (M.captured r s player)) := by
 revert v_r; apply opn
 revert v_s; apply opn
 intro A1 c1 h1 bl1 bh1 A2 c2 h2 bl2 bh2
 refine enter @Try.func158 @Try.ntmps158 rfl rfl ?_
 refine zent ?_
 refine zS <| zb rfl fun b3 => zb rfl fun b4 => Qa rfl <| zJ <| zS <| Qf fh rfl <| Q0 1 rfl rfl rfl <| Qe rfl rfl <| Qm rfl <| zgq (Gd.t1 rfl rfl rfl) (fun hc => L9 1 rfl rfl) <| zgq (Gd.t1 rfl rfl rfl) (fun hc => L9 0 rfl rfl) <| zg (Gd.t1 rfl rfl rfl) (fun hc => p_move rfl) <| zgv (Gd.t1 rfl rfl rfl) (fun hc => (opds_3 (gh hc rfl) (gh hc rfl) (gh hc rfl))) (fun hc => (fun w hw => c_impl_Rules_slams r s player (ok_ hw) (ok_ hw) (r0 := (by have hc9 := hc; (try simp only [decide_eq_true_eq] at hc9); omega)) (r1 := (by have hc9 := hc; (try simp only [decide_eq_true_eq] at hc9); omega)) (r2 := (by have hc9 := hc; (try simp only [decide_eq_true_eq] at hc9); omega)) (r3 := r3) (r4 := (by have hc9 := hc; (try simp only [decide_eq_true_eq] at hc9); omega)) (r5 := (by have hc9 := hc; (try simp only [decide_eq_true_eq] at hc9); omega)))) ?_
 refine Qq (p_pickAnd rfl rfl rfl) <| JL.nil ?_
 refine zi (fun h5 h5' => ?_) fun h5 h5' => ?_
 ·
  have hR : M.captured r s player = [] := by unfold M.captured; rw [if_pos (by simpa using h5)]
  have hq0 : [] = M.captured r s player := by rw [hR]
  refine zS <| zbs fun b6 => ?_
  refine Qa rfl <| JL.nil ?_
  exact zro (Up.refl _ _)
 have hR : M.captured r s player = M.taken r s player := by unfold M.captured; rw [if_neg (by simpa using h5)]
 refine Js.skip <| zS <| Q9 1 rfl rfl ?_
 refine Q9 0 rfl rfl ?_
 refine Qm rfl <| zcs rfl (fun w hw => c_impl_Rules_taken r s player (ok_ hw) (ok_ hw) (r3 := r3)) ?_
 intro A8 c8 bl8 bh8
 have hq0 : (M.taken r s player) = M.captured r s player := by rw [hR]
 refine Qa rfl <| JL.nil ?_
 exact zro (Up.refl _ _)

set_option maxHeartbeats 1000000 in
theorem c_impl_Rules_takeCaptures (r : M.Rul) {v_r : Value} (s : M.Sw) {v_s : Value} (player : Int) {w : World} (h_r : (Ty.agg (cRules r)).ok w v_r) (h_s : (Ty.agg (cSown s)).ok w v_s) (r0 : 2 ≤ r.pits := by exact om_) (r1 : r.pits ≤ 8 := by exact om_) (r2 : player = 0 ∨ player = 1 := by exact om_) (r3 : M.Good r s.pits s.stores 0 := by exact om_) (r4 : -1 ≤ s.last := by exact om_) (r5 : s.last < 2 * r.pits := by exact om_) : Ret Try.prog 149 [v_r, v_s, .int .i64 player] w (Ty.agg (cSown (M.take r s player))) := by
 have l1 := r3.lp
 have l2 := r3.ls
 have hlen := M.captured_len (s := s) (player := player) r5 r1
 revert v_r; apply opn
 revert v_s; apply opn
 intro A1 c1 h1 bl1 bh1 A2 c2 h2 bl2 bh2
 refine enter @Try.func149 @Try.ntmps149 rfl rfl ?_
 refine zent ?_
 obtain ⟨b3, o3, rfl⟩ := ints_some h1 (by omega)
 obtain ⟨b4, o4, rfl⟩ := ints_some h2 (by omega)
 refine zS <| zb rfl fun b5 => zb rfl fun b6 => za zeh fun b7 => zN <| Q9 2 rfl rfl ?_
 refine Q9 1 rfl rfl ?_
 refine Qm rfl <| zp rfl (fun w hw => c_impl_Rules_captured r s player (ok_ hw) (ok_ hw) (r3 := r3)) ?_
 intro u8 x8 A9 c9 h9 bl9 bh9
 refine Qa rfl <| zJ ?_
 refine zdr [7, 9] ?_
 refine JH.p 0 rfl (p_fieldAddr fld_129_0.h rfl) ?_
 refine JH.q 1 rfl (q_load1 ty_24.h rfl (Mem.box (i := 1) rfl rfl)) ?_
 refine JH.p 3 rfl (p_fieldAddr fld_129_1.h rfl) ?_
 refine JH.q 4 rfl (q_load1 ty_24.h rfl (Mem.box (i := 1) rfl rfl)) ?_
 refine y1 2 ?_
 refine ycs rfl rfl (fun w hw => c_impl_copyNumbers s.pits (ok_ hw)) ?_
 intro A10 c10 bl10 bh10
 refine JH.p 6 rfl (p_fieldAddr fld_129_0.h rfl) ?_
 refine y1 5 ?_
 refine ycs rfl rfl (fun w hw => c_impl_copyNumbers s.stores (ok_ hw)) ?_
 intro A11 c11 bl11 bh11
 refine y1 7 ?_
 refine yst rfl rfl rfl ?_
 refine JH.p 8 rfl (p_fieldAddr fld_129_1.h rfl) ?_
 refine y1 9 ?_
 refine yst rfl rfl rfl ?_
 refine yd ?_
 refine Js.fact (row_some (i := 0) rfl (by omega)) (fun hf12 => ?_)
 obtain ⟨b12, rfl⟩ := hf12
 refine Js.fact (row_some (i := 1) rfl (by omega)) (fun hf13 => ?_)
 obtain ⟨b13, rfl⟩ := hf13
 refine Js.seq <| zS <| Qm rfl <| Qz rfl <| Qm rfl <| JL.nil <| Js.block ?_
 refine zl [2, 4, 6, 22, 23] (fun F U l os u m => ∃ (k : Nat) (ps ss : List Int), l = F [(24, .int .i64 (k : Int))] ∧ os = U [some (rowO 2 1 (.slice (some ⟨b12, 0, none⟩) s.stores.length c11) s.stores.length (ints_ ss) []), some (rowO 2 1 (.slice (some ⟨b13, 0, none⟩) s.pits.length c10) s.pits.length (ints_ ps) [])] ∧ (M.takeL player ((M.captured r s player).drop k) ps ss = M.takeL player (M.captured r s player) s.pits s.stores) ∧ (k ≤ (M.captured r s player).length) ∧ (M.Good r ps ss 0) ∧ m = (M.captured r s player).length - k) ⟨0, s.pits, s.stores, rfl, rfl, by rfl, zt, by exact r3, rfl⟩ ?_
 rintro _ _ u14 _ ⟨k, ps, ss, rfl, rfl, hS, hk, hG, rfl⟩ x14
 refine zn ?_
 have l3 := hG.lp
 have l4 := hG.ls
 refine zS <| Ql rfl rfl <| zJ ?_
 refine zi (fun h15 h15' => ?_) fun h15 h15' => ?_
 ·
  have hk2 : k < (M.captured r s player).length := by have := h15; simp at this; omega
  have hx := M.captured_mem (r := r) (s := s) (player := player) r5 (M.nth_mem hk2)
  have hvx := hG.pit (M.nth (M.captured r s player) k)
  have hvs := hG.store player
  obtain ⟨b16, o16, he16, hc16⟩ := ints_elem (Ty.mono _ h9 x14.vis) (i := k) (by omega)
  refine Js.skip <| Js.seq <| Js.block <| zS <| Qq (p_indexAddr el_24 rfl rfl (by omega) (by omega) he16) <| QC hc16 rfl <| Qa rfl <| zJ ?_
  refine zdr [12] ?_
  refine JH.p 0 rfl (p_fieldAddr fld_129_1.h rfl) ?_
  refine JH.q 1 rfl (q_load1 ty_24.h rfl (Mem.box (i := 3) rfl rfl)) ?_
  refine JH.p 2 rfl (p_move rfl) ?_
  refine JH.p 3 rfl (p_indexAddr el_24 rfl rfl (by omega) (by omega) rfl) ?_
  refine JH.q 4 rfl (q_load1 ty_2.h rfl (Mem.row (i := 0) rfl (ints_getI (i := player) (by omega)))) ?_
  refine JH.p 5 rfl (p_fieldAddr fld_129_0.h rfl) ?_
  refine JH.q 6 rfl (q_load1 ty_24.h rfl (Mem.box (i := 3) rfl rfl)) ?_
  refine JH.p 7 rfl (p_move rfl) ?_
  refine JH.p 8 rfl (p_indexAddr el_24 rfl rfl (by omega) (by omega) rfl) ?_
  refine JH.q 9 rfl (q_load1 ty_2.h rfl (Mem.row (i := 1) rfl (ints_getI (i := M.nth (M.captured r s player) k) (by omega)))) ?_
  refine JH.p 10 rfl (p_add rfl rfl (IntWalk.i64_in _ (by omega))) ?_
  refine JH.p 11 rfl (p_indexAddr el_24 rfl rfl (by omega) (by omega) rfl) ?_
  refine y1 12 ?_
  refine JHo.s rfl (e_storeRow (i := 0) (xs' := ints_ (M.setI ss player ((M.getI ss player) + (M.getI ps (M.nth (M.captured r s player) k))))) ty_2.h rfl rfl rfl rfl rfl rfl (ints_lt (i := player.toNat) (by omega)) (ints_setL (i := player.toNat) (by omega))) (.inr rfl) ?_
  rintro _ _ _ ⟨rfl, rfl⟩ _
  refine znh ?_
  refine yd ?_
  refine Js.region <| Qf fh rfl <| Q0 3 rfl rfl rfl <| Qm rfl <| Qq (p_indexAddr el_24 rfl rfl (by omega) (by omega) rfl) ?_
  refine JL.s (e_storeRow (i := 1) (xs' := ints_ (M.setI ps (M.nth (M.captured r s player) k) 0)) ty_2.h rfl rfl rfl rfl rfl rfl (ints_lt (i := (M.nth (M.captured r s player) k).toNat) (by omega)) (ints_setL (i := (M.nth (M.captured r s player) k).toNat) (by omega))) ?_
  rintro _ _ _ ⟨rfl, rfl⟩ _
  refine znl ?_
  refine JL.nil <| Js.blockEnd <| Js.region <| Qp rfl rfl <| Qm rfl <| JL.nil ?_
  exact zag ⟨k + 1, M.setI ps (M.nth (M.captured r s player) k) 0, M.setI ss player ((M.getI ss player) + (M.getI ps (M.nth (M.captured r s player) k))), rfl, rfl, by rw [M.drop_nth hk2, M.takeL] at hS; exact hS, zt, by exact hG.takeStep hx.1 hx.2 (by omega) (by omega), rfl⟩ x14
 rw [List.drop_eq_nil_of_le (by omega), M.take_eq r5 (by omega) (by omega)] at hS
 injection hS with hT1 hT2
 refine zx ?_
 have hq0 : ps = (M.take r s player).pits := by first | exact hT1 | exact hT2 | rfl
 have hq1 : ss = (M.take r s player).stores := by first | exact hT1 | exact hT2 | rfl
 have hq2 : s.last = (M.take r s player).last := by first | exact hT1 | exact hT2 | rfl
 have hq3 : s.laps = (M.take r s player).laps := by first | exact hT1 | exact hT2 | rfl
 refine zS <| Q9 3 rfl rfl ?_
 refine zw 2 rfl rfl rfl ?_
 refine JL.nil ?_
 exact zro (x8.trans x14)

set_option maxHeartbeats 1000000 in
theorem c_impl_Rules_mustFeed (r : M.Rul) {v_r : Value} (p : M.Pos) {v_p : Value} {w : World} (h_r : (Ty.agg (cRules r)).ok w v_r) (h_p : (Ty.agg (cPosition p)).ok w v_p) (r0 : M.okP r p = true := by exact om_) : RetV Try.prog 151 [v_r, v_p] w (.bool (M.mustFeed r p)) := by
 obtain ⟨g1, g2, g3, g4, g5, g6, g7⟩ := M.okP_bd r0
 revert v_r; apply opn
 revert v_p; apply opn
 intro A1 c1 h1 bl1 bh1 A2 c2 h2 bl2 bh2
 refine enter @Try.func151 @Try.ntmps151 rfl rfl ?_
 refine zent ?_
 refine zS <| zb rfl fun b3 => zb rfl fun b4 => Qa rfl <| zN <| Qf fh rfl <| Q0 1 rfl rfl rfl <| Qm rfl <| zgq (Gd.t1 rfl rfl rfl) (fun hc => L9 1 rfl rfl) <| zg (Gd.t1 rfl rfl rfl) (fun hc => p_fieldAddr fld_33_0.h rfl) <| zgq (Gd.t1 rfl rfl rfl) (fun hc => q_load1 ty_24.h (gh hc rfl) (Mem.box (i := 0) rfl rfl)) <| zg (Gd.t1 rfl rfl rfl) (fun hc => p_fieldAddr fld_33_2.h rfl) <| zgq (Gd.t1 rfl rfl rfl) (fun hc => q_load1 ty_2.h (gh hc rfl) (Mem.box (i := 0) rfl rfl)) <| zg (Gd.t1 rfl rfl rfl) (fun hc => p_sub rfl (gh hc rfl) (IntWalk.i64_in _ (by omega))) ?_
 refine zgv (Gd.t1 rfl rfl rfl) (fun hc => (opds_3 (gh hc rfl) (gh hc rfl) (gh hc rfl))) (fun hc => (fun w hw => c_impl_Rules_side r p.pits (1 - p.player) (ok_ hw) (ok_ hw) (r4 := g5))) ?_
 refine zg (Gd.t1 rfl rfl rfl) (fun hc => p_eql (gh hc rfl) rfl) <| Qq (p_pickAnd rfl rfl rfl) <| Qa rfl <| JL.nil ?_
 refine zR (Up.refl _ _) ?_
 simp [outV, M.mustFeed]

set_option maxHeartbeats 1000000 in
theorem c_impl_Rules_done (r : M.Rul) {v_r : Value} (p : M.Pos) {v_p : Value} (move : Int) {w : World} (h_r : (Ty.agg (cRules r)).ok w v_r) (h_p : (Ty.agg (cPosition p)).ok w v_p) (r0 : p.pits.length ≤ 4194304 := by exact om_) (r1 : p.stores.length ≤ 4194304 := by exact om_) : Ret Try.prog 134 [v_r, v_p, .int .i64 move] w (Ty.tup [Ty.agg (cSown ((M.done r p move).1)), Ty.int ((M.done r p move).2)]) := by
 revert v_r; apply opn
 revert v_p; apply opn
 intro A1 c1 h1 bl1 bh1 A2 c2 h2 bl2 bh2
 refine enter @Try.func134 @Try.ntmps134 rfl rfl ?_
 refine zent ?_
 refine zS <| zb rfl fun b3 => zb rfl fun b4 => za zeh fun b5 => Qa rfl <| zN <| Q9 2 rfl rfl ?_
 refine Q9 1 rfl rfl ?_
 refine Qm rfl <| zp rfl (fun w hw => c_impl_sowMove r p move (ok_ hw) (ok_ hw)) ?_
 intro u6 x6 v7 h7
 refine Qm rfl <| Qx rfl rfl <| Qx rfl rfl <| Qa rfl <| Qa rfl <| zJ <| zS <| Qm rfl <| Qd rfl rfl <| JL.nil ?_
 refine zi (fun h8 h8' => ?_) fun h8 h8' => ?_
 ·
  have hz : ¬ (M.sowMove r p move).1 = 0 := by simpa using h8
  have hD : M.done r p move = (M.Sw.zero, (M.sowMove r p move).1) := by unfold M.done; rw [if_pos hz]
  have hq0 : [] = ((M.done r p move).1).pits := by first | (rw [hD]; done) | (rw [hD]; rfl)
  have hq1 : [] = ((M.done r p move).1).stores := by first | (rw [hD]; done) | (rw [hD]; rfl)
  have hq2 : 0 = ((M.done r p move).1).last := by first | (rw [hD]; done) | (rw [hD]; rfl)
  have hq3 : 0 = ((M.done r p move).1).laps := by first | (rw [hD]; done) | (rw [hD]; rfl)
  have hq4 : ((M.sowMove r p move).1) = (M.done r p move).2 := by first | (rw [hD]; done) | (rw [hD]; rfl)
  refine zS <| Qb ?_
  refine Qm rfl <| zw 0 rfl rfl rfl ?_
  refine Qa rfl <| JL.nil ?_
  exact zro x6
 have hz : (M.sowMove r p move).1 = 0 := by simpa using h8
 obtain ⟨hok, m0, m1, hG, q0, q1, hsum⟩ := M.sowMove_ok hz
 obtain ⟨g1, g2, g3, g4, g5, g6, g7⟩ := M.okP_bd hok
 have hG2 := (M.take_keeps g7 hG q1).1
 have hao := M.Good.ok hG2
 have hl2 := hG2.lp
 have ⟨g8, g9⟩ : p.pits.length ≤ 4194304 ∧ p.stores.length ≤ 4194304 := by omega
 refine Js.skip <| Js.seq ?_
 refine zk [3, 4, 6] (fun F U l os u => ∃ (b9 o9 b11 : Nat) (A10_0 : Option Addr) (c10_0 : Nat) (A10_1 : Option Addr) (c10_1 : Nat) (f10 : List Nat) (A9_10 : Option Addr) (c9_10 : Nat) (A9_11 : Option Addr) (c9_11 : Nat) (A9_14 : Option Addr) (c9_14 : Nat), l = F [(8, .pointer (some ⟨b9, o9, none⟩)), (10, .pointer (some ⟨b11, 0, none⟩))] ∧ os = [boxO b11 [.slice A10_0 (((M.take r ((M.sowMove r p move).2.1) p.player).pits).length) c10_0, .slice A10_1 (((M.take r ((M.sowMove r p move).2.1) p.player).stores).length) c10_1, .int .i64 ((M.take r ((M.sowMove r p move).2.1) p.player).last), .int .i64 ((M.take r ((M.sowMove r p move).2.1) p.player).laps)] 129, ownC (cSown (M.take r ((M.sowMove r p move).2.1) p.player)) [.slice A10_0 (((M.take r ((M.sowMove r p move).2.1) p.player).pits).length) c10_0, .slice A10_1 (((M.take r ((M.sowMove r p move).2.1) p.player).stores).length) c10_1, .int .i64 ((M.take r ((M.sowMove r p move).2.1) p.player).last), .int .i64 ((M.take r ((M.sowMove r p move).2.1) p.player).laps)] f10] ++ U [] ∧ (RowAt u b9 o9 [.int .i64 r.pits, .int .i64 r.seeds, .bool r.stores, .bool r.skip, .bool r.relay, .bool r.feed, .bool r.again, .int .i64 r.capture, .int .i64 r.slam, .int .i64 p.player, .slice A9_10 ((((M.sowMove r p move).2.1).pits).length) c9_10, .slice A9_11 ((((M.sowMove r p move).2.1).stores).length) c9_11, .int .i64 (((M.sowMove r p move).2.1).last), .int .i64 (((M.sowMove r p move).2.1).laps), .slice A9_14 (((M.sowMove r p move).2.2).length) c9_14]) ∧ ((((M.sowMove r p move).2.1).pits).length ≤ c9_10) ∧ (c9_10 ≤ 9223372036854775807) ∧ ((Ty.ints 2 (((M.sowMove r p move).2.1).pits)).ok u (.slice A9_10 ((((M.sowMove r p move).2.1).pits).length) c9_10)) ∧ ((((M.sowMove r p move).2.1).stores).length ≤ c9_11) ∧ (c9_11 ≤ 9223372036854775807) ∧ ((Ty.ints 2 (((M.sowMove r p move).2.1).stores)).ok u (.slice A9_11 ((((M.sowMove r p move).2.1).stores).length) c9_11)) ∧ (((M.sowMove r p move).2.2).length ≤ c9_14) ∧ (c9_14 ≤ 9223372036854775807) ∧ ((Ty.ints 2 ((M.sowMove r p move).2.2)).ok u (.slice A9_14 (((M.sowMove r p move).2.2).length) c9_14)) ∧ (((M.take r ((M.sowMove r p move).2.1) p.player).pits).length ≤ c10_0) ∧ (c10_0 ≤ 9223372036854775807) ∧ (((M.take r ((M.sowMove r p move).2.1) p.player).stores).length ≤ c10_1) ∧ (c10_1 ≤ 9223372036854775807)) ?_ ?_
 ·
  refine zdr [9] ?_
  refine JH.q 0 rfl (L9 2 rfl rfl) ?_
  refine JH.p 1 rfl (p_move rfl) ?_
  obtain ⟨b15, o15, A15_10, c15_10, A15_11, c15_11, A15_14, c15_14, rfl, hr15, h15_10, h15_11, h15_14, bl15_10, bh15_10, bl15_11, bh15_11, bl15_14, bh15_14⟩ := ref_sowing (box_ref (opt_yes h7 (by exact decide_eq_true hz)))
  refine JH.p 2 rfl (p_nilCheck rfl) ?_
  refine JH.p 3 rfl (p_fieldAddr fld_160_2.h rfl) ?_
  refine JH.w 4 rfl (fun os' u' hv => LS 10 (hr15.vis hv) rfl) ?_
  refine JH.p 5 rfl (p_fieldAddr fld_33_2.h rfl) ?_
  refine JH.q 6 rfl (q_load1 ty_2.h rfl (Mem.box (i := 1) rfl rfl)) ?_
  refine y2 7 8 ?_ ?_
  ·
   refine ycs rfl rfl (fun w hw => c_impl_Rules_takeCaptures r ((M.sowMove r p move).2.1) p.player (ok_ hw) (ok_ hw) (r3 := hG)) ?_
   intro A16_0 c16_0 bl16_0 bh16_0 A16_1 c16_1 bl16_1 bh16_1 f16
   refine y1 8 ?_
   refine ya rfl fun b17 => ?_
   refine y1 9 ?_
   refine yst rfl rfl rfl ?_
   refine yd ?_
   exact zm ⟨_, _, _, _, _, _, _, _, _, _, _, _, _, _, rfl, rfl, hr15, zt, zt, h15_10, zt, zt, h15_11, zt, zt, h15_14, zt, zt, zt, zt⟩ (Up.refl _ _)
  refine ya rfl fun b18 => ?_
  refine y1 7 ?_
  refine ycs rfl rfl (fun w hw => c_impl_Rules_takeCaptures r ((M.sowMove r p move).2.1) p.player (ok_ hw) (ok_ hw) (r3 := hG)) ?_
  intro A19_0 c19_0 bl19_0 bh19_0 A19_1 c19_1 bl19_1 bh19_1 f19
  refine y1 9 ?_
  refine yst rfl rfl rfl ?_
  refine yd ?_
  refine zh [1, 0, 0, 0, 0] ?_
  exact zm ⟨_, _, _, _, _, _, _, _, _, _, _, _, _, _, rfl, rfl, hr15, zt, zt, h15_10, zt, zt, h15_11, zt, zt, h15_14, zt, zt, zt, zt⟩ (Up.refl _ _)
 rintro _ _ u14 ⟨b9, o9, b11, A10_0, c10_0, A10_1, c10_1, f10, A9_10, c9_10, A9_11, c9_11, A9_14, c9_14, rfl, rfl, f14_0, f14_1, f14_2, f14_3, f14_4, f14_5, f14_6, f14_7, f14_8, f14_9, f14_10, f14_11, f14_12, f14_13⟩ x14
 refine zn ?_
 refine Js.seq <| Js.seq ?_
 refine zdr [] ?_
 refine JH.p 0 rfl (p_fieldAddr fld_32_8.h rfl) ?_
 refine JH.q 1 rfl (q_load1 ty_2.h rfl (Mem.box (i := 4) rfl rfl)) ?_
 refine JH.p 2 rfl (p_eql rfl rfl) ?_
 refine JH.p 3 rfl (p_move rfl) ?_
 refine JH.qg 4 rfl (Gd.t1 rfl rfl rfl) (fun hc => L9 4 rfl rfl) ?_
 refine JH.pg 5 rfl (Gd.t1 rfl rfl rfl) (fun hc => p_move rfl) ?_
 refine JH.pg 6 rfl (Gd.t1 rfl rfl rfl) (fun hc => p_nilCheck (gvt rfl hc)) ?_
 refine JH.pg 7 rfl (Gd.t1 rfl rfl rfl) (fun hc => p_fieldAddr fld_160_2.h (gvt rfl hc)) ?_
 refine JH.wg 8 rfl (Gd.t1 rfl rfl rfl) (fun hc os' u' hv => LS 10 (f14_0.vis hv) (gvt rfl hc)) ?_
 refine JH.pg 9 rfl (Gd.t1 rfl rfl rfl) (fun hc => p_fieldAddr fld_33_2.h rfl) ?_
 refine JH.qg 10 rfl (Gd.t1 rfl rfl rfl) (fun hc => q_load1 ty_2.h (gvt rfl hc) (Mem.box (i := 3) rfl rfl)) ?_
 refine y1 11 ?_
 refine JHo.ge rfl (Gd.t1 rfl rfl rfl) (fun hc => e_callV fn_150.h (opds_3 (gvt rfl hc) (gvt rfl hc) (gvt rfl hc)) (fun w hw => c_impl_Rules_slams r ((M.sowMove r p move).2.1) p.player (ok_ hw) (ok_ hw) (r0 := (by have hc9 := hc; (try simp only [decide_eq_true_eq] at hc9); omega)) (r1 := (by have hc9 := hc; (try simp only [decide_eq_true_eq] at hc9); omega)) (r2 := (by have hc9 := hc; (try simp only [decide_eq_true_eq] at hc9); omega)) (r3 := hG) (r4 := (by have hc9 := hc; (try simp only [decide_eq_true_eq] at hc9); omega)) (r5 := (by have hc9 := hc; (try simp only [decide_eq_true_eq] at hc9); omega)))) ?_
 refine JH.p 12 rfl (p_pickAnd rfl rfl rfl) ?_
 refine JH.p 13 rfl (p_move rfl) ?_
 refine JH.qg 14 rfl (Gd.f1 rfl rfl rfl) (fun hc => L9 4 rfl rfl) ?_
 refine JH.qg 15 rfl (Gd.f1 rfl rfl rfl) (fun hc => L9 3 rfl rfl) ?_
 refine y1 16 ?_
 refine JHo.ge rfl (Gd.f1 rfl rfl rfl) (fun hc => e_callV fn_151.h (opds_2 (gvt rfl hc) (gvt rfl hc)) (fun w hw => c_impl_Rules_mustFeed r p (ok_ hw) (ok_ hw) (r0 := hok))) ?_
 refine JH.pg 17 rfl (Gd.f1 rfl rfl rfl) (fun hc => p_move (gvt rfl hc)) ?_
 refine JH.qg 18 rfl (Gd.t2 rfl rfl rfl) (fun hc => L9 4 rfl rfl) ?_
 refine JH.pg 19 rfl (Gd.t2 rfl rfl rfl) (fun hc => p_fieldAddr fld_129_0.h rfl) ?_
 refine JH.qg 20 rfl (Gd.t2 rfl rfl rfl) (fun hc => q_load1 ty_24.h (gvt rfl hc) (Mem.box (i := 0) rfl rfl)) ?_
 refine JH.pg 21 rfl (Gd.t2 rfl rfl rfl) (fun hc => p_fieldAddr fld_33_2.h rfl) ?_
 refine JH.qg 22 rfl (Gd.t2 rfl rfl rfl) (fun hc => q_load1 ty_2.h (gvt rfl hc) (Mem.box (i := 3) rfl rfl)) ?_
 refine JH.pg 23 rfl (Gd.t2 rfl rfl rfl) (fun hc => p_sub rfl (gvt rfl hc) (IntWalk.i64_in _ (by have hc9 := hc; (try simp only [Bool.and_eq_true, Bool.not_eq_true', Bool.and_eq_false_iff, decide_eq_false_iff_not] at hc9); omega))) ?_
 refine y1 24 ?_
 refine JHo.ge rfl (Gd.t2 rfl rfl rfl) (fun hc => e_callV fn_135.h (opds_3 (gvt rfl hc) (gvt rfl hc) (gvt rfl hc)) (fun w hw => c_impl_Rules_side r ((M.take r ((M.sowMove r p move).2.1) p.player).pits) (1 - p.player) (ok_ hw) (ok_ hw) (r0 := (by have hc9 := hc; (try simp only [Bool.and_eq_true, Bool.not_eq_true', Bool.and_eq_false_iff, decide_eq_false_iff_not] at hc9); omega)) (r1 := (by have hc9 := hc; (try simp only [Bool.and_eq_true, Bool.not_eq_true', Bool.and_eq_false_iff, decide_eq_false_iff_not] at hc9); omega)) (r2 := (by have hc9 := hc; (try simp only [Bool.and_eq_true, Bool.not_eq_true', Bool.and_eq_false_iff, decide_eq_false_iff_not] at hc9); omega)) (r3 := (by have hc9 := hc; (try simp only [Bool.and_eq_true, Bool.not_eq_true', Bool.and_eq_false_iff, decide_eq_false_iff_not] at hc9); omega)) (r4 := hao.1))) ?_
 refine JH.pg 25 rfl (Gd.t2 rfl rfl rfl) (fun hc => p_eql (gvt rfl hc) rfl) ?_
 refine JH.pg 26 rfl (Gd.f1 rfl rfl rfl) (fun hc => p_pickAnd (gvt rfl hc) (gvl rfl hc) rfl) ?_
 refine JH.p 27 rfl (p_pickOr rfl rfl rfl) ?_
 refine yd ?_
 refine zi (fun h20 h20' => ?_) fun h20 h20' => ?_
 ·
  have hD : M.done r p move = (M.Sw.zero, 9) := by unfold M.done; rw [if_neg (by simpa using hz), if_pos (by simpa using h20)]
  have hq0 : [] = ((M.done r p move).1).pits := by first | (rw [hD]; done) | (rw [hD]; rfl)
  have hq1 : [] = ((M.done r p move).1).stores := by first | (rw [hD]; done) | (rw [hD]; rfl)
  have hq2 : 0 = ((M.done r p move).1).last := by first | (rw [hD]; done) | (rw [hD]; rfl)
  have hq3 : 0 = ((M.done r p move).1).laps := by first | (rw [hD]; done) | (rw [hD]; rfl)
  have hq4 : 9 = (M.done r p move).2 := by first | (rw [hD]; done) | (rw [hD]; rfl)
  refine zS <| Qb ?_
  refine zw 2 rfl rfl rfl ?_
  refine Qa rfl <| JL.nil ?_
  exact zro (x6.trans x14)
 have hD : M.done r p move = (M.take r (M.sowMove r p move).2.1 p.player, 0) := by unfold M.done; rw [if_neg (by simpa using hz), if_neg (by simpa using h20)]
 have hq0 : (M.take r ((M.sowMove r p move).2.1) p.player) = (M.done r p move).1 := by first | (rw [hD]; done) | (rw [hD]; rfl)
 have hq1 : 0 = (M.done r p move).2 := by first | (rw [hD]; done) | (rw [hD]; rfl)
 refine Js.skip <| zS <| Q9 0 rfl rfl ?_
 refine zw 2 rfl rfl rfl ?_
 refine Qa rfl <| JL.nil ?_
 exact zro (x6.trans x14)

set_option maxHeartbeats 1000000 in
theorem c_impl_MoveFault (r : M.Rul) {v_r : Value} (p : M.Pos) {v_p : Value} (move : Int) {w : World} (h_r : (Ty.agg (cRules r)).ok w v_r) (h_p : (Ty.agg (cPosition p)).ok w v_p) (r0 : p.pits.length ≤ 4194304 := by exact om_) (r1 : p.stores.length ≤ 4194304 := by exact om_) : RetV Try.prog 123 [v_r, v_p, .int .i64 move] w (.int .i64 ((M.done r p move).2)) := by
 revert v_r; apply opn
 revert v_p; apply opn
 intro A1 c1 h1 bl1 bh1 A2 c2 h2 bl2 bh2
 refine enter @Try.func123 @Try.ntmps123 rfl rfl ?_
 refine zent ?_
 refine zS <| zb rfl fun b3 => zb rfl fun b4 => Qa rfl <| zN <| Q9 1 rfl rfl ?_
 refine Q9 0 rfl rfl ?_
 refine Qm rfl <| zp rfl (fun w hw => c_impl_Rules_done r p move (ok_ hw) (ok_ hw)) ?_
 intro u5 x5 A6 c6 h6 bl6 bh6 A7 c7 h7 bl7 bh7
 refine Qm rfl <| Qx rfl rfl <| Qx rfl rfl <| za zeh fun b8 => zw 0 rfl rfl rfl ?_
 refine Qa rfl <| zN <| Qm rfl <| Qa rfl <| JL.nil ?_
 exact zr x5

end Go.Proofs.Ytejnmechnhgmfaa

/- Walks: G3. -/
import Derived.Test.YtejnmechnhgmfaaGreatZhA2
import Derived.Test.YtejnmechnhgmfaaGreatZhA6
set_option linter.unusedSimpArgs false
set_option linter.unusedVariables false
set_option maxRecDepth 100000
attribute [local irreducible] Go.Proofs.YtejnmechnhgmfaaGreat.gv
namespace Go.Proofs.YtejnmechnhgmfaaGreat
open Go.RowKit

set_option maxHeartbeats 1000000 in
theorem c_impl_Rules_taken (r : M.Rul) {v_r : Value} (s : M.Sw) {v_s : Value} (player : Int) {w : World} (h_r : (Ty.agg (cRules r)).ok w v_r) (h_s : (Ty.agg (cSown s)).ok w v_s) (r0 : 2 ≤ r.pits := by exact om_) (r1 : r.pits ≤ 8 := by exact om_) (r2 : player = 0 ∨ player = 1 := by exact om_) (r3 : M.Good r s.pits s.stores 0 := by exact om_) (r4 : -1 ≤ s.last := by exact om_) (r5 : s.last < 2 * r.pits := by exact om_) : Ret Tryz.prog 145 [v_r, v_s, .int .i64 player] w (Ty.ints 2 (M.taken r s player)) := by
 have l1 := r3.lp
 have l2 := r3.ls
 have hv : 0 ≤ M.getI s.pits s.last := M.nn_nth r3.np _
 have hv9 := r3.pit s.last
 revert v_r; apply opn
 revert v_s; apply opn
 intro A1 c1 h1 bl1 bh1 A2 c2 h2 bl2 bh2
 refine enter @Tryz.func145 @Tryz.ntmps145 rfl rfl ?_
 refine zent ?_
 obtain ⟨b3, o3, rfl⟩ := ints_some h1 (by omega)
 refine zS <| zb rfl fun b4 => zb rfl fun b5 => Qa rfl <| zN <| zbs fun b6 => ?_
 refine Qa rfl <| zJ <| zS <| Qf fh rfl <| Q0 1 rfl rfl rfl <| Ql rfl rfl <| JL.nil ?_
 refine zi (fun h8 h8' => ?_) fun h8 h8' => ?_
 ·
  have hR : M.taken r s player = [] := by unfold M.taken; rw [if_pos (by simpa using h8)]
  have hq0 : [] = M.taken r s player := by rw [hR]
  refine zS <| Qm rfl <| Qa rfl <| JL.nil ?_
  exact zro (Up.refl _ _)
 have hl0 : ¬ s.last < 0 := by simpa using h8
 refine Js.skip <| zS <| Q9 2 rfl rfl ?_
 refine Qf fh rfl <| Q0 1 rfl rfl rfl <| zv rfl (fun w hw => c_impl_Rules_owner r s.last (ok_ hw)) <| Qm rfl <| Qe rfl rfl <| Qa rfl <| zJ <| zS <| Qf fh rfl <| Q0 2 rfl rfl rfl <| JL.nil <| Js.block <| zS <| Qe rfl rfl ?_
 refine Qa rfl <| JL.nil ?_
 refine zi (fun h9 h9' => ?_) fun h9 h9' => ?_
 ·
  have hcap : r.capture = 1 := by simpa using h9
  refine zS <| Qf fh rfl <| Q0 1 rfl rfl rfl <| Qa rfl <| JL.nil <| Js.block ?_
  refine zl [2, 3, 4] (fun F U l os u m => ∃ (k : Int) (out : List Int) (A10_7 : Option Addr) (c10_7 : Nat) (g10_7 : List Nat), l = F [(7, .slice A10_7 out.length c10_7), (9, .int .i64 k)] ∧ os = U [some (rowO 2 1 (.slice A10_7 out.length c10_7) out.length (ints_ out) g10_7)] ∧ (out ++ M.ttI r player s.pits k = M.ttI r player s.pits s.last) ∧ (-1 ≤ k) ∧ (k < 2 * r.pits) ∧ ((out.length : Int) + k = s.last) ∧ (out.length ≤ c10_7) ∧ (c10_7 ≤ 9223372036854775807) ∧ m = (k + 1).toNat) ⟨s.last, [], _, _, _, rfl, rfl, by rfl, zt, zt, by simp, zu, zu, rfl⟩ ?_
  rintro _ _ u10 _ ⟨k, out, A10_7, c10_7, g10_7, rfl, rfl, hS, k0, k1, hl, f10_4, f10_5, rfl⟩ x10
  refine zn ?_
  refine Js.seq <| zS <| Qm rfl <| Qh rfl rfl <| Qm rfl <| zgq (Gd.t1 rfl rfl rfl) (fun hc => L9 2 rfl rfl) <| zg (Gd.t1 rfl rfl rfl) (fun hc => p_move rfl) <| zgv (Gd.t1 rfl rfl rfl) (fun hc => (opds_2 (gh hc rfl) (gh hc rfl))) (fun hc => (fun w hw => c_impl_Rules_owner r k (ok_ hw) (r0 := (by have hc9 := hc; (try simp only [decide_eq_true_eq] at hc9); omega)) (r1 := (by have hc9 := hc; (try simp only [decide_eq_true_eq] at hc9); omega)) (r2 := (by have hc9 := hc; (try simp only [decide_eq_true_eq] at hc9); omega)) (r3 := (by have hc9 := hc; (try simp only [decide_eq_true_eq] at hc9); omega)))) ?_
  refine zg (Gd.t1 rfl rfl rfl) (fun hc => p_move rfl) <| zg (Gd.t1 rfl rfl rfl) (fun hc => p_neq (gh hc rfl) (gh hc rfl)) <| Qq (p_pickAnd rfl rfl rfl) <| Qm rfl <| zg (Gd.t1 rfl rfl rfl) (fun hc => p_fieldAddr fld_136_0.h rfl) <| zgq (Gd.t1 rfl rfl rfl) (fun hc => q_load1 ty_26.h (gh hc rfl) (Mem.box (i := 1) rfl rfl)) <| zg (Gd.t1 rfl rfl rfl) (fun hc => p_move rfl) <| zg (Gd.t1 rfl rfl rfl) (fun hc => p_indexAddr el_26 (gh hc rfl) (gh hc rfl) (by have hc9 := hc; (try simp only [Bool.and_eq_true, decide_eq_true_eq, Bool.not_eq_true', decide_eq_false_iff_not] at hc9); omega) (by have hc9 := hc; (try simp only [Bool.and_eq_true, decide_eq_true_eq, Bool.not_eq_true', decide_eq_false_iff_not] at hc9); omega) rfl) ?_
  refine zgq (Gd.t1 rfl rfl rfl) (fun hc => q_load1 ty_2.h (gh hc rfl) (Mem.pub (ints_cellI (i := k) (Ty.mono _ h1 x10.vis) (by have hc9 := hc; (try simp only [Bool.and_eq_true, decide_eq_true_eq, Bool.not_eq_true', decide_eq_false_iff_not] at hc9); omega)))) ?_
  refine zgv (Gd.t1 rfl rfl rfl) (fun hc => (opds_3 (gh hc rfl) rfl rfl)) (fun hc => (fun w hw => c_impl_between (M.getI s.pits k) 2 3)) ?_
  refine Qq (p_pickAnd rfl rfl rfl) <| JL.nil ?_
  refine zi (fun h12 h12' => ?_) fun h12 h12' => ?_
  ·
   obtain ⟨⟨c0, c1⟩, c2⟩ : (0 ≤ k ∧ ¬ M.owner r k = player) ∧ M.betw (M.getI s.pits k) 2 3 = true := by simpa using h12
   have hS2 : (out ++ [k]) ++ M.ttI r player s.pits (k - 1) = M.ttI r player s.pits s.last := by rw [← hS, M.ttI_yes c0 c1 c2]; simp
   refine Js.skip <| Js.seq <| Js.block <| Js.region <| Qm rfl <| Qm rfl <| zbs fun b13 => ?_
   refine JL.e (e_append (i := 1) (n' := (out ++ [k]).length) (vs' := ints_ (out ++ [k])) el_26 rfl rfl rfl rfl (src_row (i := 0) und_26 rfl rfl) (by omega) (by omega) (by first | omega | (simp only [List.length_append, List.length_cons, List.length_nil] <;> omega)) (by simp [ints_])) ?_
   rintro v15 _ _ ⟨⟨g16, rfl⟩, rfl⟩ _
   refine JL.fact (row_form' (i := 1) rfl) (fun hf17 => ?_)
   obtain ⟨A17, c17, rfl, bl17, bh17⟩ := hf17
   refine znl ?_
   refine Qa rfl <| JL.nil <| Js.blockEnd <| Js.region <| Qm rfl <| Qs rfl rfl <| Qa rfl <| JL.nil ?_
   refine zd [1, 1, 1] rfl fun u18 x18 => ?_
   exact zag ⟨k - 1, out ++ [k], _, _, _, rfl, rfl, by exact hS2, zt, zt, by simp only [List.length_append, List.length_cons, List.length_nil]; omega, zu, zu, rfl⟩ (x10.trans x18)
  have hF : M.ttI r player s.pits k = [] := by rcases h12' with (h | h) | h; exact M.ttI_neg h; exact M.ttI_no (.inl h); exact M.ttI_no (.inr h)
  rw [hF, List.append_nil] at hS
  have hR : M.taken r s player = out := by unfold M.taken; rw [if_neg hl0, if_pos hcap, hS]; simp [M.ttI, hl0]
  refine zx ?_
  have hq0 : out = M.taken r s player := by rw [hR]
  refine Js.blockEnd <| zS <| Qm rfl <| Qa rfl <| JL.nil ?_
  exact zro x10
 have hcap1 : ¬ r.capture = 1 := by simpa using h9
 refine zS <| Qe rfl rfl <| Qa rfl <| JL.nil ?_
 refine zi (fun h19 h19' => ?_) fun h19 h19' => ?_
 ·
  have hcap : r.capture = 2 := by simpa using h19
  have ho : M.opp r s.last = 2 * r.pits - 1 - s.last := rfl
  have ho : M.opp r s.last = 2 * r.pits - 1 - s.last := rfl
  refine zS <| Q9 2 rfl rfl ?_
  refine Qf fh rfl <| Q0 1 rfl rfl rfl <| zv rfl (fun w hw => c_impl_Rules_opposite r s.last (ok_ hw)) <| Qa rfl <| zN <| Qm rfl <| Qm rfl <| zg (Gd.t1 rfl rfl rfl) (fun hc => p_fieldAddr fld_136_0.h rfl) <| zgq (Gd.t1 rfl rfl rfl) (fun hc => q_load1 ty_26.h (gh hc rfl) (Mem.box (i := 1) rfl rfl)) <| zg (Gd.t1 rfl rfl rfl) (fun hc => p_fieldAddr fld_136_2.h rfl) <| zgq (Gd.t1 rfl rfl rfl) (fun hc => q_load1 ty_2.h (gh hc rfl) (Mem.box (i := 1) rfl rfl)) <| zg (Gd.t1 rfl rfl rfl) (fun hc => p_indexAddr el_26 (gh hc rfl) (gh hc rfl) (by have hc9 := hc; (try simp only [decide_eq_true_eq] at hc9); omega) (by have hc9 := hc; (try simp only [decide_eq_true_eq] at hc9); omega) rfl) ?_
  refine zgq (Gd.t1 rfl rfl rfl) (fun hc => q_load1 ty_2.h (gh hc rfl) (Mem.pub (ints_cellI (i := s.last) h1 (by have hc9 := hc; (try simp only [decide_eq_true_eq] at hc9); omega)))) ?_
  refine zg (Gd.t1 rfl rfl rfl) (fun hc => p_eql (gh hc rfl) rfl) <| Qq (p_pickAnd rfl rfl rfl) <| Qm rfl <| zg (Gd.t1 rfl rfl rfl) (fun hc => p_fieldAddr fld_136_0.h rfl) <| zgq (Gd.t1 rfl rfl rfl) (fun hc => q_load1 ty_26.h (gh hc rfl) (Mem.box (i := 1) rfl rfl)) <| zg (Gd.t1 rfl rfl rfl) (fun hc => p_move rfl) <| zg (Gd.t1 rfl rfl rfl) (fun hc => p_indexAddr el_26 (gh hc rfl) (gh hc rfl) (by have hc9 := hc; (try simp only [Bool.and_eq_true, decide_eq_true_eq] at hc9); omega) (by have hc9 := hc; (try simp only [Bool.and_eq_true, decide_eq_true_eq] at hc9); omega) rfl) ?_
  refine zgq (Gd.t1 rfl rfl rfl) (fun hc => q_load1 ty_2.h (gh hc rfl) (Mem.pub (ints_cellI (i := M.opp r s.last) h1 (by have hc9 := hc; (try simp only [Bool.and_eq_true, decide_eq_true_eq] at hc9); omega)))) ?_
  refine zg (Gd.t1 rfl rfl rfl) (fun hc => p_gtr (gh hc rfl) rfl) <| Qq (p_pickAnd rfl rfl rfl) <| JL.nil ?_
  refine zi (fun h22 h22' => ?_) fun h22 h22' => ?_
  ·
   have hR : M.taken r s player = [s.last, M.opp r s.last] := by unfold M.taken; rw [if_neg hl0, if_neg hcap1, if_pos hcap, if_pos (by simpa [and_assoc] using h22)]
   refine Js.region <| Qm rfl <| Qf fh rfl <| Q0 1 rfl rfl rfl <| Qm rfl <| zbs fun b23 => ?_
   refine JL.e (e_append (i := 1) (n' := 2) (vs' := ints_ [s.last, (M.opp r s.last)]) el_26 rfl rfl rfl rfl (src_row (i := 0) und_26 rfl rfl) (by omega) (by omega) (by first | omega | (simp only [List.length_append, List.length_cons, List.length_nil] <;> omega)) (by simp [ints_])) ?_
   rintro v25 _ _ ⟨⟨g26, rfl⟩, rfl⟩ _
   refine JL.fact (row_form' (i := 1) rfl) (fun hf27 => ?_)
   obtain ⟨A27, c27, rfl, bl27, bh27⟩ := hf27
   refine znl ?_
   have hq0 : [s.last, (M.opp r s.last)] = M.taken r s player := by rw [hR]
   refine Qa rfl <| JL.nil <| Js.blockEnd <| zS <| Qm rfl <| Qa rfl <| JL.nil ?_
   exact zro (Up.refl _ _)
  have hR : M.taken r s player = [] := by unfold M.taken; rw [if_neg hl0, if_neg hcap1, if_pos hcap, if_neg (by simpa [and_assoc] using h22)]
  have hq0 : [] = M.taken r s player := by rw [hR]
  refine Js.skip <| Js.blockEnd <| zS <| Qm rfl <| Qa rfl <| JL.nil ?_
  exact zro (Up.refl _ _)
 have hcap2 : ¬ r.capture = 2 := by simpa using h19
 refine zS <| Qe rfl rfl <| Qa rfl <| JL.nil ?_
 refine zi (fun h28 h28' => ?_) fun h28 h28' => ?_
 ·
  have hcap : r.capture = 3 := by simpa using h28
  refine zS <| Qm rfl <| Qt rfl <| Qm rfl <| zg (Gd.t1 rfl rfl rfl) (fun hc => p_fieldAddr fld_136_0.h rfl) <| zgq (Gd.t1 rfl rfl rfl) (fun hc => q_load1 ty_26.h (gh hc rfl) (Mem.box (i := 1) rfl rfl)) <| zg (Gd.t1 rfl rfl rfl) (fun hc => p_fieldAddr fld_136_2.h rfl) <| zgq (Gd.t1 rfl rfl rfl) (fun hc => q_load1 ty_2.h (gh hc rfl) (Mem.box (i := 1) rfl rfl)) <| zg (Gd.t1 rfl rfl rfl) (fun hc => p_indexAddr el_26 (gh hc rfl) (gh hc rfl) (by have hc9 := hc; (try simp only [Bool.not_eq_true', decide_eq_false_iff_not] at hc9); omega) (by have hc9 := hc; (try simp only [Bool.not_eq_true', decide_eq_false_iff_not] at hc9); omega) rfl) ?_
  refine zgq (Gd.t1 rfl rfl rfl) (fun hc => q_load1 ty_2.h (gh hc rfl) (Mem.pub (ints_cellI (i := s.last) h1 (by have hc9 := hc; (try simp only [Bool.not_eq_true', decide_eq_false_iff_not] at hc9); omega)))) ?_
  refine zg (Gd.t1 rfl rfl rfl) (fun hc => p_rem (gh hc rfl) rfl (by have hc9 := hc; (try simp only [Bool.not_eq_true', decide_eq_false_iff_not] at hc9); omega) (Int.tmod_eq_emod_of_nonneg (by have hc9 := hc; (try simp only [Bool.not_eq_true', decide_eq_false_iff_not] at hc9); omega))) ?_
  refine zg (Gd.t1 rfl rfl rfl) (fun hc => p_eql (gh hc rfl) rfl) <| Qq (p_pickAnd rfl rfl rfl) <| JL.nil ?_
  refine zi (fun h30 h30' => ?_) fun h30 h30' => ?_
  ·
   have hR : M.taken r s player = [s.last] := by unfold M.taken; rw [if_neg hl0, if_neg hcap1, if_neg hcap2, if_pos hcap, if_pos (by simpa using h30)]
   refine Js.region <| Qm rfl <| Qf fh rfl <| Q0 1 rfl rfl rfl <| zbs fun b31 => ?_
   refine JL.e (e_append (i := 1) (n' := 1) (vs' := ints_ [s.last]) el_26 rfl rfl rfl rfl (src_row (i := 0) und_26 rfl rfl) (by omega) (by omega) (by first | omega | (simp only [List.length_append, List.length_cons, List.length_nil] <;> omega)) (by simp [ints_])) ?_
   rintro v33 _ _ ⟨⟨g34, rfl⟩, rfl⟩ _
   refine JL.fact (row_form' (i := 1) rfl) (fun hf35 => ?_)
   obtain ⟨A35, c35, rfl, bl35, bh35⟩ := hf35
   refine znl ?_
   have hq0 : [s.last] = M.taken r s player := by rw [hR]
   refine Qa rfl <| JL.nil <| Js.blockEnd <| zS <| Qm rfl <| Qa rfl <| JL.nil ?_
   exact zro (Up.refl _ _)
  have hR : M.taken r s player = [] := by unfold M.taken; rw [if_neg hl0, if_neg hcap1, if_neg hcap2, if_pos hcap, if_neg (by simpa using h30)]
  have hq0 : [] = M.taken r s player := by rw [hR]
  refine Js.skip <| Js.blockEnd <| zS <| Qm rfl <| Qa rfl <| JL.nil ?_
  exact zro (Up.refl _ _)
 have hcap3 : ¬ r.capture = 3 := by simpa using h28
 have hR : M.taken r s player = [] := by unfold M.taken; rw [if_neg hl0, if_neg hcap1, if_neg hcap2, if_neg hcap3]
 have hq0 : [] = M.taken r s player := by rw [hR]
 refine Js.skip <| Js.blockEnd <| zS <| Qm rfl <| Qa rfl <| JL.nil ?_
 exact zro (Up.refl _ _)

set_option maxHeartbeats 1000000 in
theorem c_impl_Rules_slams (r : M.Rul) {v_r : Value} (s : M.Sw) {v_s : Value} (player : Int) {w : World} (h_r : (Ty.agg (cRules r)).ok w v_r) (h_s : (Ty.agg (cSown s)).ok w v_s) (r0 : 2 ≤ r.pits := by exact om_) (r1 : r.pits ≤ 8 := by exact om_) (r2 : player = 0 ∨ player = 1 := by exact om_) (r3 : M.Good r s.pits s.stores 0 := by exact om_) (r4 : -1 ≤ s.last := by exact om_) (r5 : s.last < 2 * r.pits := by exact om_) : RetV Tryz.prog 136 [v_r, v_s, .int .i64 player] w (.bool (M.slams r s player)) := by
 have l1 := r3.lp
 have l2 := r3.ls
 have hao := M.Good.ok r3
 have hlen := M.taken_len (s := s) (player := player) r5 r1
 revert v_r; apply opn
 revert v_s; apply opn
 intro A1 c1 h1 bl1 bh1 A2 c2 h2 bl2 bh2
 refine enter @Tryz.func136 @Tryz.ntmps136 rfl rfl ?_
 refine zent ?_
 obtain ⟨b3, o3, rfl⟩ := ints_some h1 (by omega)
 refine zS <| zb rfl fun b4 => zb rfl fun b5 => Qa rfl <| zN <| Q9 1 rfl rfl ?_
 refine Qf fh rfl <| Q0 0 rfl rfl rfl <| Qm rfl <| Qs rfl rfl <| zv rfl (fun w hw => c_impl_Rules_side r s.pits (1 - player) (ok_ hw) (ok_ hw) (r4 := hao.1)) <| Qa rfl <| Qa rfl <| zJ <| zS <| Q9 1 rfl rfl ?_
 refine Q9 0 rfl rfl ?_
 refine Qm rfl <| zp rfl (fun w hw => c_impl_Rules_taken r s player (ok_ hw) (ok_ hw) (r3 := r3)) ?_
 intro u6 x6 A7 c7 h7 bl7 bh7
 refine Qz rfl <| Qm rfl <| JL.nil <| Js.block ?_
 refine zl [2, 3, 4, 7, 20, 21] (fun F U l os u m => ∃ (k : Nat) (g : Int), l = F [(8, .int .i64 g), (22, .int .i64 (k : Int))] ∧ os = U [] ∧ (g + M.gone r s player ((M.taken r s player).drop k) = M.gone r s player (M.taken r s player)) ∧ (k ≤ (M.taken r s player).length) ∧ (0 ≤ g) ∧ (g ≤ 96 * k) ∧ m = (M.taken r s player).length - k) ⟨0, 0, rfl, rfl, by simp, zt, zt, zt, rfl⟩ ?_
 rintro _ _ u8 _ ⟨k, g, rfl, rfl, hS, hk, g0, g1, rfl⟩ x8
 refine zn ?_
 refine zS <| Ql rfl rfl <| zJ ?_
 refine zi (fun h9 h9' => ?_) fun h9 h9' => ?_
 ·
  have hk2 : k < (M.taken r s player).length := by have := h9; simp at this; omega
  have hx := M.taken_mem (r := r) (s := s) (player := player) r5 (M.nth_mem hk2)
  have hvx := r3.pit (M.nth (M.taken r s player) k)
  have hS1 := hS
  rw [M.drop_nth hk2, M.gone_cons] at hS1
  obtain ⟨b10, o10, he10, hc10⟩ := ints_elem (Ty.mono _ h7 x8.vis) (i := k) (by omega)
  refine Js.skip <| Js.seq <| Js.block <| zS <| Qq (p_indexAddr el_26 rfl rfl (by omega) (by omega) he10) <| QC hc10 rfl <| Qa rfl <| zN <| Q9 1 rfl rfl ?_
  refine Qm rfl <| zv rfl (fun w hw => c_impl_Rules_owner r (M.nth (M.taken r s player) k) (ok_ hw)) <| Qm rfl <| Qd rfl rfl <| JL.nil ?_
  refine zi (fun h11 h11' => ?_) fun h11 h11' => ?_
  ·
   have hS2 : (g + M.getI s.pits (M.nth (M.taken r s player) k)) + M.gone r s player ((M.taken r s player).drop (k + 1)) = M.gone r s player (M.taken r s player) := by rw [if_neg (by simpa using h11)] at hS1; omega
   refine Js.region <| Qm rfl <| Qf fh rfl <| Q0 0 rfl rfl rfl <| Qm rfl <| Qq (p_indexAddr el_26 rfl rfl (by omega) (by omega) rfl) <| Qw (q_load1 ty_2.h rfl (Mem.pub (ints_cellI (i := M.nth (M.taken r s player) k) (Ty.mono _ h1 (x6.vis.trans x8.vis)) (by omega)))) <| Qp rfl rfl <| Qa rfl <| JL.nil <| Js.blockEnd <| Js.region <| Qp rfl rfl <| Qm rfl ?_
   refine JL.nil ?_
   exact zag ⟨k + 1, g + (M.getI s.pits (M.nth (M.taken r s player) k)), rfl, rfl, by exact hS2, zt, zt, zt, rfl⟩ x8
  have hS2 : g + M.gone r s player ((M.taken r s player).drop (k + 1)) = M.gone r s player (M.taken r s player) := by rw [if_pos (by simpa using h11)] at hS1; omega
  refine Js.skip <| Js.blockEnd <| Js.region <| Qp rfl rfl <| Qm rfl <| JL.nil ?_
  exact zag ⟨k + 1, g, rfl, rfl, by exact hS2, zt, zt, zt, rfl⟩ x8
 have hg : g = M.gone r s player (M.taken r s player) := by rw [← hS, List.drop_eq_nil_of_le (by omega), M.gone_nil]; omega
 refine zx ?_
 refine zS <| Qm rfl <| Qg rfl rfl <| Qm rfl <| zg (Gd.t1 rfl rfl rfl) (fun hc => p_move rfl) <| zg (Gd.t1 rfl rfl rfl) (fun hc => p_move rfl) <| zg (Gd.t1 rfl rfl rfl) (fun hc => p_eql (gh hc rfl) (gh hc rfl)) <| Qq (p_pickAnd rfl rfl rfl) <| Qa rfl <| JL.nil ?_
 refine zR (x6.trans x8) ?_
 subst hg; simp [outV, M.slams]

set_option maxHeartbeats 1000000 in
theorem c_impl_Rules_captured (r : M.Rul) {v_r : Value} (s : M.Sw) {v_s : Value} (player : Int) {w : World} (h_r : (Ty.agg (cRules r)).ok w v_r) (h_s : (Ty.agg (cSown s)).ok w v_s) (r0 : 2 ≤ r.pits := by exact om_) (r1 : r.pits ≤ 8 := by exact om_) (r2 : player = 0 ∨ player = 1 := by exact om_) (r3 : M.Good r s.pits s.stores 0 := by exact om_) (r4 : -1 ≤ s.last := by exact om_) (r5 : s.last < 2 * r.pits := by exact om_) : Ret Tryz.prog 144 [v_r, v_s, .int .i64 player] w (Ty.ints 2 (M.captured r s player)) := by
 revert v_r; apply opn
 revert v_s; apply opn
 intro A1 c1 h1 bl1 bh1 A2 c2 h2 bl2 bh2
 refine enter @Tryz.func144 @Tryz.ntmps144 rfl rfl ?_
 refine zent ?_
 refine zS <| zb rfl fun b3 => zb rfl fun b4 => Qa rfl <| zJ <| zS <| Qf fh rfl <| Q0 1 rfl rfl rfl <| Qe rfl rfl <| Qm rfl <| zgq (Gd.t1 rfl rfl rfl) (fun hc => L9 1 rfl rfl) <| zgq (Gd.t1 rfl rfl rfl) (fun hc => L9 0 rfl rfl) <| zg (Gd.t1 rfl rfl rfl) (fun hc => p_move rfl) <| zgv (Gd.t1 rfl rfl rfl) (fun hc => (opds_3 (gh hc rfl) (gh hc rfl) (gh hc rfl))) (fun hc => (fun w hw => c_impl_Rules_slams r s player (ok_ hw) (ok_ hw) (r0 := (by have hc9 := hc; (try simp only [decide_eq_true_eq] at hc9); omega)) (r1 := (by have hc9 := hc; (try simp only [decide_eq_true_eq] at hc9); omega)) (r2 := (by have hc9 := hc; (try simp only [decide_eq_true_eq] at hc9); omega)) (r3 := r3) (r4 := (by have hc9 := hc; (try simp only [decide_eq_true_eq] at hc9); omega)) (r5 := (by have hc9 := hc; (try simp only [decide_eq_true_eq] at hc9); omega)))) ?_
 refine Qq (p_pickAnd rfl rfl rfl) <| JL.nil ?_
 refine zi (fun h5 h5' => ?_) fun h5 h5' => ?_
 ·
  have hR : M.captured r s player = [] := by unfold M.captured; rw [if_pos (by simpa using h5)]
  have hq0 : [] = M.captured r s player := by rw [hR]
  refine zS <| zbs fun b6 => ?_
  refine Qa rfl <| JL.nil ?_
  exact zro (Up.refl _ _)
 have hR : M.captured r s player = M.taken r s player := by unfold M.captured; rw [if_neg (by simpa using h5)]
 refine Js.skip <| zS <| Q9 1 rfl rfl ?_
 refine Q9 0 rfl rfl ?_
 refine Qm rfl <| zcs rfl (fun w hw => c_impl_Rules_taken r s player (ok_ hw) (ok_ hw) (r3 := r3)) ?_
 intro A8 c8 bl8 bh8
 have hq0 : (M.taken r s player) = M.captured r s player := by rw [hR]
 refine Qa rfl <| JL.nil ?_
 exact zro (Up.refl _ _)

set_option maxHeartbeats 1000000 in
theorem c_impl_Rules_takeCaptures (r : M.Rul) {v_r : Value} (s : M.Sw) {v_s : Value} (player : Int) {w : World} (h_r : (Ty.agg (cRules r)).ok w v_r) (h_s : (Ty.agg (cSown s)).ok w v_s) (r0 : 2 ≤ r.pits := by exact om_) (r1 : r.pits ≤ 8 := by exact om_) (r2 : player = 0 ∨ player = 1 := by exact om_) (r3 : M.Good r s.pits s.stores 0 := by exact om_) (r4 : -1 ≤ s.last := by exact om_) (r5 : s.last < 2 * r.pits := by exact om_) : Ret Tryz.prog 135 [v_r, v_s, .int .i64 player] w (Ty.agg (cSown (M.take r s player))) := by
 have l1 := r3.lp
 have l2 := r3.ls
 have hlen := M.captured_len (s := s) (player := player) r5 r1
 revert v_r; apply opn
 revert v_s; apply opn
 intro A1 c1 h1 bl1 bh1 A2 c2 h2 bl2 bh2
 refine enter @Tryz.func135 @Tryz.ntmps135 rfl rfl ?_
 refine zent ?_
 obtain ⟨b3, o3, rfl⟩ := ints_some h1 (by omega)
 obtain ⟨b4, o4, rfl⟩ := ints_some h2 (by omega)
 refine zS <| zb rfl fun b5 => zb rfl fun b6 => za zeh fun b7 => zN <| Q9 2 rfl rfl ?_
 refine Q9 1 rfl rfl ?_
 refine Qm rfl <| zp rfl (fun w hw => c_impl_Rules_captured r s player (ok_ hw) (ok_ hw) (r3 := r3)) ?_
 intro u8 x8 A9 c9 h9 bl9 bh9
 refine Qa rfl <| zJ ?_
 refine zdr [7, 9] ?_
 refine JH.p 0 rfl (p_fieldAddr fld_136_0.h rfl) ?_
 refine JH.q 1 rfl (q_load1 ty_26.h rfl (Mem.box (i := 1) rfl rfl)) ?_
 refine JH.p 3 rfl (p_fieldAddr fld_136_1.h rfl) ?_
 refine JH.q 4 rfl (q_load1 ty_26.h rfl (Mem.box (i := 1) rfl rfl)) ?_
 refine y1 2 ?_
 refine ycs rfl rfl (fun w hw => c_impl_copyNumbers s.pits (ok_ hw)) ?_
 intro A10 c10 bl10 bh10
 refine JH.p 6 rfl (p_fieldAddr fld_136_0.h rfl) ?_
 refine y1 5 ?_
 refine ycs rfl rfl (fun w hw => c_impl_copyNumbers s.stores (ok_ hw)) ?_
 intro A11 c11 bl11 bh11
 refine y1 7 ?_
 refine yst rfl rfl rfl ?_
 refine JH.p 8 rfl (p_fieldAddr fld_136_1.h rfl) ?_
 refine y1 9 ?_
 refine yst rfl rfl rfl ?_
 refine yd ?_
 refine Js.fact (row_some (i := 0) rfl (by omega)) (fun hf12 => ?_)
 obtain ⟨b12, rfl⟩ := hf12
 refine Js.fact (row_some (i := 1) rfl (by omega)) (fun hf13 => ?_)
 obtain ⟨b13, rfl⟩ := hf13
 refine Js.seq <| zS <| Qm rfl <| Qz rfl <| Qm rfl <| JL.nil <| Js.block ?_
 refine zl [2, 4, 6, 22, 23] (fun F U l os u m => ∃ (k : Nat) (ps ss : List Int), l = F [(24, .int .i64 (k : Int))] ∧ os = U [some (rowO 2 1 (.slice (some ⟨b12, 0, none⟩) s.stores.length c11) s.stores.length (ints_ ss) []), some (rowO 2 1 (.slice (some ⟨b13, 0, none⟩) s.pits.length c10) s.pits.length (ints_ ps) [])] ∧ (M.takeL player ((M.captured r s player).drop k) ps ss = M.takeL player (M.captured r s player) s.pits s.stores) ∧ (k ≤ (M.captured r s player).length) ∧ (M.Good r ps ss 0) ∧ m = (M.captured r s player).length - k) ⟨0, s.pits, s.stores, rfl, rfl, by rfl, zt, by exact r3, rfl⟩ ?_
 rintro _ _ u14 _ ⟨k, ps, ss, rfl, rfl, hS, hk, hG, rfl⟩ x14
 refine zn ?_
 have l3 := hG.lp
 have l4 := hG.ls
 refine zS <| Ql rfl rfl <| zJ ?_
 refine zi (fun h15 h15' => ?_) fun h15 h15' => ?_
 ·
  have hk2 : k < (M.captured r s player).length := by have := h15; simp at this; omega
  have hx := M.captured_mem (r := r) (s := s) (player := player) r5 (M.nth_mem hk2)
  have hvx := hG.pit (M.nth (M.captured r s player) k)
  have hvs := hG.store player
  obtain ⟨b16, o16, he16, hc16⟩ := ints_elem (Ty.mono _ h9 x14.vis) (i := k) (by omega)
  refine Js.skip <| Js.seq <| Js.block <| zS <| Qq (p_indexAddr el_26 rfl rfl (by omega) (by omega) he16) <| QC hc16 rfl <| Qa rfl <| zJ ?_
  refine zdr [12] ?_
  refine JH.p 0 rfl (p_fieldAddr fld_136_1.h rfl) ?_
  refine JH.q 1 rfl (q_load1 ty_26.h rfl (Mem.box (i := 3) rfl rfl)) ?_
  refine JH.p 2 rfl (p_move rfl) ?_
  refine JH.p 3 rfl (p_indexAddr el_26 rfl rfl (by omega) (by omega) rfl) ?_
  refine JH.q 4 rfl (q_load1 ty_2.h rfl (Mem.row (i := 0) rfl (ints_getI (i := player) (by omega)))) ?_
  refine JH.p 5 rfl (p_fieldAddr fld_136_0.h rfl) ?_
  refine JH.q 6 rfl (q_load1 ty_26.h rfl (Mem.box (i := 3) rfl rfl)) ?_
  refine JH.p 7 rfl (p_move rfl) ?_
  refine JH.p 8 rfl (p_indexAddr el_26 rfl rfl (by omega) (by omega) rfl) ?_
  refine JH.q 9 rfl (q_load1 ty_2.h rfl (Mem.row (i := 1) rfl (ints_getI (i := M.nth (M.captured r s player) k) (by omega)))) ?_
  refine JH.p 10 rfl (p_add rfl rfl (IntWalk.i64_in _ (by omega))) ?_
  refine JH.p 11 rfl (p_indexAddr el_26 rfl rfl (by omega) (by omega) rfl) ?_
  refine y1 12 ?_
  refine JHo.s rfl (e_storeRow (i := 0) (xs' := ints_ (M.setI ss player ((M.getI ss player) + (M.getI ps (M.nth (M.captured r s player) k))))) ty_2.h rfl rfl rfl rfl rfl rfl (ints_lt (i := player.toNat) (by omega)) (ints_setL (i := player.toNat) (by omega))) (.inr rfl) ?_
  rintro _ _ _ ⟨rfl, rfl⟩ _
  refine znh ?_
  refine yd ?_
  refine Js.region <| Qf fh rfl <| Q0 3 rfl rfl rfl <| Qm rfl <| Qq (p_indexAddr el_26 rfl rfl (by omega) (by omega) rfl) ?_
  refine JL.s (e_storeRow (i := 1) (xs' := ints_ (M.setI ps (M.nth (M.captured r s player) k) 0)) ty_2.h rfl rfl rfl rfl rfl rfl (ints_lt (i := (M.nth (M.captured r s player) k).toNat) (by omega)) (ints_setL (i := (M.nth (M.captured r s player) k).toNat) (by omega))) ?_
  rintro _ _ _ ⟨rfl, rfl⟩ _
  refine znl ?_
  refine JL.nil <| Js.blockEnd <| Js.region <| Qp rfl rfl <| Qm rfl <| JL.nil ?_
  exact zag ⟨k + 1, M.setI ps (M.nth (M.captured r s player) k) 0, M.setI ss player ((M.getI ss player) + (M.getI ps (M.nth (M.captured r s player) k))), rfl, rfl, by rw [M.drop_nth hk2, M.takeL] at hS; exact hS, zt, by exact hG.takeStep hx.1 hx.2 (by omega) (by omega), rfl⟩ x14
 rw [List.drop_eq_nil_of_le (by omega), M.take_eq r5 (by omega) (by omega)] at hS
 injection hS with hT1 hT2
 refine zx ?_
 have hq0 : ps = (M.take r s player).pits := by first | exact hT1 | exact hT2 | rfl
 have hq1 : ss = (M.take r s player).stores := by first | exact hT1 | exact hT2 | rfl
 have hq2 : s.last = (M.take r s player).last := by first | exact hT1 | exact hT2 | rfl
 have hq3 : s.laps = (M.take r s player).laps := by first | exact hT1 | exact hT2 | rfl
 refine zS <| Q9 3 rfl rfl ?_
 refine zw 2 rfl rfl rfl ?_
 refine JL.nil ?_
 exact zro (x8.trans x14)

set_option maxHeartbeats 1000000 in
theorem c_impl_Rules_mustFeed (r : M.Rul) {v_r : Value} (p : M.Pos) {v_p : Value} {w : World} (h_r : (Ty.agg (cRules r)).ok w v_r) (h_p : (Ty.agg (cPosition p)).ok w v_p) (r0 : M.okP r p = true := by exact om_) : RetV Tryz.prog 137 [v_r, v_p] w (.bool (M.mustFeed r p)) := by
 obtain ⟨g1, g2, g3, g4, g5, g6, g7⟩ := M.okP_bd r0
 revert v_r; apply opn
 revert v_p; apply opn
 intro A1 c1 h1 bl1 bh1 A2 c2 h2 bl2 bh2
 refine enter @Tryz.func137 @Tryz.ntmps137 rfl rfl ?_
 refine zent ?_
 refine zS <| zb rfl fun b3 => zb rfl fun b4 => Qa rfl <| zN <| Qf fh rfl <| Q0 1 rfl rfl rfl <| Qm rfl <| zgq (Gd.t1 rfl rfl rfl) (fun hc => L9 1 rfl rfl) <| zg (Gd.t1 rfl rfl rfl) (fun hc => p_fieldAddr fld_28_0.h rfl) <| zgq (Gd.t1 rfl rfl rfl) (fun hc => q_load1 ty_26.h (gh hc rfl) (Mem.box (i := 0) rfl rfl)) <| zg (Gd.t1 rfl rfl rfl) (fun hc => p_fieldAddr fld_28_2.h rfl) <| zgq (Gd.t1 rfl rfl rfl) (fun hc => q_load1 ty_2.h (gh hc rfl) (Mem.box (i := 0) rfl rfl)) <| zg (Gd.t1 rfl rfl rfl) (fun hc => p_sub rfl (gh hc rfl) (IntWalk.i64_in _ (by omega))) ?_
 refine zgv (Gd.t1 rfl rfl rfl) (fun hc => (opds_3 (gh hc rfl) (gh hc rfl) (gh hc rfl))) (fun hc => (fun w hw => c_impl_Rules_side r p.pits (1 - p.player) (ok_ hw) (ok_ hw) (r4 := g5))) ?_
 refine zg (Gd.t1 rfl rfl rfl) (fun hc => p_eql (gh hc rfl) rfl) <| Qq (p_pickAnd rfl rfl rfl) <| Qa rfl <| JL.nil ?_
 refine zR (Up.refl _ _) ?_
 simp [outV, M.mustFeed]

set_option maxHeartbeats 1000000 in
theorem c_impl_Rules_done (r : M.Rul) {v_r : Value} (p : M.Pos) {v_p : Value} (move : Int) {w : World} (h_r : (Ty.agg (cRules r)).ok w v_r) (h_p : (Ty.agg (cPosition p)).ok w v_p) (r0 : p.pits.length ≤ 4194304 := by exact om_) (r1 : p.stores.length ≤ 4194304 := by exact om_) : Ret Tryz.prog 126 [v_r, v_p, .int .i64 move] w (Ty.tup [Ty.agg (cSown ((M.done r p move).1)), Ty.int ((M.done r p move).2)]) := by
 revert v_r; apply opn
 revert v_p; apply opn
 intro A1 c1 h1 bl1 bh1 A2 c2 h2 bl2 bh2
 refine enter @Tryz.func126 @Tryz.ntmps126 rfl rfl ?_
 refine zent ?_
 refine zS <| zb rfl fun b3 => zb rfl fun b4 => za zeh fun b5 => Qa rfl <| zN <| Q9 2 rfl rfl ?_
 refine Q9 1 rfl rfl ?_
 refine Qm rfl <| zp rfl (fun w hw => c_impl_sowMove r p move (ok_ hw) (ok_ hw)) ?_
 intro u6 x6 v7 h7
 refine Qm rfl <| Qx rfl rfl <| Qx rfl rfl <| Qa rfl <| Qa rfl <| zJ <| zS <| Qm rfl <| Qd rfl rfl <| JL.nil ?_
 refine zi (fun h8 h8' => ?_) fun h8 h8' => ?_
 ·
  have hz : ¬ (M.sowMove r p move).1 = 0 := by simpa using h8
  have hD : M.done r p move = (M.Sw.zero, (M.sowMove r p move).1) := by unfold M.done; rw [if_pos hz]
  have hq0 : [] = ((M.done r p move).1).pits := by first | (rw [hD]; done) | (rw [hD]; rfl)
  have hq1 : [] = ((M.done r p move).1).stores := by first | (rw [hD]; done) | (rw [hD]; rfl)
  have hq2 : 0 = ((M.done r p move).1).last := by first | (rw [hD]; done) | (rw [hD]; rfl)
  have hq3 : 0 = ((M.done r p move).1).laps := by first | (rw [hD]; done) | (rw [hD]; rfl)
  have hq4 : ((M.sowMove r p move).1) = (M.done r p move).2 := by first | (rw [hD]; done) | (rw [hD]; rfl)
  refine zS <| Qb ?_
  refine Qm rfl <| zw 0 rfl rfl rfl ?_
  refine Qa rfl <| JL.nil ?_
  exact zro x6
 have hz : (M.sowMove r p move).1 = 0 := by simpa using h8
 obtain ⟨hok, m0, m1, hG, q0, q1, hsum⟩ := M.sowMove_ok hz
 obtain ⟨g1, g2, g3, g4, g5, g6, g7⟩ := M.okP_bd hok
 have hG2 := (M.take_keeps g7 hG q1).1
 have hao := M.Good.ok hG2
 have hl2 := hG2.lp
 have ⟨g8, g9⟩ : p.pits.length ≤ 4194304 ∧ p.stores.length ≤ 4194304 := by omega
 refine Js.skip <| Js.seq ?_
 refine zk [3, 4, 6] (fun F U l os u => ∃ (b9 o9 b11 : Nat) (A10_0 : Option Addr) (c10_0 : Nat) (A10_1 : Option Addr) (c10_1 : Nat) (f10 : List Nat) (A9_10 : Option Addr) (c9_10 : Nat) (A9_11 : Option Addr) (c9_11 : Nat) (A9_14 : Option Addr) (c9_14 : Nat), l = F [(8, .pointer (some ⟨b9, o9, none⟩)), (10, .pointer (some ⟨b11, 0, none⟩))] ∧ os = [boxO b11 [.slice A10_0 (((M.take r ((M.sowMove r p move).2.1) p.player).pits).length) c10_0, .slice A10_1 (((M.take r ((M.sowMove r p move).2.1) p.player).stores).length) c10_1, .int .i64 ((M.take r ((M.sowMove r p move).2.1) p.player).last), .int .i64 ((M.take r ((M.sowMove r p move).2.1) p.player).laps)] 136, ownC (cSown (M.take r ((M.sowMove r p move).2.1) p.player)) [.slice A10_0 (((M.take r ((M.sowMove r p move).2.1) p.player).pits).length) c10_0, .slice A10_1 (((M.take r ((M.sowMove r p move).2.1) p.player).stores).length) c10_1, .int .i64 ((M.take r ((M.sowMove r p move).2.1) p.player).last), .int .i64 ((M.take r ((M.sowMove r p move).2.1) p.player).laps)] f10] ++ U [] ∧ (RowAt u b9 o9 [.int .i64 r.pits, .int .i64 r.seeds, .bool r.stores, .bool r.skip, .bool r.relay, .bool r.feed, .bool r.again, .int .i64 r.capture, .int .i64 r.slam, .int .i64 p.player, .slice A9_10 ((((M.sowMove r p move).2.1).pits).length) c9_10, .slice A9_11 ((((M.sowMove r p move).2.1).stores).length) c9_11, .int .i64 (((M.sowMove r p move).2.1).last), .int .i64 (((M.sowMove r p move).2.1).laps), .slice A9_14 (((M.sowMove r p move).2.2).length) c9_14]) ∧ ((((M.sowMove r p move).2.1).pits).length ≤ c9_10) ∧ (c9_10 ≤ 9223372036854775807) ∧ ((Ty.ints 2 (((M.sowMove r p move).2.1).pits)).ok u (.slice A9_10 ((((M.sowMove r p move).2.1).pits).length) c9_10)) ∧ ((((M.sowMove r p move).2.1).stores).length ≤ c9_11) ∧ (c9_11 ≤ 9223372036854775807) ∧ ((Ty.ints 2 (((M.sowMove r p move).2.1).stores)).ok u (.slice A9_11 ((((M.sowMove r p move).2.1).stores).length) c9_11)) ∧ (((M.sowMove r p move).2.2).length ≤ c9_14) ∧ (c9_14 ≤ 9223372036854775807) ∧ ((Ty.ints 2 ((M.sowMove r p move).2.2)).ok u (.slice A9_14 (((M.sowMove r p move).2.2).length) c9_14)) ∧ (((M.take r ((M.sowMove r p move).2.1) p.player).pits).length ≤ c10_0) ∧ (c10_0 ≤ 9223372036854775807) ∧ (((M.take r ((M.sowMove r p move).2.1) p.player).stores).length ≤ c10_1) ∧ (c10_1 ≤ 9223372036854775807)) ?_ ?_
 ·
  refine zdr [9] ?_
  refine JH.q 0 rfl (L9 2 rfl rfl) ?_
  refine JH.p 1 rfl (p_move rfl) ?_
  obtain ⟨b15, o15, A15_10, c15_10, A15_11, c15_11, A15_14, c15_14, rfl, hr15, h15_10, h15_11, h15_14, bl15_10, bh15_10, bl15_11, bh15_11, bl15_14, bh15_14⟩ := ref_sowing (box_ref (opt_yes h7 (by exact decide_eq_true hz)))
  refine JH.p 2 rfl (p_nilCheck rfl) ?_
  refine JH.p 3 rfl (p_fieldAddr fld_158_2.h rfl) ?_
  refine JH.w 4 rfl (fun os' u' hv => LS 10 (hr15.vis hv) rfl) ?_
  refine JH.p 5 rfl (p_fieldAddr fld_28_2.h rfl) ?_
  refine JH.q 6 rfl (q_load1 ty_2.h rfl (Mem.box (i := 1) rfl rfl)) ?_
  refine y2 7 8 ?_ ?_
  ·
   refine ycs rfl rfl (fun w hw => c_impl_Rules_takeCaptures r ((M.sowMove r p move).2.1) p.player (ok_ hw) (ok_ hw) (r3 := hG)) ?_
   intro A16_0 c16_0 bl16_0 bh16_0 A16_1 c16_1 bl16_1 bh16_1 f16
   refine y1 8 ?_
   refine ya rfl fun b17 => ?_
   refine y1 9 ?_
   refine yst rfl rfl rfl ?_
   refine yd ?_
   exact zm ⟨_, _, _, _, _, _, _, _, _, _, _, _, _, _, rfl, rfl, hr15, zt, zt, h15_10, zt, zt, h15_11, zt, zt, h15_14, zt, zt, zt, zt⟩ (Up.refl _ _)
  refine ya rfl fun b18 => ?_
  refine y1 7 ?_
  refine ycs rfl rfl (fun w hw => c_impl_Rules_takeCaptures r ((M.sowMove r p move).2.1) p.player (ok_ hw) (ok_ hw) (r3 := hG)) ?_
  intro A19_0 c19_0 bl19_0 bh19_0 A19_1 c19_1 bl19_1 bh19_1 f19
  refine y1 9 ?_
  refine yst rfl rfl rfl ?_
  refine yd ?_
  refine zh [1, 0, 0, 0, 0] ?_
  exact zm ⟨_, _, _, _, _, _, _, _, _, _, _, _, _, _, rfl, rfl, hr15, zt, zt, h15_10, zt, zt, h15_11, zt, zt, h15_14, zt, zt, zt, zt⟩ (Up.refl _ _)
 rintro _ _ u14 ⟨b9, o9, b11, A10_0, c10_0, A10_1, c10_1, f10, A9_10, c9_10, A9_11, c9_11, A9_14, c9_14, rfl, rfl, f14_0, f14_1, f14_2, f14_3, f14_4, f14_5, f14_6, f14_7, f14_8, f14_9, f14_10, f14_11, f14_12, f14_13⟩ x14
 refine zn ?_
 refine Js.seq <| Js.seq ?_
 refine zdr [] ?_
 refine JH.p 0 rfl (p_fieldAddr fld_25_8.h rfl) ?_
 refine JH.q 1 rfl (q_load1 ty_2.h rfl (Mem.box (i := 4) rfl rfl)) ?_
 refine JH.p 2 rfl (p_eql rfl rfl) ?_
 refine JH.p 3 rfl (p_move rfl) ?_
 refine JH.qg 4 rfl (Gd.t1 rfl rfl rfl) (fun hc => L9 4 rfl rfl) ?_
 refine JH.pg 5 rfl (Gd.t1 rfl rfl rfl) (fun hc => p_move rfl) ?_
 refine JH.pg 6 rfl (Gd.t1 rfl rfl rfl) (fun hc => p_nilCheck (gvt rfl hc)) ?_
 refine JH.pg 7 rfl (Gd.t1 rfl rfl rfl) (fun hc => p_fieldAddr fld_158_2.h (gvt rfl hc)) ?_
 refine JH.wg 8 rfl (Gd.t1 rfl rfl rfl) (fun hc os' u' hv => LS 10 (f14_0.vis hv) (gvt rfl hc)) ?_
 refine JH.pg 9 rfl (Gd.t1 rfl rfl rfl) (fun hc => p_fieldAddr fld_28_2.h rfl) ?_
 refine JH.qg 10 rfl (Gd.t1 rfl rfl rfl) (fun hc => q_load1 ty_2.h (gvt rfl hc) (Mem.box (i := 3) rfl rfl)) ?_
 refine y1 11 ?_
 refine JHo.ge rfl (Gd.t1 rfl rfl rfl) (fun hc => e_callV fn_136.h (opds_3 (gvt rfl hc) (gvt rfl hc) (gvt rfl hc)) (fun w hw => c_impl_Rules_slams r ((M.sowMove r p move).2.1) p.player (ok_ hw) (ok_ hw) (r0 := (by have hc9 := hc; (try simp only [decide_eq_true_eq] at hc9); omega)) (r1 := (by have hc9 := hc; (try simp only [decide_eq_true_eq] at hc9); omega)) (r2 := (by have hc9 := hc; (try simp only [decide_eq_true_eq] at hc9); omega)) (r3 := hG) (r4 := (by have hc9 := hc; (try simp only [decide_eq_true_eq] at hc9); omega)) (r5 := (by have hc9 := hc; (try simp only [decide_eq_true_eq] at hc9); omega)))) ?_
 refine JH.p 12 rfl (p_pickAnd rfl rfl rfl) ?_
 refine JH.p 13 rfl (p_move rfl) ?_
 refine JH.qg 14 rfl (Gd.f1 rfl rfl rfl) (fun hc => L9 4 rfl rfl) ?_
 refine JH.qg 15 rfl (Gd.f1 rfl rfl rfl) (fun hc => L9 3 rfl rfl) ?_
 refine y1 16 ?_
 refine JHo.ge rfl (Gd.f1 rfl rfl rfl) (fun hc => e_callV fn_137.h (opds_2 (gvt rfl hc) (gvt rfl hc)) (fun w hw => c_impl_Rules_mustFeed r p (ok_ hw) (ok_ hw) (r0 := hok))) ?_
 refine JH.pg 17 rfl (Gd.f1 rfl rfl rfl) (fun hc => p_move (gvt rfl hc)) ?_
 refine JH.qg 18 rfl (Gd.t2 rfl rfl rfl) (fun hc => L9 4 rfl rfl) ?_
 refine JH.pg 19 rfl (Gd.t2 rfl rfl rfl) (fun hc => p_fieldAddr fld_136_0.h rfl) ?_
 refine JH.qg 20 rfl (Gd.t2 rfl rfl rfl) (fun hc => q_load1 ty_26.h (gvt rfl hc) (Mem.box (i := 0) rfl rfl)) ?_
 refine JH.pg 21 rfl (Gd.t2 rfl rfl rfl) (fun hc => p_fieldAddr fld_28_2.h rfl) ?_
 refine JH.qg 22 rfl (Gd.t2 rfl rfl rfl) (fun hc => q_load1 ty_2.h (gvt rfl hc) (Mem.box (i := 3) rfl rfl)) ?_
 refine JH.pg 23 rfl (Gd.t2 rfl rfl rfl) (fun hc => p_sub rfl (gvt rfl hc) (IntWalk.i64_in _ (by have hc9 := hc; (try simp only [Bool.and_eq_true, Bool.not_eq_true', Bool.and_eq_false_iff, decide_eq_false_iff_not] at hc9); omega))) ?_
 refine y1 24 ?_
 refine JHo.ge rfl (Gd.t2 rfl rfl rfl) (fun hc => e_callV fn_124.h (opds_3 (gvt rfl hc) (gvt rfl hc) (gvt rfl hc)) (fun w hw => c_impl_Rules_side r ((M.take r ((M.sowMove r p move).2.1) p.player).pits) (1 - p.player) (ok_ hw) (ok_ hw) (r0 := (by have hc9 := hc; (try simp only [Bool.and_eq_true, Bool.not_eq_true', Bool.and_eq_false_iff, decide_eq_false_iff_not] at hc9); omega)) (r1 := (by have hc9 := hc; (try simp only [Bool.and_eq_true, Bool.not_eq_true', Bool.and_eq_false_iff, decide_eq_false_iff_not] at hc9); omega)) (r2 := (by have hc9 := hc; (try simp only [Bool.and_eq_true, Bool.not_eq_true', Bool.and_eq_false_iff, decide_eq_false_iff_not] at hc9); omega)) (r3 := (by have hc9 := hc; (try simp only [Bool.and_eq_true, Bool.not_eq_true', Bool.and_eq_false_iff, decide_eq_false_iff_not] at hc9); omega)) (r4 := hao.1))) ?_
 refine JH.pg 25 rfl (Gd.t2 rfl rfl rfl) (fun hc => p_eql (gvt rfl hc) rfl) ?_
 refine JH.pg 26 rfl (Gd.f1 rfl rfl rfl) (fun hc => p_pickAnd (gvt rfl hc) (gvl rfl hc) rfl) ?_
 refine JH.p 27 rfl (p_pickOr rfl rfl rfl) ?_
 refine yd ?_
 refine zi (fun h20 h20' => ?_) fun h20 h20' => ?_
 ·
  have hD : M.done r p move = (M.Sw.zero, 9) := by unfold M.done; rw [if_neg (by simpa using hz), if_pos (by simpa using h20)]
  have hq0 : [] = ((M.done r p move).1).pits := by first | (rw [hD]; done) | (rw [hD]; rfl)
  have hq1 : [] = ((M.done r p move).1).stores := by first | (rw [hD]; done) | (rw [hD]; rfl)
  have hq2 : 0 = ((M.done r p move).1).last := by first | (rw [hD]; done) | (rw [hD]; rfl)
  have hq3 : 0 = ((M.done r p move).1).laps := by first | (rw [hD]; done) | (rw [hD]; rfl)
  have hq4 : 9 = (M.done r p move).2 := by first | (rw [hD]; done) | (rw [hD]; rfl)
  refine zS <| Qb ?_
  refine zw 2 rfl rfl rfl ?_
  refine Qa rfl <| JL.nil ?_
  exact zro (x6.trans x14)
 have hD : M.done r p move = (M.take r (M.sowMove r p move).2.1 p.player, 0) := by unfold M.done; rw [if_neg (by simpa using hz), if_neg (by simpa using h20)]
 have hq0 : (M.take r ((M.sowMove r p move).2.1) p.player) = (M.done r p move).1 := by first | (rw [hD]; done) | (rw [hD]; rfl)
 have hq1 : 0 = (M.done r p move).2 := by first | (rw [hD]; done) | (rw [hD]; rfl)
 refine Js.skip <| zS <| Q9 0 rfl rfl ?_
 refine zw 2 rfl rfl rfl ?_
 refine Qa rfl <| JL.nil ?_
 exact zro (x6.trans x14)

set_option maxHeartbeats 1000000 in
theorem c_impl_MoveFault (r : M.Rul) {v_r : Value} (p : M.Pos) {v_p : Value} (move : Int) {w : World} (h_r : (Ty.agg (cRules r)).ok w v_r) (h_p : (Ty.agg (cPosition p)).ok w v_p) (r0 : p.pits.length ≤ 4194304 := by exact om_) (r1 : p.stores.length ≤ 4194304 := by exact om_) : RetV Tryz.prog 117 [v_r, v_p, .int .i64 move] w (.int .i64 ((M.done r p move).2)) := by
 revert v_r; apply opn
 revert v_p; apply opn
 intro A1 c1 h1 bl1 bh1 A2 c2 h2 bl2 bh2
 refine enter @Tryz.func117 @Tryz.ntmps117 rfl rfl ?_
 refine zent ?_
 refine zS <| zb rfl fun b3 => zb rfl fun b4 => Qa rfl <| zN <| Q9 1 rfl rfl ?_
 refine Q9 0 rfl rfl ?_
 refine Qm rfl <| zp rfl (fun w hw => c_impl_Rules_done r p move (ok_ hw) (ok_ hw)) ?_
 intro u5 x5 A6 c6 h6 bl6 bh6 A7 c7 h7 bl7 bh7
 refine Qm rfl <| Qx rfl rfl <| Qx rfl rfl <| za zeh fun b8 => zw 0 rfl rfl rfl ?_
 refine Qa rfl <| zN <| Qm rfl <| Qa rfl <| JL.nil ?_
 exact zr x5

end Go.Proofs.YtejnmechnhgmfaaGreat

namespace Go.Proofs.YtejnmechnhgmfaaGreat
open Go.RowKit

set_option maxHeartbeats 1000000 in
theorem c_impl_Rules_results (r : M.Rul) {v_r : Value} (p : M.Pos) {v_p : Value} {w : World} (h_r : (Ty.agg (cRules r)).ok w v_r) (h_p : (Ty.agg (cPosition p)).ok w v_p) (r0 : M.okP r p = true := by exact om_) : Ret Tryz.prog 112 [v_r, v_p] w (Ty.sl 79 6 (M.results r p).length (lResult (M.results r p))) := by
 obtain ⟨g1, g2, g3, g4, g5, g6, g7⟩ := M.okP_bd r0
 revert v_r; apply opn
 revert v_p; apply opn
 intro A1 c1 h1 bl1 bh1 A2 c2 h2 bl2 bh2
 refine enter @Tryz.func112 @Tryz.ntmps112 rfl rfl ?_
 refine zent ?_
 obtain ⟨b3, o3, rfl⟩ := ints_some h2 (by omega)
 refine zS <| zb rfl fun b4 => zb rfl fun b5 => Qa rfl <| zN <| zbs fun b6 => ?_
 refine Qa rfl <| zJ <| zS <| Qf fh rfl <| Q0 2 rfl rfl rfl <| Qm rfl <| JL.nil <| Js.block ?_
 refine Js.vals (Ts := lResult []) (vs := []) (fun w => rfl) ?_
 refine zl [2, 3, 13] (fun F U l os u m => ∃ (k : Nat) (acc : List M.Res) (A8_5 : Option Addr) (c8_5 : Nat) (g8_5 : List Nat) (vs8_5 : List Value) (fl8_5 : List Nat), l = F [(5, .slice A8_5 acc.length c8_5), (14, .int .i64 (k : Int))] ∧ os = U [some (ownC (lResult acc) vs8_5 fl8_5), some (rowO 79 6 (.slice A8_5 acc.length c8_5) acc.length vs8_5 g8_5)] ∧ (acc = M.resultsTo r p k) ∧ (k ≤ r.pits) ∧ (acc.length ≤ c8_5) ∧ (c8_5 ≤ 9223372036854775807) ∧ m = (r.pits - k).toNat) ⟨0, [], _, _, _, _, _, rfl, rfl, by rfl, zt, zu, zu, rfl⟩ ?_
 rintro _ _ u8 _ ⟨k, acc, A8_5, c8_5, g8_5, vs8_5, fl8_5, rfl, rfl, hacc, hk, f8_2, f8_3, rfl⟩ x8
 refine zn ?_
 have hlen := M.resultsTo_len (r := r) (p := p) k
 have hlacc : acc.length ≤ k := by rw [hacc]; exact hlen
 refine zS <| Ql rfl rfl <| zJ ?_
 refine zi (fun h9 h9' => ?_) fun h9 h9' => ?_
 ·
  refine Js.skip <| Js.seq <| Js.block <| zS <| Qm rfl <| Qa rfl <| zN <| Q9 3 rfl rfl ?_
  refine Q9 2 rfl rfl ?_
  refine Qm rfl <| zc rfl (fun w hw => c_impl_Rules_done r p (k : Int) (ok_ hw) (ok_ hw)) ?_
  intro A12 c12 bl12 bh12 A13 c13 bl13 bh13
  refine Qm rfl <| Qx rfl rfl <| Qx rfl rfl <| za zeh fun b14 => zw 0 rfl rfl rfl ?_
  refine Qa rfl <| zJ <| zS <| Qm rfl <| Qd rfl rfl <| JL.nil ?_
  refine zi (fun h15 h15' => ?_) fun h15 h15' => ?_
  ·
   have hacc2 := (M.resultsTo_no (r := r) (p := p) (k := k) (by simpa using h15)).symm
   refine zx ?_
   refine Js.region <| Qp rfl rfl <| Qm rfl <| JL.nil ?_
   refine zd [3, 3, 3, 3] rfl fun u16 x16 => ?_
   exact zag ⟨k + 1, acc, _, _, _, _, _, rfl, rfl, by rw [hacc]; exact hacc2, zt, zu, zu, rfl⟩ (x8.trans x16)
  have hz : (M.done r p k).2 = 0 := by simpa using h15
  obtain ⟨_, _, _, hG⟩ := M.done_good hz
  have l3 := hG.ls
  have hs1 := hG.store p.player
  have hs2 := (M.Good.of_ok r0).store p.player
  refine Js.fact (row_some (i := 1) rfl (by omega)) (fun hf17 => ?_)
  obtain ⟨b17, rfl⟩ := hf17
  refine Js.skip <| zS <| Qf fh rfl <| Q0 6 rfl rfl rfl <| Qm rfl <| zg (Gd.t1 rfl rfl rfl) (fun hc => p_fieldAddr fld_136_2.h rfl) <| zgq (Gd.t1 rfl rfl rfl) (fun hc => q_load1 ty_2.h (gh hc rfl) (Mem.box (i := 0) rfl rfl)) <| zg (Gd.t1 rfl rfl rfl) (fun hc => p_eql (gh hc rfl) rfl) <| Qq (p_pickAnd rfl rfl rfl) <| Qa rfl <| zN <| Qf fh rfl <| Q0 0 rfl rfl rfl <| Qf fh rfl ?_
  refine Q0 0 rfl rfl rfl <| Qf fh rfl <| Q0 5 rfl rfl rfl <| Qs rfl rfl <| Qb ?_
  refine za zeh fun b18 => zw 0 rfl rfl rfl ?_
  refine zJ <| zS <| Qm rfl <| JL.nil ?_
  refine zi (fun h19 h19' => ?_) fun h19 h19' => ?_
  ·
   have hacc2 := (M.resultsTo_yes hz).symm
   unfold M.resOf at hacc2
   rw [if_pos h19] at hacc2
   refine Js.region <| Qf fh rfl <| Q0 6 rfl rfl rfl <| Qf fh rfl <| zw 0 rfl rfl rfl ?_
   refine JL.nil ?_
   refine zdr [19] ?_
   refine JH.p 0 rfl (p_move rfl) ?_
   refine JH.p 1 rfl (p_move rfl) ?_
   refine JH.p 2 rfl (p_fieldAddr fld_136_1.h rfl) ?_
   refine JH.q 3 rfl (q_load1 ty_26.h rfl (Mem.box (i := 1) rfl rfl)) ?_
   refine JH.p 4 rfl (p_fieldAddr fld_28_2.h rfl) ?_
   refine JH.q 5 rfl (q_load1 ty_2.h rfl (Mem.box (i := 6) rfl rfl)) ?_
   refine JH.p 6 rfl (p_indexAddr el_26 rfl rfl (by omega) (by omega) rfl) ?_
   refine JH.q 7 rfl (q_load1 ty_2.h rfl (Mem.row (i := 2) rfl (ints_getI (i := p.player) (by omega)))) ?_
   refine JH.p 8 rfl (p_fieldAddr fld_28_1.h rfl) ?_
   refine JH.q 9 rfl (q_load1 ty_26.h rfl (Mem.box (i := 6) rfl rfl)) ?_
   refine JH.p 10 rfl (p_fieldAddr fld_28_2.h rfl) ?_
   refine JH.q 11 rfl (q_load1 ty_2.h rfl (Mem.box (i := 6) rfl rfl)) ?_
   refine JH.p 12 rfl (p_indexAddr el_26 rfl rfl (by omega) (by omega) rfl) ?_
   refine JH.w 13 rfl (fun os' u' hv => q_load1 ty_2.h rfl (Mem.pub (ints_cellI (i := p.player) (Ty.mono _ h2 (x8.vis.trans hv)) (by omega)))) ?_
   refine JH.p 14 rfl (p_sub rfl rfl (IntWalk.i64_in _ (by omega))) ?_
   refine JH.p 15 rfl (p_move rfl) ?_
   refine JH.q 16 rfl (L9 0 rfl rfl) ?_
   refine JH.p 17 rfl (q_bld) ?_
   refine y1 18 ?_
   refine ybs rfl fun b22 => ?_
   refine y1 19 ?_
   refine JHo.e rfl (e_append (i := 6) (n' := (acc ++ [(M.Res.mk (k : Int) ((M.getI (((M.done r p (k : Int)).1).stores) p.player) - (M.getI p.stores p.player)) (r.again && (decide (((M.done r p (k : Int)).1).last = (-1)))) (M.Pos.mk (((M.done r p (k : Int)).1).pits) (((M.done r p (k : Int)).1).stores) p.player))]).length) (vs' := vs8_5 ++ [.int .i64 (k : Int), .int .i64 ((M.getI (((M.done r p (k : Int)).1).stores) p.player) - (M.getI p.stores p.player)), .bool (r.again && (decide (((M.done r p (k : Int)).1).last = (-1)))), .slice A12 ((((M.done r p (k : Int)).1).pits).length) c12, .slice (some ⟨b17, 0, none⟩) ((((M.done r p (k : Int)).1).stores).length) c13, .int .i64 p.player]) el_69 rfl rfl rfl rfl (src_row (i := 0) und_69 rfl rfl) (by omega) (by omega) (by first | omega | (simp only [List.length_append, List.length_cons, List.length_nil] <;> omega)) (rfl)) (.inr rfl) ?_
   rintro v24 _ _ ⟨⟨g25, rfl⟩, rfl⟩ _
   refine JH.fact (row_form' (i := 6) rfl) (fun hf26 => ?_)
   obtain ⟨A26, c26, rfl, bl26, bh26⟩ := hf26
   refine znh ?_
   refine JH.p 20 rfl (p_assign rfl) ?_
   refine yd ?_
   refine Js.pack2 (i := 4) (j := 3) (cResult (M.Res.mk (k : Int) ((M.getI (((M.done r p (k : Int)).1).stores) p.player) - (M.getI p.stores p.player)) (r.again && (decide (((M.done r p (k : Int)).1).last = (-1)))) (M.Pos.mk (((M.done r p (k : Int)).1).pits) (((M.done r p (k : Int)).1).stores) p.player))) [.int .i64 (k : Int), .int .i64 ((M.getI (((M.done r p (k : Int)).1).stores) p.player) - (M.getI p.stores p.player)), .bool (r.again && (decide (((M.done r p (k : Int)).1).last = (-1)))), .slice A12 ((((M.done r p (k : Int)).1).pits).length) c12, .slice (some ⟨b17, 0, none⟩) ((((M.done r p (k : Int)).1).stores).length) c13, .int .i64 p.player] rfl rfl (fun w h1 h2 => pack_Result (ints_row h1 rfl) (ints_row h2 rfl)) (fun f27 => ?_)
   refine Js.joinL (i := 4) (j := 0) (Vs := lResult (acc ++ [(M.Res.mk (k : Int) ((M.getI (((M.done r p (k : Int)).1).stores) p.player) - (M.getI p.stores p.player)) (r.again && (decide (((M.done r p (k : Int)).1).last = (-1)))) (M.Pos.mk (((M.done r p (k : Int)).1).pits) (((M.done r p (k : Int)).1).stores) p.player))])) rfl rfl (lResult_snoc _ _) (fun f28 => ?_)
   refine zn ?_
   refine Js.blockEnd <| Js.region <| Qp rfl rfl <| Qm rfl <| JL.nil ?_
   refine zd [0, 3, 3, 3] rfl fun u29 x29 => ?_
   exact zag ⟨k + 1, acc ++ [(M.Res.mk (k : Int) ((M.getI (((M.done r p (k : Int)).1).stores) p.player) - (M.getI p.stores p.player)) (r.again && (decide (((M.done r p (k : Int)).1).last = (-1)))) (M.Pos.mk (((M.done r p (k : Int)).1).pits) (((M.done r p (k : Int)).1).stores) p.player))], _, _, _, _, _, rfl, rfl, by rw [hacc]; exact hacc2, zt, zu, zu, rfl⟩ (x8.trans x29)
  have hacc2 := (M.resultsTo_yes hz).symm
  unfold M.resOf at hacc2
  rw [if_neg (by simpa using h19)] at hacc2
  refine Js.skip ?_
  refine zdr [19] ?_
  refine JH.p 0 rfl (p_move rfl) ?_
  refine JH.p 1 rfl (p_move rfl) ?_
  refine JH.p 2 rfl (p_fieldAddr fld_136_1.h rfl) ?_
  refine JH.q 3 rfl (q_load1 ty_26.h rfl (Mem.box (i := 1) rfl rfl)) ?_
  refine JH.p 4 rfl (p_fieldAddr fld_28_2.h rfl) ?_
  refine JH.q 5 rfl (q_load1 ty_2.h rfl (Mem.box (i := 6) rfl rfl)) ?_
  refine JH.p 6 rfl (p_indexAddr el_26 rfl rfl (by omega) (by omega) rfl) ?_
  refine JH.q 7 rfl (q_load1 ty_2.h rfl (Mem.row (i := 2) rfl (ints_getI (i := p.player) (by omega)))) ?_
  refine JH.p 8 rfl (p_fieldAddr fld_28_1.h rfl) ?_
  refine JH.q 9 rfl (q_load1 ty_26.h rfl (Mem.box (i := 6) rfl rfl)) ?_
  refine JH.p 10 rfl (p_fieldAddr fld_28_2.h rfl) ?_
  refine JH.q 11 rfl (q_load1 ty_2.h rfl (Mem.box (i := 6) rfl rfl)) ?_
  refine JH.p 12 rfl (p_indexAddr el_26 rfl rfl (by omega) (by omega) rfl) ?_
  refine JH.w 13 rfl (fun os' u' hv => q_load1 ty_2.h rfl (Mem.pub (ints_cellI (i := p.player) (Ty.mono _ h2 (x8.vis.trans hv)) (by omega)))) ?_
  refine JH.p 14 rfl (p_sub rfl rfl (IntWalk.i64_in _ (by omega))) ?_
  refine JH.p 15 rfl (p_move rfl) ?_
  refine JH.q 16 rfl (L9 0 rfl rfl) ?_
  refine JH.p 17 rfl (q_bld) ?_
  refine y1 18 ?_
  refine ybs rfl fun b32 => ?_
  refine y1 19 ?_
  refine JHo.e rfl (e_append (i := 6) (n' := (acc ++ [(M.Res.mk (k : Int) ((M.getI (((M.done r p (k : Int)).1).stores) p.player) - (M.getI p.stores p.player)) (r.again && (decide (((M.done r p (k : Int)).1).last = (-1)))) (M.Pos.mk (((M.done r p (k : Int)).1).pits) (((M.done r p (k : Int)).1).stores) (1 - p.player)))]).length) (vs' := vs8_5 ++ [.int .i64 (k : Int), .int .i64 ((M.getI (((M.done r p (k : Int)).1).stores) p.player) - (M.getI p.stores p.player)), .bool (r.again && (decide (((M.done r p (k : Int)).1).last = (-1)))), .slice A12 ((((M.done r p (k : Int)).1).pits).length) c12, .slice (some ⟨b17, 0, none⟩) ((((M.done r p (k : Int)).1).stores).length) c13, .int .i64 (1 - p.player)]) el_69 rfl rfl rfl rfl (src_row (i := 0) und_69 rfl rfl) (by omega) (by omega) (by first | omega | (simp only [List.length_append, List.length_cons, List.length_nil] <;> omega)) (rfl)) (.inr rfl) ?_
  rintro v34 _ _ ⟨⟨g35, rfl⟩, rfl⟩ _
  refine JH.fact (row_form' (i := 6) rfl) (fun hf36 => ?_)
  obtain ⟨A36, c36, rfl, bl36, bh36⟩ := hf36
  refine znh ?_
  refine JH.p 20 rfl (p_assign rfl) ?_
  refine yd ?_
  refine Js.pack2 (i := 4) (j := 3) (cResult (M.Res.mk (k : Int) ((M.getI (((M.done r p (k : Int)).1).stores) p.player) - (M.getI p.stores p.player)) (r.again && (decide (((M.done r p (k : Int)).1).last = (-1)))) (M.Pos.mk (((M.done r p (k : Int)).1).pits) (((M.done r p (k : Int)).1).stores) (1 - p.player)))) [.int .i64 (k : Int), .int .i64 ((M.getI (((M.done r p (k : Int)).1).stores) p.player) - (M.getI p.stores p.player)), .bool (r.again && (decide (((M.done r p (k : Int)).1).last = (-1)))), .slice A12 ((((M.done r p (k : Int)).1).pits).length) c12, .slice (some ⟨b17, 0, none⟩) ((((M.done r p (k : Int)).1).stores).length) c13, .int .i64 (1 - p.player)] rfl rfl (fun w h1 h2 => pack_Result (ints_row h1 rfl) (ints_row h2 rfl)) (fun f37 => ?_)
  refine Js.joinL (i := 4) (j := 0) (Vs := lResult (acc ++ [(M.Res.mk (k : Int) ((M.getI (((M.done r p (k : Int)).1).stores) p.player) - (M.getI p.stores p.player)) (r.again && (decide (((M.done r p (k : Int)).1).last = (-1)))) (M.Pos.mk (((M.done r p (k : Int)).1).pits) (((M.done r p (k : Int)).1).stores) (1 - p.player)))])) rfl rfl (lResult_snoc _ _) (fun f38 => ?_)
  refine zn ?_
  refine Js.blockEnd <| Js.region <| Qp rfl rfl <| Qm rfl <| JL.nil ?_
  refine zd [0, 3, 3, 3] rfl fun u39 x39 => ?_
  exact zag ⟨k + 1, acc ++ [(M.Res.mk (k : Int) ((M.getI (((M.done r p (k : Int)).1).stores) p.player) - (M.getI p.stores p.player)) (r.again && (decide (((M.done r p (k : Int)).1).last = (-1)))) (M.Pos.mk (((M.done r p (k : Int)).1).pits) (((M.done r p (k : Int)).1).stores) (1 - p.player)))], _, _, _, _, _, rfl, rfl, by rw [hacc]; exact hacc2, zt, zu, zu, rfl⟩ (x8.trans x39)
 have hR : acc = M.results r p := by rw [hacc]; unfold M.results; rw [show k = r.pits.toNat by omega]
 refine zx ?_
 have hq0 : acc = M.results r p := by exact hR
 refine zS <| Qm rfl <| Qa rfl <| JL.nil ?_
 exact zro x8

set_option maxHeartbeats 1000000 in
theorem c_impl_Rules_resultOf (r : M.Rul) {v_r : Value} (p : M.Pos) {v_p : Value} (move : Int) {w : World} (h_r : (Ty.agg (cRules r)).ok w v_r) (h_p : (Ty.agg (cPosition p)).ok w v_p) (r0 : p.pits.length ≤ 4194304 := by exact om_) (r1 : p.stores.length ≤ 4194304 := by exact om_) : Ret Tryz.prog 94 [v_r, v_p, .int .i64 move] w (Ty.tup [Ty.agg (cResult ((M.make r p move).1)), Ty.int ((M.make r p move).2)]) := by
 revert v_r; apply opn
 revert v_p; apply opn
 intro A1 c1 h1 bl1 bh1 A2 c2 h2 bl2 bh2
 refine enter @Tryz.func94 @Tryz.ntmps94 rfl rfl ?_
 refine zent ?_
 refine zS <| zb rfl fun b3 => zb rfl fun b4 => za zeh fun b5 => Qa rfl <| zJ <| zS <| Q9 2 rfl rfl ?_
 refine Q9 1 rfl rfl ?_
 refine Qm rfl <| zv rfl (fun w hw => c_impl_MoveFault r p move (ok_ hw) (ok_ hw)) <| Qa rfl <| zN <| Qm rfl <| Qd rfl rfl <| JL.nil ?_
 refine zi (fun h6 h6' => ?_) fun h6 h6' => ?_
 ·
  have hD := M.make_no (r := r) (p := p) (move := move) (by simpa using h6)
  have hq0 : 0 = ((M.make r p move).1).move := by first | exact hE | (rw [hm]; done) | (rw [hD]; done) | (rw [hD]; rfl)
  have hq1 : 0 = ((M.make r p move).1).gain := by first | exact hE | (rw [hm]; done) | (rw [hD]; done) | (rw [hD]; rfl)
  have hq2 : false = ((M.make r p move).1).again := by first | exact hE | (rw [hm]; done) | (rw [hD]; done) | (rw [hD]; rfl)
  have hq3 : [] = (((M.make r p move).1).next).pits := by first | exact hE | (rw [hm]; done) | (rw [hD]; done) | (rw [hD]; rfl)
  have hq4 : [] = (((M.make r p move).1).next).stores := by first | exact hE | (rw [hm]; done) | (rw [hD]; done) | (rw [hD]; rfl)
  have hq5 : 0 = (((M.make r p move).1).next).player := by first | exact hE | (rw [hm]; done) | (rw [hD]; done) | (rw [hD]; rfl)
  have hq6 : ((M.done r p move).2) = (M.make r p move).2 := by first | exact hE | (rw [hm]; done) | (rw [hD]; done) | (rw [hD]; rfl)
  refine zS <| Qb ?_
  refine Qm rfl <| zw 0 rfl rfl rfl ?_
  refine Qa rfl <| JL.nil ?_
  exact zro (Up.refl _ _)
 have hz : (M.done r p move).2 = 0 := by simpa using h6
 have hm : (M.make r p move).2 = 0 := by rw [M.make_code]; exact hz
 have hok := (M.make_ok hm).1
 refine Js.skip <| Js.seq <| zS <| Q9 2 rfl rfl ?_
 refine Q9 1 rfl rfl ?_
 refine zcs rfl (fun w hw => c_impl_Rules_results r p (ok_ hw) (ok_ hw) (r0 := hok)) ?_
 intro A7 c7 vs7 f7 bl7 bh7
 refine Qz rfl <| Qm rfl <| JL.nil <| Js.block ?_
 refine zl [2, 6, 21, 22] (fun F U l os u m => ∃ (k : Nat), l = F [(23, .int .i64 (k : Int))] ∧ os = U [] ∧ (k ≤ (M.results r p).length) ∧ (∀ (j : Nat) (x : M.Res), j < k → (M.results r p)[j]? = some x → x.move ≠ move) ∧ m = (M.results r p).length - k) ⟨0, rfl, rfl, zt, by exact fun j x hj => absurd hj (by omega), rfl⟩ ?_
 rintro _ _ u8 _ ⟨k, rfl, rfl, hk, hn, rfl⟩ x8
 refine zn ?_
 refine zS <| Ql rfl rfl <| zJ ?_
 refine zi (fun h9 h9' => ?_) fun h9 h9' => ?_
 ·
  refine Js.skip <| Js.seq <| Js.block <| zS ?_
  refine JL.fact (row_some (i := 0) rfl (by omega)) (fun hf11 => ?_)
  obtain ⟨b11, rfl⟩ := hf11
  obtain ⟨y10, hy10⟩ : ∃ x, (M.results r p)[k]? = some x := ⟨_, List.getElem?_eq_getElem (by omega)⟩
  refine JL.fact (fun w hw => elemv_Result (Mem.ownC (i := 1) rfl w hw) hy10) (fun hf10 => ?_)
  obtain ⟨A10_3, c10_3, A10_4, c10_4, he10, bl10_3, bh10_3, bl10_4, bh10_4⟩ := hf10
  refine Qq (p_indexAddr el_69 rfl rfl (by omega) (by omega) rfl) <| Qw (q_loadN ty_79.h rfl (Mem.rowR' (i := 0) rfl he10) rfl rfl) <| za zeh fun b12 => zw 0 rfl rfl rfl ?_
  refine zN <| Qf fh rfl <| Q0 0 rfl rfl rfl <| Qm rfl <| Qe rfl rfl <| JL.nil ?_
  refine zi (fun h13 h13' => ?_) fun h13 h13' => ?_
  ·
   have hE := M.results_get hy10 (by simpa using h13)
   have hm2 := hm.symm
   refine zS <| Q9 0 rfl rfl ?_
   refine zw 3 rfl rfl rfl ?_
   refine Qa rfl <| JL.nil ?_
   refine Js.elemO cResult (i := 2) (xs := (M.results r p)) (fun _ => rfl) rfl hy10 he10 (fun f14 f14a f14b => ?_)
   refine zn ?_
   have hq0 : y10 = (M.make r p move).1 := by first | exact hE | (rw [hm]; done) | (rw [hD]; done) | (rw [hD]; rfl)
   have hq1 : 0 = (M.make r p move).2 := by first | exact hE | (rw [hm]; done) | (rw [hD]; done) | (rw [hD]; rfl)
   exact zro x8
  have hn2 := M.none_step hn hy10 (by simpa using h13)
  refine Js.skip <| Js.blockEnd <| Js.region <| Qp rfl rfl <| Qm rfl <| JL.nil ?_
  refine zd [1, 1, 1, 1, 1] rfl fun u15 x15 => ?_
  exact zag ⟨k + 1, rfl, rfl, zt, by exact hn2, rfl⟩ (x8.trans x15)
 obtain ⟨j, hj, hx, hmv⟩ := M.results_has hm; have h9 := h9; simp at h9; exact absurd hmv (hn j _ (by omega) hx)

end Go.Proofs.YtejnmechnhgmfaaGreat

namespace Go.Proofs.YtejnmechnhgmfaaGreat
open Go.RowKit

set_option maxHeartbeats 1000000 in
theorem c_impl_Game_played (g : M.Gam) {v_g : Value} {w : World} (h_g : (Ty.agg (cGame g)).ok w v_g) (r0 : g.start.pits.length ≤ 4194304 := by exact om_) (r1 : g.start.stores.length ≤ 4194304 := by exact om_) (r2 : g.moves.length ≤ 4194304 := by exact om_) (r3 : g.now.pits.length ≤ 4194304 := by exact om_) (r4 : g.now.stores.length ≤ 4194304 := by exact om_) : Ret Tryz.prog 53 [v_g] w (Ty.tup [Ty.sl 28 3 (M.playedP g).length (lPosition (M.playedP g)), Ty.sl 79 6 (M.playedR g).length (lResultL (M.playedR g)), Ty.bool (M.playedOk g)]) := by
 revert v_g; apply opn
 intro A1 c1 h1 bl1 bh1 A2 c2 h2 bl2 bh2 A3 c3 h3 bl3 bh3 A4 c4 h4 bl4 bh4 A5 c5 h5 bl5 bh5
 refine enter @Tryz.func53 @Tryz.ntmps53 rfl rfl ?_
 refine zent ?_
 refine zS <| zb rfl fun b6 => Qa rfl <| Qa rfl <| Qa rfl <| zJ ?_
 refine zk [1] (fun F U l os u => ∃ (b12 b8 b10 : Nat) (A7_0 : Option Addr) (c7_0 : Nat) (A7_1 : Option Addr) (c7_1 : Nat) (f7 : List Nat), l = F [(5, .pointer (some ⟨b12, 0, none⟩)), (6, .slice (some ⟨b8, 0, none⟩) 1 1), (7, .slice (some ⟨b10, 0, none⟩) 0 0)] ∧ os = [boxO b12 [.slice A1 g.start.pits.length c1, .slice A2 g.start.stores.length c2, .int .i64 g.start.player] 28, rowO 79 6 (.slice (some ⟨b10, 0, none⟩) 0 0) 0 [] [], rowO 28 3 (.slice (some ⟨b8, 0, none⟩) 1 1) 1 [.slice A7_0 g.start.pits.length c7_0, .slice A7_1 g.start.stores.length c7_1, .int .i64 g.start.player] [], ownC (cPosition g.start) [.slice A7_0 g.start.pits.length c7_0, .slice A7_1 g.start.stores.length c7_1, .int .i64 g.start.player] f7] ++ U []) ?_ ?_
 ·
  refine zdr [8] ?_
  refine JH.p 0 rfl (p_fieldAddr fld_30_1.h rfl) ?_
  refine JH.q 1 rfl (L9 0 rfl rfl) ?_
  refine JH.p 2 rfl (p_fieldAddr fld_30_1.h rfl) ?_
  refine JH.q 3 rfl (L9 0 rfl rfl) ?_
  refine y3 4 6 7 ?_ ?_ ?_
  ·
   refine ycs rfl rfl (fun w hw => c_impl_Position_copied g.start (ok_ hw)) ?_
   intro A96_0 c96_0 bl96_0 bh96_0 A96_1 c96_1 bl96_1 bh96_1 f96
   refine y3 5 6 7 ?_ ?_ ?_
   ·
    refine ybs rfl fun b97 => ?_
    refine y2 6 7 ?_ ?_
    ·
     refine ybs rfl fun b99 => ?_
     refine y1 7 ?_
     refine ya rfl fun b101 => ?_
     refine y1 8 ?_
     refine yst rfl rfl rfl ?_
     refine JH.p 9 rfl (p_assign rfl) ?_
     refine JH.p 10 rfl (p_assign rfl) ?_
     refine yd ?_
     exact zm ⟨_, _, _, _, _, _, _, _, rfl, rfl⟩ (Up.refl _ _)
    refine ya rfl fun b102 => ?_
    refine y2 6 8 ?_ ?_
    ·
     refine ybs rfl fun b103 => ?_
     refine y1 8 ?_
     refine yst rfl rfl rfl ?_
     refine JH.p 9 rfl (p_assign rfl) ?_
     refine JH.p 10 rfl (p_assign rfl) ?_
     refine yd ?_
     refine zh [1, 0, 0, 0, 0] ?_
     exact zm ⟨_, _, _, _, _, _, _, _, rfl, rfl⟩ (Up.refl _ _)
    refine yst rfl rfl rfl ?_
    refine JH.p 9 rfl (p_assign rfl) ?_
    refine y1 6 ?_
    refine ybs rfl fun b105 => ?_
    refine JH.p 10 rfl (p_assign rfl) ?_
    refine yd ?_
    refine zh [1, 0, 0, 0, 0] ?_
    exact zm ⟨_, _, _, _, _, _, _, _, rfl, rfl⟩ (Up.refl _ _)
   ·
    refine ybs rfl fun b107 => ?_
    refine y2 5 7 ?_ ?_
    ·
     refine ybs rfl fun b109 => ?_
     refine y1 7 ?_
     refine ya rfl fun b111 => ?_
     refine y1 8 ?_
     refine yst rfl rfl rfl ?_
     refine JH.p 9 rfl (p_assign rfl) ?_
     refine JH.p 10 rfl (p_assign rfl) ?_
     refine yd ?_
     refine zh [0, 1, 0, 0, 0] ?_
     exact zm ⟨_, _, _, _, _, _, _, _, rfl, rfl⟩ (Up.refl _ _)
    refine ya rfl fun b112 => ?_
    refine y2 5 8 ?_ ?_
    ·
     refine ybs rfl fun b113 => ?_
     refine y1 8 ?_
     refine yst rfl rfl rfl ?_
     refine JH.p 9 rfl (p_assign rfl) ?_
     refine JH.p 10 rfl (p_assign rfl) ?_
     refine yd ?_
     refine zh [1, 1, 0, 0, 0] ?_
     exact zm ⟨_, _, _, _, _, _, _, _, rfl, rfl⟩ (Up.refl _ _)
    refine yst rfl rfl rfl ?_
    refine y1 5 ?_
    refine ybs rfl fun b115 => ?_
    refine JH.p 9 rfl (p_assign rfl) ?_
    refine JH.p 10 rfl (p_assign rfl) ?_
    refine yd ?_
    refine zh [1, 1, 0, 0, 0] ?_
    exact zm ⟨_, _, _, _, _, _, _, _, rfl, rfl⟩ (Up.refl _ _)
   refine ya rfl fun b117 => ?_
   refine y3 5 6 8 ?_ ?_ ?_
   ·
    refine ybs rfl fun b118 => ?_
    refine y2 6 8 ?_ ?_
    ·
     refine ybs rfl fun b120 => ?_
     refine y1 8 ?_
     refine yst rfl rfl rfl ?_
     refine JH.p 9 rfl (p_assign rfl) ?_
     refine JH.p 10 rfl (p_assign rfl) ?_
     refine yd ?_
     refine zh [2, 0, 0, 0, 0] ?_
     exact zm ⟨_, _, _, _, _, _, _, _, rfl, rfl⟩ (Up.refl _ _)
    refine yst rfl rfl rfl ?_
    refine JH.p 9 rfl (p_assign rfl) ?_
    refine y1 6 ?_
    refine ybs rfl fun b122 => ?_
    refine JH.p 10 rfl (p_assign rfl) ?_
    refine yd ?_
    refine zh [2, 0, 0, 0, 0] ?_
    exact zm ⟨_, _, _, _, _, _, _, _, rfl, rfl⟩ (Up.refl _ _)
   ·
    refine ybs rfl fun b124 => ?_
    refine y2 5 8 ?_ ?_
    ·
     refine ybs rfl fun b126 => ?_
     refine y1 8 ?_
     refine yst rfl rfl rfl ?_
     refine JH.p 9 rfl (p_assign rfl) ?_
     refine JH.p 10 rfl (p_assign rfl) ?_
     refine yd ?_
     refine zh [2, 1, 0, 0, 0] ?_
     exact zm ⟨_, _, _, _, _, _, _, _, rfl, rfl⟩ (Up.refl _ _)
    refine yst rfl rfl rfl ?_
    refine y1 5 ?_
    refine ybs rfl fun b128 => ?_
    refine JH.p 9 rfl (p_assign rfl) ?_
    refine JH.p 10 rfl (p_assign rfl) ?_
    refine yd ?_
    refine zh [2, 1, 0, 0, 0] ?_
    exact zm ⟨_, _, _, _, _, _, _, _, rfl, rfl⟩ (Up.refl _ _)
   refine yst rfl rfl rfl ?_
   refine y2 5 6 ?_ ?_
   ·
    refine ybs rfl fun b130 => ?_
    refine JH.p 9 rfl (p_assign rfl) ?_
    refine y1 6 ?_
    refine ybs rfl fun b132 => ?_
    refine JH.p 10 rfl (p_assign rfl) ?_
    refine yd ?_
    refine zh [2, 0, 0, 0, 0] ?_
    exact zm ⟨_, _, _, _, _, _, _, _, rfl, rfl⟩ (Up.refl _ _)
   refine ybs rfl fun b134 => ?_
   refine y1 5 ?_
   refine ybs rfl fun b136 => ?_
   refine JH.p 9 rfl (p_assign rfl) ?_
   refine JH.p 10 rfl (p_assign rfl) ?_
   refine yd ?_
   refine zh [2, 1, 0, 0, 0] ?_
   exact zm ⟨_, _, _, _, _, _, _, _, rfl, rfl⟩ (Up.refl _ _)
  ·
   refine ybs rfl fun b138 => ?_
   refine y2 4 7 ?_ ?_
   ·
    refine ycs rfl rfl (fun w hw => c_impl_Position_copied g.start (ok_ hw)) ?_
    intro A140_0 c140_0 bl140_0 bh140_0 A140_1 c140_1 bl140_1 bh140_1 f140
    refine y2 5 7 ?_ ?_
    ·
     refine ybs rfl fun b141 => ?_
     refine y1 7 ?_
     refine ya rfl fun b143 => ?_
     refine y1 8 ?_
     refine yst rfl rfl rfl ?_
     refine JH.p 9 rfl (p_assign rfl) ?_
     refine JH.p 10 rfl (p_assign rfl) ?_
     refine yd ?_
     refine zh [0, 2, 0, 0, 0] ?_
     exact zm ⟨_, _, _, _, _, _, _, _, rfl, rfl⟩ (Up.refl _ _)
    refine ya rfl fun b144 => ?_
    refine y2 5 8 ?_ ?_
    ·
     refine ybs rfl fun b145 => ?_
     refine y1 8 ?_
     refine yst rfl rfl rfl ?_
     refine JH.p 9 rfl (p_assign rfl) ?_
     refine JH.p 10 rfl (p_assign rfl) ?_
     refine yd ?_
     refine zh [1, 2, 0, 0, 0] ?_
     exact zm ⟨_, _, _, _, _, _, _, _, rfl, rfl⟩ (Up.refl _ _)
    refine yst rfl rfl rfl ?_
    refine y1 5 ?_
    refine ybs rfl fun b147 => ?_
    refine JH.p 9 rfl (p_assign rfl) ?_
    refine JH.p 10 rfl (p_assign rfl) ?_
    refine yd ?_
    refine zh [1, 2, 0, 0, 0] ?_
    exact zm ⟨_, _, _, _, _, _, _, _, rfl, rfl⟩ (Up.refl _ _)
   refine ya rfl fun b149 => ?_
   refine y1 4 ?_
   refine ycs rfl rfl (fun w hw => c_impl_Position_copied g.start (ok_ hw)) ?_
   intro A150_0 c150_0 bl150_0 bh150_0 A150_1 c150_1 bl150_1 bh150_1 f150
   refine y2 5 8 ?_ ?_
   ·
    refine ybs rfl fun b151 => ?_
    refine y1 8 ?_
    refine yst rfl rfl rfl ?_
    refine JH.p 9 rfl (p_assign rfl) ?_
    refine JH.p 10 rfl (p_assign rfl) ?_
    refine yd ?_
    refine zh [2, 2, 0, 0, 0] ?_
    exact zm ⟨_, _, _, _, _, _, _, _, rfl, rfl⟩ (Up.refl _ _)
   refine yst rfl rfl rfl ?_
   refine y1 5 ?_
   refine ybs rfl fun b153 => ?_
   refine JH.p 9 rfl (p_assign rfl) ?_
   refine JH.p 10 rfl (p_assign rfl) ?_
   refine yd ?_
   refine zh [2, 2, 0, 0, 0] ?_
   exact zm ⟨_, _, _, _, _, _, _, _, rfl, rfl⟩ (Up.refl _ _)
  refine ya rfl fun b155 => ?_
  refine y2 4 6 ?_ ?_
  ·
   refine ycs rfl rfl (fun w hw => c_impl_Position_copied g.start (ok_ hw)) ?_
   intro A156_0 c156_0 bl156_0 bh156_0 A156_1 c156_1 bl156_1 bh156_1 f156
   refine y3 5 6 8 ?_ ?_ ?_
   ·
    refine ybs rfl fun b157 => ?_
    refine y2 6 8 ?_ ?_
    ·
     refine ybs rfl fun b159 => ?_
     refine y1 8 ?_
     refine yst rfl rfl rfl ?_
     refine JH.p 9 rfl (p_assign rfl) ?_
     refine JH.p 10 rfl (p_assign rfl) ?_
     refine yd ?_
     refine zh [3, 0, 0, 0, 0] ?_
     exact zm ⟨_, _, _, _, _, _, _, _, rfl, rfl⟩ (Up.refl _ _)
    refine yst rfl rfl rfl ?_
    refine JH.p 9 rfl (p_assign rfl) ?_
    refine y1 6 ?_
    refine ybs rfl fun b161 => ?_
    refine JH.p 10 rfl (p_assign rfl) ?_
    refine yd ?_
    refine zh [3, 0, 0, 0, 0] ?_
    exact zm ⟨_, _, _, _, _, _, _, _, rfl, rfl⟩ (Up.refl _ _)
   ·
    refine ybs rfl fun b163 => ?_
    refine y2 5 8 ?_ ?_
    ·
     refine ybs rfl fun b165 => ?_
     refine y1 8 ?_
     refine yst rfl rfl rfl ?_
     refine JH.p 9 rfl (p_assign rfl) ?_
     refine JH.p 10 rfl (p_assign rfl) ?_
     refine yd ?_
     refine zh [3, 1, 0, 0, 0] ?_
     exact zm ⟨_, _, _, _, _, _, _, _, rfl, rfl⟩ (Up.refl _ _)
    refine yst rfl rfl rfl ?_
    refine y1 5 ?_
    refine ybs rfl fun b167 => ?_
    refine JH.p 9 rfl (p_assign rfl) ?_
    refine JH.p 10 rfl (p_assign rfl) ?_
    refine yd ?_
    refine zh [3, 1, 0, 0, 0] ?_
    exact zm ⟨_, _, _, _, _, _, _, _, rfl, rfl⟩ (Up.refl _ _)
   refine yst rfl rfl rfl ?_
   refine y2 5 6 ?_ ?_
   ·
    refine ybs rfl fun b169 => ?_
    refine JH.p 9 rfl (p_assign rfl) ?_
    refine y1 6 ?_
    refine ybs rfl fun b171 => ?_
    refine JH.p 10 rfl (p_assign rfl) ?_
    refine yd ?_
    refine zh [3, 0, 0, 0, 0] ?_
    exact zm ⟨_, _, _, _, _, _, _, _, rfl, rfl⟩ (Up.refl _ _)
   refine ybs rfl fun b173 => ?_
   refine y1 5 ?_
   refine ybs rfl fun b175 => ?_
   refine JH.p 9 rfl (p_assign rfl) ?_
   refine JH.p 10 rfl (p_assign rfl) ?_
   refine yd ?_
   refine zh [3, 1, 0, 0, 0] ?_
   exact zm ⟨_, _, _, _, _, _, _, _, rfl, rfl⟩ (Up.refl _ _)
  refine ybs rfl fun b177 => ?_
  refine y1 4 ?_
  refine ycs rfl rfl (fun w hw => c_impl_Position_copied g.start (ok_ hw)) ?_
  intro A179_0 c179_0 bl179_0 bh179_0 A179_1 c179_1 bl179_1 bh179_1 f179
  refine y2 5 8 ?_ ?_
  ·
   refine ybs rfl fun b180 => ?_
   refine y1 8 ?_
   refine yst rfl rfl rfl ?_
   refine JH.p 9 rfl (p_assign rfl) ?_
   refine JH.p 10 rfl (p_assign rfl) ?_
   refine yd ?_
   refine zh [3, 2, 0, 0, 0] ?_
   exact zm ⟨_, _, _, _, _, _, _, _, rfl, rfl⟩ (Up.refl _ _)
  refine yst rfl rfl rfl ?_
  refine y1 5 ?_
  refine ybs rfl fun b182 => ?_
  refine JH.p 9 rfl (p_assign rfl) ?_
  refine JH.p 10 rfl (p_assign rfl) ?_
  refine yd ?_
  refine zh [3, 2, 0, 0, 0] ?_
  exact zm ⟨_, _, _, _, _, _, _, _, rfl, rfl⟩ (Up.refl _ _)
 rintro _ _ u95 ⟨b12, b8, b10, A7_0, c7_0, A7_1, c7_1, f7, rfl, rfl⟩ x95
 refine zn ?_
 refine Js.seq <| zS <| Qf fh rfl <| Q0 4 rfl rfl rfl <| Qz rfl <| Qm rfl <| JL.nil <| Js.block ?_
 refine Js.vals (Ts := lPosition []) (vs := []) (fun w => rfl) ?_
 refine Js.joinL (i := 0) (j := 3) (Vs := lPosition ([] ++ [g.start])) rfl rfl (lPosition_snoc _ _) (fun f186 => ?_)
 refine zn ?_
 refine Js.vals (Ts := lResultL []) (vs := []) (fun w => rfl) ?_
 refine zl [1, 5, 20, 21] (fun F U l os u m => ∃ (k : Nat) (now : M.Pos) (out : List M.Pos) (made : List M.Res) (A184_6 : Option Addr) (c184_6 : Nat) (g184_6 : List Nat) (vs184_6 : List Value) (fl184_6 : List Nat) (A184_7 : Option Addr) (c184_7 : Nat) (g184_7 : List Nat) (vs184_7 : List Value) (fl184_7 : List Nat) (A184_5_0 : Option Addr) (c184_5_0 : Nat) (A184_5_1 : Option Addr) (c184_5_1 : Nat), l = F [(6, .slice A184_6 out.length c184_6), (7, .slice A184_7 made.length c184_7), (22, .int .i64 (k : Int))] ∧ os = U [some (ownC (lResultL made) vs184_7 fl184_7), some (ownC (lPosition out) vs184_6 fl184_6), some (boxO b12 [.slice A184_5_0 now.pits.length c184_5_0, .slice A184_5_1 now.stores.length c184_5_1, .int .i64 now.player] 28), some (rowO 79 6 (.slice A184_7 made.length c184_7) made.length vs184_7 g184_7), some (rowO 28 3 (.slice A184_6 out.length c184_6) out.length vs184_6 g184_6)] ∧ (M.Run g.rules g.start g.moves k now made) ∧ (out = M.hist g.start made) ∧ (now.pits.length ≤ 4194304) ∧ (now.stores.length ≤ 4194304) ∧ (out.length ≤ c184_6) ∧ (c184_6 ≤ 9223372036854775807) ∧ (made.length ≤ c184_7) ∧ (c184_7 ≤ 9223372036854775807) ∧ ((Ty.ints 2 now.pits).ok u (.slice A184_5_0 now.pits.length c184_5_0)) ∧ (now.pits.length ≤ c184_5_0) ∧ (c184_5_0 ≤ 9223372036854775807) ∧ ((Ty.ints 2 now.stores).ok u (.slice A184_5_1 now.stores.length c184_5_1)) ∧ (now.stores.length ≤ c184_5_1) ∧ (c184_5_1 ≤ 9223372036854775807) ∧ m = g.moves.length - k) ⟨0, g.start, [g.start], [], _, _, _, _, _, _, _, _, _, _, _, _, _, _, rfl, rfl, by exact M.Run.zero _ _ _, by rfl, zt, zt, zu, zu, zu, zu, (Ty.mono _ h1 x95.vis), zu, zu, (Ty.mono _ h2 x95.vis), zu, zu, rfl⟩ ?_
 rintro _ _ u184 _ ⟨k, now, out, made, A184_6, c184_6, g184_6, vs184_6, fl184_6, A184_7, c184_7, g184_7, vs184_7, fl184_7, A184_5_0, c184_5_0, A184_5_1, c184_5_1, rfl, rfl, hR, hO, n0, n1, f184_4, f184_5, f184_6, f184_7, f184_8, f184_9, f184_10, f184_11, f184_12, f184_13, rfl⟩ x184
 refine zn ?_
 have hl1 := hR.len
 have hl3 := hR.le
 have hlO : out.length = made.length + 1 := by rw [hO]; simp
 refine zS <| Ql rfl rfl <| zJ ?_
 refine zi (fun h187 h187' => ?_) fun h187 h187' => ?_
 ·
  obtain ⟨b188, o188, he188, hc188⟩ := ints_elem (Ty.mono _ h3 (x95.vis.trans x184.vis)) (i := k) (by omega)
  refine Js.skip <| Js.seq <| Js.block <| zS <| Qq (p_indexAddr el_26 rfl rfl (by omega) (by omega) he188) <| QC hc188 rfl <| Qa rfl <| zN <| Qf fh rfl <| Q9 5 rfl rfl ?_
  refine Q9 2 rfl rfl ?_
  refine Qm rfl <| zp rfl (fun w hw => c_impl_Rules_resultOf g.rules now (M.nth g.moves k) (ok_ hw) (ok_ hw)) ?_
  intro u189 x189 A190 c190 h190 bl190 bh190 A191 c191 h191 bl191 bh191
  refine Qm rfl <| Qx rfl rfl <| Qx rfl rfl <| za zeh fun b192 => zw 0 rfl rfl rfl ?_
  refine Qa rfl <| zJ <| zS <| Qm rfl <| Qd rfl rfl <| JL.nil ?_
  refine zi (fun h193 h193' => ?_) fun h193 h193' => ?_
  ·
   obtain ⟨hP1, hP2, hP3⟩ := hR.broken (by omega) (by simpa using h193)
   have hq0 : [] = M.playedP g := by first | exact hP1.symm | exact congrArg Value.bool hP1.symm | exact hP2.symm | exact hP3.symm
   have hq1 : [] = M.playedR g := by first | exact hP1.symm | exact congrArg Value.bool hP1.symm | exact hP2.symm | exact hP3.symm
   have hq2 : false = M.playedOk g := by first | exact hP1.symm | exact congrArg Value.bool hP1.symm | exact hP2.symm | exact hP3.symm
   refine zS <| Qa rfl <| Qa rfl <| Qa rfl <| JL.nil ?_
   exact zro ((x95.trans x184).trans x189)
  have hm : (M.make g.rules now (M.nth g.moves k)).2 = 0 := by simpa using h193
  have hR2 := hR.step (by omega) hm
  have hl2 := M.okP_len (M.make_ok hm).2.2.2.1
  refine Js.skip <| zS <| Qf fh rfl <| Q9 0 rfl rfl ?_
  refine zw 3 rfl rfl rfl ?_
  refine JL.nil ?_
  refine zk [1, 5, 20, 21, 22] (fun F U l os u => ∃ (A199 : Option Addr) (c199 : Nat) (A204 : Option Addr) (c204 b200 b195 : Nat) (A194_0 : Option Addr) (c194_0 : Nat) (A194_1 : Option Addr) (c194_1 : Nat) (f194 g203 g198 : List Nat), l = F [(6, .slice A199 ((out ++ [(((M.make g.rules now (M.nth g.moves k)).1).next)]).length) c199), (7, .slice A204 ((made ++ [((M.make g.rules now (M.nth g.moves k)).1)]).length) c204)] ∧ os = [rowO 79 6 (.slice (some ⟨b200, 0, none⟩) 1 1) 1 [.int .i64 (((M.make g.rules now (M.nth g.moves k)).1).move), .int .i64 (((M.make g.rules now (M.nth g.moves k)).1).gain), .bool (((M.make g.rules now (M.nth g.moves k)).1).again), .slice A190 (((((M.make g.rules now (M.nth g.moves k)).1).next).pits).length) c190, .slice A191 (((((M.make g.rules now (M.nth g.moves k)).1).next).stores).length) c191, .int .i64 ((((M.make g.rules now (M.nth g.moves k)).1).next).player)] [], rowO 28 3 (.slice (some ⟨b195, 0, none⟩) 1 1) 1 [.slice A194_0 (((((M.make g.rules now (M.nth g.moves k)).1).next).pits).length) c194_0, .slice A194_1 (((((M.make g.rules now (M.nth g.moves k)).1).next).stores).length) c194_1, .int .i64 ((((M.make g.rules now (M.nth g.moves k)).1).next).player)] [], ownC (cPosition (((M.make g.rules now (M.nth g.moves k)).1).next)) [.slice A194_0 (((((M.make g.rules now (M.nth g.moves k)).1).next).pits).length) c194_0, .slice A194_1 (((((M.make g.rules now (M.nth g.moves k)).1).next).stores).length) c194_1, .int .i64 ((((M.make g.rules now (M.nth g.moves k)).1).next).player)] f194] ++ U [nO, nO, nO, nO, some (rowO 79 6 (.slice A204 ((made ++ [((M.make g.rules now (M.nth g.moves k)).1)]).length) c204) ((made ++ [((M.make g.rules now (M.nth g.moves k)).1)]).length) (vs184_7 ++ [.int .i64 (((M.make g.rules now (M.nth g.moves k)).1).move), .int .i64 (((M.make g.rules now (M.nth g.moves k)).1).gain), .bool (((M.make g.rules now (M.nth g.moves k)).1).again), .slice A190 (((((M.make g.rules now (M.nth g.moves k)).1).next).pits).length) c190, .slice A191 (((((M.make g.rules now (M.nth g.moves k)).1).next).stores).length) c191, .int .i64 ((((M.make g.rules now (M.nth g.moves k)).1).next).player)]) g203), some (rowO 28 3 (.slice A199 ((out ++ [(((M.make g.rules now (M.nth g.moves k)).1).next)]).length) c199) ((out ++ [(((M.make g.rules now (M.nth g.moves k)).1).next)]).length) (vs184_6 ++ [.slice A194_0 (((((M.make g.rules now (M.nth g.moves k)).1).next).pits).length) c194_0, .slice A194_1 (((((M.make g.rules now (M.nth g.moves k)).1).next).stores).length) c194_1, .int .i64 ((((M.make g.rules now (M.nth g.moves k)).1).next).player)]) g198)] ∧ ((out ++ [(((M.make g.rules now (M.nth g.moves k)).1).next)]).length ≤ c199) ∧ (c199 ≤ 9223372036854775807) ∧ ((made ++ [((M.make g.rules now (M.nth g.moves k)).1)]).length ≤ c204) ∧ (c204 ≤ 9223372036854775807)) ?_ ?_
  ·
   refine zdr [4, 8] ?_
   refine JH.p 0 rfl (p_move rfl) ?_
   refine JH.q 1 rfl (L9 3 rfl rfl) ?_
   refine JH.p 5 rfl (p_move rfl) ?_
   refine y2 2 6 ?_ ?_
   ·
    refine ycs rfl rfl (fun w hw => c_impl_Position_copied (((M.make g.rules now (M.nth g.moves k)).1).next) (ok_ hw)) ?_
    intro A290_0 c290_0 bl290_0 bh290_0 A290_1 c290_1 bl290_1 bh290_1 f290
    refine y2 3 6 ?_ ?_
    ·
     refine ybs rfl fun b291 => ?_
     refine y2 4 6 ?_ ?_
     ·
      refine JHo.e rfl (e_append (i := 7) (n' := (out ++ [(((M.make g.rules now (M.nth g.moves k)).1).next)]).length) (vs' := vs184_6 ++ [.slice A290_0 (((((M.make g.rules now (M.nth g.moves k)).1).next).pits).length) c290_0, .slice A290_1 (((((M.make g.rules now (M.nth g.moves k)).1).next).stores).length) c290_1, .int .i64 ((((M.make g.rules now (M.nth g.moves k)).1).next).player)]) el_32 rfl rfl rfl rfl (src_row (i := 0) und_32 rfl rfl) (by omega) (by omega) (by first | omega | (simp only [List.length_append, List.length_cons, List.length_nil] <;> omega)) (rfl)) (.inr rfl) ?_
      rintro v293 _ _ ⟨⟨g294, rfl⟩, rfl⟩ _
      refine JH.fact (row_form' (i := 7) rfl) (fun hf295 => ?_)
      obtain ⟨A295, c295, rfl, bl295, bh295⟩ := hf295
      refine znh ?_
      refine y1 6 ?_
      refine JHo.q rfl (L9 2 rfl rfl) ?_
      refine y1 7 ?_
      refine ybs rfl fun b296 => ?_
      refine y1 8 ?_
      refine JHo.e rfl (e_append (i := 7) (n' := (made ++ [((M.make g.rules now (M.nth g.moves k)).1)]).length) (vs' := vs184_7 ++ [.int .i64 (((M.make g.rules now (M.nth g.moves k)).1).move), .int .i64 (((M.make g.rules now (M.nth g.moves k)).1).gain), .bool (((M.make g.rules now (M.nth g.moves k)).1).again), .slice A190 (((((M.make g.rules now (M.nth g.moves k)).1).next).pits).length) c190, .slice A191 (((((M.make g.rules now (M.nth g.moves k)).1).next).stores).length) c191, .int .i64 ((((M.make g.rules now (M.nth g.moves k)).1).next).player)]) el_69 rfl rfl rfl rfl (src_row (i := 0) und_69 rfl rfl) (by omega) (by omega) (by first | omega | (simp only [List.length_append, List.length_cons, List.length_nil] <;> omega)) (rfl)) (.inr rfl) ?_
      rintro v298 _ _ ⟨⟨g299, rfl⟩, rfl⟩ _
      refine JH.fact (row_form' (i := 7) rfl) (fun hf300 => ?_)
      obtain ⟨A300, c300, rfl, bl300, bh300⟩ := hf300
      refine znh ?_
      refine JH.p 9 rfl (p_assign rfl) ?_
      refine JH.p 10 rfl (p_assign rfl) ?_
      refine yd ?_
      exact zm ⟨_, _, _, _, _, _, _, _, _, _, _, _, _, rfl, rfl, zt, zt, zt, zt⟩ (Up.refl _ _)
     refine JHo.q rfl (L9 2 rfl rfl) ?_
     refine y2 4 7 ?_ ?_
     ·
      refine JHo.e rfl (e_append (i := 7) (n' := (out ++ [(((M.make g.rules now (M.nth g.moves k)).1).next)]).length) (vs' := vs184_6 ++ [.slice A290_0 (((((M.make g.rules now (M.nth g.moves k)).1).next).pits).length) c290_0, .slice A290_1 (((((M.make g.rules now (M.nth g.moves k)).1).next).stores).length) c290_1, .int .i64 ((((M.make g.rules now (M.nth g.moves k)).1).next).player)]) el_32 rfl rfl rfl rfl (src_row (i := 0) und_32 rfl rfl) (by omega) (by omega) (by first | omega | (simp only [List.length_append, List.length_cons, List.length_nil] <;> omega)) (rfl)) (.inr rfl) ?_
      rintro v301 _ _ ⟨⟨g302, rfl⟩, rfl⟩ _
      refine JH.fact (row_form' (i := 7) rfl) (fun hf303 => ?_)
      obtain ⟨A303, c303, rfl, bl303, bh303⟩ := hf303
      refine znh ?_
      refine y1 7 ?_
      refine ybs rfl fun b304 => ?_
      refine y1 8 ?_
      refine JHo.e rfl (e_append (i := 7) (n' := (made ++ [((M.make g.rules now (M.nth g.moves k)).1)]).length) (vs' := vs184_7 ++ [.int .i64 (((M.make g.rules now (M.nth g.moves k)).1).move), .int .i64 (((M.make g.rules now (M.nth g.moves k)).1).gain), .bool (((M.make g.rules now (M.nth g.moves k)).1).again), .slice A190 (((((M.make g.rules now (M.nth g.moves k)).1).next).pits).length) c190, .slice A191 (((((M.make g.rules now (M.nth g.moves k)).1).next).stores).length) c191, .int .i64 ((((M.make g.rules now (M.nth g.moves k)).1).next).player)]) el_69 rfl rfl rfl rfl (src_row (i := 0) und_69 rfl rfl) (by omega) (by omega) (by first | omega | (simp only [List.length_append, List.length_cons, List.length_nil] <;> omega)) (rfl)) (.inr rfl) ?_
      rintro v306 _ _ ⟨⟨g307, rfl⟩, rfl⟩ _
      refine JH.fact (row_form' (i := 7) rfl) (fun hf308 => ?_)
      obtain ⟨A308, c308, rfl, bl308, bh308⟩ := hf308
      refine znh ?_
      refine JH.p 9 rfl (p_assign rfl) ?_
      refine JH.p 10 rfl (p_assign rfl) ?_
      refine yd ?_
      exact zm ⟨_, _, _, _, _, _, _, _, _, _, _, _, _, rfl, rfl, zt, zt, zt, zt⟩ (Up.refl _ _)
     refine ybs rfl fun b309 => ?_
     refine y1 4 ?_
     refine JHo.e rfl (e_append (i := 8) (n' := (out ++ [(((M.make g.rules now (M.nth g.moves k)).1).next)]).length) (vs' := vs184_6 ++ [.slice A290_0 (((((M.make g.rules now (M.nth g.moves k)).1).next).pits).length) c290_0, .slice A290_1 (((((M.make g.rules now (M.nth g.moves k)).1).next).stores).length) c290_1, .int .i64 ((((M.make g.rules now (M.nth g.moves k)).1).next).player)]) el_32 rfl rfl rfl rfl (src_row (i := 1) und_32 rfl rfl) (by omega) (by omega) (by first | omega | (simp only [List.length_append, List.length_cons, List.length_nil] <;> omega)) (rfl)) (.inr rfl) ?_
     rintro v311 _ _ ⟨⟨g312, rfl⟩, rfl⟩ _
     refine JH.fact (row_form' (i := 8) rfl) (fun hf313 => ?_)
     obtain ⟨A313, c313, rfl, bl313, bh313⟩ := hf313
     refine znh ?_
     refine y1 8 ?_
     refine JHo.e rfl (e_append (i := 7) (n' := (made ++ [((M.make g.rules now (M.nth g.moves k)).1)]).length) (vs' := vs184_7 ++ [.int .i64 (((M.make g.rules now (M.nth g.moves k)).1).move), .int .i64 (((M.make g.rules now (M.nth g.moves k)).1).gain), .bool (((M.make g.rules now (M.nth g.moves k)).1).again), .slice A190 (((((M.make g.rules now (M.nth g.moves k)).1).next).pits).length) c190, .slice A191 (((((M.make g.rules now (M.nth g.moves k)).1).next).stores).length) c191, .int .i64 ((((M.make g.rules now (M.nth g.moves k)).1).next).player)]) el_69 rfl rfl rfl rfl (src_row (i := 0) und_69 rfl rfl) (by omega) (by omega) (by first | omega | (simp only [List.length_append, List.length_cons, List.length_nil] <;> omega)) (rfl)) (.inr rfl) ?_
     rintro v314 _ _ ⟨⟨g315, rfl⟩, rfl⟩ _
     refine JH.fact (row_form' (i := 7) rfl) (fun hf316 => ?_)
     obtain ⟨A316, c316, rfl, bl316, bh316⟩ := hf316
     refine znh ?_
     refine JH.p 9 rfl (p_assign rfl) ?_
     refine JH.p 10 rfl (p_assign rfl) ?_
     refine yd ?_
     exact zm ⟨_, _, _, _, _, _, _, _, _, _, _, _, _, rfl, rfl, zt, zt, zt, zt⟩ (Up.refl _ _)
    refine JHo.q rfl (L9 1 rfl rfl) ?_
    refine y2 3 7 ?_ ?_
    ·
     refine ybs rfl fun b317 => ?_
     refine y2 4 7 ?_ ?_
     ·
      refine JHo.e rfl (e_append (i := 7) (n' := (out ++ [(((M.make g.rules now (M.nth g.moves k)).1).next)]).length) (vs' := vs184_6 ++ [.slice A290_0 (((((M.make g.rules now (M.nth g.moves k)).1).next).pits).length) c290_0, .slice A290_1 (((((M.make g.rules now (M.nth g.moves k)).1).next).stores).length) c290_1, .int .i64 ((((M.make g.rules now (M.nth g.moves k)).1).next).player)]) el_32 rfl rfl rfl rfl (src_row (i := 0) und_32 rfl rfl) (by omega) (by omega) (by first | omega | (simp only [List.length_append, List.length_cons, List.length_nil] <;> omega)) (rfl)) (.inr rfl) ?_
      rintro v319 _ _ ⟨⟨g320, rfl⟩, rfl⟩ _
      refine JH.fact (row_form' (i := 7) rfl) (fun hf321 => ?_)
      obtain ⟨A321, c321, rfl, bl321, bh321⟩ := hf321
      refine znh ?_
      refine y1 7 ?_
      refine ybs rfl fun b322 => ?_
      refine y1 8 ?_
      refine JHo.e rfl (e_append (i := 7) (n' := (made ++ [((M.make g.rules now (M.nth g.moves k)).1)]).length) (vs' := vs184_7 ++ [.int .i64 (((M.make g.rules now (M.nth g.moves k)).1).move), .int .i64 (((M.make g.rules now (M.nth g.moves k)).1).gain), .bool (((M.make g.rules now (M.nth g.moves k)).1).again), .slice A190 (((((M.make g.rules now (M.nth g.moves k)).1).next).pits).length) c190, .slice A191 (((((M.make g.rules now (M.nth g.moves k)).1).next).stores).length) c191, .int .i64 ((((M.make g.rules now (M.nth g.moves k)).1).next).player)]) el_69 rfl rfl rfl rfl (src_row (i := 0) und_69 rfl rfl) (by omega) (by omega) (by first | omega | (simp only [List.length_append, List.length_cons, List.length_nil] <;> omega)) (rfl)) (.inr rfl) ?_
      rintro v324 _ _ ⟨⟨g325, rfl⟩, rfl⟩ _
      refine JH.fact (row_form' (i := 7) rfl) (fun hf326 => ?_)
      obtain ⟨A326, c326, rfl, bl326, bh326⟩ := hf326
      refine znh ?_
      refine JH.p 9 rfl (p_assign rfl) ?_
      refine JH.p 10 rfl (p_assign rfl) ?_
      refine yd ?_
      exact zm ⟨_, _, _, _, _, _, _, _, _, _, _, _, _, rfl, rfl, zt, zt, zt, zt⟩ (Up.refl _ _)
     refine ybs rfl fun b327 => ?_
     refine y1 4 ?_
     refine JHo.e rfl (e_append (i := 8) (n' := (out ++ [(((M.make g.rules now (M.nth g.moves k)).1).next)]).length) (vs' := vs184_6 ++ [.slice A290_0 (((((M.make g.rules now (M.nth g.moves k)).1).next).pits).length) c290_0, .slice A290_1 (((((M.make g.rules now (M.nth g.moves k)).1).next).stores).length) c290_1, .int .i64 ((((M.make g.rules now (M.nth g.moves k)).1).next).player)]) el_32 rfl rfl rfl rfl (src_row (i := 1) und_32 rfl rfl) (by omega) (by omega) (by first | omega | (simp only [List.length_append, List.length_cons, List.length_nil] <;> omega)) (rfl)) (.inr rfl) ?_
     rintro v329 _ _ ⟨⟨g330, rfl⟩, rfl⟩ _
     refine JH.fact (row_form' (i := 8) rfl) (fun hf331 => ?_)
     obtain ⟨A331, c331, rfl, bl331, bh331⟩ := hf331
     refine znh ?_
     refine y1 8 ?_
     refine JHo.e rfl (e_append (i := 7) (n' := (made ++ [((M.make g.rules now (M.nth g.moves k)).1)]).length) (vs' := vs184_7 ++ [.int .i64 (((M.make g.rules now (M.nth g.moves k)).1).move), .int .i64 (((M.make g.rules now (M.nth g.moves k)).1).gain), .bool (((M.make g.rules now (M.nth g.moves k)).1).again), .slice A190 (((((M.make g.rules now (M.nth g.moves k)).1).next).pits).length) c190, .slice A191 (((((M.make g.rules now (M.nth g.moves k)).1).next).stores).length) c191, .int .i64 ((((M.make g.rules now (M.nth g.moves k)).1).next).player)]) el_69 rfl rfl rfl rfl (src_row (i := 0) und_69 rfl rfl) (by omega) (by omega) (by first | omega | (simp only [List.length_append, List.length_cons, List.length_nil] <;> omega)) (rfl)) (.inr rfl) ?_
     rintro v332 _ _ ⟨⟨g333, rfl⟩, rfl⟩ _
     refine JH.fact (row_form' (i := 7) rfl) (fun hf334 => ?_)
     obtain ⟨A334, c334, rfl, bl334, bh334⟩ := hf334
     refine znh ?_
     refine JH.p 9 rfl (p_assign rfl) ?_
     refine JH.p 10 rfl (p_assign rfl) ?_
     refine yd ?_
     exact zm ⟨_, _, _, _, _, _, _, _, _, _, _, _, _, rfl, rfl, zt, zt, zt, zt⟩ (Up.refl _ _)
    refine ybs rfl fun b335 => ?_
    refine y1 3 ?_
    refine ybs rfl fun b337 => ?_
    refine y1 4 ?_
    refine JHo.e rfl (e_append (i := 8) (n' := (out ++ [(((M.make g.rules now (M.nth g.moves k)).1).next)]).length) (vs' := vs184_6 ++ [.slice A290_0 (((((M.make g.rules now (M.nth g.moves k)).1).next).pits).length) c290_0, .slice A290_1 (((((M.make g.rules now (M.nth g.moves k)).1).next).stores).length) c290_1, .int .i64 ((((M.make g.rules now (M.nth g.moves k)).1).next).player)]) el_32 rfl rfl rfl rfl (src_row (i := 0) und_32 rfl rfl) (by omega) (by omega) (by first | omega | (simp only [List.length_append, List.length_cons, List.length_nil] <;> omega)) (rfl)) (.inr rfl) ?_
    rintro v339 _ _ ⟨⟨g340, rfl⟩, rfl⟩ _
    refine JH.fact (row_form' (i := 8) rfl) (fun hf341 => ?_)
    obtain ⟨A341, c341, rfl, bl341, bh341⟩ := hf341
    refine znh ?_
    refine y1 8 ?_
    refine JHo.e rfl (e_append (i := 7) (n' := (made ++ [((M.make g.rules now (M.nth g.moves k)).1)]).length) (vs' := vs184_7 ++ [.int .i64 (((M.make g.rules now (M.nth g.moves k)).1).move), .int .i64 (((M.make g.rules now (M.nth g.moves k)).1).gain), .bool (((M.make g.rules now (M.nth g.moves k)).1).again), .slice A190 (((((M.make g.rules now (M.nth g.moves k)).1).next).pits).length) c190, .slice A191 (((((M.make g.rules now (M.nth g.moves k)).1).next).stores).length) c191, .int .i64 ((((M.make g.rules now (M.nth g.moves k)).1).next).player)]) el_69 rfl rfl rfl rfl (src_row (i := 1) und_69 rfl rfl) (by omega) (by omega) (by first | omega | (simp only [List.length_append, List.length_cons, List.length_nil] <;> omega)) (rfl)) (.inr rfl) ?_
    rintro v342 _ _ ⟨⟨g343, rfl⟩, rfl⟩ _
    refine JH.fact (row_form' (i := 7) rfl) (fun hf344 => ?_)
    obtain ⟨A344, c344, rfl, bl344, bh344⟩ := hf344
    refine znh ?_
    refine JH.p 9 rfl (p_assign rfl) ?_
    refine JH.p 10 rfl (p_assign rfl) ?_
    refine yd ?_
    refine zh [1, 0, 0, 0, 0, 0, 0, 0, 0, 0] ?_
    exact zm ⟨_, _, _, _, _, _, _, _, _, _, _, _, _, rfl, rfl, zt, zt, zt, zt⟩ (Up.refl _ _)
   refine JHo.q rfl (L9 0 rfl rfl) ?_
   refine y2 2 7 ?_ ?_
   ·
    refine ycs rfl rfl (fun w hw => c_impl_Position_copied (((M.make g.rules now (M.nth g.moves k)).1).next) (ok_ hw)) ?_
    intro A345_0 c345_0 bl345_0 bh345_0 A345_1 c345_1 bl345_1 bh345_1 f345
    refine y2 3 7 ?_ ?_
    ·
     refine ybs rfl fun b346 => ?_
     refine y2 4 7 ?_ ?_
     ·
      refine JHo.e rfl (e_append (i := 7) (n' := (out ++ [(((M.make g.rules now (M.nth g.moves k)).1).next)]).length) (vs' := vs184_6 ++ [.slice A345_0 (((((M.make g.rules now (M.nth g.moves k)).1).next).pits).length) c345_0, .slice A345_1 (((((M.make g.rules now (M.nth g.moves k)).1).next).stores).length) c345_1, .int .i64 ((((M.make g.rules now (M.nth g.moves k)).1).next).player)]) el_32 rfl rfl rfl rfl (src_row (i := 0) und_32 rfl rfl) (by omega) (by omega) (by first | omega | (simp only [List.length_append, List.length_cons, List.length_nil] <;> omega)) (rfl)) (.inr rfl) ?_
      rintro v348 _ _ ⟨⟨g349, rfl⟩, rfl⟩ _
      refine JH.fact (row_form' (i := 7) rfl) (fun hf350 => ?_)
      obtain ⟨A350, c350, rfl, bl350, bh350⟩ := hf350
      refine znh ?_
      refine y1 7 ?_
      refine ybs rfl fun b351 => ?_
      refine y1 8 ?_
      refine JHo.e rfl (e_append (i := 7) (n' := (made ++ [((M.make g.rules now (M.nth g.moves k)).1)]).length) (vs' := vs184_7 ++ [.int .i64 (((M.make g.rules now (M.nth g.moves k)).1).move), .int .i64 (((M.make g.rules now (M.nth g.moves k)).1).gain), .bool (((M.make g.rules now (M.nth g.moves k)).1).again), .slice A190 (((((M.make g.rules now (M.nth g.moves k)).1).next).pits).length) c190, .slice A191 (((((M.make g.rules now (M.nth g.moves k)).1).next).stores).length) c191, .int .i64 ((((M.make g.rules now (M.nth g.moves k)).1).next).player)]) el_69 rfl rfl rfl rfl (src_row (i := 0) und_69 rfl rfl) (by omega) (by omega) (by first | omega | (simp only [List.length_append, List.length_cons, List.length_nil] <;> omega)) (rfl)) (.inr rfl) ?_
      rintro v353 _ _ ⟨⟨g354, rfl⟩, rfl⟩ _
      refine JH.fact (row_form' (i := 7) rfl) (fun hf355 => ?_)
      obtain ⟨A355, c355, rfl, bl355, bh355⟩ := hf355
      refine znh ?_
      refine JH.p 9 rfl (p_assign rfl) ?_
      refine JH.p 10 rfl (p_assign rfl) ?_
      refine yd ?_
      exact zm ⟨_, _, _, _, _, _, _, _, _, _, _, _, _, rfl, rfl, zt, zt, zt, zt⟩ (Up.refl _ _)
     refine ybs rfl fun b356 => ?_
     refine y1 4 ?_
     refine JHo.e rfl (e_append (i := 8) (n' := (out ++ [(((M.make g.rules now (M.nth g.moves k)).1).next)]).length) (vs' := vs184_6 ++ [.slice A345_0 (((((M.make g.rules now (M.nth g.moves k)).1).next).pits).length) c345_0, .slice A345_1 (((((M.make g.rules now (M.nth g.moves k)).1).next).stores).length) c345_1, .int .i64 ((((M.make g.rules now (M.nth g.moves k)).1).next).player)]) el_32 rfl rfl rfl rfl (src_row (i := 1) und_32 rfl rfl) (by omega) (by omega) (by first | omega | (simp only [List.length_append, List.length_cons, List.length_nil] <;> omega)) (rfl)) (.inr rfl) ?_
     rintro v358 _ _ ⟨⟨g359, rfl⟩, rfl⟩ _
     refine JH.fact (row_form' (i := 8) rfl) (fun hf360 => ?_)
     obtain ⟨A360, c360, rfl, bl360, bh360⟩ := hf360
     refine znh ?_
     refine y1 8 ?_
     refine JHo.e rfl (e_append (i := 7) (n' := (made ++ [((M.make g.rules now (M.nth g.moves k)).1)]).length) (vs' := vs184_7 ++ [.int .i64 (((M.make g.rules now (M.nth g.moves k)).1).move), .int .i64 (((M.make g.rules now (M.nth g.moves k)).1).gain), .bool (((M.make g.rules now (M.nth g.moves k)).1).again), .slice A190 (((((M.make g.rules now (M.nth g.moves k)).1).next).pits).length) c190, .slice A191 (((((M.make g.rules now (M.nth g.moves k)).1).next).stores).length) c191, .int .i64 ((((M.make g.rules now (M.nth g.moves k)).1).next).player)]) el_69 rfl rfl rfl rfl (src_row (i := 0) und_69 rfl rfl) (by omega) (by omega) (by first | omega | (simp only [List.length_append, List.length_cons, List.length_nil] <;> omega)) (rfl)) (.inr rfl) ?_
     rintro v361 _ _ ⟨⟨g362, rfl⟩, rfl⟩ _
     refine JH.fact (row_form' (i := 7) rfl) (fun hf363 => ?_)
     obtain ⟨A363, c363, rfl, bl363, bh363⟩ := hf363
     refine znh ?_
     refine JH.p 9 rfl (p_assign rfl) ?_
     refine JH.p 10 rfl (p_assign rfl) ?_
     refine yd ?_
     exact zm ⟨_, _, _, _, _, _, _, _, _, _, _, _, _, rfl, rfl, zt, zt, zt, zt⟩ (Up.refl _ _)
    refine ybs rfl fun b364 => ?_
    refine y1 3 ?_
    refine ybs rfl fun b366 => ?_
    refine y1 4 ?_
    refine JHo.e rfl (e_append (i := 8) (n' := (out ++ [(((M.make g.rules now (M.nth g.moves k)).1).next)]).length) (vs' := vs184_6 ++ [.slice A345_0 (((((M.make g.rules now (M.nth g.moves k)).1).next).pits).length) c345_0, .slice A345_1 (((((M.make g.rules now (M.nth g.moves k)).1).next).stores).length) c345_1, .int .i64 ((((M.make g.rules now (M.nth g.moves k)).1).next).player)]) el_32 rfl rfl rfl rfl (src_row (i := 0) und_32 rfl rfl) (by omega) (by omega) (by first | omega | (simp only [List.length_append, List.length_cons, List.length_nil] <;> omega)) (rfl)) (.inr rfl) ?_
    rintro v368 _ _ ⟨⟨g369, rfl⟩, rfl⟩ _
    refine JH.fact (row_form' (i := 8) rfl) (fun hf370 => ?_)
    obtain ⟨A370, c370, rfl, bl370, bh370⟩ := hf370
    refine znh ?_
    refine y1 8 ?_
    refine JHo.e rfl (e_append (i := 7) (n' := (made ++ [((M.make g.rules now (M.nth g.moves k)).1)]).length) (vs' := vs184_7 ++ [.int .i64 (((M.make g.rules now (M.nth g.moves k)).1).move), .int .i64 (((M.make g.rules now (M.nth g.moves k)).1).gain), .bool (((M.make g.rules now (M.nth g.moves k)).1).again), .slice A190 (((((M.make g.rules now (M.nth g.moves k)).1).next).pits).length) c190, .slice A191 (((((M.make g.rules now (M.nth g.moves k)).1).next).stores).length) c191, .int .i64 ((((M.make g.rules now (M.nth g.moves k)).1).next).player)]) el_69 rfl rfl rfl rfl (src_row (i := 1) und_69 rfl rfl) (by omega) (by omega) (by first | omega | (simp only [List.length_append, List.length_cons, List.length_nil] <;> omega)) (rfl)) (.inr rfl) ?_
    rintro v371 _ _ ⟨⟨g372, rfl⟩, rfl⟩ _
    refine JH.fact (row_form' (i := 7) rfl) (fun hf373 => ?_)
    obtain ⟨A373, c373, rfl, bl373, bh373⟩ := hf373
    refine znh ?_
    refine JH.p 9 rfl (p_assign rfl) ?_
    refine JH.p 10 rfl (p_assign rfl) ?_
    refine yd ?_
    refine zh [1, 0, 0, 0, 0, 0, 0, 0, 0, 0] ?_
    exact zm ⟨_, _, _, _, _, _, _, _, _, _, _, _, _, rfl, rfl, zt, zt, zt, zt⟩ (Up.refl _ _)
   refine ybs rfl fun b374 => ?_
   refine y1 2 ?_
   refine ycs rfl rfl (fun w hw => c_impl_Position_copied (((M.make g.rules now (M.nth g.moves k)).1).next) (ok_ hw)) ?_
   intro A376_0 c376_0 bl376_0 bh376_0 A376_1 c376_1 bl376_1 bh376_1 f376
   refine y1 3 ?_
   refine ybs rfl fun b377 => ?_
   refine y1 4 ?_
   refine JHo.e rfl (e_append (i := 8) (n' := (out ++ [(((M.make g.rules now (M.nth g.moves k)).1).next)]).length) (vs' := vs184_6 ++ [.slice A376_0 (((((M.make g.rules now (M.nth g.moves k)).1).next).pits).length) c376_0, .slice A376_1 (((((M.make g.rules now (M.nth g.moves k)).1).next).stores).length) c376_1, .int .i64 ((((M.make g.rules now (M.nth g.moves k)).1).next).player)]) el_32 rfl rfl rfl rfl (src_row (i := 0) und_32 rfl rfl) (by omega) (by omega) (by first | omega | (simp only [List.length_append, List.length_cons, List.length_nil] <;> omega)) (rfl)) (.inr rfl) ?_
   rintro v379 _ _ ⟨⟨g380, rfl⟩, rfl⟩ _
   refine JH.fact (row_form' (i := 8) rfl) (fun hf381 => ?_)
   obtain ⟨A381, c381, rfl, bl381, bh381⟩ := hf381
   refine znh ?_
   refine y1 8 ?_
   refine JHo.e rfl (e_append (i := 7) (n' := (made ++ [((M.make g.rules now (M.nth g.moves k)).1)]).length) (vs' := vs184_7 ++ [.int .i64 (((M.make g.rules now (M.nth g.moves k)).1).move), .int .i64 (((M.make g.rules now (M.nth g.moves k)).1).gain), .bool (((M.make g.rules now (M.nth g.moves k)).1).again), .slice A190 (((((M.make g.rules now (M.nth g.moves k)).1).next).pits).length) c190, .slice A191 (((((M.make g.rules now (M.nth g.moves k)).1).next).stores).length) c191, .int .i64 ((((M.make g.rules now (M.nth g.moves k)).1).next).player)]) el_69 rfl rfl rfl rfl (src_row (i := 2) und_69 rfl rfl) (by omega) (by omega) (by first | omega | (simp only [List.length_append, List.length_cons, List.length_nil] <;> omega)) (rfl)) (.inr rfl) ?_
   rintro v382 _ _ ⟨⟨g383, rfl⟩, rfl⟩ _
   refine JH.fact (row_form' (i := 7) rfl) (fun hf384 => ?_)
   obtain ⟨A384, c384, rfl, bl384, bh384⟩ := hf384
   refine znh ?_
   refine JH.p 9 rfl (p_assign rfl) ?_
   refine JH.p 10 rfl (p_assign rfl) ?_
   refine yd ?_
   refine zh [2, 0, 0, 0, 0, 0, 0, 0, 0, 0] ?_
   exact zm ⟨_, _, _, _, _, _, _, _, _, _, _, _, _, rfl, rfl, zt, zt, zt, zt⟩ (Up.refl _ _)
  rintro _ _ u289 ⟨A199, c199, A204, c204, b200, b195, A194_0, c194_0, A194_1, c194_1, f194, g203, g198, rfl, rfl, f289_0, f289_1, f289_2, f289_3⟩ x289
  refine zn ?_
  refine Js.joinL (i := 5) (j := 2) (Vs := lPosition (out ++ [(((M.make g.rules now (M.nth g.moves k)).1).next)])) rfl rfl (lPosition_snoc _ _) (fun f386 => ?_)
  refine zn ?_
  refine Js.vals (Ts := cResultL ((M.make g.rules now (M.nth g.moves k)).1)) (vs := [.int .i64 (((M.make g.rules now (M.nth g.moves k)).1).move), .int .i64 (((M.make g.rules now (M.nth g.moves k)).1).gain), .bool (((M.make g.rules now (M.nth g.moves k)).1).again), .slice A190 (((((M.make g.rules now (M.nth g.moves k)).1).next).pits).length) c190, .slice A191 (((((M.make g.rules now (M.nth g.moves k)).1).next).stores).length) c191, .int .i64 ((((M.make g.rules now (M.nth g.moves k)).1).next).player)]) (fun w => ⟨[], [], rfl, ⟨rfl, rfl⟩, ⟨[], [], rfl, ⟨rfl, rfl⟩, ⟨[], [], rfl, ⟨rfl, rfl⟩, ⟨[], [], rfl, ⟨rfl, rfl⟩, ⟨[], [], rfl, ⟨rfl, rfl⟩, ⟨[], [], rfl, ⟨rfl, rfl⟩, rfl⟩⟩⟩⟩⟩⟩) ?_
  refine Js.joinL (i := 5) (j := 0) (Vs := lResultL (made ++ [((M.make g.rules now (M.nth g.moves k)).1)])) rfl rfl (lResultL_snoc _ _) (fun f388 => ?_)
  refine zn ?_
  refine Js.blockEnd <| Js.region <| Qp rfl rfl <| Qm rfl <| JL.nil ?_
  refine zd [0, 0, 3, 3, 3, 3] rfl fun u389 x389 => ?_
  exact zag ⟨k + 1, (((M.make g.rules now (M.nth g.moves k)).1).next), out ++ [(((M.make g.rules now (M.nth g.moves k)).1).next)], made ++ [((M.make g.rules now (M.nth g.moves k)).1)], _, _, _, _, _, _, _, _, _, _, _, _, _, _, rfl, rfl, by exact hR2, by rw [hO]; exact (M.hist_snoc _ _ _).symm, by exact hl2.1, by exact hl2.2, zu, zu, zu, zu, (Ty.mono _ h190 (x289.vis.trans x389.vis)), zu, zu, (Ty.mono _ h191 (x289.vis.trans x389.vis)), zu, zu, rfl⟩ (((x184.trans x189).trans x289).trans x389)
 obtain ⟨hP1, hP2, hP3⟩ := hR.played (by omega)
 rw [← hO] at hP2
 refine zx ?_
 have hq0 : out = M.playedP g := by first | exact hP1.symm | exact congrArg Value.bool hP1.symm | exact hP2.symm | exact hP3.symm
 have hq1 : made = M.playedR g := by first | exact hP1.symm | exact congrArg Value.bool hP1.symm | exact hP2.symm | exact hP3.symm
 have hq2 : true = M.playedOk g := by first | exact hP1.symm | exact congrArg Value.bool hP1.symm | exact hP2.symm | exact hP3.symm
 refine zS <| Qm rfl <| Qm rfl <| Qa rfl <| Qa rfl <| Qa rfl <| JL.nil ?_
 exact zro (x95.trans x184)

set_option maxHeartbeats 1000000 in
theorem c_impl_ValidGame (g : M.Gam) {v_g : Value} {w : World} (h_g : (Ty.agg (cGame g)).ok w v_g) (r0 : g.start.pits.length ≤ 4194304 := by exact om_) (r1 : g.start.stores.length ≤ 4194304 := by exact om_) (r2 : g.moves.length ≤ 4194304 := by exact om_) (r3 : g.now.pits.length ≤ 4194304 := by exact om_) (r4 : g.now.stores.length ≤ 4194304 := by exact om_) : RetV Tryz.prog 35 [v_g] w (.bool (M.okG g)) := by
 revert v_g; apply opn
 intro A1 c1 h1 bl1 bh1 A2 c2 h2 bl2 bh2 A3 c3 h3 bl3 bh3 A4 c4 h4 bl4 bh4 A5 c5 h5 bl5 bh5
 refine enter @Tryz.func35 @Tryz.ntmps35 rfl rfl ?_
 refine zent ?_
 refine zS <| zb rfl fun b6 => Qa rfl <| zJ <| zS <| Qf fh rfl <| Q9 0 rfl rfl ?_
 refine Qf fh rfl <| Q9 0 rfl rfl ?_
 refine zv rfl (fun w hw => c_impl_ValidPosition g.rules g.start (ok_ hw) (ok_ hw)) <| Qt rfl <| Qm rfl <| zg (Gd.f1 rfl rfl rfl) (fun hc => p_fieldAddr fld_30_2.h rfl) <| zgq (Gd.f1 rfl rfl rfl) (fun hc => q_load1 ty_26.h (gh hc rfl) (Mem.box (i := 0) rfl rfl)) <| zg (Gd.f1 rfl rfl rfl) (fun hc => p_len el_26 (gh hc rfl)) <| zg (Gd.f1 rfl rfl rfl) (fun hc => p_gtr (gh hc rfl) rfl) <| Qq (p_pickOr rfl rfl rfl) <| Qm rfl <| zg (Gd.f1 rfl rfl rfl) (fun hc => p_fieldAddr fld_30_4.h rfl) <| zgq (Gd.f1 rfl rfl rfl) (fun hc => q_load1 ty_2.h (gh hc rfl) (Mem.box (i := 0) rfl rfl)) <| zgv (Gd.f1 rfl rfl rfl) (fun hc => (opds_3 (gh hc rfl) rfl rfl)) (fun hc => (fun w hw => c_impl_between g.resigned (-1) 1)) ?_
 refine zg (Gd.f1 rfl rfl rfl) (fun hc => p_not (gh hc rfl)) <| Qq (p_pickOr rfl rfl rfl) <| JL.nil ?_
 refine zi (fun h7 h7' => ?_) fun h7 h7' => ?_
 ·
  refine zS <| Qa rfl <| JL.nil ?_
  refine zR (Up.refl _ _) ?_
  exact congrArg (fun b => Ending.returned (.bool b)) (M.okG_no (by simpa [or_assoc] using h7)).symm
 have ho : M.okP g.rules g.start = true ∧ (g.moves.length : Int) ≤ 120 ∧ M.betw g.resigned (-1) 1 = true := by simpa [and_assoc] using h7
 refine Js.skip <| zS <| Q9 0 rfl rfl ?_
 refine zp rfl (fun w hw => c_impl_Game_played g (ok_ hw)) ?_
 intro u8 x8 A9 c9 h9 bl9 bh9 A10 c10 h10 bl10 bh10
 refine Qm rfl <| Qx rfl rfl <| Qx rfl rfl <| Qx rfl rfl <| Qa rfl <| Qa rfl <| Qa rfl <| zJ ?_
 rcases Bool.eq_false_or_eq_true (M.playedOk g) with h11 | h11
 ·
  obtain ⟨hl1, hl2⟩ := M.playedP_len h11
  have hl3 := M.okP_len (M.lastPos_ok _ _ ho.1 (M.runs_ok g.moves _ ho.1))
  refine zdr [] ?_
  refine JH.p 0 rfl (p_move rfl) ?_
  refine JH.p 1 rfl (p_move rfl) ?_
  refine JH.pg 2 rfl (Gd.t1 rfl rfl rfl) (fun hc => p_move rfl) ?_
  refine JH.pg 3 rfl (Gd.t1 rfl rfl rfl) (fun hc => p_move rfl) ?_
  refine JH.pg 4 rfl (Gd.t1 rfl rfl rfl) (fun hc => p_len el_32 (gvt rfl hc)) ?_
  refine JH.pg 5 rfl (Gd.t1 rfl rfl rfl) (fun hc => p_sub (gvt rfl hc) rfl (IntWalk.i64_in _ (by omega))) ?_
  obtain ⟨y12, hy12⟩ : ∃ x, (M.playedP g)[((((M.playedP g).length) : Int) - 1).toNat]? = some x := ⟨_, List.getElem?_eq_getElem (by omega)⟩
  obtain ⟨b12, o12, A12_0, c12_0, A12_1, c12_1, he12, hr12, h12_0, h12_1, bl12_0, bh12_0, bl12_1, bh12_1⟩ := elem_Position h9 hy12
  refine JH.pg 6 rfl (Gd.t1 rfl rfl rfl) (fun hc => p_indexAddr el_32 (gvt rfl hc) (gvt rfl hc) (by omega) (by omega) he12) ?_
  refine JH.wg 7 rfl (Gd.t1 rfl rfl rfl) (fun hc os' u' hv => LS 0 (hr12.vis hv) (gvt rfl hc)) ?_
  refine JH.pg 8 rfl (Gd.t1 rfl rfl rfl) (fun hc => p_fieldAddr fld_30_3.h rfl) ?_
  refine JH.qg 9 rfl (Gd.t1 rfl rfl rfl) (fun hc => L9 0 (gvt rfl hc) rfl) ?_
  refine y1 10 ?_
  refine JHo.eT rfl (Gd.t1 rfl rfl rfl) (show (M.playedOk g) = true by simp [h11]) (e_callV fn_80.h (opds_2 (gvt rfl (show (M.playedOk g) = true by simp [h11])) (gvt rfl (show (M.playedOk g) = true by simp [h11]))) (fun w hw => c_impl_SamePosition y12 g.now (ok_ hw) (ok_ hw) (r0 := (M.last_len hl2 hy12 (by omega) hl3).1) (r1 := (M.last_len hl2 hy12 (by omega) hl3).2))) (.inl rfl) ?_
  rintro _ _ _ ⟨rfl, rfl, rfl⟩ _
  refine JH.p 11 rfl (p_pickAnd2 rfl rfl rfl) ?_
  refine JH.p 12 rfl (p_assign rfl) ?_
  refine yd ?_
  refine zR x8 ?_
  first | (simp only [outV]; rw [M.okG_yes ho.1 ho.2.1 ho.2.2 (by assumption) (by assumption) (by omega)]; simp [*]; done) | (simp only [outV]; rw [M.okG_broken (by assumption)]; simp [*]; done)
 have hl3 := M.okP_len (M.lastPos_ok _ _ ho.1 (M.runs_ok g.moves _ ho.1))
 refine zdr [] ?_
 refine JH.p 0 rfl (p_move rfl) ?_
 refine JH.p 1 rfl (p_move rfl) ?_
 refine JH.pg (v := undef) 2 rfl (Gd.t1 rfl rfl rfl) (fun hc => absurd hc (by simp [h11])) ?_
 refine JH.pg (v := undef) 3 rfl (Gd.t1 rfl rfl rfl) (fun hc => absurd hc (by simp [h11])) ?_
 refine JH.pg (v := undef) 4 rfl (Gd.t1 rfl rfl rfl) (fun hc => absurd hc (by simp [h11])) ?_
 refine JH.pg (v := undef) 5 rfl (Gd.t1 rfl rfl rfl) (fun hc => absurd hc (by simp [h11])) ?_
 refine JH.pg (v := undef) 6 rfl (Gd.t1 rfl rfl rfl) (fun hc => absurd hc (by simp [h11])) ?_
 refine JH.pg (v := undef) 7 rfl (Gd.t1 rfl rfl rfl) (fun hc => absurd hc (by simp [h11])) ?_
 refine JH.pg (v := undef) 8 rfl (Gd.t1 rfl rfl rfl) (fun hc => absurd hc (by simp [h11])) ?_
 refine JH.pg (v := undef) 9 rfl (Gd.t1 rfl rfl rfl) (fun hc => absurd hc (by simp [h11])) ?_
 refine y1 10 ?_
 refine JHo.qg (v := .bool false) rfl (Gd.t1 rfl rfl rfl) (fun hc => absurd hc (by simp [h11])) ?_
 refine JH.p 11 rfl (p_pickAnd rfl rfl rfl) ?_
 refine JH.p 12 rfl (p_assign rfl) ?_
 refine yd ?_
 refine zR x8 ?_
 first | (simp only [outV]; rw [M.okG_yes ho.1 ho.2.1 ho.2.2 (by assumption) (by assumption) (by omega)]; simp [*]; done) | (simp only [outV]; rw [M.okG_broken (by assumption)]; simp [*]; done)

set_option maxHeartbeats 1000000 in
theorem c_impl_repeats (list : List M.Pos) {v_list : Value} (p : M.Pos) {v_p : Value} {w : World} (h_list : (Ty.sl 28 3 list.length (lPosition list)).ok w v_list) (h_p : (Ty.agg (cPosition p)).ok w v_p) (r0 : list.length ≤ 4194304 := by exact om_) (r1 : ∀ (k : Nat) (q : M.Pos), list[k]? = some q → q.pits.length ≤ 4194304 ∧ q.stores.length ≤ 4194304 := by exact om_) (r2 : p.pits.length ≤ 4194304 := by exact om_) (r3 : p.stores.length ≤ 4194304 := by exact om_) : RetV Tryz.prog 56 [v_list, v_p] w (.int .i64 (M.count p list)) := by
 revert v_list; apply opn
 intro A1 c1 h1 bl1 bh1
 have h_list := h1
 revert v_p; apply opn
 intro A2 c2 h2 bl2 bh2 A3 c3 h3 bl3 bh3
 refine enter @Tryz.func56 @Tryz.ntmps56 rfl rfl ?_
 refine zent ?_
 refine zS <| zb rfl fun b4 => Qa rfl <| zN <| Qa rfl <| zJ <| zS <| Qm rfl <| Qz rfl <| Qm rfl <| JL.nil <| Js.block ?_
 refine zl [3, 8, 9] (fun F U l os u m => ∃ (k : Nat) (n : Int), l = F [(5, .int .i64 n), (10, .int .i64 (k : Int))] ∧ os = U [] ∧ (n = M.count p (list.take k)) ∧ (k ≤ list.length) ∧ (0 ≤ n) ∧ (n ≤ k) ∧ m = list.length - k) ⟨0, 0, rfl, rfl, by rfl, zt, zt, zt, rfl⟩ ?_
 rintro _ _ u5 _ ⟨k, n, rfl, rfl, hn, hk, n0, n1, rfl⟩ x5
 refine zn ?_
 refine zS <| Ql rfl rfl <| zJ ?_
 refine zi (fun h6 h6' => ?_) fun h6 h6' => ?_
 ·
  obtain ⟨y7, hy7⟩ : ∃ x, list[k]? = some x := ⟨_, List.getElem?_eq_getElem (by omega)⟩
  obtain ⟨b7, o7, A7_0, c7_0, A7_1, c7_1, he7, hr7, h7_0, h7_1, bl7_0, bh7_0, bl7_1, bh7_1⟩ := elem_Position (Ty.mono _ h1 x5.vis) hy7
  have hlq := r1 _ _ hy7
  refine Js.skip <| Js.seq <| Js.block <| zS <| Qq (p_indexAddr el_32 rfl rfl (by omega) (by omega) he7) <| QS 0 hr7 rfl ?_
  refine za zeh fun b8 => zw 0 rfl rfl rfl ?_
  refine zN <| Q9 0 rfl rfl ?_
  refine Q9 1 rfl rfl ?_
  refine zv rfl (fun w hw => c_impl_SamePosition y7 p (ok_ hw) (ok_ hw)) <| JL.nil ?_
  refine zi (fun h9 h9' => ?_) fun h9 h9' => ?_
  ·
   have hs : M.sameP _ p = true := h9
   refine Js.region <| Qm rfl <| Qp rfl rfl <| Qa rfl <| JL.nil <| Js.blockEnd <| Js.region <| Qp rfl rfl <| Qm rfl <| JL.nil ?_
   refine zd [1] rfl fun u10 x10 => ?_
   exact zag ⟨k + 1, n + 1, rfl, rfl, by rw [M.count_step (by assumption)]; simp [hs, hn], zt, zt, zt, rfl⟩ (x5.trans x10)
  have hs : M.sameP _ p = false := h9
  refine Js.skip <| Js.blockEnd <| Js.region <| Qp rfl rfl <| Qm rfl <| JL.nil ?_
  refine zd [1] rfl fun u11 x11 => ?_
  exact zag ⟨k + 1, n, rfl, rfl, by rw [M.count_step (by assumption)]; simp [hs, hn], zt, zt, zt, rfl⟩ (x5.trans x11)
 have hE : n = M.count p list := by rw [hn, List.take_of_length_le (by omega)]
 refine zx ?_
 refine zS <| Qm rfl <| Qa rfl <| JL.nil ?_
 refine zR x5 ?_
 rw [hE]; rfl

set_option maxHeartbeats 1000000 in
theorem c_impl_RepeatsOf (g : M.Gam) {v_g : Value} {w : World} (h_g : (Ty.agg (cGame g)).ok w v_g) (r0 : g.start.pits.length ≤ 4194304 := by exact om_) (r1 : g.start.stores.length ≤ 4194304 := by exact om_) (r2 : g.moves.length ≤ 4194304 := by exact om_) (r3 : g.now.pits.length ≤ 4194304 := by exact om_) (r4 : g.now.stores.length ≤ 4194304 := by exact om_) : RetV Tryz.prog 14 [v_g] w (.tuple #[.int .i64 (if M.okG g = true then M.count g.now (M.playedP g) else 0), .int .i64 (if M.okG g = true then 0 else 1)]) := by
 revert v_g; apply opn
 intro A1 c1 h1 bl1 bh1 A2 c2 h2 bl2 bh2 A3 c3 h3 bl3 bh3 A4 c4 h4 bl4 bh4 A5 c5 h5 bl5 bh5
 refine enter @Tryz.func14 @Tryz.ntmps14 rfl rfl ?_
 refine zent ?_
 refine zS <| zb rfl fun b6 => Qa rfl <| Qa rfl <| zJ <| zS <| Q9 0 rfl rfl ?_
 refine zv rfl (fun w hw => c_impl_ValidGame g (ok_ hw)) <| Qt rfl <| JL.nil ?_
 refine zi (fun h7 h7' => ?_) fun h7 h7' => ?_
 ·
  have hno : M.okG g = false := by simpa using h7
  refine zS <| Qa rfl <| Qa rfl <| JL.nil ?_
  refine zR (Up.refl _ _) ?_
  first | (simp only [outV, hno]; rfl) | (simp only [outV, hok]; rfl)
 have hok : M.okG g = true := by simpa using h7
 obtain ⟨k1, k2, k3, k4, k5, k6, k7, k8, k9⟩ := M.okG_parts hok
 have k10 := M.okP_len (M.okG_now hok)
 have k11 := M.okP_len k1
 (have k12 : (M.playedP g).length = g.moves.length + 1 := by rw [k6, M.hist_length, k8])
 have k13 : (M.playedR g).length = g.moves.length := by rw [k7, k8]
 refine Js.skip <| zS <| Q9 0 rfl rfl ?_
 refine zp rfl (fun w hw => c_impl_Game_played g (ok_ hw)) ?_
 intro u8 x8 A9 c9 h9 bl9 bh9 A10 c10 h10 bl10 bh10
 refine Qm rfl <| Qx rfl rfl <| Qx rfl rfl <| Qx rfl rfl <| Qa rfl <| Qa rfl <| Qa rfl <| zN <| Qm rfl <| Qf fh rfl <| Q9 0 rfl rfl ?_
 refine zv rfl (fun w hw => c_impl_repeats (M.playedP g) g.now (ok_ hw) (ok_ hw) (r1 := (fun _ _ hq => M.okP_len (M.hist_okG hok hq)))) <| Qa rfl <| Qa rfl <| JL.nil ?_
 refine zR x8 ?_
 first | (simp only [outV, hno]; rfl) | (simp only [outV, hok]; rfl)

end Go.Proofs.YtejnmechnhgmfaaGreat

namespace Go.Proofs.YtejnmechnhgmfaaGreat
open Go.RowKit

set_option maxHeartbeats 1000000 in
theorem c_impl_GainsOf (g : M.Gam) {v_g : Value} {w : World} (h_g : (Ty.agg (cGame g)).ok w v_g) (r0 : g.start.pits.length ≤ 4194304 := by exact om_) (r1 : g.start.stores.length ≤ 4194304 := by exact om_) (r2 : g.moves.length ≤ 4194304 := by exact om_) (r3 : g.now.pits.length ≤ 4194304 := by exact om_) (r4 : g.now.stores.length ≤ 4194304 := by exact om_) : Ret Tryz.prog 12 [v_g] w (Ty.tup [Ty.ints 2 (M.gainsR g), Ty.int (M.okC g)]) := by
 revert v_g; apply opn
 intro A1 c1 h1 bl1 bh1 A2 c2 h2 bl2 bh2 A3 c3 h3 bl3 bh3 A4 c4 h4 bl4 bh4 A5 c5 h5 bl5 bh5
 refine enter @Tryz.func12 @Tryz.ntmps12 rfl rfl ?_
 refine zent ?_
 refine zS <| zb rfl fun b6 => Qa rfl <| Qa rfl <| zJ <| zS <| Q9 0 rfl rfl ?_
 refine zv rfl (fun w hw => c_impl_ValidGame g (ok_ hw)) <| Qt rfl <| JL.nil ?_
 refine zi (fun h7 h7' => ?_) fun h7 h7' => ?_
 ·
  have hno : M.okG g = false := by simpa using h7
  have hC := M.okC_no hno
  have hE := M.gainsR_no hno
  have hq0 : [] = M.gainsR g := by first | (rw [hE]; done) | (rw [hC]; done)
  have hq1 : 1 = M.okC g := by first | (rw [hE]; done) | (rw [hC]; done)
  refine zS <| Qa rfl <| Qa rfl <| JL.nil ?_
  exact zro (Up.refl _ _)
 have hok : M.okG g = true := by simpa using h7
 obtain ⟨k1, k2, k3, k4, k5, k6, k7, k8, k9⟩ := M.okG_parts hok
 have hnow := M.okG_now hok
 have k10 := M.okP_len hnow
 have k11 := M.okP_len k1
 (have k12 : (M.playedP g).length = g.moves.length + 1 := by rw [k6, M.hist_length, k8])
 have k13 : (M.playedR g).length = g.moves.length := by rw [k7, k8]
 have hC := M.okC_yes hok
 refine Js.skip <| zS <| Q9 0 rfl rfl ?_
 refine zp rfl (fun w hw => c_impl_Game_played g (ok_ hw)) ?_
 intro u8 x8 A9 c9 h9 bl9 bh9 A10 c10 h10 bl10 bh10
 refine Qm rfl <| Qx rfl rfl <| Qx rfl rfl <| Qx rfl rfl <| Qa rfl <| Qa rfl <| Qa rfl <| zN <| zbs fun b11 => ?_
 refine Qa rfl <| zJ <| zS <| Qm rfl <| Qz rfl <| Qm rfl <| JL.nil <| Js.block ?_
 refine zl [20, 21] (fun F U l os u m => ∃ (k : Nat) (out : List Int) (A13_7 : Option Addr) (c13_7 : Nat) (g13_7 : List Nat), l = F [(7, .slice A13_7 out.length c13_7), (22, .int .i64 (k : Int))] ∧ os = U [some (rowO 2 1 (.slice A13_7 out.length c13_7) out.length (ints_ out) g13_7)] ∧ (out = M.gains ((M.playedR g).take k)) ∧ (k ≤ (M.playedR g).length) ∧ (out.length = k) ∧ (out.length ≤ c13_7) ∧ (c13_7 ≤ 9223372036854775807) ∧ m = (M.playedR g).length - k) ⟨0, [], _, _, _, rfl, rfl, by rfl, zt, by rfl, zu, zu, rfl⟩ ?_
 rintro _ _ u13 _ ⟨k, out, A13_7, c13_7, g13_7, rfl, rfl, hO, hk, hl, f13_3, f13_4, rfl⟩ x13
 refine zn ?_
 refine zS <| Ql rfl rfl <| zJ ?_
 refine zi (fun h14 h14' => ?_) fun h14 h14' => ?_
 ·
  obtain ⟨y15, hy15⟩ : ∃ x, (M.playedR g)[k]? = some x := ⟨_, List.getElem?_eq_getElem (by omega)⟩
  obtain ⟨b15, o15, V15_3, V15_4, V15_5, he15, hr15, hv15_3, hv15_4, hv15_5⟩ := elem_ResultL (Ty.mono _ h10 x13.vis) hy15
  refine Js.skip <| Js.seq <| Js.block <| zS <| Qq (p_indexAddr el_69 rfl rfl (by omega) (by omega) he15) <| QS 0 hr15 rfl ?_
  refine za zeh fun b16 => zw 0 rfl rfl rfl ?_
  refine zG <| Qm rfl <| Qf fh rfl <| Q0 0 rfl rfl rfl <| zbs fun b17 => ?_
  refine JL.e (e_append (i := 2) (n' := (out ++ [y15.gain]).length) (vs' := ints_ (out ++ [y15.gain])) el_26 rfl rfl rfl rfl (src_row (i := 0) und_26 rfl rfl) (by omega) (by omega) (by first | omega | (simp only [List.length_append, List.length_cons, List.length_nil] <;> omega)) (by simp [ints_])) ?_
  rintro v19 _ _ ⟨⟨g20, rfl⟩, rfl⟩ _
  refine JL.fact (row_form' (i := 2) rfl) (fun hf21 => ?_)
  obtain ⟨A21, c21, rfl, bl21, bh21⟩ := hf21
  refine znl ?_
  refine Qa rfl <| JL.nil <| Js.blockEnd <| Js.region <| Qp rfl rfl <| Qm rfl <| JL.nil ?_
  refine zd [2, 2] rfl fun u22 x22 => ?_
  exact zag ⟨k + 1, out ++ [y15.gain], _, _, _, rfl, rfl, by rw [hO]; exact (M.gains_step (by assumption)).symm, zt, by simp [hl], zu, zu, rfl⟩ (x13.trans x22)
 have hE : M.gainsR g = out := by rw [M.gainsR_yes hok, hO, List.take_of_length_le (by have := h14'; omega)]
 refine zx ?_
 have hq0 : out = M.gainsR g := by first | (rw [hE]; done) | (rw [hC]; done)
 have hq1 : 0 = M.okC g := by first | (rw [hE]; done) | (rw [hC]; done)
 refine zS <| Qm rfl <| Qa rfl <| Qa rfl <| JL.nil ?_
 exact zro (x8.trans x13)

set_option maxHeartbeats 1000000 in
theorem c_impl_MoversOf (g : M.Gam) {v_g : Value} {w : World} (h_g : (Ty.agg (cGame g)).ok w v_g) (r0 : g.start.pits.length ≤ 4194304 := by exact om_) (r1 : g.start.stores.length ≤ 4194304 := by exact om_) (r2 : g.moves.length ≤ 4194304 := by exact om_) (r3 : g.now.pits.length ≤ 4194304 := by exact om_) (r4 : g.now.stores.length ≤ 4194304 := by exact om_) : Ret Tryz.prog 10 [v_g] w (Ty.tup [Ty.ints 2 (M.moversR g), Ty.int (M.okC g)]) := by
 revert v_g; apply opn
 intro A1 c1 h1 bl1 bh1 A2 c2 h2 bl2 bh2 A3 c3 h3 bl3 bh3 A4 c4 h4 bl4 bh4 A5 c5 h5 bl5 bh5
 refine enter @Tryz.func10 @Tryz.ntmps10 rfl rfl ?_
 refine zent ?_
 refine zS <| zb rfl fun b6 => Qa rfl <| Qa rfl <| zJ <| zS <| Q9 0 rfl rfl ?_
 refine zv rfl (fun w hw => c_impl_ValidGame g (ok_ hw)) <| Qt rfl <| JL.nil ?_
 refine zi (fun h7 h7' => ?_) fun h7 h7' => ?_
 ·
  have hno : M.okG g = false := by simpa using h7
  have hC := M.okC_no hno
  have hE := M.moversR_no hno
  have hq0 : [] = M.moversR g := by first | (rw [hE]; done) | (rw [hC]; done)
  have hq1 : 1 = M.okC g := by first | (rw [hE]; done) | (rw [hC]; done)
  refine zS <| Qa rfl <| Qa rfl <| JL.nil ?_
  exact zro (Up.refl _ _)
 have hok : M.okG g = true := by simpa using h7
 obtain ⟨k1, k2, k3, k4, k5, k6, k7, k8, k9⟩ := M.okG_parts hok
 have hnow := M.okG_now hok
 have k10 := M.okP_len hnow
 have k11 := M.okP_len k1
 (have k12 : (M.playedP g).length = g.moves.length + 1 := by rw [k6, M.hist_length, k8])
 have k13 : (M.playedR g).length = g.moves.length := by rw [k7, k8]
 have hC := M.okC_yes hok
 refine Js.skip <| zS <| Q9 0 rfl rfl ?_
 refine zp rfl (fun w hw => c_impl_Game_played g (ok_ hw)) ?_
 intro u8 x8 A9 c9 h9 bl9 bh9 A10 c10 h10 bl10 bh10
 have hl13 : (((M.playedP g).drop 0).take ((((((M.playedP g).length) : Int) - 1).toNat) - 0)).length = (((((M.playedP g).length) : Int) - 1).toNat) - 0 := by rw [List.length_take, List.length_drop]; omega
 have hs13 := lPosition_cut (a := 0) (b := ((((M.playedP g).length) : Int) - 1).toNat) (m := c9) h9 (by omega) (by omega) (by omega) (by omega) hl13
 refine Qm rfl <| Qx rfl rfl <| Qx rfl rfl <| Qx rfl rfl <| Qa rfl <| Qa rfl <| Qa rfl <| zN <| zbs fun b11 => ?_
 refine Qa rfl <| zJ <| zS <| Qm rfl <| Qm rfl <| Qz rfl <| Qs rfl rfl <| Qq (p_cast (v' := .slice (cutA 3 A9 0 c9) ((((M.playedP g).drop 0).take ((((((M.playedP g).length) : Int) - 1).toNat) - 0)).length) (c9 - 0)) (p_slice (lo' := 0) (hi' := ((((M.playedP g).length) : Int) - 1).toNat) (mx' := c9) el_32 rfl rfl ⟨_, by rw [Int.toNat_of_nonneg (by omega)]; exact rfl, by omega⟩ rfl) (by rw [hl13])) <| Qz rfl <| Qm rfl <| JL.nil <| Js.block ?_
 refine zl [24, 25] (fun F U l os u m => ∃ (k : Nat) (out : List Int) (A14_7 : Option Addr) (c14_7 : Nat) (g14_7 : List Nat), l = F [(7, .slice A14_7 out.length c14_7), (26, .int .i64 (k : Int))] ∧ os = U [some (rowO 2 1 (.slice A14_7 out.length c14_7) out.length (ints_ out) g14_7)] ∧ (out = M.movers ((M.playedP g).take k)) ∧ (k ≤ g.moves.length) ∧ (out.length = k) ∧ (out.length ≤ c14_7) ∧ (c14_7 ≤ 9223372036854775807) ∧ m = g.moves.length - k) ⟨0, [], _, _, _, rfl, rfl, by rfl, zt, by rfl, zu, zu, rfl⟩ ?_
 rintro _ _ u14 _ ⟨k, out, A14_7, c14_7, g14_7, rfl, rfl, hO, hk, hl, f14_3, f14_4, rfl⟩ x14
 refine zn ?_
 refine zS <| Ql rfl rfl <| zJ ?_
 refine zi (fun h15 h15' => ?_) fun h15 h15' => ?_
 ·
  obtain ⟨y16, hy16⟩ : ∃ x, (((M.playedP g).drop 0).take ((((((M.playedP g).length) : Int) - 1).toNat) - 0))[k]? = some x := ⟨_, List.getElem?_eq_getElem (by omega)⟩
  obtain ⟨b16, o16, A16_0, c16_0, A16_1, c16_1, he16, hr16, h16_0, h16_1, bl16_0, bh16_0, bl16_1, bh16_1⟩ := elem_Position (Ty.mono _ hs13 x14.vis) hy16
  refine Js.skip <| Js.seq <| Js.block <| zS <| Qq (p_indexAddr el_32 rfl rfl (by omega) (by omega) he16) <| QS 0 hr16 rfl ?_
  refine za zeh fun b17 => zw 0 rfl rfl rfl ?_
  refine zG <| Qm rfl <| Qf fh rfl <| Q0 0 rfl rfl rfl <| zbs fun b18 => ?_
  refine JL.e (e_append (i := 2) (n' := (out ++ [y16.player]).length) (vs' := ints_ (out ++ [y16.player])) el_26 rfl rfl rfl rfl (src_row (i := 0) und_26 rfl rfl) (by omega) (by omega) (by first | omega | (simp only [List.length_append, List.length_cons, List.length_nil] <;> omega)) (by simp [ints_])) ?_
  rintro v20 _ _ ⟨⟨g21, rfl⟩, rfl⟩ _
  refine JL.fact (row_form' (i := 2) rfl) (fun hf22 => ?_)
  obtain ⟨A22, c22, rfl, bl22, bh22⟩ := hf22
  refine znl ?_
  refine Qa rfl <| JL.nil <| Js.blockEnd <| Js.region <| Qp rfl rfl <| Qm rfl <| JL.nil ?_
  refine zd [2, 2] rfl fun u23 x23 => ?_
  exact zag ⟨k + 1, out ++ [y16.player], _, _, _, rfl, rfl, by rw [hO]; exact (M.movers_step (M.take_get (by assumption))).symm, zt, by simp [hl], zu, zu, rfl⟩ (x14.trans x23)
 have hE : M.moversR g = out := by rw [M.moversR_yes hok, hO, show k = g.moves.length by have := h15'; omega]
 refine zx ?_
 have hq0 : out = M.moversR g := by first | (rw [hE]; done) | (rw [hC]; done)
 have hq1 : 0 = M.okC g := by first | (rw [hE]; done) | (rw [hC]; done)
 refine zS <| Qm rfl <| Qa rfl <| Qa rfl <| JL.nil ?_
 exact zro (x8.trans x14)

set_option maxHeartbeats 1000000 in
theorem c_impl_Game_copied (g : M.Gam) {v_g : Value} {w : World} (h_g : (Ty.agg (cGame g)).ok w v_g) (r0 : g.start.pits.length ≤ 4194304 := by exact om_) (r1 : g.start.stores.length ≤ 4194304 := by exact om_) (r2 : g.moves.length ≤ 4194304 := by exact om_) (r3 : g.now.pits.length ≤ 4194304 := by exact om_) (r4 : g.now.stores.length ≤ 4194304 := by exact om_) : Ret Tryz.prog 64 [v_g] w (Ty.agg (cGame g)) := by
 revert v_g; apply opn
 intro A1 c1 h1 bl1 bh1 A2 c2 h2 bl2 bh2 A3 c3 h3 bl3 bh3 A4 c4 h4 bl4 bh4 A5 c5 h5 bl5 bh5
 refine enter @Tryz.func64 @Tryz.ntmps64 rfl rfl ?_
 refine zent ?_
 refine zS <| zb rfl fun b6 => za zeh fun b7 => zJ ?_
 refine zdr [14] ?_
 refine JH.p 0 rfl (p_fieldAddr fld_30_0.h rfl) ?_
 refine JH.q 1 rfl (L9 1 rfl rfl) ?_
 refine JH.p 2 rfl (p_fieldAddr fld_30_1.h rfl) ?_
 refine JH.q 3 rfl (L9 1 rfl rfl) ?_
 refine JH.p 5 rfl (p_fieldAddr fld_30_2.h rfl) ?_
 refine JH.q 6 rfl (q_load1 ty_26.h rfl (Mem.box (i := 1) rfl rfl)) ?_
 refine JH.p 8 rfl (p_fieldAddr fld_30_3.h rfl) ?_
 refine JH.q 9 rfl (L9 1 rfl rfl) ?_
 refine JH.p 11 rfl (p_fieldAddr fld_30_4.h rfl) ?_
 refine JH.q 12 rfl (q_load1 ty_2.h rfl (Mem.box (i := 1) rfl rfl)) ?_
 refine y1 4 ?_
 refine yc rfl rfl (fun w hw => c_impl_Position_copied g.start (ok_ hw)) ?_
 intro A9 c9 bl9 bh9 A10 c10 bl10 bh10
 refine y1 7 ?_
 refine ycs rfl rfl (fun w hw => c_impl_copyNumbers g.moves (ok_ hw)) ?_
 intro A11 c11 bl11 bh11
 refine y1 10 ?_
 refine yc rfl rfl (fun w hw => c_impl_Position_copied g.now (ok_ hw)) ?_
 intro A13 c13 bl13 bh13 A14 c14 bl14 bh14
 refine JH.p 13 rfl (q_bld) ?_
 refine y1 14 ?_
 refine yst rfl rfl rfl ?_
 refine yd ?_
 exact zro (Up.refl _ _)

set_option maxHeartbeats 1000000 in
theorem c_impl_Game_play (g : M.Gam) {v_g : Value} (move : Int) {w : World} (h_g : (Ty.agg (cGame g)).ok w v_g) (r0 : g.start.pits.length ≤ 4194304 := by exact om_) (r1 : g.start.stores.length ≤ 4194304 := by exact om_) (r2 : g.moves.length ≤ 4194304 := by exact om_) (r3 : g.now.pits.length ≤ 4194304 := by exact om_) (r4 : g.now.stores.length ≤ 4194304 := by exact om_) : Ret Tryz.prog 65 [v_g, .int .i64 move] w (Ty.tup [Ty.agg (cGame ((M.play g move).1)), Ty.int ((M.play g move).2)]) := by
 revert v_g; apply opn
 intro A1 c1 h1 bl1 bh1 A2 c2 h2 bl2 bh2 A3 c3 h3 bl3 bh3 A4 c4 h4 bl4 bh4 A5 c5 h5 bl5 bh5
 refine enter @Tryz.func65 @Tryz.ntmps65 rfl rfl ?_
 refine zent ?_
 refine zS <| zb rfl fun b6 => za zeh fun b7 => Qa rfl <| zJ <| zS <| Qf fh rfl <| Q0 1 rfl rfl rfl <| Qh rfl rfl <| JL.nil ?_
 refine zi (fun h8 h8' => ?_) fun h8 h8' => ?_
 ·
  have hE := M.play_6 (g := g) (move := move) (by simpa using h8)
  have hq0 : 0 = (((M.play g move).1).rules).pits := by first | (rw [hE]; done) | (rw [hE]; rfl)
  have hq1 : 0 = (((M.play g move).1).rules).seeds := by first | (rw [hE]; done) | (rw [hE]; rfl)
  have hq2 : false = (((M.play g move).1).rules).stores := by first | (rw [hE]; done) | (rw [hE]; rfl)
  have hq3 : false = (((M.play g move).1).rules).skip := by first | (rw [hE]; done) | (rw [hE]; rfl)
  have hq4 : false = (((M.play g move).1).rules).relay := by first | (rw [hE]; done) | (rw [hE]; rfl)
  have hq5 : false = (((M.play g move).1).rules).feed := by first | (rw [hE]; done) | (rw [hE]; rfl)
  have hq6 : false = (((M.play g move).1).rules).again := by first | (rw [hE]; done) | (rw [hE]; rfl)
  have hq7 : 0 = (((M.play g move).1).rules).capture := by first | (rw [hE]; done) | (rw [hE]; rfl)
  have hq8 : 0 = (((M.play g move).1).rules).slam := by first | (rw [hE]; done) | (rw [hE]; rfl)
  have hq9 : [] = (((M.play g move).1).start).pits := by first | (rw [hE]; done) | (rw [hE]; rfl)
  have hq10 : [] = (((M.play g move).1).start).stores := by first | (rw [hE]; done) | (rw [hE]; rfl)
  have hq11 : 0 = (((M.play g move).1).start).player := by first | (rw [hE]; done) | (rw [hE]; rfl)
  have hq12 : [] = ((M.play g move).1).moves := by first | (rw [hE]; done) | (rw [hE]; rfl)
  have hq13 : [] = (((M.play g move).1).now).pits := by first | (rw [hE]; done) | (rw [hE]; rfl)
  have hq14 : [] = (((M.play g move).1).now).stores := by first | (rw [hE]; done) | (rw [hE]; rfl)
  have hq15 : 0 = (((M.play g move).1).now).player := by first | (rw [hE]; done) | (rw [hE]; rfl)
  have hq16 : 0 = ((M.play g move).1).resigned := by first | (rw [hE]; done) | (rw [hE]; rfl)
  have hq17 : 6 = (M.play g move).2 := by first | (rw [hE]; done) | (rw [hE]; rfl)
  refine zS <| Qb ?_
  refine zw 0 rfl rfl rfl ?_
  refine Qa rfl <| JL.nil ?_
  exact zro (Up.refl _ _)
 have q1 : ¬ 0 ≤ g.resigned := by simpa using h8
 refine Js.skip <| Js.seq <| zS <| Qf fh rfl <| Q0 1 rfl rfl rfl <| Qz rfl <| Qe rfl rfl <| JL.nil ?_
 refine zi (fun h9 h9' => ?_) fun h9 h9' => ?_
 ·
  have hE := M.play_5 (move := move) q1 (by have := h9'; omega)
  have hq0 : 0 = (((M.play g move).1).rules).pits := by first | (rw [hE]; done) | (rw [hE]; rfl)
  have hq1 : 0 = (((M.play g move).1).rules).seeds := by first | (rw [hE]; done) | (rw [hE]; rfl)
  have hq2 : false = (((M.play g move).1).rules).stores := by first | (rw [hE]; done) | (rw [hE]; rfl)
  have hq3 : false = (((M.play g move).1).rules).skip := by first | (rw [hE]; done) | (rw [hE]; rfl)
  have hq4 : false = (((M.play g move).1).rules).relay := by first | (rw [hE]; done) | (rw [hE]; rfl)
  have hq5 : false = (((M.play g move).1).rules).feed := by first | (rw [hE]; done) | (rw [hE]; rfl)
  have hq6 : false = (((M.play g move).1).rules).again := by first | (rw [hE]; done) | (rw [hE]; rfl)
  have hq7 : 0 = (((M.play g move).1).rules).capture := by first | (rw [hE]; done) | (rw [hE]; rfl)
  have hq8 : 0 = (((M.play g move).1).rules).slam := by first | (rw [hE]; done) | (rw [hE]; rfl)
  have hq9 : [] = (((M.play g move).1).start).pits := by first | (rw [hE]; done) | (rw [hE]; rfl)
  have hq10 : [] = (((M.play g move).1).start).stores := by first | (rw [hE]; done) | (rw [hE]; rfl)
  have hq11 : 0 = (((M.play g move).1).start).player := by first | (rw [hE]; done) | (rw [hE]; rfl)
  have hq12 : [] = ((M.play g move).1).moves := by first | (rw [hE]; done) | (rw [hE]; rfl)
  have hq13 : [] = (((M.play g move).1).now).pits := by first | (rw [hE]; done) | (rw [hE]; rfl)
  have hq14 : [] = (((M.play g move).1).now).stores := by first | (rw [hE]; done) | (rw [hE]; rfl)
  have hq15 : 0 = (((M.play g move).1).now).player := by first | (rw [hE]; done) | (rw [hE]; rfl)
  have hq16 : 0 = ((M.play g move).1).resigned := by first | (rw [hE]; done) | (rw [hE]; rfl)
  have hq17 : 5 = (M.play g move).2 := by first | (rw [hE]; done) | (rw [hE]; rfl)
  refine zS <| Qb ?_
  refine zw 0 rfl rfl rfl ?_
  refine Qa rfl <| JL.nil ?_
  exact zro (Up.refl _ _)
 have q2 : g.moves.length ≠ 120 := by have := h9'; omega
 refine Js.skip <| zS <| Qf fh rfl <| Q9 1 rfl rfl ?_
 refine Qf fh rfl <| Q9 1 rfl rfl ?_
 refine Qm rfl <| zc rfl (fun w hw => c_impl_Rules_resultOf g.rules g.now move (ok_ hw) (ok_ hw)) ?_
 intro A12 c12 bl12 bh12 A13 c13 bl13 bh13
 refine Qm rfl <| Qx rfl rfl <| Qx rfl rfl <| za zeh fun b14 => zw 0 rfl rfl rfl ?_
 refine Qa rfl <| zJ <| zS <| Qm rfl <| Qd rfl rfl <| JL.nil ?_
 refine zi (fun h15 h15' => ?_) fun h15 h15' => ?_
 ·
  have hE := M.play_c q1 q2 (move := move) (by simpa using h15)
  have hq0 : 0 = (((M.play g move).1).rules).pits := by first | (rw [hE]; done) | (rw [hE]; rfl)
  have hq1 : 0 = (((M.play g move).1).rules).seeds := by first | (rw [hE]; done) | (rw [hE]; rfl)
  have hq2 : false = (((M.play g move).1).rules).stores := by first | (rw [hE]; done) | (rw [hE]; rfl)
  have hq3 : false = (((M.play g move).1).rules).skip := by first | (rw [hE]; done) | (rw [hE]; rfl)
  have hq4 : false = (((M.play g move).1).rules).relay := by first | (rw [hE]; done) | (rw [hE]; rfl)
  have hq5 : false = (((M.play g move).1).rules).feed := by first | (rw [hE]; done) | (rw [hE]; rfl)
  have hq6 : false = (((M.play g move).1).rules).again := by first | (rw [hE]; done) | (rw [hE]; rfl)
  have hq7 : 0 = (((M.play g move).1).rules).capture := by first | (rw [hE]; done) | (rw [hE]; rfl)
  have hq8 : 0 = (((M.play g move).1).rules).slam := by first | (rw [hE]; done) | (rw [hE]; rfl)
  have hq9 : [] = (((M.play g move).1).start).pits := by first | (rw [hE]; done) | (rw [hE]; rfl)
  have hq10 : [] = (((M.play g move).1).start).stores := by first | (rw [hE]; done) | (rw [hE]; rfl)
  have hq11 : 0 = (((M.play g move).1).start).player := by first | (rw [hE]; done) | (rw [hE]; rfl)
  have hq12 : [] = ((M.play g move).1).moves := by first | (rw [hE]; done) | (rw [hE]; rfl)
  have hq13 : [] = (((M.play g move).1).now).pits := by first | (rw [hE]; done) | (rw [hE]; rfl)
  have hq14 : [] = (((M.play g move).1).now).stores := by first | (rw [hE]; done) | (rw [hE]; rfl)
  have hq15 : 0 = (((M.play g move).1).now).player := by first | (rw [hE]; done) | (rw [hE]; rfl)
  have hq16 : 0 = ((M.play g move).1).resigned := by first | (rw [hE]; done) | (rw [hE]; rfl)
  have hq17 : ((M.make g.rules g.now move).2) = (M.play g move).2 := by first | (rw [hE]; done) | (rw [hE]; rfl)
  refine zS <| Qb ?_
  refine Qm rfl <| zw 3 rfl rfl rfl ?_
  refine Qa rfl <| JL.nil ?_
  exact zro (Up.refl _ _)
 have hz : (M.make g.rules g.now move).2 = 0 := by simpa using h15
 have hE := M.play_0 q1 q2 hz
 refine Js.skip <| zS <| Q9 4 rfl rfl ?_
 refine zc rfl (fun w hw => c_impl_Game_copied g (ok_ hw)) ?_
 intro A17 c17 bl17 bh17 A18 c18 bl18 bh18 A19 c19 bl19 bh19 A20 c20 bl20 bh20 A21 c21 bl21 bh21
 refine za zeh fun b22 => zw 0 rfl rfl rfl ?_
 refine zJ ?_
 refine zk [4, 8] (fun F U l os u => ∃ (b23 : Nat) (A27 : Option Addr) (c27 : Nat) (g26 : List Nat), l = F [] ∧ os = [rowO 2 1 (.slice (some ⟨b23, 0, none⟩) 1 1) 1 [.int .i64 move] []] ++ U [some (boxO b22 [.int .i64 g.rules.pits, .int .i64 g.rules.seeds, .bool g.rules.stores, .bool g.rules.skip, .bool g.rules.relay, .bool g.rules.feed, .bool g.rules.again, .int .i64 g.rules.capture, .int .i64 g.rules.slam, .slice A17 g.start.pits.length c17, .slice A18 g.start.stores.length c18, .int .i64 g.start.player, .slice A27 ((g.moves ++ [move]).length) c27, .slice A12 (((((M.make g.rules g.now move).1).next).pits).length) c12, .slice A13 (((((M.make g.rules g.now move).1).next).stores).length) c13, .int .i64 ((((M.make g.rules g.now move).1).next).player), .int .i64 g.resigned] 30), nO, nO, some (rowO 2 1 (.slice A27 ((g.moves ++ [move]).length) c27) ((g.moves ++ [move]).length) (ints_ (g.moves ++ [move])) g26)] ∧ ((g.moves ++ [move]).length ≤ c27) ∧ (c27 ≤ 9223372036854775807)) ?_ ?_
 ·
  refine zdr [4, 8, 10] ?_
  refine JH.p 0 rfl (p_fieldAddr fld_30_2.h rfl) ?_
  refine JH.q 1 rfl (q_load1 ty_26.h rfl (Mem.box (i := 0) rfl rfl)) ?_
  refine JH.p 2 rfl (p_move rfl) ?_
  refine JH.p 5 rfl (p_fieldAddr fld_79_3.h rfl) ?_
  refine y2 3 6 ?_ ?_
  ·
   refine ybs rfl fun b37 => ?_
   refine y2 4 6 ?_ ?_
   ·
    refine JHo.e rfl (e_append (i := 4) (n' := (g.moves ++ [move]).length) (vs' := ints_ (g.moves ++ [move])) el_26 rfl rfl rfl rfl (src_row (i := 0) und_26 rfl rfl) (by omega) (by omega) (by first | omega | (simp only [List.length_append, List.length_cons, List.length_nil] <;> omega)) (by simp [ints_])) (.inr rfl) ?_
    rintro v39 _ _ ⟨⟨g40, rfl⟩, rfl⟩ _
    refine JH.fact (row_form' (i := 4) rfl) (fun hf41 => ?_)
    obtain ⟨A41, c41, rfl, bl41, bh41⟩ := hf41
    refine znh ?_
    refine JH.p 7 rfl (p_fieldAddr fld_30_2.h rfl) ?_
    refine y2 6 8 ?_ ?_
    ·
     refine JHo.q rfl (L9 7 rfl rfl) ?_
     refine y1 8 ?_
     refine yst rfl rfl rfl ?_
     refine JH.p 9 rfl (p_fieldAddr fld_30_3.h rfl) ?_
     refine y1 10 ?_
     refine yst rfl rfl rfl ?_
     refine yd ?_
     exact zm ⟨_, _, _, _, rfl, rfl, zt, zt⟩ (Up.refl _ _)
    refine yst rfl rfl rfl ?_
    refine y1 6 ?_
    refine JHo.q rfl (L9 7 rfl rfl) ?_
    refine JH.p 9 rfl (p_fieldAddr fld_30_3.h rfl) ?_
    refine y1 10 ?_
    refine yst rfl rfl rfl ?_
    refine yd ?_
    exact zm ⟨_, _, _, _, rfl, rfl, zt, zt⟩ (Up.refl _ _)
   refine JHo.q rfl (L9 7 rfl rfl) ?_
   refine y1 4 ?_
   refine JHo.e rfl (e_append (i := 4) (n' := (g.moves ++ [move]).length) (vs' := ints_ (g.moves ++ [move])) el_26 rfl rfl rfl rfl (src_row (i := 0) und_26 rfl rfl) (by omega) (by omega) (by first | omega | (simp only [List.length_append, List.length_cons, List.length_nil] <;> omega)) (by simp [ints_])) (.inr rfl) ?_
   rintro v42 _ _ ⟨⟨g43, rfl⟩, rfl⟩ _
   refine JH.fact (row_form' (i := 4) rfl) (fun hf44 => ?_)
   obtain ⟨A44, c44, rfl, bl44, bh44⟩ := hf44
   refine znh ?_
   refine JH.p 7 rfl (p_fieldAddr fld_30_2.h rfl) ?_
   refine y1 8 ?_
   refine yst rfl rfl rfl ?_
   refine JH.p 9 rfl (p_fieldAddr fld_30_3.h rfl) ?_
   refine y1 10 ?_
   refine yst rfl rfl rfl ?_
   refine yd ?_
   exact zm ⟨_, _, _, _, rfl, rfl, zt, zt⟩ (Up.refl _ _)
  refine JHo.q rfl (L9 6 rfl rfl) ?_
  refine y1 3 ?_
  refine ybs rfl fun b45 => ?_
  refine y1 4 ?_
  refine JHo.e rfl (e_append (i := 4) (n' := (g.moves ++ [move]).length) (vs' := ints_ (g.moves ++ [move])) el_26 rfl rfl rfl rfl (src_row (i := 0) und_26 rfl rfl) (by omega) (by omega) (by first | omega | (simp only [List.length_append, List.length_cons, List.length_nil] <;> omega)) (by simp [ints_])) (.inr rfl) ?_
  rintro v47 _ _ ⟨⟨g48, rfl⟩, rfl⟩ _
  refine JH.fact (row_form' (i := 4) rfl) (fun hf49 => ?_)
  obtain ⟨A49, c49, rfl, bl49, bh49⟩ := hf49
  refine znh ?_
  refine JH.p 7 rfl (p_fieldAddr fld_30_2.h rfl) ?_
  refine y1 8 ?_
  refine yst rfl rfl rfl ?_
  refine JH.p 9 rfl (p_fieldAddr fld_30_3.h rfl) ?_
  refine y1 10 ?_
  refine yst rfl rfl rfl ?_
  refine yd ?_
  exact zm ⟨_, _, _, _, rfl, rfl, zt, zt⟩ (Up.refl _ _)
 rintro _ _ u36 ⟨b23, A27, c27, g26, rfl, rfl, f36_0, f36_1⟩ x36
 refine zn ?_
 have hq0 : g.rules.pits = (((M.play g move).1).rules).pits := by first | (rw [hE]; done) | (rw [hE]; rfl)
 have hq1 : g.rules.seeds = (((M.play g move).1).rules).seeds := by first | (rw [hE]; done) | (rw [hE]; rfl)
 have hq2 : g.rules.stores = (((M.play g move).1).rules).stores := by first | (rw [hE]; done) | (rw [hE]; rfl)
 have hq3 : g.rules.skip = (((M.play g move).1).rules).skip := by first | (rw [hE]; done) | (rw [hE]; rfl)
 have hq4 : g.rules.relay = (((M.play g move).1).rules).relay := by first | (rw [hE]; done) | (rw [hE]; rfl)
 have hq5 : g.rules.feed = (((M.play g move).1).rules).feed := by first | (rw [hE]; done) | (rw [hE]; rfl)
 have hq6 : g.rules.again = (((M.play g move).1).rules).again := by first | (rw [hE]; done) | (rw [hE]; rfl)
 have hq7 : g.rules.capture = (((M.play g move).1).rules).capture := by first | (rw [hE]; done) | (rw [hE]; rfl)
 have hq8 : g.rules.slam = (((M.play g move).1).rules).slam := by first | (rw [hE]; done) | (rw [hE]; rfl)
 have hq9 : g.start.pits = (((M.play g move).1).start).pits := by first | (rw [hE]; done) | (rw [hE]; rfl)
 have hq10 : g.start.stores = (((M.play g move).1).start).stores := by first | (rw [hE]; done) | (rw [hE]; rfl)
 have hq11 : g.start.player = (((M.play g move).1).start).player := by first | (rw [hE]; done) | (rw [hE]; rfl)
 have hq12 : (g.moves ++ [move]) = ((M.play g move).1).moves := by first | (rw [hE]; done) | (rw [hE]; rfl)
 have hq13 : ((((M.make g.rules g.now move).1).next).pits) = (((M.play g move).1).now).pits := by first | (rw [hE]; done) | (rw [hE]; rfl)
 have hq14 : ((((M.make g.rules g.now move).1).next).stores) = (((M.play g move).1).now).stores := by first | (rw [hE]; done) | (rw [hE]; rfl)
 have hq15 : ((((M.make g.rules g.now move).1).next).player) = (((M.play g move).1).now).player := by first | (rw [hE]; done) | (rw [hE]; rfl)
 have hq16 : g.resigned = ((M.play g move).1).resigned := by first | (rw [hE]; done) | (rw [hE]; rfl)
 have hq17 : 0 = (M.play g move).2 := by first | (rw [hE]; done) | (rw [hE]; rfl)
 refine zS <| Q9 1 rfl rfl ?_
 refine zw 10 rfl rfl rfl ?_
 refine Qa rfl <| JL.nil ?_
 exact zro x36

end Go.Proofs.YtejnmechnhgmfaaGreat


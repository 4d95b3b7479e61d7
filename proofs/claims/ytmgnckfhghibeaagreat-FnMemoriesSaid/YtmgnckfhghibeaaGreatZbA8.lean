/- Walks: G3. -/
import Derived.Test.YtmgnckfhghibeaaGreatZbA3
import Derived.Test.YtmgnckfhghibeaaGreatZbA7
import Derived.Test.YtmgnckfhghibeaaGreatZbA5
import Derived.Test.YtmgnckfhghibeaaGreatZbA4
set_option linter.unusedSimpArgs false
set_option linter.unusedVariables false
set_option maxRecDepth 100000
attribute [local irreducible] Go.Proofs.YtmgnckfhghibeaaGreat.gv
set_option maxHeartbeats 4000000
namespace Go.Proofs.YtmgnckfhghibeaaGreat
open Go.RowKit
theorem c_impl_Rules_taken (r : M.Rul) {v_r : Value} (s : M.Sw) {v_s : Value} (player : Int) {w : World} (h_r : (Ty.agg (cRules r)).ok w v_r) (h_s : (Ty.agg (cSown s)).ok w v_s) (r0 : 2 ≤ r.pits := by exact om_) (r1 : r.pits ≤ 8 := by exact om_) (r2 : player = 0 ∨ player = 1 := by exact om_) (r3 : M.Good r s.pits s.stores 0 := by exact om_) (r4 : -1 ≤ s.last := by exact om_) (r5 : s.last < 2 * r.pits := by exact om_) : Ret Tryz.prog 163 [v_r, v_s, .int .i64 player] w (Ty.ints 2 (M.taken r s player)) := by
 have l1 := r3.lp
 have l2 := r3.ls
 have hv : 0 ≤ M.getI s.pits s.last := M.nn_nth r3.np _
 have hv9 := r3.pit s.last
 revert v_r; apply opn
 revert v_s; apply opn
 intro A1 c1 h1 bl1 bh1 A2 c2 h2 bl2 bh2
 refine enter @Tryz.func163 @Tryz.ntmps163 rfl rfl ?_
 refine zent ?_
 obtain ⟨b3, o3, rfl⟩ := ints_some h1 (by omega)
 refine zS <| zb rfl fun b4 => zb rfl fun b5 => Qa rfl <| zN <| zbs fun b6 => ?_
 refine Qa rfl <| zJ <| zS <| Qf fh rfl <| Q0 1 rfl rfl rfl <| Ql rfl rfl <| JL.nil ?_
 refine zi (fun h8 h8' => ?_) fun h8 h8' => ?_
 ·
  have hR : M.taken r s player = [] := by unfold M.taken; rw [if_pos (by simpa using h8)]
  have hq0 : [] = M.taken r s player := by rw [hR]
  refine zS <| Qm rfl <| Qa rfl <| JL.nil ?_
  exact zro (Up.refl _ _)
 have hl0 : ¬ s.last < 0 := by simpa using h8
 refine Js.skip <| zS <| Q9 2 rfl rfl ?_
 refine Qf fh rfl <| Q0 1 rfl rfl rfl <| zv rfl (fun w hw => c_impl_Rules_owner r s.last (ok_ hw)) <| Qm rfl <| Qe rfl rfl <| Qa rfl <| zJ <| zS <| Qf fh rfl <| Q0 2 rfl rfl rfl <| JL.nil <| Js.block <| zS <| Qe rfl rfl ?_
 refine Qa rfl <| JL.nil ?_
 refine zi (fun h9 h9' => ?_) fun h9 h9' => ?_
 ·
  have hcap : r.capture = 1 := by simpa using h9
  refine zS <| Qf fh rfl <| Q0 1 rfl rfl rfl <| Qa rfl <| JL.nil <| Js.block ?_
  refine zl [2, 3, 4] (fun F U l os u m => ∃ (k : Int) (out : List Int) (A10_7 : Option Addr) (c10_7 : Nat) (g10_7 : List Nat), l = F [(7, .slice A10_7 out.length c10_7), (9, .int .i64 k)] ∧ os = U [some (rowO 2 1 (.slice A10_7 out.length c10_7) out.length (ints_ out) g10_7)] ∧ (out ++ M.ttI r player s.pits k = M.ttI r player s.pits s.last) ∧ (-1 ≤ k) ∧ (k < 2 * r.pits) ∧ ((out.length : Int) + k = s.last) ∧ (out.length ≤ c10_7) ∧ (c10_7 ≤ 9223372036854775807) ∧ m = (k + 1).toNat) ⟨s.last, [], _, _, _, rfl, rfl, by rfl, zt, zt, by simp, zu, zu, rfl⟩ ?_
  rintro _ _ u10 _ ⟨k, out, A10_7, c10_7, g10_7, rfl, rfl, hS, k0, k1, hl, f10_4, f10_5, rfl⟩ x10
  refine zn ?_
  refine Js.seq <| zS <| Qm rfl <| Qh rfl rfl <| Qm rfl <| zgq (Gd.t1 rfl rfl rfl) (fun hc => L9 2 rfl rfl) <| zg (Gd.t1 rfl rfl rfl) (fun hc => p_move rfl) <| zgv (Gd.t1 rfl rfl rfl) (fun hc => (opds_2 (gh hc rfl) (gh hc rfl))) (fun hc => (fun w hw => c_impl_Rules_owner r k (ok_ hw) (r0 := (oh_ hc)) (r1 := (oh_ hc)) (r2 := (oh_ hc)) (r3 := (oh_ hc)))) ?_
  refine zg (Gd.t1 rfl rfl rfl) (fun hc => p_move rfl) <| zg (Gd.t1 rfl rfl rfl) (fun hc => p_neq (gh hc rfl) (gh hc rfl)) <| Qq (p_pickAnd rfl rfl rfl) <| Qm rfl <| zg (Gd.t1 rfl rfl rfl) (fun hc => p_fieldAddr fld_181_0.h rfl) <| zgq (Gd.t1 rfl rfl rfl) (fun hc => q_load1 ty_29.h (gh hc rfl) (Mem.box (i := 1) rfl rfl)) <| zg (Gd.t1 rfl rfl rfl) (fun hc => p_move rfl) <| zg (Gd.t1 rfl rfl rfl) (fun hc => p_indexAddr el_29 (gh hc rfl) (gh hc rfl) (by have hc9 := hc; (try simp only [Bool.and_eq_true, decide_eq_true_eq, Bool.not_eq_true', decide_eq_false_iff_not] at hc9); omega) (by have hc9 := hc; (try simp only [Bool.and_eq_true, decide_eq_true_eq, Bool.not_eq_true', decide_eq_false_iff_not] at hc9); omega) rfl) ?_
  refine zgq (Gd.t1 rfl rfl rfl) (fun hc => q_load1 ty_2.h (gh hc rfl) (Mem.pub (ints_cellI (i := k) (Ty.mono _ h1 x10.vis) (by have hc9 := hc; (try simp only [Bool.and_eq_true, decide_eq_true_eq, Bool.not_eq_true', decide_eq_false_iff_not] at hc9); omega)))) ?_
  refine zgv (Gd.t1 rfl rfl rfl) (fun hc => (opds_3 (gh hc rfl) rfl rfl)) (fun hc => (fun w hw => c_impl_between (M.getI s.pits k) 2 3)) ?_
  refine Qq (p_pickAnd rfl rfl rfl) <| JL.nil ?_
  refine zi (fun h12 h12' => ?_) fun h12 h12' => ?_
  ·
   obtain ⟨⟨c0, c1⟩, c2⟩ : (0 ≤ k ∧ ¬ M.owner r k = player) ∧ M.betw (M.getI s.pits k) 2 3 = true := by simpa using h12
   have hS2 : (out ++ [k]) ++ M.ttI r player s.pits (k - 1) = M.ttI r player s.pits s.last := by rw [← hS, M.ttI_yes c0 c1 c2]; simp
   refine Js.skip <| Js.seq <| Js.block <| Js.region <| Qm rfl <| Qm rfl <| zbs fun b13 => ?_
   refine JL.e (e_append (i := 1) (n' := (out ++ [k]).length) (vs' := ints_ (out ++ [k])) el_29 rfl rfl rfl rfl (src_row (i := 0) und_29 rfl rfl) (by omega) (by omega) ln2_ (by simp [ints_])) ?_
   rintro v15 _ _ ⟨⟨g16, rfl⟩, rfl⟩ _
   refine JL.fact (row_form' (i := 1) rfl) (fun hf17 => ?_)
   obtain ⟨A17, c17, rfl, bl17, bh17⟩ := hf17
   refine znl ?_
   refine Qa rfl <| JL.nil <| Js.blockEnd <| Js.region <| Qm rfl <| Qs rfl rfl <| Qa rfl <| JL.nil ?_
   refine zd [1, 1, 1] rfl fun u18 x18 => ?_
   exact zag ⟨k - 1, out ++ [k], _, _, _, rfl, rfl, by exact hS2, zt, zt, by simp only [List.length_append, List.length_cons, List.length_nil]; omega, zu, zu, rfl⟩ (x10.trans x18)
  have hF : M.ttI r player s.pits k = [] := by rcases h12' with (h | h) | h; exact M.ttI_neg h; exact M.ttI_no (.inl h); exact M.ttI_no (.inr h)
  rw [hF, List.append_nil] at hS
  have hR : M.taken r s player = out := by unfold M.taken; rw [if_neg hl0, if_pos hcap, hS]; simp [M.ttI, hl0]
  refine zx ?_
  have hq0 : out = M.taken r s player := by rw [hR]
  refine Js.blockEnd <| zS <| Qm rfl <| Qa rfl <| JL.nil ?_
  exact zro x10
 have hcap1 : ¬ r.capture = 1 := by simpa using h9
 refine zS <| Qe rfl rfl <| Qa rfl <| JL.nil ?_
 refine zi (fun h19 h19' => ?_) fun h19 h19' => ?_
 ·
  have hcap : r.capture = 2 := by simpa using h19
  have ho : M.opp r s.last = 2 * r.pits - 1 - s.last := rfl
  have ho : M.opp r s.last = 2 * r.pits - 1 - s.last := rfl
  refine zS <| Q9 2 rfl rfl ?_
  refine Qf fh rfl <| Q0 1 rfl rfl rfl <| zv rfl (fun w hw => c_impl_Rules_opposite r s.last (ok_ hw)) <| Qa rfl <| zN <| Qm rfl <| Qm rfl <| zg (Gd.t1 rfl rfl rfl) (fun hc => p_fieldAddr fld_181_0.h rfl) <| zgq (Gd.t1 rfl rfl rfl) (fun hc => q_load1 ty_29.h (gh hc rfl) (Mem.box (i := 1) rfl rfl)) <| zg (Gd.t1 rfl rfl rfl) (fun hc => p_fieldAddr fld_181_2.h rfl) <| zgq (Gd.t1 rfl rfl rfl) (fun hc => q_load1 ty_2.h (gh hc rfl) (Mem.box (i := 1) rfl rfl)) <| zg (Gd.t1 rfl rfl rfl) (fun hc => p_indexAddr el_29 (gh hc rfl) (gh hc rfl) (oh_ hc) (oh_ hc) rfl) ?_
  refine zgq (Gd.t1 rfl rfl rfl) (fun hc => q_load1 ty_2.h (gh hc rfl) (Mem.pub (ints_cellI (i := s.last) h1 (oh_ hc)))) ?_
  refine zg (Gd.t1 rfl rfl rfl) (fun hc => p_eql (gh hc rfl) rfl) <| Qq (p_pickAnd rfl rfl rfl) <| Qm rfl <| zg (Gd.t1 rfl rfl rfl) (fun hc => p_fieldAddr fld_181_0.h rfl) <| zgq (Gd.t1 rfl rfl rfl) (fun hc => q_load1 ty_29.h (gh hc rfl) (Mem.box (i := 1) rfl rfl)) <| zg (Gd.t1 rfl rfl rfl) (fun hc => p_move rfl) <| zg (Gd.t1 rfl rfl rfl) (fun hc => p_indexAddr el_29 (gh hc rfl) (gh hc rfl) (by have hc9 := hc; (try simp only [Bool.and_eq_true, decide_eq_true_eq] at hc9); omega) (by have hc9 := hc; (try simp only [Bool.and_eq_true, decide_eq_true_eq] at hc9); omega) rfl) ?_
  refine zgq (Gd.t1 rfl rfl rfl) (fun hc => q_load1 ty_2.h (gh hc rfl) (Mem.pub (ints_cellI (i := M.opp r s.last) h1 (by have hc9 := hc; (try simp only [Bool.and_eq_true, decide_eq_true_eq] at hc9); omega)))) ?_
  refine zg (Gd.t1 rfl rfl rfl) (fun hc => p_gtr (gh hc rfl) rfl) <| Qq (p_pickAnd rfl rfl rfl) <| JL.nil ?_
  refine zi (fun h22 h22' => ?_) fun h22 h22' => ?_
  ·
   have hR : M.taken r s player = [s.last, M.opp r s.last] := by unfold M.taken; rw [if_neg hl0, if_neg hcap1, if_pos hcap, if_pos (by simpa [and_assoc] using h22)]
   refine Js.region <| Qm rfl <| Qf fh rfl <| Q0 1 rfl rfl rfl <| Qm rfl <| zbs fun b23 => ?_
   refine JL.e (e_append (i := 1) (n' := 2) (vs' := ints_ [s.last, (M.opp r s.last)]) el_29 rfl rfl rfl rfl (src_row (i := 0) und_29 rfl rfl) (by omega) (by omega) ln2_ (by simp [ints_])) ?_
   rintro v25 _ _ ⟨⟨g26, rfl⟩, rfl⟩ _
   refine JL.fact (row_form' (i := 1) rfl) (fun hf27 => ?_)
   obtain ⟨A27, c27, rfl, bl27, bh27⟩ := hf27
   refine znl ?_
   have hq0 : [s.last, (M.opp r s.last)] = M.taken r s player := by rw [hR]
   refine Qa rfl <| JL.nil <| Js.blockEnd <| zS <| Qm rfl <| Qa rfl <| JL.nil ?_
   exact zro (Up.refl _ _)
  have hR : M.taken r s player = [] := by unfold M.taken; rw [if_neg hl0, if_neg hcap1, if_pos hcap, if_neg (by simpa [and_assoc] using h22)]
  have hq0 : [] = M.taken r s player := by rw [hR]
  refine Js.skip <| Js.blockEnd <| zS <| Qm rfl <| Qa rfl <| JL.nil ?_
  exact zro (Up.refl _ _)
 have hcap2 : ¬ r.capture = 2 := by simpa using h19
 refine zS <| Qe rfl rfl <| Qa rfl <| JL.nil ?_
 refine zi (fun h28 h28' => ?_) fun h28 h28' => ?_
 ·
  have hcap : r.capture = 3 := by simpa using h28
  refine zS <| Qm rfl <| Qt rfl <| Qm rfl <| zg (Gd.t1 rfl rfl rfl) (fun hc => p_fieldAddr fld_181_0.h rfl) <| zgq (Gd.t1 rfl rfl rfl) (fun hc => q_load1 ty_29.h (gh hc rfl) (Mem.box (i := 1) rfl rfl)) <| zg (Gd.t1 rfl rfl rfl) (fun hc => p_fieldAddr fld_181_2.h rfl) <| zgq (Gd.t1 rfl rfl rfl) (fun hc => q_load1 ty_2.h (gh hc rfl) (Mem.box (i := 1) rfl rfl)) <| zg (Gd.t1 rfl rfl rfl) (fun hc => p_indexAddr el_29 (gh hc rfl) (gh hc rfl) (by have hc9 := hc; (try simp only [Bool.not_eq_true', decide_eq_false_iff_not] at hc9); omega) (by have hc9 := hc; (try simp only [Bool.not_eq_true', decide_eq_false_iff_not] at hc9); omega) rfl) ?_
  refine zgq (Gd.t1 rfl rfl rfl) (fun hc => q_load1 ty_2.h (gh hc rfl) (Mem.pub (ints_cellI (i := s.last) h1 (by have hc9 := hc; (try simp only [Bool.not_eq_true', decide_eq_false_iff_not] at hc9); omega)))) ?_
  refine zg (Gd.t1 rfl rfl rfl) (fun hc => p_rem (gh hc rfl) rfl (by have hc9 := hc; (try simp only [Bool.not_eq_true', decide_eq_false_iff_not] at hc9); omega) (Int.tmod_eq_emod_of_nonneg (by have hc9 := hc; (try simp only [Bool.not_eq_true', decide_eq_false_iff_not] at hc9); omega))) ?_
  refine zg (Gd.t1 rfl rfl rfl) (fun hc => p_eql (gh hc rfl) rfl) <| Qq (p_pickAnd rfl rfl rfl) <| JL.nil ?_
  refine zi (fun h30 h30' => ?_) fun h30 h30' => ?_
  ·
   have hR : M.taken r s player = [s.last] := by unfold M.taken; rw [if_neg hl0, if_neg hcap1, if_neg hcap2, if_pos hcap, if_pos (by simpa using h30)]
   refine Js.region <| Qm rfl <| Qf fh rfl <| Q0 1 rfl rfl rfl <| zbs fun b31 => ?_
   refine JL.e (e_append (i := 1) (n' := 1) (vs' := ints_ [s.last]) el_29 rfl rfl rfl rfl (src_row (i := 0) und_29 rfl rfl) (by omega) (by omega) ln2_ (by simp [ints_])) ?_
   rintro v33 _ _ ⟨⟨g34, rfl⟩, rfl⟩ _
   refine JL.fact (row_form' (i := 1) rfl) (fun hf35 => ?_)
   obtain ⟨A35, c35, rfl, bl35, bh35⟩ := hf35
   refine znl ?_
   have hq0 : [s.last] = M.taken r s player := by rw [hR]
   refine Qa rfl <| JL.nil <| Js.blockEnd <| zS <| Qm rfl <| Qa rfl <| JL.nil ?_
   exact zro (Up.refl _ _)
  have hR : M.taken r s player = [] := by unfold M.taken; rw [if_neg hl0, if_neg hcap1, if_neg hcap2, if_pos hcap, if_neg (by simpa using h30)]
  have hq0 : [] = M.taken r s player := by rw [hR]
  refine Js.skip <| Js.blockEnd <| zS <| Qm rfl <| Qa rfl <| JL.nil ?_
  exact zro (Up.refl _ _)
 have hcap3 : ¬ r.capture = 3 := by simpa using h28
 have hR : M.taken r s player = [] := by unfold M.taken; rw [if_neg hl0, if_neg hcap1, if_neg hcap2, if_neg hcap3]
 have hq0 : [] = M.taken r s player := by rw [hR]
 refine Js.skip <| Js.blockEnd <| zS <| Qm rfl <| Qa rfl <| JL.nil ?_
 exact zro (Up.refl _ _)
theorem c_impl_Rules_slams (r : M.Rul) {v_r : Value} (s : M.Sw) {v_s : Value} (player : Int) {w : World} (h_r : (Ty.agg (cRules r)).ok w v_r) (h_s : (Ty.agg (cSown s)).ok w v_s) (r0 : 2 ≤ r.pits := by exact om_) (r1 : r.pits ≤ 8 := by exact om_) (r2 : player = 0 ∨ player = 1 := by exact om_) (r3 : M.Good r s.pits s.stores 0 := by exact om_) (r4 : -1 ≤ s.last := by exact om_) (r5 : s.last < 2 * r.pits := by exact om_) : RetV Tryz.prog 146 [v_r, v_s, .int .i64 player] w (.bool (M.slams r s player)) := by
 have l1 := r3.lp
 have l2 := r3.ls
 have hao := M.Good.ok r3
 have hlen := M.taken_len (s := s) (player := player) r5 r1
 revert v_r; apply opn
 revert v_s; apply opn
 intro A1 c1 h1 bl1 bh1 A2 c2 h2 bl2 bh2
 refine enter @Tryz.func146 @Tryz.ntmps146 rfl rfl ?_
 refine zent ?_
 obtain ⟨b3, o3, rfl⟩ := ints_some h1 (by omega)
 refine zS <| zb rfl fun b4 => zb rfl fun b5 => Qa rfl <| zN <| Q9 1 rfl rfl ?_
 refine Qf fh rfl <| Q0 0 rfl rfl rfl <| Qm rfl <| Qs rfl rfl <| zv rfl (fun w hw => c_impl_Rules_side r s.pits (1 - player) (ok_ hw) (ok_ hw) (r4 := hao.1)) <| Qa rfl <| Qa rfl <| zJ <| zS <| Q9 1 rfl rfl ?_
 refine Q9 0 rfl rfl ?_
 refine Qm rfl <| zp rfl (fun w hw => c_impl_Rules_taken r s player (ok_ hw) (ok_ hw) (r3 := r3)) ?_
 intro u6 x6 A7 c7 h7 bl7 bh7
 refine Qz rfl <| Qm rfl <| JL.nil <| Js.block ?_
 refine zl [2, 3, 4, 7, 20, 21] (fun F U l os u m => ∃ (k : Nat) (g : Int), l = F [(8, .int .i64 g), (22, .int .i64 (k : Int))] ∧ os = U [] ∧ (g + M.gone r s player ((M.taken r s player).drop k) = M.gone r s player (M.taken r s player)) ∧ (k ≤ (M.taken r s player).length) ∧ (0 ≤ g) ∧ (g ≤ 96 * k) ∧ m = (M.taken r s player).length - k) ⟨0, 0, rfl, rfl, by simp, zt, zt, zt, rfl⟩ ?_
 rintro _ _ u8 _ ⟨k, g, rfl, rfl, hS, hk, g0, g1, rfl⟩ x8
 refine zn ?_
 refine zS <| Ql rfl rfl <| zJ ?_
 refine zi (fun h9 h9' => ?_) fun h9 h9' => ?_
 ·
  have hk2 : k < (M.taken r s player).length := by have := h9; simp at this; omega
  have hx := M.taken_mem (r := r) (s := s) (player := player) r5 (M.nth_mem hk2)
  have hvx := r3.pit (M.nth (M.taken r s player) k)
  have hS1 := hS
  rw [M.drop_nth hk2, M.gone_cons] at hS1
  obtain ⟨b10, o10, he10, hc10⟩ := ints_elem (Ty.mono _ h7 x8.vis) (i := k) (by omega)
  refine Js.skip <| Js.seq <| Js.block <| zS <| Qq (p_indexAddr el_29 rfl rfl (by omega) (by omega) he10) <| QC hc10 rfl <| Qa rfl <| zN <| Q9 1 rfl rfl ?_
  refine Qm rfl <| zv rfl (fun w hw => c_impl_Rules_owner r (M.nth (M.taken r s player) k) (ok_ hw)) <| Qm rfl <| Qd rfl rfl <| JL.nil ?_
  refine zi (fun h11 h11' => ?_) fun h11 h11' => ?_
  ·
   have hS2 : (g + M.getI s.pits (M.nth (M.taken r s player) k)) + M.gone r s player ((M.taken r s player).drop (k + 1)) = M.gone r s player (M.taken r s player) := by rw [if_neg (by simpa using h11)] at hS1; omega
   refine Js.region <| Qm rfl <| Qf fh rfl <| Q0 0 rfl rfl rfl <| Qm rfl <| Qq (p_indexAddr el_29 rfl rfl (by omega) (by omega) rfl) <| Qw (q_load1 ty_2.h rfl (Mem.pub (ints_cellI (i := M.nth (M.taken r s player) k) (Ty.mono _ h1 (x6.vis.trans x8.vis)) (by omega)))) <| Qp rfl rfl <| Qa rfl <| JL.nil <| Js.blockEnd <| Js.region <| Qp rfl rfl <| Qm rfl ?_
   refine JL.nil ?_
   exact zag ⟨k + 1, g + (M.getI s.pits (M.nth (M.taken r s player) k)), rfl, rfl, by exact hS2, zt, zt, zt, rfl⟩ x8
  have hS2 : g + M.gone r s player ((M.taken r s player).drop (k + 1)) = M.gone r s player (M.taken r s player) := by rw [if_pos (by simpa using h11)] at hS1; omega
  refine Js.skip <| Js.blockEnd <| Js.region <| Qp rfl rfl <| Qm rfl <| JL.nil ?_
  exact zag ⟨k + 1, g, rfl, rfl, by exact hS2, zt, zt, zt, rfl⟩ x8
 have hg : g = M.gone r s player (M.taken r s player) := by rw [← hS, List.drop_eq_nil_of_le (by omega), M.gone_nil]; omega
 refine zx ?_
 refine zS <| Qm rfl <| Qg rfl rfl <| Qm rfl <| zg (Gd.t1 rfl rfl rfl) (fun hc => p_move rfl) <| zg (Gd.t1 rfl rfl rfl) (fun hc => p_move rfl) <| zg (Gd.t1 rfl rfl rfl) (fun hc => p_eql (gh hc rfl) (gh hc rfl)) <| Qq (p_pickAnd rfl rfl rfl) <| Qa rfl <| JL.nil ?_
 refine zR (x6.trans x8) ?_
 subst hg; simp [outV, M.slams]
theorem c_impl_Rules_captured (r : M.Rul) {v_r : Value} (s : M.Sw) {v_s : Value} (player : Int) {w : World} (h_r : (Ty.agg (cRules r)).ok w v_r) (h_s : (Ty.agg (cSown s)).ok w v_s) (r0 : 2 ≤ r.pits := by exact om_) (r1 : r.pits ≤ 8 := by exact om_) (r2 : player = 0 ∨ player = 1 := by exact om_) (r3 : M.Good r s.pits s.stores 0 := by exact om_) (r4 : -1 ≤ s.last := by exact om_) (r5 : s.last < 2 * r.pits := by exact om_) : Ret Tryz.prog 162 [v_r, v_s, .int .i64 player] w (Ty.ints 2 (M.captured r s player)) := by
 revert v_r; apply opn
 revert v_s; apply opn
 intro A1 c1 h1 bl1 bh1 A2 c2 h2 bl2 bh2
 refine enter @Tryz.func162 @Tryz.ntmps162 rfl rfl ?_
 refine zent ?_
 refine zS <| zb rfl fun b3 => zb rfl fun b4 => Qa rfl <| zJ <| zS <| Qf fh rfl <| Q0 1 rfl rfl rfl <| Qe rfl rfl <| Qm rfl <| zgq (Gd.t1 rfl rfl rfl) (fun hc => L9 1 rfl rfl) <| zgq (Gd.t1 rfl rfl rfl) (fun hc => L9 0 rfl rfl) <| zg (Gd.t1 rfl rfl rfl) (fun hc => p_move rfl) <| zgv (Gd.t1 rfl rfl rfl) (fun hc => (opds_3 (gh hc rfl) (gh hc rfl) (gh hc rfl))) (fun hc => (fun w hw => c_impl_Rules_slams r s player (ok_ hw) (ok_ hw) (r0 := (oh_ hc)) (r1 := (oh_ hc)) (r2 := (oh_ hc)) (r3 := r3) (r4 := (oh_ hc)) (r5 := (oh_ hc)))) ?_
 refine Qq (p_pickAnd rfl rfl rfl) <| JL.nil ?_
 refine zi (fun h5 h5' => ?_) fun h5 h5' => ?_
 ·
  have hR : M.captured r s player = [] := by unfold M.captured; rw [if_pos (by simpa using h5)]
  have hq0 : [] = M.captured r s player := by rw [hR]
  refine zS <| zbs fun b6 => ?_
  refine Qa rfl <| JL.nil ?_
  exact zro (Up.refl _ _)
 have hR : M.captured r s player = M.taken r s player := by unfold M.captured; rw [if_neg (by simpa using h5)]
 refine Js.skip <| zS <| Q9 1 rfl rfl ?_
 refine Q9 0 rfl rfl ?_
 refine Qm rfl <| zcs rfl (fun w hw => c_impl_Rules_taken r s player (ok_ hw) (ok_ hw) (r3 := r3)) ?_
 intro A8 c8 bl8 bh8
 have hq0 : (M.taken r s player) = M.captured r s player := by rw [hR]
 refine Qa rfl <| JL.nil ?_
 exact zro (Up.refl _ _)
theorem c_impl_Rules_takeCaptures (r : M.Rul) {v_r : Value} (s : M.Sw) {v_s : Value} (player : Int) {w : World} (h_r : (Ty.agg (cRules r)).ok w v_r) (h_s : (Ty.agg (cSown s)).ok w v_s) (r0 : 2 ≤ r.pits := by exact om_) (r1 : r.pits ≤ 8 := by exact om_) (r2 : player = 0 ∨ player = 1 := by exact om_) (r3 : M.Good r s.pits s.stores 0 := by exact om_) (r4 : -1 ≤ s.last := by exact om_) (r5 : s.last < 2 * r.pits := by exact om_) : Ret Tryz.prog 145 [v_r, v_s, .int .i64 player] w (Ty.agg (cSown (M.take r s player))) := by
 have l1 := r3.lp
 have l2 := r3.ls
 have hlen := M.captured_len (s := s) (player := player) r5 r1
 revert v_r; apply opn
 revert v_s; apply opn
 intro A1 c1 h1 bl1 bh1 A2 c2 h2 bl2 bh2
 refine enter @Tryz.func145 @Tryz.ntmps145 rfl rfl ?_
 refine zent ?_
 obtain ⟨b3, o3, rfl⟩ := ints_some h1 (by omega)
 obtain ⟨b4, o4, rfl⟩ := ints_some h2 (by omega)
 refine zS <| zb rfl fun b5 => zb rfl fun b6 => za zeh fun b7 => zN <| Q9 2 rfl rfl ?_
 refine Q9 1 rfl rfl ?_
 refine Qm rfl <| zp rfl (fun w hw => c_impl_Rules_captured r s player (ok_ hw) (ok_ hw) (r3 := r3)) ?_
 intro u8 x8 A9 c9 h9 bl9 bh9
 refine Qa rfl <| zJ ?_
 refine zdr [7, 9] ?_
 refine jF 0 fld_181_0 rfl rfl ?_
 refine jB 1 1 ty_29 rfl rfl rfl rfl ?_
 refine jF 3 fld_181_1 rfl rfl ?_
 refine jB 4 1 ty_29 rfl rfl rfl rfl ?_
 refine y1 2 ?_
 refine ycs rfl rfl (fun w hw => c_impl_copyNumbers s.pits (ok_ hw)) ?_
 intro A10 c10 bl10 bh10
 refine jF 6 fld_181_0 rfl rfl ?_
 refine y1 5 ?_
 refine ycs rfl rfl (fun w hw => c_impl_copyNumbers s.stores (ok_ hw)) ?_
 intro A11 c11 bl11 bh11
 refine y1 7 ?_
 refine yst rfl rfl rfl ?_
 refine jF 8 fld_181_1 rfl rfl ?_
 refine y1 9 ?_
 refine yst rfl rfl rfl ?_
 refine yd ?_
 refine Js.fact (row_some (i := 0) rfl (by omega)) (fun hf12 => ?_)
 obtain ⟨b12, rfl⟩ := hf12
 refine Js.fact (row_some (i := 1) rfl (by omega)) (fun hf13 => ?_)
 obtain ⟨b13, rfl⟩ := hf13
 refine Js.seq <| zS <| Qm rfl <| Qz rfl <| Qm rfl <| JL.nil <| Js.block ?_
 refine zl [2, 4, 6, 22, 23] (fun F U l os u m => ∃ (k : Nat) (ps ss : List Int), l = F [(24, .int .i64 (k : Int))] ∧ os = U [some (rowO 2 1 (.slice (some ⟨b12, 0, none⟩) s.stores.length c11) s.stores.length (ints_ ss) []), some (rowO 2 1 (.slice (some ⟨b13, 0, none⟩) s.pits.length c10) s.pits.length (ints_ ps) [])] ∧ (M.takeL player ((M.captured r s player).drop k) ps ss = M.takeL player (M.captured r s player) s.pits s.stores) ∧ (k ≤ (M.captured r s player).length) ∧ (M.Good r ps ss 0) ∧ m = (M.captured r s player).length - k) ⟨0, s.pits, s.stores, rfl, rfl, by rfl, zt, by exact r3, rfl⟩ ?_
 rintro _ _ u14 _ ⟨k, ps, ss, rfl, rfl, hS, hk, hG, rfl⟩ x14
 refine zn ?_
 have l3 := hG.lp
 have l4 := hG.ls
 refine zS <| Ql rfl rfl <| zJ ?_
 refine zi (fun h15 h15' => ?_) fun h15 h15' => ?_
 ·
  have hk2 : k < (M.captured r s player).length := by have := h15; simp at this; omega
  have hx := M.captured_mem (r := r) (s := s) (player := player) r5 (M.nth_mem hk2)
  have hvx := hG.pit (M.nth (M.captured r s player) k)
  have hvs := hG.store player
  obtain ⟨b16, o16, he16, hc16⟩ := ints_elem (Ty.mono _ h9 x14.vis) (i := k) (by omega)
  refine Js.skip <| Js.seq <| Js.block <| zS <| Qq (p_indexAddr el_29 rfl rfl (by omega) (by omega) he16) <| QC hc16 rfl <| Qa rfl <| zJ ?_
  refine zdr [12] ?_
  refine jF 0 fld_181_1 rfl rfl ?_
  refine jB 1 3 ty_29 rfl rfl rfl rfl ?_
  refine jM 2 rfl rfl ?_
  refine jI 3 el_29 rfl rfl rfl rfl ?_
  refine JH.q 4 rfl (q_load1 ty_2.h rfl (Mem.row (i := 0) rfl (ints_getI (i := player) (by omega)))) ?_
  refine jF 5 fld_181_0 rfl rfl ?_
  refine jB 6 3 ty_29 rfl rfl rfl rfl ?_
  refine jM 7 rfl rfl ?_
  refine jI 8 el_29 rfl rfl rfl rfl ?_
  refine JH.q 9 rfl (q_load1 ty_2.h rfl (Mem.row (i := 1) rfl (ints_getI (i := M.nth (M.captured r s player) k) (by omega)))) ?_
  refine JH.p 10 rfl (p_add rfl rfl (IntWalk.i64_in _ (by omega))) ?_
  refine jI 11 el_29 rfl rfl rfl rfl ?_
  refine y1 12 ?_
  refine JHo.s rfl (e_storeRow (i := 0) (xs' := ints_ (M.setI ss player ((M.getI ss player) + (M.getI ps (M.nth (M.captured r s player) k))))) ty_2.h rfl rfl rfl rfl rfl rfl (ints_lt (i := player.toNat) (by omega)) (ints_setL (i := player.toNat) (by omega))) (.inr rfl) ?_
  rintro _ _ _ ⟨rfl, rfl⟩ _
  refine znh ?_
  refine yd ?_
  refine Js.region <| Qf fh rfl <| Q0 3 rfl rfl rfl <| Qm rfl <| Qq (p_indexAddr el_29 rfl rfl (by omega) (by omega) rfl) ?_
  refine JL.s (e_storeRow (i := 1) (xs' := ints_ (M.setI ps (M.nth (M.captured r s player) k) 0)) ty_2.h rfl rfl rfl rfl rfl rfl (ints_lt (i := (M.nth (M.captured r s player) k).toNat) (by omega)) (ints_setL (i := (M.nth (M.captured r s player) k).toNat) (by omega))) ?_
  rintro _ _ _ ⟨rfl, rfl⟩ _
  refine znl ?_
  refine JL.nil <| Js.blockEnd <| Js.region <| Qp rfl rfl <| Qm rfl <| JL.nil ?_
  exact zag ⟨k + 1, M.setI ps (M.nth (M.captured r s player) k) 0, M.setI ss player ((M.getI ss player) + (M.getI ps (M.nth (M.captured r s player) k))), rfl, rfl, by rw [M.drop_nth hk2, M.takeL] at hS; exact hS, zt, by exact hG.takeStep hx.1 hx.2 (by omega) (by omega), rfl⟩ x14
 rw [List.drop_eq_nil_of_le (by omega), M.take_eq r5 (by omega) (by omega)] at hS
 injection hS with hT1 hT2
 refine zx ?_
 have hq0 : ps = (M.take r s player).pits := by first | exact hT1 | exact hT2 | rfl
 have hq1 : ss = (M.take r s player).stores := by first | exact hT1 | exact hT2 | rfl
 have hq2 : s.last = (M.take r s player).last := by first | exact hT1 | exact hT2 | rfl
 have hq3 : s.laps = (M.take r s player).laps := by first | exact hT1 | exact hT2 | rfl
 refine zS <| Q9 3 rfl rfl ?_
 refine zw 2 rfl rfl rfl ?_
 refine JL.nil ?_
 exact zro (x8.trans x14)
theorem c_impl_Rules_mustFeed (r : M.Rul) {v_r : Value} (p : M.Pos) {v_p : Value} {w : World} (h_r : (Ty.agg (cRules r)).ok w v_r) (h_p : (Ty.agg (cPosition p)).ok w v_p) (r0 : M.okP r p = true := by exact om_) : RetV Tryz.prog 147 [v_r, v_p] w (.bool (M.mustFeed r p)) := by
 obtain ⟨g1, g2, g3, g4, g5, g6, g7⟩ := M.okP_bd r0
 revert v_r; apply opn
 revert v_p; apply opn
 intro A1 c1 h1 bl1 bh1 A2 c2 h2 bl2 bh2
 refine enter @Tryz.func147 @Tryz.ntmps147 rfl rfl ?_
 refine zent ?_
 refine zS <| zb rfl fun b3 => zb rfl fun b4 => Qa rfl <| zN <| Qf fh rfl <| Q0 1 rfl rfl rfl <| Qm rfl <| zgq (Gd.t1 rfl rfl rfl) (fun hc => L9 1 rfl rfl) <| zg (Gd.t1 rfl rfl rfl) (fun hc => p_fieldAddr fld_31_0.h rfl) <| zgq (Gd.t1 rfl rfl rfl) (fun hc => q_load1 ty_29.h (gh hc rfl) (Mem.box (i := 0) rfl rfl)) <| zg (Gd.t1 rfl rfl rfl) (fun hc => p_fieldAddr fld_31_2.h rfl) <| zgq (Gd.t1 rfl rfl rfl) (fun hc => q_load1 ty_2.h (gh hc rfl) (Mem.box (i := 0) rfl rfl)) <| zg (Gd.t1 rfl rfl rfl) (fun hc => p_sub rfl (gh hc rfl) (IntWalk.i64_in _ (by omega))) ?_
 refine zgv (Gd.t1 rfl rfl rfl) (fun hc => (opds_3 (gh hc rfl) (gh hc rfl) (gh hc rfl))) (fun hc => (fun w hw => c_impl_Rules_side r p.pits (1 - p.player) (ok_ hw) (ok_ hw) (r4 := g5))) ?_
 refine zg (Gd.t1 rfl rfl rfl) (fun hc => p_eql (gh hc rfl) rfl) <| Qq (p_pickAnd rfl rfl rfl) <| Qa rfl <| JL.nil ?_
 refine zR (Up.refl _ _) ?_
 simp [outV, M.mustFeed]
theorem c_impl_Rules_done (r : M.Rul) {v_r : Value} (p : M.Pos) {v_p : Value} (move : Int) {w : World} (h_r : (Ty.agg (cRules r)).ok w v_r) (h_p : (Ty.agg (cPosition p)).ok w v_p) (r0 : p.pits.length ≤ 4194304 := by exact om_) (r1 : p.stores.length ≤ 4194304 := by exact om_) : Ret Tryz.prog 129 [v_r, v_p, .int .i64 move] w (Ty.tup [Ty.agg (cSown ((M.done r p move).1)), Ty.int ((M.done r p move).2)]) := by
 revert v_r; apply opn
 revert v_p; apply opn
 intro A1 c1 h1 bl1 bh1 A2 c2 h2 bl2 bh2
 refine enter @Tryz.func129 @Tryz.ntmps129 rfl rfl ?_
 refine zent ?_
 refine zS <| zb rfl fun b3 => zb rfl fun b4 => za zeh fun b5 => Qa rfl <| zN <| Q9 2 rfl rfl ?_
 refine Q9 1 rfl rfl ?_
 refine Qm rfl <| zp rfl (fun w hw => c_impl_sowMove r p move (ok_ hw) (ok_ hw)) ?_
 intro u6 x6 v7 h7
 refine Qm rfl <| Qx rfl rfl <| Qx rfl rfl <| Qa rfl <| Qa rfl <| zJ <| zS <| Qm rfl <| Qd rfl rfl <| JL.nil ?_
 refine zi (fun h8 h8' => ?_) fun h8 h8' => ?_
 ·
  have hz : ¬ (M.sowMove r p move).1 = 0 := by simpa using h8
  have hD : M.done r p move = (M.Sw.zero, (M.sowMove r p move).1) := by unfold M.done; rw [if_pos hz]
  have hq0 : [] = ((M.done r p move).1).pits := rp_ hD
  have hq1 : [] = ((M.done r p move).1).stores := rp_ hD
  have hq2 : 0 = ((M.done r p move).1).last := rp_ hD
  have hq3 : 0 = ((M.done r p move).1).laps := rp_ hD
  have hq4 : ((M.sowMove r p move).1) = (M.done r p move).2 := rp_ hD
  refine zS <| Qb ?_
  refine Qm rfl <| zw 0 rfl rfl rfl ?_
  refine Qa rfl <| JL.nil ?_
  exact zro x6
 have hz : (M.sowMove r p move).1 = 0 := by simpa using h8
 obtain ⟨hok, m0, m1, hG, q0, q1, hsum⟩ := M.sowMove_ok hz
 obtain ⟨g1, g2, g3, g4, g5, g6, g7⟩ := M.okP_bd hok
 have hG2 := (M.take_keeps g7 hG q1).1
 have hao := M.Good.ok hG2
 have hl2 := hG2.lp
 have ⟨g8, g9⟩ : p.pits.length ≤ 4194304 ∧ p.stores.length ≤ 4194304 := by omega
 refine Js.skip <| Js.seq ?_
 refine zk [3, 4, 6] (fun F U l os u => ∃ (b9 o9 b11 : Nat) (A10_0 : Option Addr) (c10_0 : Nat) (A10_1 : Option Addr) (c10_1 : Nat) (f10 : List Nat) (A9_10 : Option Addr) (c9_10 : Nat) (A9_11 : Option Addr) (c9_11 : Nat) (A9_14 : Option Addr) (c9_14 : Nat), l = F [(8, .pointer (some ⟨b9, o9, none⟩)), (10, .pointer (some ⟨b11, 0, none⟩))] ∧ os = [boxO b11 [.slice A10_0 (((M.take r ((M.sowMove r p move).2.1) p.player).pits).length) c10_0, .slice A10_1 (((M.take r ((M.sowMove r p move).2.1) p.player).stores).length) c10_1, .int .i64 ((M.take r ((M.sowMove r p move).2.1) p.player).last), .int .i64 ((M.take r ((M.sowMove r p move).2.1) p.player).laps)] 181, ownC (cSown (M.take r ((M.sowMove r p move).2.1) p.player)) [.slice A10_0 (((M.take r ((M.sowMove r p move).2.1) p.player).pits).length) c10_0, .slice A10_1 (((M.take r ((M.sowMove r p move).2.1) p.player).stores).length) c10_1, .int .i64 ((M.take r ((M.sowMove r p move).2.1) p.player).last), .int .i64 ((M.take r ((M.sowMove r p move).2.1) p.player).laps)] f10] ++ U [] ∧ (RowAt u b9 o9 [.int .i64 r.pits, .int .i64 r.seeds, .bool r.stores, .bool r.skip, .bool r.relay, .bool r.feed, .bool r.again, .int .i64 r.capture, .int .i64 r.slam, .int .i64 p.player, .slice A9_10 ((((M.sowMove r p move).2.1).pits).length) c9_10, .slice A9_11 ((((M.sowMove r p move).2.1).stores).length) c9_11, .int .i64 (((M.sowMove r p move).2.1).last), .int .i64 (((M.sowMove r p move).2.1).laps), .slice A9_14 (((M.sowMove r p move).2.2).length) c9_14]) ∧ ((((M.sowMove r p move).2.1).pits).length ≤ c9_10) ∧ (c9_10 ≤ 9223372036854775807) ∧ ((Ty.ints 2 (((M.sowMove r p move).2.1).pits)).ok u (.slice A9_10 ((((M.sowMove r p move).2.1).pits).length) c9_10)) ∧ ((((M.sowMove r p move).2.1).stores).length ≤ c9_11) ∧ (c9_11 ≤ 9223372036854775807) ∧ ((Ty.ints 2 (((M.sowMove r p move).2.1).stores)).ok u (.slice A9_11 ((((M.sowMove r p move).2.1).stores).length) c9_11)) ∧ (((M.sowMove r p move).2.2).length ≤ c9_14) ∧ (c9_14 ≤ 9223372036854775807) ∧ ((Ty.ints 2 ((M.sowMove r p move).2.2)).ok u (.slice A9_14 (((M.sowMove r p move).2.2).length) c9_14)) ∧ (((M.take r ((M.sowMove r p move).2.1) p.player).pits).length ≤ c10_0) ∧ (c10_0 ≤ 9223372036854775807) ∧ (((M.take r ((M.sowMove r p move).2.1) p.player).stores).length ≤ c10_1) ∧ (c10_1 ≤ 9223372036854775807)) ?_ ?_
 ·
  refine zdr [9] ?_
  refine JH.q 0 rfl (L9 2 rfl rfl) ?_
  refine jM 1 rfl rfl ?_
  obtain ⟨b15, o15, A15_10, c15_10, A15_11, c15_11, A15_14, c15_14, rfl, hr15, h15_10, h15_11, h15_14, bl15_10, bh15_10, bl15_11, bh15_11, bl15_14, bh15_14⟩ := ref_sowing (box_ref (opt_yes h7 (by exact decide_eq_true hz)))
  refine jN 2 rfl rfl ?_
  refine jF 3 fld_201_2 rfl rfl ?_
  refine JH.w 4 rfl (fun os' u' hv => LS 10 (hr15.vis hv) rfl) ?_
  refine jF 5 fld_31_2 rfl rfl ?_
  refine jB 6 1 ty_2 rfl rfl rfl rfl ?_
  refine y2 7 8 ?_ ?_
  ·
   refine ycs rfl rfl (fun w hw => c_impl_Rules_takeCaptures r ((M.sowMove r p move).2.1) p.player (ok_ hw) (ok_ hw) (r3 := hG)) ?_
   intro A16_0 c16_0 bl16_0 bh16_0 A16_1 c16_1 bl16_1 bh16_1 f16
   refine y1 8 ?_
   refine ya rfl fun b17 => ?_
   refine y1 9 ?_
   refine yst rfl rfl rfl ?_
   refine yd ?_
   exact zm ⟨_, _, _, _, _, _, _, _, _, _, _, _, _, _, rfl, rfl, hr15, zt, zt, h15_10, zt, zt, h15_11, zt, zt, h15_14, zt, zt, zt, zt⟩ (Up.refl _ _)
  refine ya rfl fun b18 => ?_
  refine y1 7 ?_
  refine ycs rfl rfl (fun w hw => c_impl_Rules_takeCaptures r ((M.sowMove r p move).2.1) p.player (ok_ hw) (ok_ hw) (r3 := hG)) ?_
  intro A19_0 c19_0 bl19_0 bh19_0 A19_1 c19_1 bl19_1 bh19_1 f19
  refine y1 9 ?_
  refine yst rfl rfl rfl ?_
  refine yd ?_
  refine zh [1, 0, 0, 0, 0] ?_
  exact zm ⟨_, _, _, _, _, _, _, _, _, _, _, _, _, _, rfl, rfl, hr15, zt, zt, h15_10, zt, zt, h15_11, zt, zt, h15_14, zt, zt, zt, zt⟩ (Up.refl _ _)
 rintro _ _ u14 ⟨b9, o9, b11, A10_0, c10_0, A10_1, c10_1, f10, A9_10, c9_10, A9_11, c9_11, A9_14, c9_14, rfl, rfl, f14_0, f14_1, f14_2, f14_3, f14_4, f14_5, f14_6, f14_7, f14_8, f14_9, f14_10, f14_11, f14_12, f14_13⟩ x14
 refine zn ?_
 refine Js.seq <| Js.seq ?_
 refine zdr [] ?_
 refine jF 0 fld_25_8 rfl rfl ?_
 refine jB 1 4 ty_2 rfl rfl rfl rfl ?_
 refine JH.p 2 rfl (p_eql rfl rfl) ?_
 refine jM 3 rfl rfl ?_
 refine JH.qg 4 rfl (Gd.t1 rfl rfl rfl) (fun hc => L9 4 rfl rfl) ?_
 refine JH.pg 5 rfl (Gd.t1 rfl rfl rfl) (fun hc => p_move rfl) ?_
 refine JH.pg 6 rfl (Gd.t1 rfl rfl rfl) (fun hc => p_nilCheck (gvt rfl hc)) ?_
 refine JH.pg 7 rfl (Gd.t1 rfl rfl rfl) (fun hc => p_fieldAddr fld_201_2.h (gvt rfl hc)) ?_
 refine JH.wg 8 rfl (Gd.t1 rfl rfl rfl) (fun hc os' u' hv => LS 10 (f14_0.vis hv) (gvt rfl hc)) ?_
 refine JH.pg 9 rfl (Gd.t1 rfl rfl rfl) (fun hc => p_fieldAddr fld_31_2.h rfl) ?_
 refine JH.qg 10 rfl (Gd.t1 rfl rfl rfl) (fun hc => q_load1 ty_2.h (gvt rfl hc) (Mem.box (i := 3) rfl rfl)) ?_
 refine y1 11 ?_
 refine JHo.ge rfl (Gd.t1 rfl rfl rfl) (fun hc => e_callV fn_146.h (opds_3 (gvt rfl hc) (gvt rfl hc) (gvt rfl hc)) (fun w hw => c_impl_Rules_slams r ((M.sowMove r p move).2.1) p.player (ok_ hw) (ok_ hw) (r0 := (oh_ hc)) (r1 := (oh_ hc)) (r2 := (oh_ hc)) (r3 := hG) (r4 := (oh_ hc)) (r5 := (oh_ hc)))) ?_
 refine JH.p 12 rfl (p_pickAnd rfl rfl rfl) ?_
 refine jM 13 rfl rfl ?_
 refine JH.qg 14 rfl (Gd.f1 rfl rfl rfl) (fun hc => L9 4 rfl rfl) ?_
 refine JH.qg 15 rfl (Gd.f1 rfl rfl rfl) (fun hc => L9 3 rfl rfl) ?_
 refine y1 16 ?_
 refine JHo.ge rfl (Gd.f1 rfl rfl rfl) (fun hc => e_callV fn_147.h (opds_2 (gvt rfl hc) (gvt rfl hc)) (fun w hw => c_impl_Rules_mustFeed r p (ok_ hw) (ok_ hw) (r0 := hok))) ?_
 refine JH.pg 17 rfl (Gd.f1 rfl rfl rfl) (fun hc => p_move (gvt rfl hc)) ?_
 refine JH.qg 18 rfl (Gd.t2 rfl rfl rfl) (fun hc => L9 4 rfl rfl) ?_
 refine JH.pg 19 rfl (Gd.t2 rfl rfl rfl) (fun hc => p_fieldAddr fld_181_0.h rfl) ?_
 refine JH.qg 20 rfl (Gd.t2 rfl rfl rfl) (fun hc => q_load1 ty_29.h (gvt rfl hc) (Mem.box (i := 0) rfl rfl)) ?_
 refine JH.pg 21 rfl (Gd.t2 rfl rfl rfl) (fun hc => p_fieldAddr fld_31_2.h rfl) ?_
 refine JH.qg 22 rfl (Gd.t2 rfl rfl rfl) (fun hc => q_load1 ty_2.h (gvt rfl hc) (Mem.box (i := 3) rfl rfl)) ?_
 refine JH.pg 23 rfl (Gd.t2 rfl rfl rfl) (fun hc => p_sub rfl (gvt rfl hc) (IntWalk.i64_in _ (by have hc9 := hc; (try simp only [Bool.and_eq_true, Bool.not_eq_true', Bool.and_eq_false_iff, decide_eq_false_iff_not] at hc9); omega))) ?_
 refine y1 24 ?_
 refine JHo.ge rfl (Gd.t2 rfl rfl rfl) (fun hc => e_callV fn_130.h (opds_3 (gvt rfl hc) (gvt rfl hc) (gvt rfl hc)) (fun w hw => c_impl_Rules_side r ((M.take r ((M.sowMove r p move).2.1) p.player).pits) (1 - p.player) (ok_ hw) (ok_ hw) (r0 := (by have hc9 := hc; (try simp only [Bool.and_eq_true, Bool.not_eq_true', Bool.and_eq_false_iff, decide_eq_false_iff_not] at hc9); omega)) (r1 := (by have hc9 := hc; (try simp only [Bool.and_eq_true, Bool.not_eq_true', Bool.and_eq_false_iff, decide_eq_false_iff_not] at hc9); omega)) (r2 := (by have hc9 := hc; (try simp only [Bool.and_eq_true, Bool.not_eq_true', Bool.and_eq_false_iff, decide_eq_false_iff_not] at hc9); omega)) (r3 := (by have hc9 := hc; (try simp only [Bool.and_eq_true, Bool.not_eq_true', Bool.and_eq_false_iff, decide_eq_false_iff_not] at hc9); omega)) (r4 := hao.1))) ?_
 refine JH.pg 25 rfl (Gd.t2 rfl rfl rfl) (fun hc => p_eql (gvt rfl hc) rfl) ?_
 refine JH.pg 26 rfl (Gd.f1 rfl rfl rfl) (fun hc => p_pickAnd (gvt rfl hc) (gvl rfl hc) rfl) ?_
 refine JH.p 27 rfl (p_pickOr rfl rfl rfl) ?_
 refine yd ?_
 refine zi (fun h20 h20' => ?_) fun h20 h20' => ?_
 ·
  have hD : M.done r p move = (M.Sw.zero, 9) := by unfold M.done; rw [if_neg (by simpa using hz), if_pos (by simpa using h20)]
  have hq0 : [] = ((M.done r p move).1).pits := rp_ hD
  have hq1 : [] = ((M.done r p move).1).stores := rp_ hD
  have hq2 : 0 = ((M.done r p move).1).last := rp_ hD
  have hq3 : 0 = ((M.done r p move).1).laps := rp_ hD
  have hq4 : 9 = (M.done r p move).2 := rp_ hD
  refine zS <| Qb ?_
  refine zw 2 rfl rfl rfl ?_
  refine Qa rfl <| JL.nil ?_
  exact zro (x6.trans x14)
 have hD : M.done r p move = (M.take r (M.sowMove r p move).2.1 p.player, 0) := by unfold M.done; rw [if_neg (by simpa using hz), if_neg (by simpa using h20)]
 have hq0 : (M.take r ((M.sowMove r p move).2.1) p.player) = (M.done r p move).1 := rp_ hD
 have hq1 : 0 = (M.done r p move).2 := rp_ hD
 refine Js.skip <| zS <| Q9 0 rfl rfl ?_
 refine zw 2 rfl rfl rfl ?_
 refine Qa rfl <| JL.nil ?_
 exact zro (x6.trans x14)
theorem c_impl_Rules_results (r : M.Rul) {v_r : Value} (p : M.Pos) {v_p : Value} {w : World} (h_r : (Ty.agg (cRules r)).ok w v_r) (h_p : (Ty.agg (cPosition p)).ok w v_p) (r0 : M.okP r p = true := by exact om_) : Ret Tryz.prog 91 [v_r, v_p] w (Ty.sl 114 6 (M.results r p).length (lResult (M.results r p))) := by
 obtain ⟨g1, g2, g3, g4, g5, g6, g7⟩ := M.okP_bd r0
 revert v_r; apply opn
 revert v_p; apply opn
 intro A1 c1 h1 bl1 bh1 A2 c2 h2 bl2 bh2
 refine enter @Tryz.func91 @Tryz.ntmps91 rfl rfl ?_
 refine zent ?_
 obtain ⟨b3, o3, rfl⟩ := ints_some h2 (by omega)
 refine zS <| zb rfl fun b4 => zb rfl fun b5 => Qa rfl <| zN <| zbs fun b6 => ?_
 refine Qa rfl <| zJ <| zS <| Qf fh rfl <| Q0 2 rfl rfl rfl <| Qm rfl <| JL.nil <| Js.block ?_
 refine Js.vals (Ts := lResult []) (vs := []) (fun w => rfl) ?_
 refine zl [2, 3, 13] (fun F U l os u m => ∃ (k : Nat) (acc : List M.Res) (A8_5 : Option Addr) (c8_5 : Nat) (g8_5 : List Nat) (vs8_5 : List Value) (fl8_5 : List Nat), l = F [(5, .slice A8_5 acc.length c8_5), (14, .int .i64 (k : Int))] ∧ os = U [some (ownC (lResult acc) vs8_5 fl8_5), some (rowO 114 6 (.slice A8_5 acc.length c8_5) acc.length vs8_5 g8_5)] ∧ (acc = M.resultsTo r p k) ∧ (k ≤ r.pits) ∧ (acc.length ≤ c8_5) ∧ (c8_5 ≤ 9223372036854775807) ∧ m = (r.pits - k).toNat) ⟨0, [], _, _, _, _, _, rfl, rfl, by rfl, zt, zu, zu, rfl⟩ ?_
 rintro _ _ u8 _ ⟨k, acc, A8_5, c8_5, g8_5, vs8_5, fl8_5, rfl, rfl, hacc, hk, f8_2, f8_3, rfl⟩ x8
 refine zn ?_
 have hlen := M.resultsTo_len (r := r) (p := p) k
 have hlacc : acc.length ≤ k := by rw [hacc]; exact hlen
 refine zS <| Ql rfl rfl <| zJ ?_
 refine zi (fun h9 h9' => ?_) fun h9 h9' => ?_
 ·
  refine Js.skip <| Js.seq <| Js.block <| zS <| Qm rfl <| Qa rfl <| zN <| Q9 3 rfl rfl ?_
  refine Q9 2 rfl rfl ?_
  refine Qm rfl <| zc rfl (fun w hw => c_impl_Rules_done r p (k : Int) (ok_ hw) (ok_ hw)) ?_
  intro A12 c12 bl12 bh12 A13 c13 bl13 bh13
  refine Qm rfl <| Qx rfl rfl <| Qx rfl rfl <| za zeh fun b14 => zw 0 rfl rfl rfl ?_
  refine Qa rfl <| zJ <| zS <| Qm rfl <| Qd rfl rfl <| JL.nil ?_
  refine zi (fun h15 h15' => ?_) fun h15 h15' => ?_
  ·
   have hacc2 := (M.resultsTo_no (r := r) (p := p) (k := k) (by simpa using h15)).symm
   refine zx ?_
   refine Js.region <| Qp rfl rfl <| Qm rfl <| JL.nil ?_
   refine zd [3, 3, 3, 3] rfl fun u16 x16 => ?_
   exact zag ⟨k + 1, acc, _, _, _, _, _, rfl, rfl, by rw [hacc]; exact hacc2, zt, zu, zu, rfl⟩ (x8.trans x16)
  have hz : (M.done r p k).2 = 0 := by simpa using h15
  obtain ⟨_, _, _, hG⟩ := M.done_good hz
  have l3 := hG.ls
  have hs1 := hG.store p.player
  have hs2 := (M.Good.of_ok r0).store p.player
  refine Js.fact (row_some (i := 1) rfl (by omega)) (fun hf17 => ?_)
  obtain ⟨b17, rfl⟩ := hf17
  refine Js.skip <| zS <| Qf fh rfl <| Q0 6 rfl rfl rfl <| Qm rfl <| zg (Gd.t1 rfl rfl rfl) (fun hc => p_fieldAddr fld_181_2.h rfl) <| zgq (Gd.t1 rfl rfl rfl) (fun hc => q_load1 ty_2.h (gh hc rfl) (Mem.box (i := 0) rfl rfl)) <| zg (Gd.t1 rfl rfl rfl) (fun hc => p_eql (gh hc rfl) rfl) <| Qq (p_pickAnd rfl rfl rfl) <| Qa rfl <| zN <| Qf fh rfl <| Q0 0 rfl rfl rfl <| Qf fh rfl ?_
  refine Q0 0 rfl rfl rfl <| Qf fh rfl <| Q0 5 rfl rfl rfl <| Qs rfl rfl <| Qb ?_
  refine za zeh fun b18 => zw 0 rfl rfl rfl ?_
  refine zJ <| zS <| Qm rfl <| JL.nil ?_
  refine zi (fun h19 h19' => ?_) fun h19 h19' => ?_
  ·
   have hacc2 := (M.resultsTo_yes hz).symm
   unfold M.resOf at hacc2
   rw [if_pos h19] at hacc2
   refine Js.region <| Qf fh rfl <| Q0 6 rfl rfl rfl <| Qf fh rfl <| zw 0 rfl rfl rfl ?_
   refine JL.nil ?_
   refine zdr [19] ?_
   refine jM 0 rfl rfl ?_
   refine jM 1 rfl rfl ?_
   refine jF 2 fld_181_1 rfl rfl ?_
   refine jB 3 1 ty_29 rfl rfl rfl rfl ?_
   refine jF 4 fld_31_2 rfl rfl ?_
   refine jB 5 6 ty_2 rfl rfl rfl rfl ?_
   refine jI 6 el_29 rfl rfl rfl rfl ?_
   refine JH.q 7 rfl (q_load1 ty_2.h rfl (Mem.row (i := 2) rfl (ints_getI (i := p.player) (by omega)))) ?_
   refine jF 8 fld_31_1 rfl rfl ?_
   refine jB 9 6 ty_29 rfl rfl rfl rfl ?_
   refine jF 10 fld_31_2 rfl rfl ?_
   refine jB 11 6 ty_2 rfl rfl rfl rfl ?_
   refine jI 12 el_29 rfl rfl rfl rfl ?_
   refine JH.w 13 rfl (fun os' u' hv => q_load1 ty_2.h rfl (Mem.pub (ints_cellI (i := p.player) (Ty.mono _ h2 (x8.vis.trans hv)) (by omega)))) ?_
   refine JH.p 14 rfl (p_sub rfl rfl (IntWalk.i64_in _ (by omega))) ?_
   refine jM 15 rfl rfl ?_
   refine JH.q 16 rfl (L9 0 rfl rfl) ?_
   refine JH.p 17 rfl (q_bld) ?_
   refine y1 18 ?_
   refine ybs rfl fun b22 => ?_
   refine y1 19 ?_
   refine JHo.e rfl (e_append (i := 6) (n' := (acc ++ [(M.Res.mk (k : Int) ((M.getI (((M.done r p (k : Int)).1).stores) p.player) - (M.getI p.stores p.player)) (r.again && (decide (((M.done r p (k : Int)).1).last = (-1)))) (M.Pos.mk (((M.done r p (k : Int)).1).pits) (((M.done r p (k : Int)).1).stores) p.player))]).length) (vs' := vs8_5 ++ [.int .i64 (k : Int), .int .i64 ((M.getI (((M.done r p (k : Int)).1).stores) p.player) - (M.getI p.stores p.player)), .bool (r.again && (decide (((M.done r p (k : Int)).1).last = (-1)))), .slice A12 ((((M.done r p (k : Int)).1).pits).length) c12, .slice (some ⟨b17, 0, none⟩) ((((M.done r p (k : Int)).1).stores).length) c13, .int .i64 p.player]) el_111 rfl rfl rfl rfl (src_row (i := 0) und_111 rfl rfl) (by omega) (by omega) ln2_ (rfl)) (.inr rfl) ?_
   rintro v24 _ _ ⟨⟨g25, rfl⟩, rfl⟩ _
   refine JH.fact (row_form' (i := 6) rfl) (fun hf26 => ?_)
   obtain ⟨A26, c26, rfl, bl26, bh26⟩ := hf26
   refine znh ?_
   refine jA 20 rfl rfl ?_
   refine yd ?_
   refine Js.pack2 (i := 4) (j := 3) (cResult (M.Res.mk (k : Int) ((M.getI (((M.done r p (k : Int)).1).stores) p.player) - (M.getI p.stores p.player)) (r.again && (decide (((M.done r p (k : Int)).1).last = (-1)))) (M.Pos.mk (((M.done r p (k : Int)).1).pits) (((M.done r p (k : Int)).1).stores) p.player))) [.int .i64 (k : Int), .int .i64 ((M.getI (((M.done r p (k : Int)).1).stores) p.player) - (M.getI p.stores p.player)), .bool (r.again && (decide (((M.done r p (k : Int)).1).last = (-1)))), .slice A12 ((((M.done r p (k : Int)).1).pits).length) c12, .slice (some ⟨b17, 0, none⟩) ((((M.done r p (k : Int)).1).stores).length) c13, .int .i64 p.player] rfl rfl (fun w h1 h2 => pack_Result (ints_row h1 rfl) (ints_row h2 rfl)) (fun f27 => ?_)
   refine Js.joinL (i := 4) (j := 0) (Vs := lResult (acc ++ [(M.Res.mk (k : Int) ((M.getI (((M.done r p (k : Int)).1).stores) p.player) - (M.getI p.stores p.player)) (r.again && (decide (((M.done r p (k : Int)).1).last = (-1)))) (M.Pos.mk (((M.done r p (k : Int)).1).pits) (((M.done r p (k : Int)).1).stores) p.player))])) rfl rfl (lResult_snoc _ _) (fun f28 => ?_)
   refine zn ?_
   refine Js.blockEnd <| Js.region <| Qp rfl rfl <| Qm rfl <| JL.nil ?_
   refine zd [0, 3, 3, 3] rfl fun u29 x29 => ?_
   exact zag ⟨k + 1, acc ++ [(M.Res.mk (k : Int) ((M.getI (((M.done r p (k : Int)).1).stores) p.player) - (M.getI p.stores p.player)) (r.again && (decide (((M.done r p (k : Int)).1).last = (-1)))) (M.Pos.mk (((M.done r p (k : Int)).1).pits) (((M.done r p (k : Int)).1).stores) p.player))], _, _, _, _, _, rfl, rfl, by rw [hacc]; exact hacc2, zt, zu, zu, rfl⟩ (x8.trans x29)
  have hacc2 := (M.resultsTo_yes hz).symm
  unfold M.resOf at hacc2
  rw [if_neg (by simpa using h19)] at hacc2
  refine Js.skip ?_
  refine zdr [19] ?_
  refine jM 0 rfl rfl ?_
  refine jM 1 rfl rfl ?_
  refine jF 2 fld_181_1 rfl rfl ?_
  refine jB 3 1 ty_29 rfl rfl rfl rfl ?_
  refine jF 4 fld_31_2 rfl rfl ?_
  refine jB 5 6 ty_2 rfl rfl rfl rfl ?_
  refine jI 6 el_29 rfl rfl rfl rfl ?_
  refine JH.q 7 rfl (q_load1 ty_2.h rfl (Mem.row (i := 2) rfl (ints_getI (i := p.player) (by omega)))) ?_
  refine jF 8 fld_31_1 rfl rfl ?_
  refine jB 9 6 ty_29 rfl rfl rfl rfl ?_
  refine jF 10 fld_31_2 rfl rfl ?_
  refine jB 11 6 ty_2 rfl rfl rfl rfl ?_
  refine jI 12 el_29 rfl rfl rfl rfl ?_
  refine JH.w 13 rfl (fun os' u' hv => q_load1 ty_2.h rfl (Mem.pub (ints_cellI (i := p.player) (Ty.mono _ h2 (x8.vis.trans hv)) (by omega)))) ?_
  refine JH.p 14 rfl (p_sub rfl rfl (IntWalk.i64_in _ (by omega))) ?_
  refine jM 15 rfl rfl ?_
  refine JH.q 16 rfl (L9 0 rfl rfl) ?_
  refine JH.p 17 rfl (q_bld) ?_
  refine y1 18 ?_
  refine ybs rfl fun b32 => ?_
  refine y1 19 ?_
  refine JHo.e rfl (e_append (i := 6) (n' := (acc ++ [(M.Res.mk (k : Int) ((M.getI (((M.done r p (k : Int)).1).stores) p.player) - (M.getI p.stores p.player)) (r.again && (decide (((M.done r p (k : Int)).1).last = (-1)))) (M.Pos.mk (((M.done r p (k : Int)).1).pits) (((M.done r p (k : Int)).1).stores) (1 - p.player)))]).length) (vs' := vs8_5 ++ [.int .i64 (k : Int), .int .i64 ((M.getI (((M.done r p (k : Int)).1).stores) p.player) - (M.getI p.stores p.player)), .bool (r.again && (decide (((M.done r p (k : Int)).1).last = (-1)))), .slice A12 ((((M.done r p (k : Int)).1).pits).length) c12, .slice (some ⟨b17, 0, none⟩) ((((M.done r p (k : Int)).1).stores).length) c13, .int .i64 (1 - p.player)]) el_111 rfl rfl rfl rfl (src_row (i := 0) und_111 rfl rfl) (by omega) (by omega) ln2_ (rfl)) (.inr rfl) ?_
  rintro v34 _ _ ⟨⟨g35, rfl⟩, rfl⟩ _
  refine JH.fact (row_form' (i := 6) rfl) (fun hf36 => ?_)
  obtain ⟨A36, c36, rfl, bl36, bh36⟩ := hf36
  refine znh ?_
  refine jA 20 rfl rfl ?_
  refine yd ?_
  refine Js.pack2 (i := 4) (j := 3) (cResult (M.Res.mk (k : Int) ((M.getI (((M.done r p (k : Int)).1).stores) p.player) - (M.getI p.stores p.player)) (r.again && (decide (((M.done r p (k : Int)).1).last = (-1)))) (M.Pos.mk (((M.done r p (k : Int)).1).pits) (((M.done r p (k : Int)).1).stores) (1 - p.player)))) [.int .i64 (k : Int), .int .i64 ((M.getI (((M.done r p (k : Int)).1).stores) p.player) - (M.getI p.stores p.player)), .bool (r.again && (decide (((M.done r p (k : Int)).1).last = (-1)))), .slice A12 ((((M.done r p (k : Int)).1).pits).length) c12, .slice (some ⟨b17, 0, none⟩) ((((M.done r p (k : Int)).1).stores).length) c13, .int .i64 (1 - p.player)] rfl rfl (fun w h1 h2 => pack_Result (ints_row h1 rfl) (ints_row h2 rfl)) (fun f37 => ?_)
  refine Js.joinL (i := 4) (j := 0) (Vs := lResult (acc ++ [(M.Res.mk (k : Int) ((M.getI (((M.done r p (k : Int)).1).stores) p.player) - (M.getI p.stores p.player)) (r.again && (decide (((M.done r p (k : Int)).1).last = (-1)))) (M.Pos.mk (((M.done r p (k : Int)).1).pits) (((M.done r p (k : Int)).1).stores) (1 - p.player)))])) rfl rfl (lResult_snoc _ _) (fun f38 => ?_)
  refine zn ?_
  refine Js.blockEnd <| Js.region <| Qp rfl rfl <| Qm rfl <| JL.nil ?_
  refine zd [0, 3, 3, 3] rfl fun u39 x39 => ?_
  exact zag ⟨k + 1, acc ++ [(M.Res.mk (k : Int) ((M.getI (((M.done r p (k : Int)).1).stores) p.player) - (M.getI p.stores p.player)) (r.again && (decide (((M.done r p (k : Int)).1).last = (-1)))) (M.Pos.mk (((M.done r p (k : Int)).1).pits) (((M.done r p (k : Int)).1).stores) (1 - p.player)))], _, _, _, _, _, rfl, rfl, by rw [hacc]; exact hacc2, zt, zu, zu, rfl⟩ (x8.trans x39)
 have hR : acc = M.results r p := by rw [hacc]; unfold M.results; rw [show k = r.pits.toNat by omega]
 refine zx ?_
 have hq0 : acc = M.results r p := by exact hR
 refine zS <| Qm rfl <| Qa rfl <| JL.nil ?_
 exact zro x8
theorem c_impl_Rules_endValue (r : M.Rul) {v_r : Value} (p : M.Pos) {v_p : Value} {w : World} (h_r : (Ty.agg (cRules r)).ok w v_r) (h_p : (Ty.agg (cPosition p)).ok w v_p) (r0 : M.okP r p = true := by exact om_) : RetV Tryz.prog 92 [v_r, v_p] w (.int .i64 (M.endV r p)) := by
 obtain ⟨g1, g2, g3, g4, g5, g6, g7⟩ := M.okP_bd r0
 have g8 := M.results_8 r0
 have b1 := M.side_bd g5 g2 p.player
 have b2 := M.side_bd g5 g2 (1 - p.player)
 revert v_r; apply opn
 revert v_p; apply opn
 intro A1 c1 h1 bl1 bh1 A2 c2 h2 bl2 bh2
 refine enter @Tryz.func92 @Tryz.ntmps92 rfl rfl ?_
 refine zent ?_
 refine zS <| zb rfl fun b3 => zb rfl fun b4 => Qa rfl <| zJ ?_
 refine zdr [] ?_
 refine JH.q 0 rfl (L9 1 rfl rfl) ?_
 refine jF 1 fld_31_0 rfl rfl ?_
 refine jB 2 0 ty_29 rfl rfl rfl rfl ?_
 refine jF 3 fld_31_2 rfl rfl ?_
 refine jB 4 0 ty_2 rfl rfl rfl rfl ?_
 refine JH.q 6 rfl (L9 1 rfl rfl) ?_
 refine jF 7 fld_31_0 rfl rfl ?_
 refine jB 8 0 ty_29 rfl rfl rfl rfl ?_
 refine jF 9 fld_31_2 rfl rfl ?_
 refine jB 10 0 ty_2 rfl rfl rfl rfl ?_
 refine JH.p 11 rfl (p_sub rfl rfl (IntWalk.i64_in _ (by omega))) ?_
 refine y1 5 ?_
 refine yv rfl rfl (fun w hw => c_impl_Rules_side r p.pits p.player (ok_ hw) (ok_ hw) (r4 := g5)) ?_
 refine y1 12 ?_
 refine yv rfl rfl (fun w hw => c_impl_Rules_side r p.pits (1 - p.player) (ok_ hw) (ok_ hw) (r4 := g5)) ?_
 refine JH.p 13 rfl (p_sub rfl rfl (IntWalk.i64_in _ (by omega))) ?_
 refine jA 14 rfl rfl ?_
 refine yd ?_
 refine zR (Up.refl _ _) ?_
 rfl
def S_impl_Rules_sizeUpTo (N : Nat) : Prop := ∀ (r : M.Rul) (v_r : Value) (p : M.Pos) (v_p : Value) (depth : Int) (w : World) (h_r : (Ty.agg (cRules r)).ok w v_r) (h_p : (Ty.agg (cPosition p)).ok w v_p) (r0 : M.okP r p = true) (r1 : 0 ≤ depth) (r2 : depth ≤ 8) (_ : depth.toNat = N), RetV Tryz.prog 89 [v_r, v_p, .int .i64 depth] w (.int .i64 (M.sizeT r depth.toNat p))
theorem c_impl_Rules_sizeUpTo_ : ∀ N, S_impl_Rules_sizeUpTo N := by
 intro N
 induction N using Nat.strongRecOn with
 | ind N ih =>
 intro r v_r p v_p depth w h_r h_p r0 r1 r2 hN
 obtain ⟨g1, g2, g3, g4, g5, g6, g7⟩ := M.okP_bd r0
 have g8 := M.results_8 r0
 revert v_r; apply opn
 revert v_p; apply opn
 intro A1 c1 h1 bl1 bh1 A2 c2 h2 bl2 bh2
 refine enter @Tryz.func89 @Tryz.ntmps89 rfl rfl ?_
 refine zent ?_
 refine zS <| zb rfl fun b3 => zb rfl fun b4 => Qa rfl <| zN <| Qa rfl <| zJ <| zS <| Qm rfl <| Qe rfl rfl <| JL.nil ?_
 refine zi (fun h5 h5' => ?_) fun h5 h5' => ?_
 ·
  have hE : M.sizeT r depth.toNat p = 1 := by rw [show depth.toNat = 0 by have := h5'; omega]; rfl
  refine zS <| Qm rfl <| Qa rfl <| JL.nil ?_
  refine zR (Up.refl _ _) ?_
  rw [hE]; rfl
 have hd : 1 ≤ depth := by have := h5'; omega
 refine Js.skip <| Js.seq <| zS <| Q9 1 rfl rfl ?_
 refine Q9 0 rfl rfl ?_
 refine zp rfl (fun w hw => c_impl_Rules_results r p (ok_ hw) (ok_ hw) (r0 := r0)) ?_
 intro u6 x6 A7 c7 h7 bl7 bh7
 refine Qz rfl <| Qm rfl <| JL.nil <| Js.block ?_
 refine zl [2, 3, 15, 16] (fun F U l os u m => ∃ (k : Nat) (z : Int), l = F [(7, .int .i64 z), (17, .int .i64 (k : Int))] ∧ os = U [] ∧ (M.szgo (M.sizeT r (depth - 1).toNat) z ((M.results r p).drop k) = M.sizeT r depth.toNat p) ∧ (1 ≤ z) ∧ (z ≤ 3000) ∧ (k ≤ (M.results r p).length) ∧ m = (M.results r p).length - k) ⟨0, 1, rfl, rfl, by exact (M.sizeT_d (by omega)).symm, zt, zt, zt, rfl⟩ ?_
 rintro _ _ u8 _ ⟨k, z, rfl, rfl, hS, z0, z1, hk, rfl⟩ x8
 refine zn ?_
 refine zS <| Ql rfl rfl <| zJ ?_
 refine zi (fun h9 h9' => ?_) fun h9 h9' => ?_
 ·
  obtain ⟨y10, hy10⟩ : ∃ x, (M.results r p)[k]? = some x := ⟨_, List.getElem?_eq_getElem (by omega)⟩
  obtain ⟨b10, o10, A10_3, c10_3, A10_4, c10_4, he10, hr10, h10_3, h10_4, bl10_3, bh10_3, bl10_4, bh10_4⟩ := elem_Result (Ty.mono _ h7 x8.vis) hy10
  have hb9 := M.sizeT_bd r (depth - 1).toNat y10.next
  refine Js.skip <| Js.seq <| Js.block <| zS <| Qq (p_indexAddr el_111 rfl rfl (by omega) (by omega) he10) <| QS 0 hr10 rfl ?_
  refine za zeh fun b11 => zw 0 rfl rfl rfl ?_
  refine zN <| Qm rfl <| Q9 2 rfl rfl ?_
  refine Qf fh rfl <| Q9 0 rfl rfl ?_
  refine Qm rfl <| Qs rfl rfl <| zv rfl (fun w hw => ih ((depth - 1).toNat) (by omega) r _ y10.next _ (depth - 1) w (ok_ hw) (ok_ hw) (M.results_ok (M.results_get0 hy10)) (by omega) (by omega) rfl) <| Qp rfl rfl <| Qa rfl <| zN <| Qm rfl <| Qg rfl rfl <| JL.nil ?_
  refine zi (fun h12 h12' => ?_) fun h12 h12' => ?_
  ·
   have hE := M.szgo_y hS hy10 (by simpa using h12)
   refine zS <| Qm rfl <| Qa rfl <| JL.nil ?_
   refine zR (x6.trans x8) ?_
   rw [hE]; rfl
  have hS2 := M.szgo_n hS hy10 (by simpa using h12)
  have hz9 := h12'
  refine Js.skip <| Js.blockEnd <| Js.region <| Qp rfl rfl <| Qm rfl <| JL.nil ?_
  refine zd [1, 1] rfl fun u13 x13 => ?_
  exact zag ⟨k + 1, z + (M.sizeT r (depth - 1).toNat y10.next), rfl, rfl, by exact hS2, zt, zt, zt, rfl⟩ (x8.trans x13)
 have hE := M.szgo_e hS (by have := h9'; omega)
 refine zx ?_
 refine zS <| Qm rfl <| Qa rfl <| JL.nil ?_
 refine zR (x6.trans x8) ?_
 rw [hE]; rfl
theorem c_impl_Rules_sizeUpTo (r : M.Rul) {v_r : Value} (p : M.Pos) {v_p : Value} (depth : Int) {w : World} (h_r : (Ty.agg (cRules r)).ok w v_r) (h_p : (Ty.agg (cPosition p)).ok w v_p) (r0 : M.okP r p = true := by exact om_) (r1 : 0 ≤ depth := by exact om_) (r2 : depth ≤ 8 := by exact om_) : RetV Tryz.prog 89 [v_r, v_p, .int .i64 depth] w (.int .i64 (M.sizeT r depth.toNat p)) := c_impl_Rules_sizeUpTo_ _ r v_r p v_p depth w h_r h_p r0 r1 r2 rfl
theorem c_impl_searchCode (r : M.Rul) {v_r : Value} (p : M.Pos) {v_p : Value} (depth : Int) {w : World} (h_r : (Ty.agg (cRules r)).ok w v_r) (h_p : (Ty.agg (cPosition p)).ok w v_p) (r0 : p.pits.length ≤ 4194304 := by exact om_) (r1 : p.stores.length ≤ 4194304 := by exact om_) : RetV Tryz.prog 44 [v_r, v_p, .int .i64 depth] w (.int .i64 (M.srchC r p depth)) := by
 revert v_r; apply opn
 revert v_p; apply opn
 intro A1 c1 h1 bl1 bh1 A2 c2 h2 bl2 bh2
 refine enter @Tryz.func44 @Tryz.ntmps44 rfl rfl ?_
 refine zent ?_
 refine zS <| zb rfl fun b3 => zb rfl fun b4 => Qa rfl <| zJ <| zS <| Q9 1 rfl rfl ?_
 refine Q9 0 rfl rfl ?_
 refine zv rfl (fun w hw => c_impl_ValidPosition r p (ok_ hw) (ok_ hw)) <| Qt rfl <| JL.nil ?_
 refine zi (fun h5 h5' => ?_) fun h5 h5' => ?_
 ·
  have hE := M.srchC_1 (depth := depth) (by simpa using h5)
  refine zS <| Qa rfl <| JL.nil ?_
  refine zR (Up.refl _ _) ?_
  rw [hE]; rfl
 have hok : M.okP r p = true := by simpa using h5
 refine Js.skip <| Js.seq <| zS <| Qm rfl <| zv rfl (fun w hw => c_impl_between depth 0 8) <| Qt rfl <| JL.nil ?_
 refine zi (fun h6 h6' => ?_) fun h6 h6' => ?_
 ·
  have hE := M.srchC_2 hok (by simpa using h6)
  refine zS <| Qa rfl <| JL.nil ?_
  refine zR (Up.refl _ _) ?_
  rw [hE]; rfl
 have hbt : M.betw depth 0 8 = true := by simpa using h6
 obtain ⟨d0, d1⟩ := M.betw_iff.1 hbt
 refine Js.skip <| Js.seq <| zS <| Q9 1 rfl rfl ?_
 refine Q9 0 rfl rfl ?_
 refine Qm rfl <| zv rfl (fun w hw => c_impl_Rules_sizeUpTo r p depth (ok_ hw) (ok_ hw) (r0 := hok)) <| Qg rfl rfl <| JL.nil ?_
 refine zi (fun h7 h7' => ?_) fun h7 h7' => ?_
 ·
  have hE := M.srchC_5 hok hbt ((M.sizeT_big _ _ _).1 (by simpa using h7))
  refine zS <| Qa rfl <| JL.nil ?_
  refine zR (Up.refl _ _) ?_
  rw [hE]; rfl
 have hE := M.srchC_0 hok hbt (fun h9 => absurd ((M.sizeT_big _ _ _).2 h9) (by simpa using h7))
 refine Js.skip <| zS <| Qa rfl <| JL.nil ?_
 refine zR (Up.refl _ _) ?_
 rw [hE]; rfl
theorem c_spec_l15End (r : M.Rul) {v_r : Value} (p : M.Pos) {v_p : Value} {w : World} (h_r : (Ty.ref (cRules r)).ok w v_r) (h_p : (Ty.ref (cPosition p)).ok w v_p) (r0 : M.okP r p = true := by exact om_) : RetV Tryz.prog 98 [v_r, v_p] w (.int .i64 (M.endV r p)) := by
 obtain ⟨g1, g2, g3, g4, g5, g6, g7⟩ := M.okP_bd r0
 have g8 := M.results_8 r0
 have b1 := M.side_bd g5 g2 p.player
 have b2 := M.side_bd g5 g2 (1 - p.player)
 revert v_r; apply opn
 intro b1 o1 hr1
 revert v_p; apply opn
 intro b4 o4 A2 c2 h2 bl2 bh2 A3 c3 h3 bl3 bh3 hr4
 refine enter @Tryz.func98 @Tryz.ntmps98 rfl rfl ?_
 refine zent ?_
 refine zS <| Qa rfl <| zJ ?_
 refine zdr [] ?_
 refine jM 0 rfl rfl ?_
 refine jM 1 rfl rfl ?_
 refine jN 2 rfl rfl ?_
 refine jF 3 fld_31_0 rfl rfl ?_
 refine jW 4 ty_29 rfl rfl (fun hv => (hr4.vis hv) 0 _ rfl) ?_
 refine jM 5 rfl rfl ?_
 refine jN 6 rfl rfl ?_
 refine jF 7 fld_31_2 rfl rfl ?_
 refine jW 8 ty_2 rfl rfl (fun hv => (hr4.vis hv) 2 _ rfl) ?_
 refine jM 10 rfl rfl ?_
 refine jM 11 rfl rfl ?_
 refine jN 12 rfl rfl ?_
 refine jF 13 fld_31_0 rfl rfl ?_
 refine jW 14 ty_29 rfl rfl (fun hv => (hr4.vis hv) 0 _ rfl) ?_
 refine jM 15 rfl rfl ?_
 refine jN 16 rfl rfl ?_
 refine jF 17 fld_31_2 rfl rfl ?_
 refine jW 18 ty_2 rfl rfl (fun hv => (hr4.vis hv) 2 _ rfl) ?_
 refine JH.p 19 rfl (p_sub rfl rfl (IntWalk.i64_in _ (by omega))) ?_
 refine y1 9 ?_
 refine yv rfl rfl (fun w hw => c_spec_l04Side r p.pits p.player (ok_ hw) (ok_ hw) (r4 := g5)) ?_
 refine y1 20 ?_
 refine yv rfl rfl (fun w hw => c_spec_l04Side r p.pits (1 - p.player) (ok_ hw) (ok_ hw) (r4 := g5)) ?_
 refine JH.p 21 rfl (p_sub rfl rfl (IntWalk.i64_in _ (by omega))) ?_
 refine jA 22 rfl rfl ?_
 refine yd ?_
 refine zR (Up.refl _ _) ?_
 rfl
def S_spec_l15S_value (N : Nat) : Prop := ∀ (s_r : M.Rul) (s_size : Int) (bs_0 : Nat) (os_0 : Nat) (p : M.Pos) (v_p : Value) (depth : Int) (bs : Nat) (w : World) (hb : Bw w [boxO bs [.pointer (some ⟨bs_0, os_0, none⟩), .int .i64 s_size] 150]) (hps_0 : RowAt (offW w (([boxO bs [.pointer (some ⟨bs_0, os_0, none⟩), .int .i64 s_size] 150] : List Own).flatMap (·.fp))) bs_0 os_0 [.int .i64 s_r.pits, .int .i64 s_r.seeds, .bool s_r.stores, .bool s_r.skip, .bool s_r.relay, .bool s_r.feed, .bool s_r.again, .int .i64 s_r.capture, .int .i64 s_r.slam]) (h_p : (Ty.ref (cPosition p)).ok (offW w (([boxO bs [.pointer (some ⟨bs_0, os_0, none⟩), .int .i64 s_size] 150] : List Own).flatMap (·.fp))) v_p) (r0 : M.okP s_r p = true) (r1 : 0 ≤ depth) (r2 : depth ≤ 8) (r3 : 0 ≤ s_size) (r4 : s_size ≤ 100000) (_ : depth.toNat = N), RetB Tryz.prog 96 [.pointer (some ⟨bs, 0, none⟩), v_p, .int .i64 depth] w [boxO bs [.pointer (some ⟨bs_0, os_0, none⟩), .int .i64 s_size] 150] (fun v bs' => v = .int .i64 ((M.sv s_r depth.toNat p s_size).1) ∧ bs' = [boxO bs [.pointer (some ⟨bs_0, os_0, none⟩), .int .i64 ((M.sv s_r depth.toNat p s_size).2)] 150])
theorem c_spec_l15S_option_ (N : Nat) (ih : ∀ m, m < N → S_spec_l15S_value m) (s_r : M.Rul) (s_size : Int) (bs_0 : Nat) (os_0 : Nat) (x : M.Res) (v_x : Value) (depth : Int) (bs : Nat) (w : World) (hb : Bw w [boxO bs [.pointer (some ⟨bs_0, os_0, none⟩), .int .i64 s_size] 150]) (hps_0 : RowAt (offW w (([boxO bs [.pointer (some ⟨bs_0, os_0, none⟩), .int .i64 s_size] 150] : List Own).flatMap (·.fp))) bs_0 os_0 [.int .i64 s_r.pits, .int .i64 s_r.seeds, .bool s_r.stores, .bool s_r.skip, .bool s_r.relay, .bool s_r.feed, .bool s_r.again, .int .i64 s_r.capture, .int .i64 s_r.slam]) (h_x : (Ty.ref (cResult x)).ok (offW w (([boxO bs [.pointer (some ⟨bs_0, os_0, none⟩), .int .i64 s_size] 150] : List Own).flatMap (·.fp))) v_x) (r0 : M.okP s_r x.next = true) (r1 : 1 ≤ depth) (r2 : depth ≤ 8) (r3 : 0 ≤ s_size) (r4 : s_size ≤ 100000) (r5 : -96 ≤ x.gain ∧ x.gain ≤ 96) (hN : depth.toNat = N) : RetB Tryz.prog 131 [.pointer (some ⟨bs, 0, none⟩), v_x, .int .i64 depth] w [boxO bs [.pointer (some ⟨bs_0, os_0, none⟩), .int .i64 s_size] 150] (fun v bs' => v = .int .i64 (M.moveV x (M.sv s_r (depth - 1).toNat x.next s_size).1) ∧ bs' = [boxO bs [.pointer (some ⟨bs_0, os_0, none⟩), .int .i64 ((M.sv s_r (depth - 1).toNat x.next s_size).2)] 150]) := by
 have hvb := M.sv_vbd (depth - 1).toNat x.next s_size r0
 have g9 := M.okP_len r0
 revert v_x; apply opn
 intro b3 o3 A1 c1 h1 bl1 bh1 A2 c2 h2 bl2 bh2 hr3
 refine enterB hb @Tryz.func131 @Tryz.ntmps131 rfl rfl ?_
 refine zent ?_
 refine Js.trashE ?_
 refine zn ?_
 refine zS <| Qa rfl <| zN <| Qm rfl <| Qm rfl <| Qc rfl <| Qf fh rfl <| Qm rfl <| Qs rfl rfl <| zBB 1 sp_ rfl (fun w hb _ hw => ih ((depth - 1).toNat) (by omega) s_r s_size bs_0 os_0 x.next _ (depth - 1) bs w hb (hps_0.vis hw.vis) (ok_ hw) r0 (by omega) (by omega) (by omega) (by omega) rfl) ?_
 rintro _ _ G4 ⟨rfl, rfl⟩
 refine znl ?_
 refine Qa rfl <| zJ <| zS <| Qm rfl <| Qc rfl <| Qf fh rfl <| QC (hr3 2 _ rfl) rfl <| JL.nil ?_
 refine zi (fun h5 h5' => ?_) fun h5 h5' => ?_
 ·
  have hQ := M.moveV_y (v := (M.sv s_r (depth - 1).toNat x.next s_size).1) h5
  refine zS <| Qm rfl <| Qc rfl <| Qf fh rfl <| QC (hr3 1 _ rfl) rfl <| Qm rfl <| Qp rfl rfl <| Qa rfl <| JL.nil ?_
  refine zrb [0] hb (Up.refl _ _) ?_
  have hE : (.int .i64 (x.gain + ((M.sv s_r (depth - 1).toNat x.next s_size).1)) : Value) = .int .i64 (M.moveV x (M.sv s_r (depth - 1).toNat x.next s_size).1) := by rw [hQ]
  exact ⟨hE, rfl⟩
 have hQ := M.moveV_n (v := (M.sv s_r (depth - 1).toNat x.next s_size).1) (by simpa using h5)
 refine Js.skip <| zS <| Qm rfl <| Qc rfl <| Qf fh rfl <| QC (hr3 1 _ rfl) rfl <| Qm rfl <| Qs rfl rfl <| Qa rfl <| JL.nil ?_
 refine zrb [0] hb (Up.refl _ _) ?_
 have hE : (.int .i64 (x.gain - ((M.sv s_r (depth - 1).toNat x.next s_size).1)) : Value) = .int .i64 (M.moveV x (M.sv s_r (depth - 1).toNat x.next s_size).1) := by rw [hQ]
 exact ⟨hE, rfl⟩
theorem c_spec_l15S_value_ : ∀ N, S_spec_l15S_value N := by
 intro N
 induction N using Nat.strongRecOn with
 | ind N ih =>
 intro s_r s_size bs_0 os_0 p v_p depth bs w hb hps_0 h_p r0 r1 r2 r3 r4 hN
 obtain ⟨g1, g2, g3, g4, g5, g6, g7⟩ := M.okP_bd r0
 have g8 := M.results_8 r0
 have g9 := M.okP_len r0
 have g10 := M.results_8R (M.okP_okR r0)
 revert v_p; apply opn
 intro b3 o3 A1 c1 h1 bl1 bh1 A2 c2 h2 bl2 bh2 hr3
 refine enterB hb @Tryz.func96 @Tryz.ntmps96 rfl rfl ?_
 refine zent ?_
 refine Js.trashE ?_
 refine zn ?_
 refine zS <| Qa rfl <| zN <| Qm rfl <| Qc rfl <| Qf fh rfl <| Q0 0 rfl rfl rfl <| Qp rfl rfl <| Qc rfl <| Qf fh rfl <| zw 0 rfl rfl rfl ?_
 refine zJ <| zS <| Qm rfl <| Qc rfl <| Qf fh rfl <| Q0 0 rfl rfl rfl <| Qg rfl rfl <| JL.nil ?_
 refine zi (fun h4 h4' => ?_) fun h4 h4' => ?_
 ·
  have hQ := M.sv_big (r := s_r) (d := depth.toNat) (p := p) (s := s_size) (by have := h4'; omega)
  refine zS <| Qa rfl <| JL.nil ?_
  refine zrb [0] hb (Up.refl _ _) ?_
  have hE : (.int .i64 0 : Value) = .int .i64 ((M.sv s_r depth.toNat p s_size).1) := by rw [hQ]
  have hE1 : (M.sv s_r depth.toNat p s_size).2 = (s_size + 1) := by rw [hQ]
  refine ⟨hE, ?_⟩
  · rw [hE1]
 have hbg : ¬ 3000 < s_size + 1 := by have := h4'; omega
 refine Js.skip <| zS <| Qm rfl <| Qc rfl <| Qf fh rfl <| Q0 0 rfl rfl rfl <| Qm rfl <| zp rfl (fun w hw => c_spec_l07All s_r p (ok_ hw) (ok_ hw) (r0 := r0)) ?_
 intro u5 x5 A6 c6 h6 bl6 bh6
 refine Qa rfl <| zJ <| zS <| Qm rfl <| Qz rfl <| Qe rfl rfl <| JL.nil ?_
 refine zi (fun h7 h7' => ?_) fun h7 h7' => ?_
 ·
  have hQ := M.sv_end (r := s_r) (p := p) (d := depth.toNat) hbg (by have := h7'; omega)
  refine zS <| Qm rfl <| Qc rfl <| Qf fh rfl <| Q0 0 rfl rfl rfl <| Qm rfl <| zv rfl (fun w hw => c_spec_l15End s_r p (ok_ hw) (ok_ hw) (r0 := r0)) <| Qa rfl <| JL.nil ?_
  refine zrb [0] hb x5 ?_
  have hE : (.int .i64 (M.endV s_r p) : Value) = .int .i64 ((M.sv s_r depth.toNat p s_size).1) := by rw [hQ]
  have hE1 : (M.sv s_r depth.toNat p s_size).2 = (s_size + 1) := by rw [hQ]
  refine ⟨hE, ?_⟩
  · rw [hE1]
 have hne : (M.results s_r p).length ≠ 0 := by have := h7'; omega
 refine Js.skip <| Js.seq <| zS <| Qm rfl <| Qe rfl rfl <| JL.nil ?_
 refine zi (fun h8 h8' => ?_) fun h8 h8' => ?_
 ·
  have hQ : (M.sv s_r depth.toNat p s_size) = (0, s_size + 1) := by rw [show depth.toNat = 0 by have := h8'; omega]; exact M.sv_0 hbg hne
  refine zS <| Qa rfl <| JL.nil ?_
  refine zrb [0] hb x5 ?_
  have hE : (.int .i64 0 : Value) = .int .i64 ((M.sv s_r depth.toNat p s_size).1) := by rw [hQ]
  have hE1 : (M.sv s_r depth.toNat p s_size).2 = (s_size + 1) := by rw [hQ]
  refine ⟨hE, ?_⟩
  · rw [hE1]
 have hd : 1 ≤ depth := by have := h8'; omega
 refine Js.skip <| zS <| Qa rfl <| zJ <| zS <| Qa rfl <| JL.nil <| Js.block ?_
 refine zl [0, 2, 7] (fun F U l os u m => ∃ (k : Nat) (b z : Int) (G9_1 : List Nat), l = F [(8, .int .i64 b), (9, .int .i64 (k : Int))] ∧ os = U [some (boxO bs [.pointer (some ⟨bs_0, os_0, none⟩), .int .i64 z] 150), some (anyO G9_1)] ∧ (M.svL (M.sv s_r (depth - 1).toNat) (decide (k = 0)) b z ((M.results s_r p).drop k) = (M.sv s_r depth.toNat p s_size)) ∧ (0 ≤ z) ∧ (z ≤ 3001 + 8 * (depth - 1) + k) ∧ (-2000 ≤ b) ∧ (b ≤ 2000) ∧ (k ≤ (M.results s_r p).length) ∧ m = (M.results s_r p).length - k) ⟨0, 0, s_size + 1, _, rfl, rfl, by exact (M.sv_d hbg hne hd).symm, zt, zt, zt, zt, zt, rfl⟩ ?_
 rintro _ _ u9 _ ⟨k, b, z, G9_1, rfl, rfl, hS, z0, z1, b0, b1, hk, rfl⟩ x9
 refine zn ?_
 refine Js.seq <| zS <| Qm rfl <| Qm rfl <| Qz rfl <| Ql rfl rfl <| JL.nil ?_
 refine zi (fun h10 h10' => ?_) fun h10 h10' => ?_
 ·
  obtain ⟨y11, hy11⟩ : ∃ x, (M.results s_r p)[k]? = some x := ⟨_, List.getElem?_eq_getElem (by omega)⟩
  obtain ⟨b11, o11, A11_3, c11_3, A11_4, c11_4, he11, hr11, h11_3, h11_4, bl11_3, bh11_3, bl11_4, bh11_4⟩ := elem_Result (Ty.mono _ h6 x9.vis) hy11
  have hgb9 := M.results_gain (M.results_get0 hy11)
  have hsb9 := M.sv_bd (depth - 1).toNat y11.next z g10
  have hvb9 := M.moveV_bd hgb9 (M.sv_vbd (depth - 1).toNat y11.next z (M.results_ok (M.results_get0 hy11)))
  refine Js.skip <| Js.seq <| Js.block <| zS <| Qm rfl <| Qm rfl <| Qm rfl <| Qq (p_indexAddr el_111 rfl rfl (by omega) (by omega) he11) <| Qm rfl <| zBB 1 sp_ rfl (fun w hb _ hw => c_spec_l15S_option_ _ ih s_r z bs_0 os_0 y11 _ depth bs w hb (hps_0.vis ((x5.vis.trans x9.vis).trans hw.vis)) (ok_ hw) (M.results_ok (M.results_get0 hy11)) (by omega) (by omega) (by omega) (by omega) hgb9 (by omega)) ?_
  rintro _ _ G12 ⟨rfl, rfl⟩
  refine znl ?_
  refine Qa rfl <| zN <| Qm rfl <| Qe rfl rfl <| Qm rfl <| zg (Gd.f1 rfl rfl rfl) (fun hc => p_move rfl) <| zg (Gd.f1 rfl rfl rfl) (fun hc => p_move rfl) <| zg (Gd.f1 rfl rfl rfl) (fun hc => p_gtr (gh hc rfl) (gh hc rfl)) <| Qq (p_pickOr rfl rfl rfl) <| JL.nil ?_
  refine zi (fun h13 h13' => ?_) fun h13 h13' => ?_
  ·
   have hS2 := M.svL_y hS hy11 (by have := h13'; omega)
   refine Js.region <| Qm rfl <| Qa rfl <| JL.nil <| Js.blockEnd <| Js.region <| Qm rfl <| Qp rfl rfl <| Qa rfl <| JL.nil ?_
   refine zf [0] fun GG14 => ?_
   refine zn ?_
   exact zag ⟨k + 1, M.moveV y11 (M.sv s_r (depth - 1).toNat y11.next z).1, (M.sv s_r (depth - 1).toNat y11.next z).2, _, rfl, rfl, by exact hS2, zt, zt, zt, zt, zt, rfl⟩ x9
  have hS2 := M.svL_n hS hy11 (by have := h13'; omega)
  refine Js.skip <| Js.blockEnd <| Js.region <| Qm rfl <| Qp rfl rfl <| Qa rfl <| JL.nil ?_
  refine zf [0] fun GG15 => ?_
  refine zn ?_
  exact zag ⟨k + 1, b, (M.sv s_r (depth - 1).toNat y11.next z).2, _, rfl, rfl, by exact hS2, zt, zt, zt, zt, zt, rfl⟩ x9
 have hQ := M.svL_e hS (by have := h10'; omega)
 refine zx ?_
 refine zS <| Qm rfl <| Qa rfl <| JL.nil ?_
 refine zrb [0] hb (x5.trans x9) ?_
 have hE : (.int .i64 b : Value) = .int .i64 ((M.sv s_r depth.toNat p s_size).1) := by rw [hQ]
 have hE1 : (M.sv s_r depth.toNat p s_size).2 = z := by rw [hQ]
 refine ⟨hE, ?_⟩
 · rw [hE1]
theorem c_spec_l15S_value (s_r : M.Rul) (s_size : Int) {bs_0 os_0 : Nat} (p : M.Pos) {v_p : Value} (depth : Int) {bs : Nat} {w : World} (hb : Bw w [boxO bs [.pointer (some ⟨bs_0, os_0, none⟩), .int .i64 s_size] 150]) (hps_0 : RowAt (offW w (([boxO bs [.pointer (some ⟨bs_0, os_0, none⟩), .int .i64 s_size] 150] : List Own).flatMap (·.fp))) bs_0 os_0 [.int .i64 s_r.pits, .int .i64 s_r.seeds, .bool s_r.stores, .bool s_r.skip, .bool s_r.relay, .bool s_r.feed, .bool s_r.again, .int .i64 s_r.capture, .int .i64 s_r.slam]) (h_p : (Ty.ref (cPosition p)).ok (offW w (([boxO bs [.pointer (some ⟨bs_0, os_0, none⟩), .int .i64 s_size] 150] : List Own).flatMap (·.fp))) v_p) (r0 : M.okP s_r p = true := by exact om_) (r1 : 0 ≤ depth := by exact om_) (r2 : depth ≤ 8 := by exact om_) (r3 : 0 ≤ s_size := by exact om_) (r4 : s_size ≤ 100000 := by exact om_) : RetB Tryz.prog 96 [.pointer (some ⟨bs, 0, none⟩), v_p, .int .i64 depth] w [boxO bs [.pointer (some ⟨bs_0, os_0, none⟩), .int .i64 s_size] 150] (fun v bs' => v = .int .i64 ((M.sv s_r depth.toNat p s_size).1) ∧ bs' = [boxO bs [.pointer (some ⟨bs_0, os_0, none⟩), .int .i64 ((M.sv s_r depth.toNat p s_size).2)] 150]) := c_spec_l15S_value_ _ s_r s_size bs_0 os_0 p v_p depth bs w hb hps_0 h_p r0 r1 r2 r3 r4 rfl
theorem c_spec_l15Code (r : M.Rul) {v_r : Value} (p : M.Pos) {v_p : Value} (depth : Int) {w : World} (h_r : (Ty.ref (cRules r)).ok w v_r) (h_p : (Ty.ref (cPosition p)).ok w v_p) (r0 : p.pits.length ≤ 4194304 := by exact om_) (r1 : p.stores.length ≤ 4194304 := by exact om_) : RetV Tryz.prog 95 [v_r, v_p, .int .i64 depth] w (.int .i64 (M.baseC r p depth)) := by
 revert v_r; apply opn
 intro b1 o1 hr1
 revert v_p; apply opn
 intro b4 o4 A2 c2 h2 bl2 bh2 A3 c3 h3 bl3 bh3 hr4
 refine enter @Tryz.func95 @Tryz.ntmps95 rfl rfl ?_
 refine zent ?_
 refine zS <| Qa rfl <| zJ <| zS <| Qm rfl <| Qm rfl <| zv rfl (fun w hw => c_spec_l04Ok r p (ok_ hw) (ok_ hw)) <| Qt rfl <| JL.nil ?_
 refine zi (fun h5 h5' => ?_) fun h5 h5' => ?_
 ·
  have hE := M.baseC_1 (depth := depth) (by simpa using h5)
  refine zS <| Qa rfl <| JL.nil ?_
  refine zR (Up.refl _ _) ?_
  rw [hE]; rfl
 have hok : M.okP r p = true := by simpa using h5
 refine Js.skip <| Js.seq <| zS <| Qm rfl <| zv rfl (fun w hw => c_spec_l00In depth 0 8) <| Qt rfl <| JL.nil ?_
 refine zi (fun h6 h6' => ?_) fun h6 h6' => ?_
 ·
  have hE := M.baseC_2 hok (by simpa using h6)
  refine zS <| Qa rfl <| JL.nil ?_
  refine zR (Up.refl _ _) ?_
  rw [hE]; rfl
 have hE := M.baseC_0 hok (by simpa using h6)
 refine Js.skip <| zS <| Qa rfl <| JL.nil ?_
 refine zR (Up.refl _ _) ?_
 rw [hE]; rfl
theorem c_spec_l15Ask (r : M.Rul) {v_r : Value} (p : M.Pos) {v_p : Value} (depth : Int) {w : World} (h_r : (Ty.ref (cRules r)).ok w v_r) (h_p : (Ty.ref (cPosition p)).ok w v_p) (r0 : p.pits.length ≤ 4194304 := by exact om_) (r1 : p.stores.length ≤ 4194304 := by exact om_) : RetV Tryz.prog 49 [v_r, v_p, .int .i64 depth] w (.tuple #[.int .i64 ((M.ask r p depth).1), .int .i64 ((M.ask r p depth).2.1), .int .i64 ((M.ask r p depth).2.2)]) := by
 revert v_r; apply opn
 intro b1 o1 hr1
 revert v_p; apply opn
 intro b4 o4 A2 c2 h2 bl2 bh2 A3 c3 h3 bl3 bh3 hr4
 refine enter @Tryz.func49 @Tryz.ntmps49 rfl rfl ?_
 refine zent ?_
 refine zS <| Qa rfl <| Qa rfl <| Qa rfl <| zN <| Qm rfl <| Qm rfl <| Qm rfl <| zv rfl (fun w hw => c_spec_l15Code r p depth (ok_ hw) (ok_ hw)) <| Qa rfl <| zJ <| zS <| Qm rfl <| Qd rfl rfl ?_
 refine JL.nil ?_
 refine zi (fun h5 h5' => ?_) fun h5 h5' => ?_
 ·
  have hE := M.ask_b (r := r) (p := p) (depth := depth) (by simpa using h5)
  refine zS <| Qm rfl <| Qa rfl <| Qa rfl <| Qa rfl <| JL.nil ?_
  refine zR (Up.refl _ _) ?_
  rw [hE]; rfl
 have hz : M.baseC r p depth = 0 := by simpa using h5
 have ho := M.baseC_ok hz
 refine Js.skip <| zS <| Qm rfl <| Qb ?_
 refine zb rfl fun b6 => Qa rfl <| zN <| Qm rfl <| Qm rfl <| Qm rfl <| zB 1 sp_ rfl (fun w hb hw => c_spec_l15S_value r 0 p depth hb (hr1.vis hw.vis) (ok_ hw) (r0 := ho.1)) ?_
 rintro _ _ G7 ⟨rfl, rfl⟩
 refine znl ?_
 refine Qa rfl <| zJ <| zS <| Qm rfl <| Qc rfl <| Qf fh rfl <| Q0 0 rfl rfl rfl <| Qg rfl rfl <| JL.nil ?_
 refine zi (fun h8 h8' => ?_) fun h8 h8' => ?_
 ·
  have hE := M.ask_5 hz (by simpa using h8)
  refine zS <| Qa rfl <| Qa rfl <| Qa rfl <| JL.nil ?_
  refine zR (Up.refl _ _) ?_
  rw [hE]; rfl
 have hE := M.ask_0 hz (by simpa using h8)
 refine Js.skip <| Js.seq ?_
 refine zdr [] ?_
 refine jM 0 rfl rfl ?_
 refine jM 1 rfl rfl ?_
 refine jN 2 rfl rfl ?_
 refine jF 3 fld_150_1 rfl rfl ?_
 refine jB 4 0 ty_2 rfl rfl rfl rfl ?_
 refine jA 5 rfl rfl ?_
 refine jA 6 rfl rfl ?_
 refine jA 7 rfl rfl ?_
 refine yd ?_
 refine zR (Up.refl _ _) ?_
 rw [hE]; rfl
theorem c_spec_l16Key (x : M.Slo) {bx_p ox_p : Nat} {Ax_1 : Option Addr} {cx_1 : Nat} {w : World} (hex_1 : (Ty.ints 2 x.pits).ok w (.slice Ax_1 x.pits.length cx_1)) (hrx : RowAt w bx_p ox_p [.bool x.used, .slice Ax_1 x.pits.length cx_1, .int .i64 x.player, .int .i64 x.depth, .int .i64 x.value, .int .i64 x.bound]) (bd0 : x.pits.length ≤ cx_1 := by exact om_) (bd1 : cx_1 ≤ 9223372036854775807 := by exact om_) : Ret Tryz.prog 135 [.pointer (some ⟨bx_p, ox_p, none⟩)] w (Ty.agg [Ty.val (.slice Ax_1 x.pits.length cx_1), Ty.ints 2 [0, 0], Ty.int x.player]) := by
 refine enter @Tryz.func135 @Tryz.ntmps135 rfl rfl ?_
 refine zent ?_
 refine zS <| za zeh fun b1 => zJ ?_
 refine zdr [10] ?_
 refine jM 0 rfl rfl ?_
 refine jN 1 rfl rfl ?_
 refine jF 2 fld_49_1 rfl rfl ?_
 refine jW 3 ty_29 rfl rfl (fun hv => (hrx.vis hv) 1 _ rfl) ?_
 refine jM 5 rfl rfl ?_
 refine jN 6 rfl rfl ?_
 refine jF 7 fld_49_2 rfl rfl ?_
 refine jW 8 ty_2 rfl rfl (fun hv => (hrx.vis hv) 2 _ rfl) ?_
 refine y1 4 ?_
 refine ybs rfl fun b2 => ?_
 refine JH.p 9 rfl (q_bld) ?_
 refine y1 10 ?_
 refine yst rfl rfl rfl ?_
 refine yd ?_
 exact zro (Up.refl _ _)
theorem c_spec_l16Hash (pits : List Int) {v_pits : Value} (player size : Int) {w : World} (h_pits : (Ty.ints 2 pits).ok w v_pits) (r0 : M.allOk pits = true := by exact om_) (r1 : 0 ≤ player ∧ player ≤ 1 := by exact om_) (r2 : 0 < size := by exact om_) (r3 : size ≤ 4194304 := by exact om_) (r4 : pits.length ≤ 4194304 := by exact om_) : RetV Tryz.prog 134 [v_pits, .int .i64 player, .int .i64 size] w (.int .i64 (M.hashP pits player % size)) := by
 revert v_pits; apply opn
 intro A1 c1 h1 bl1 bh1
 have h_pits := h1
 refine enter @Tryz.func134 @Tryz.ntmps134 rfl rfl ?_
 refine zent ?_
 refine zS <| Qa rfl <| zN <| Qm rfl <| Qp rfl rfl <| Qa rfl <| zJ <| zS <| Qa rfl <| JL.nil <| Js.block ?_
 refine zl [0, 2] (fun F U l os u m => ∃ (k : Nat) (h : Int), l = F [(7, .int .i64 h), (8, .int .i64 (k : Int))] ∧ os = U [] ∧ (h = (pits.take k).foldl M.hashF (player + 1)) ∧ (0 ≤ h) ∧ (h < 1000003) ∧ (k ≤ pits.length) ∧ m = pits.length - k) ⟨0, player + 1, rfl, rfl, by rfl, by omega, by omega, zt, rfl⟩ ?_
 rintro _ _ u2 _ ⟨k, h, rfl, rfl, hH, hg0, hg1, hk, rfl⟩ x2
 refine zn ?_
 refine Js.seq <| zS <| Qm rfl <| Qm rfl <| Qz rfl <| Ql rfl rfl <| JL.nil ?_
 refine zi (fun h3 h3' => ?_) fun h3 h3' => ?_
 ·
  have hkk : k < pits.length := by have := h3'; omega
  have hx9 := M.allOk_nth r0 k
  obtain ⟨b4, o4, he4, hc4⟩ := ints_elem (Ty.mono _ h1 x2.vis) (i := k) (by omega)
  refine Js.skip <| Js.seq <| Js.block <| Js.region <| Qm rfl <| Qu rfl rfl <| Qm rfl <| Qm rfl <| Qq (p_indexAddr el_29 rfl rfl (by omega) (by omega) he4) <| QC hc4 rfl <| Qp rfl rfl <| Qq (p_rem rfl rfl (by omega) (Int.tmod_eq_emod_of_nonneg (by omega))) <| Qa rfl <| JL.nil ?_
  refine Js.blockEnd <| Js.region <| Qm rfl <| Qp rfl rfl <| Qa rfl <| JL.nil ?_
  exact zag ⟨k + 1, ((31 * h) + (M.nth pits k)) % 1000003, rfl, rfl, by rw [M.hash_step (by assumption), ← hH], by omega, by omega, zt, rfl⟩ x2
 have hE : h = M.hashP pits player := by rw [hH]; exact M.hash_all (by have := h3'; omega)
 refine zx ?_
 have hrn5 := Int.emod_nonneg h (b := size) (by omega)
 have hrl5 := Int.emod_lt_of_pos h (show 0 < size by omega)
 refine zS <| Qm rfl <| Qm rfl <| Qq (p_rem rfl rfl (by omega) (Int.tmod_eq_emod_of_nonneg (by omega))) <| Qa rfl <| JL.nil ?_
 refine zR x2 ?_
 rw [hE]; rfl
theorem c_spec_l16Value (n : Int) {w : World}  : RetV Tryz.prog 52 [.int .i64 n] w (.bool (M.betw n (-96) 96)) := by
 refine enter @Tryz.func52 @Tryz.ntmps52 rfl rfl ?_
 refine zent ?_
 refine zS <| Qa rfl <| zN <| Qm rfl <| zv rfl (fun w hw => c_spec_l00In n (-96) 96) <| Qa rfl <| JL.nil ?_
 exact zr (Up.refl _ _)
theorem c_spec_l07AllL (r : M.Rul) {v_r : Value} (p : M.Pos) {v_p : Value} {w : World} (h_r : (Ty.ref (cRules r)).ok w v_r) (h_p : (Ty.ref (cPosition p)).ok w v_p) (r0 : r.pits ≤ 9 := by exact om_) (r1 : p.pits.length ≤ 4194304 := by exact om_) (r2 : p.stores.length ≤ 4194304 := by exact om_) : Ret Tryz.prog 58 [v_r, v_p] w (Ty.sl 114 6 (M.results r p).length (lResult (M.results r p))) := by
 revert v_r; apply opn
 intro b1 o1 hr1
 revert v_p; apply opn
 intro b4 o4 A2 c2 h2 bl2 bh2 A3 c3 h3 bl3 bh3 hr4
 refine enter @Tryz.func58 @Tryz.ntmps58 rfl rfl ?_
 refine zent ?_
 refine zS <| Qa rfl <| zN <| zbs fun b5 => ?_
 refine Qa rfl <| zJ <| zS <| Qa rfl <| JL.nil <| Js.block ?_
 refine Js.vals (Ts := lResult []) (vs := []) (fun w => rfl) ?_
 refine zl [0, 1] (fun F U l os u m => ∃ (k : Nat) (acc : List M.Res) (A7_5 : Option Addr) (c7_5 : Nat) (g7_5 : List Nat) (vs7_5 : List Value) (fl7_5 : List Nat), l = F [(5, .slice A7_5 acc.length c7_5), (6, .int .i64 (k : Int))] ∧ os = U [some (ownC (lResult acc) vs7_5 fl7_5), some (rowO 114 6 (.slice A7_5 acc.length c7_5) acc.length vs7_5 g7_5)] ∧ (acc = M.resultsTo r p k) ∧ ((k : Int) ≤ r.pits ∨ k = 0) ∧ (k ≤ 9) ∧ (acc.length ≤ c7_5) ∧ (c7_5 ≤ 9223372036854775807) ∧ m = (r.pits - k).toNat) ⟨0, [], _, _, _, _, _, rfl, rfl, by rfl, zt, zt, zu, zu, rfl⟩ ?_
 rintro _ _ u7 _ ⟨k, acc, A7_5, c7_5, g7_5, vs7_5, fl7_5, rfl, rfl, hacc, hk, hk9, f7_3, f7_4, rfl⟩ x7
 refine zn ?_
 have hlen := M.resultsTo_len (r := r) (p := p) k
 have hlacc : acc.length ≤ k := by rw [hacc]; exact hlen
 refine Js.seq <| zS <| Qm rfl <| Qm rfl <| Qc rfl <| Qf fh rfl <| QC ((hr1.vis x7.vis) 0 _ rfl) rfl <| Ql rfl rfl <| JL.nil ?_
 refine zi (fun h8 h8' => ?_) fun h8 h8' => ?_
 ·
  refine Js.skip <| Js.seq <| Js.block <| zS <| Qm rfl <| Qm rfl <| Qm rfl <| zc rfl (fun w hw => c_spec_l07Make r p (k : Int) (ok_ hw) (ok_ hw)) ?_
  intro A11 c11 bl11 bh11 A12 c12 bl12 bh12
  refine Qm rfl <| Qx rfl rfl <| Qx rfl rfl <| za zeh fun b13 => zw 0 rfl rfl rfl ?_
  refine Qa rfl <| zN <| Qm rfl <| Qe rfl rfl <| JL.nil ?_
  refine zi (fun h14 h14' => ?_) fun h14 h14' => ?_
  ·
   have hacc2 := (M.resultsTo_yes2 (r := r) (p := p) (k := k) (by simpa using h14)).symm
   refine Js.region <| Qm rfl <| Q9 0 rfl rfl ?_
   refine zbs fun b15 => ?_
   refine JL.e (e_append (i := 5) (n' := (acc ++ [((M.make r p (k : Int)).1)]).length) (vs' := vs7_5 ++ [.int .i64 (((M.make r p (k : Int)).1).move), .int .i64 (((M.make r p (k : Int)).1).gain), .bool (((M.make r p (k : Int)).1).again), .slice A11 (((((M.make r p (k : Int)).1).next).pits).length) c11, .slice A12 (((((M.make r p (k : Int)).1).next).stores).length) c12, .int .i64 ((((M.make r p (k : Int)).1).next).player)]) el_111 rfl rfl rfl rfl (src_row (i := 0) und_111 rfl rfl) (by omega) (by omega) ln2_ (rfl)) ?_
   rintro v17 _ _ ⟨⟨g18, rfl⟩, rfl⟩ _
   refine JL.fact (row_form' (i := 5) rfl) (fun hf19 => ?_)
   obtain ⟨A19, c19, rfl, bl19, bh19⟩ := hf19
   refine znl ?_
   refine Qa rfl <| JL.nil ?_
   refine Js.pack2 (i := 3) (j := 2) (cResult ((M.make r p (k : Int)).1)) [.int .i64 (((M.make r p (k : Int)).1).move), .int .i64 (((M.make r p (k : Int)).1).gain), .bool (((M.make r p (k : Int)).1).again), .slice A11 (((((M.make r p (k : Int)).1).next).pits).length) c11, .slice A12 (((((M.make r p (k : Int)).1).next).stores).length) c12, .int .i64 ((((M.make r p (k : Int)).1).next).player)] rfl rfl (fun w h1 h2 => pack_Result (ints_row h1 rfl) (ints_row h2 rfl)) (fun f20 => ?_)
   refine Js.joinL (i := 3) (j := 0) (Vs := lResult (acc ++ [((M.make r p (k : Int)).1)])) rfl rfl (lResult_snoc _ _) (fun f21 => ?_)
   refine zn ?_
   refine Js.blockEnd <| Js.region <| Qm rfl <| Qp rfl rfl <| Qa rfl <| JL.nil ?_
   refine zd [0, 2] rfl fun u22 x22 => ?_
   exact zag ⟨k + 1, acc ++ [((M.make r p (k : Int)).1)], _, _, _, _, _, rfl, rfl, by rw [hacc]; exact hacc2, zt, zt, zu, zu, rfl⟩ (x7.trans x22)
  have hacc2 := (M.resultsTo_no2 (r := r) (p := p) (k := k) (by simpa using h14)).symm
  refine Js.skip <| Js.blockEnd <| Js.region <| Qm rfl <| Qp rfl rfl <| Qa rfl <| JL.nil ?_
  refine zd [3, 3] rfl fun u23 x23 => ?_
  exact zag ⟨k + 1, acc, _, _, _, _, _, rfl, rfl, by rw [hacc]; exact hacc2, zt, zt, zu, zu, rfl⟩ (x7.trans x23)
 have hR : acc = M.results r p := by rw [hacc]; unfold M.results; rw [show k = r.pits.toNat by have := h8'; omega]
 refine zx ?_
 have hq0 : acc = M.results r p := by exact hR
 refine zS <| Qm rfl <| Qa rfl <| JL.nil ?_
 exact zro x7
theorem c_spec_NewMemory (r : M.Rul) {v_r : Value} (size : Int) {w : World} (h_r : (Ty.agg (cRules r)).ok w v_r) : Ret Tryz.prog 126 [v_r, .int .i64 size] w (Ty.tup [Ty.agg (cMemory ((M.newM r size).1)), Ty.int ((M.newM r size).2)]) := by
 revert v_r; apply opn
 refine enter @Tryz.func126 @Tryz.ntmps126 rfl rfl ?_
 refine zent ?_
 refine zS <| zb rfl fun b1 => za zeh fun b2 => Qa rfl <| zJ <| zS <| zv rfl (fun w hw => c_spec_l02Ok r (ok_ hw)) <| Qt rfl <| JL.nil ?_
 refine zi (fun h3 h3' => ?_) fun h3 h3' => ?_
 ·
  have hE := M.newM_1 (n := size) (by simpa using h3)
  have hq0 : 0 = (((M.newM r size).1).rules).pits := by first | (rw [hE]; done) | (rw [hE]; rfl) | (rw [hE]; assumption)
  have hq1 : 0 = (((M.newM r size).1).rules).seeds := by first | (rw [hE]; done) | (rw [hE]; rfl) | (rw [hE]; assumption)
  have hq2 : false = (((M.newM r size).1).rules).stores := by first | (rw [hE]; done) | (rw [hE]; rfl) | (rw [hE]; assumption)
  have hq3 : false = (((M.newM r size).1).rules).skip := by first | (rw [hE]; done) | (rw [hE]; rfl) | (rw [hE]; assumption)
  have hq4 : false = (((M.newM r size).1).rules).relay := by first | (rw [hE]; done) | (rw [hE]; rfl) | (rw [hE]; assumption)
  have hq5 : false = (((M.newM r size).1).rules).feed := by first | (rw [hE]; done) | (rw [hE]; rfl) | (rw [hE]; assumption)
  have hq6 : false = (((M.newM r size).1).rules).again := by first | (rw [hE]; done) | (rw [hE]; rfl) | (rw [hE]; assumption)
  have hq7 : 0 = (((M.newM r size).1).rules).capture := by first | (rw [hE]; done) | (rw [hE]; rfl) | (rw [hE]; assumption)
  have hq8 : 0 = (((M.newM r size).1).rules).slam := by first | (rw [hE]; done) | (rw [hE]; rfl) | (rw [hE]; assumption)
  have hq9 : [] = ((M.newM r size).1).slots := by first | (rw [hE]; done) | (rw [hE]; rfl) | (rw [hE]; assumption)
  have hq10 : 1 = (M.newM r size).2 := by first | (rw [hE]; done) | (rw [hE]; rfl) | (rw [hE]; assumption)
  refine zS <| Qb ?_
  refine zw 0 rfl rfl rfl ?_
  refine Qa rfl <| JL.nil ?_
  exact zro (Up.refl _ _)
 have hr9 : M.okR r = true := by simpa using h3
 refine Js.skip <| Js.seq <| zS <| Qm rfl <| zv rfl (fun w hw => c_spec_l00In size 1 64) <| Qt rfl <| JL.nil ?_
 refine zi (fun h4 h4' => ?_) fun h4 h4' => ?_
 ·
  have hE := M.newM_2 hr9 (by simpa using h4)
  have hq0 : 0 = (((M.newM r size).1).rules).pits := by first | (rw [hE]; done) | (rw [hE]; rfl) | (rw [hE]; assumption)
  have hq1 : 0 = (((M.newM r size).1).rules).seeds := by first | (rw [hE]; done) | (rw [hE]; rfl) | (rw [hE]; assumption)
  have hq2 : false = (((M.newM r size).1).rules).stores := by first | (rw [hE]; done) | (rw [hE]; rfl) | (rw [hE]; assumption)
  have hq3 : false = (((M.newM r size).1).rules).skip := by first | (rw [hE]; done) | (rw [hE]; rfl) | (rw [hE]; assumption)
  have hq4 : false = (((M.newM r size).1).rules).relay := by first | (rw [hE]; done) | (rw [hE]; rfl) | (rw [hE]; assumption)
  have hq5 : false = (((M.newM r size).1).rules).feed := by first | (rw [hE]; done) | (rw [hE]; rfl) | (rw [hE]; assumption)
  have hq6 : false = (((M.newM r size).1).rules).again := by first | (rw [hE]; done) | (rw [hE]; rfl) | (rw [hE]; assumption)
  have hq7 : 0 = (((M.newM r size).1).rules).capture := by first | (rw [hE]; done) | (rw [hE]; rfl) | (rw [hE]; assumption)
  have hq8 : 0 = (((M.newM r size).1).rules).slam := by first | (rw [hE]; done) | (rw [hE]; rfl) | (rw [hE]; assumption)
  have hq9 : [] = ((M.newM r size).1).slots := by first | (rw [hE]; done) | (rw [hE]; rfl) | (rw [hE]; assumption)
  have hq10 : 2 = (M.newM r size).2 := by first | (rw [hE]; done) | (rw [hE]; rfl) | (rw [hE]; assumption)
  refine zS <| Qb ?_
  refine zw 0 rfl rfl rfl ?_
  refine Qa rfl <| JL.nil ?_
  exact zro (Up.refl _ _)
 have hb9 : M.betw size 1 64 = true := by simpa using h4
 obtain ⟨s0, s1⟩ := M.betw_iff.1 hb9
 have hE := M.newM_0 hr9 hb9
 refine Js.skip <| Js.seq ?_
 refine zdr [4] ?_
 refine JH.q 0 rfl (L9 1 rfl rfl) ?_
 refine jM 1 rfl rfl ?_
 refine y1 2 ?_
 refine ymkL cSlot lSlot M.Slo.zero rfl (a0 := size) (m := size.toNat) (by omega) (by omega) zown_Slot ?_
 intro b5 xs6 hx6
 have hl6 : xs6.length = size.toNat := by rw [hx6]; exact List.length_replicate
 refine JH.p 3 rfl (q_bld) ?_
 refine y1 4 ?_
 refine yst rfl rfl rfl ?_
 refine jA 5 rfl rfl ?_
 refine yd ?_
 have hq0 : r.pits = (((M.newM r size).1).rules).pits := by first | (rw [hE]; done) | (rw [hE]; rfl) | (rw [hE]; assumption)
 have hq1 : r.seeds = (((M.newM r size).1).rules).seeds := by first | (rw [hE]; done) | (rw [hE]; rfl) | (rw [hE]; assumption)
 have hq2 : r.stores = (((M.newM r size).1).rules).stores := by first | (rw [hE]; done) | (rw [hE]; rfl) | (rw [hE]; assumption)
 have hq3 : r.skip = (((M.newM r size).1).rules).skip := by first | (rw [hE]; done) | (rw [hE]; rfl) | (rw [hE]; assumption)
 have hq4 : r.relay = (((M.newM r size).1).rules).relay := by first | (rw [hE]; done) | (rw [hE]; rfl) | (rw [hE]; assumption)
 have hq5 : r.feed = (((M.newM r size).1).rules).feed := by first | (rw [hE]; done) | (rw [hE]; rfl) | (rw [hE]; assumption)
 have hq6 : r.again = (((M.newM r size).1).rules).again := by first | (rw [hE]; done) | (rw [hE]; rfl) | (rw [hE]; assumption)
 have hq7 : r.capture = (((M.newM r size).1).rules).capture := by first | (rw [hE]; done) | (rw [hE]; rfl) | (rw [hE]; assumption)
 have hq8 : r.slam = (((M.newM r size).1).rules).slam := by first | (rw [hE]; done) | (rw [hE]; rfl) | (rw [hE]; assumption)
 have hq9 : xs6 = ((M.newM r size).1).slots := by first | (rw [hE]; done) | (rw [hE]; rfl) | (rw [hE]; assumption)
 have hq10 : 0 = (M.newM r size).2 := by first | (rw [hE]; done) | (rw [hE]; rfl) | (rw [hE]; assumption)
 exact zro (Up.refl _ _)
theorem c_spec_SearchValue (r : M.Rul) {v_r : Value} (p : M.Pos) {v_p : Value} (depth : Int) {w : World} (h_r : (Ty.agg (cRules r)).ok w v_r) (h_p : (Ty.agg (cPosition p)).ok w v_p) (r0 : p.pits.length ≤ 4194304 := by exact om_) (r1 : p.stores.length ≤ 4194304 := by exact om_) : RetV Tryz.prog 16 [v_r, v_p, .int .i64 depth] w (.tuple #[.int .i64 ((M.ask r p depth).1), .int .i64 ((M.ask r p depth).2.2)]) := by
 revert v_r; apply opn
 revert v_p; apply opn
 intro A1 c1 h1 bl1 bh1 A2 c2 h2 bl2 bh2
 refine enter @Tryz.func16 @Tryz.ntmps16 rfl rfl ?_
 refine zent ?_
 refine zS <| zb rfl fun b3 => zb rfl fun b4 => Qa rfl <| Qa rfl <| zN <| Qm rfl <| zv rfl (fun w hw => c_spec_l15Ask r p depth (ok_ hw) (ok_ hw)) <| Qm rfl <| Qx rfl rfl <| Qx rfl rfl <| Qx rfl rfl <| Qa rfl <| Qa rfl ?_
 refine Qa rfl <| zN <| Qm rfl <| Qm rfl <| Qa rfl <| Qa rfl <| JL.nil ?_
 exact zr (Up.refl _ _)
theorem c_spec_l16Slot (mem : M.Mem) {v_mem : Value} (k : Int) {w : World} (h_mem : (Ty.ref (cMemory mem)).ok w v_mem) (r0 : mem.slots.length ≤ 4194304 := by exact om_) (r1 : ∀ x ∈ mem.slots, x.pits.length ≤ 4194304 := by exact om_) (r2 : 0 ≤ k := by exact om_) (r3 : k < mem.slots.length := by exact om_) : RetV Tryz.prog 104 [v_mem, .int .i64 k] w (.bool (M.okSI mem.rules mem.slots.length k (M.slo mem.slots k.toNat))) := by
 have hsz := r1 _ (M.slo_mem (l := mem.slots) (k := k.toNat) (by omega))
 revert v_mem; apply opn
 intro b2 o2 A1 c1 h1 bl1 bh1 hr2
 refine enter @Tryz.func104 @Tryz.ntmps104 rfl rfl ?_
 refine zent ?_
 have hy3 : mem.slots[k.toNat]? = some (M.slo mem.slots k.toNat) := M.slo_get (by omega)
 obtain ⟨b3, o3, A3_1, c3_1, he3, hr3, h3_1, bl3_1, bh3_1⟩ := elem_Slot h1 hy3
 refine zS <| Qa rfl <| zN <| Qm rfl <| Qc rfl <| Qf fh rfl <| QC (hr2 9 _ rfl) rfl <| Qm rfl <| Qq (p_indexAddr el_26 rfl rfl (by omega) (by omega) he3) <| Qa rfl <| zJ <| zS <| Qm rfl <| Qc rfl ?_
 refine Qf fh rfl <| QC (hr3 0 _ rfl) rfl <| Qt rfl <| JL.nil ?_
 refine zi (fun h4 h4' => ?_) fun h4 h4' => ?_
 ·
  have hE := M.okSI_n (r := mem.rules) (n := mem.slots.length) (i := k) (s := (M.slo mem.slots k.toNat)) (by simpa using h4)
  refine zS <| Qm rfl <| Qc rfl <| Qf fh rfl <| QC (hr3 1 _ rfl) rfl <| Qz rfl <| Qe rfl rfl <| Qm rfl <| zg (Gd.t1 rfl rfl rfl) (fun hc => p_move rfl) <| zg (Gd.t1 rfl rfl rfl) (fun hc => p_nilCheck (gh hc rfl)) <| zg (Gd.t1 rfl rfl rfl) (fun hc => p_fieldAddr fld_49_2.h (gh hc rfl)) <| zgq (Gd.t1 rfl rfl rfl) (fun hc => q_load1 ty_2.h (gh hc rfl) (Mem.pub (hr3 2 _ rfl))) <| zg (Gd.t1 rfl rfl rfl) (fun hc => p_eql (gh hc rfl) rfl) <| Qq (p_pickAnd rfl rfl rfl) ?_
  refine Qm rfl <| zg (Gd.t1 rfl rfl rfl) (fun hc => p_move rfl) <| zg (Gd.t1 rfl rfl rfl) (fun hc => p_nilCheck (gh hc rfl)) <| zg (Gd.t1 rfl rfl rfl) (fun hc => p_fieldAddr fld_49_3.h (gh hc rfl)) <| zgq (Gd.t1 rfl rfl rfl) (fun hc => q_load1 ty_2.h (gh hc rfl) (Mem.pub (hr3 3 _ rfl))) <| zg (Gd.t1 rfl rfl rfl) (fun hc => p_eql (gh hc rfl) rfl) <| Qq (p_pickAnd rfl rfl rfl) <| Qm rfl <| zg (Gd.t1 rfl rfl rfl) (fun hc => p_move rfl) <| zg (Gd.t1 rfl rfl rfl) (fun hc => p_nilCheck (gh hc rfl)) <| zg (Gd.t1 rfl rfl rfl) (fun hc => p_fieldAddr fld_49_4.h (gh hc rfl)) <| zgq (Gd.t1 rfl rfl rfl) (fun hc => q_load1 ty_2.h (gh hc rfl) (Mem.pub (hr3 4 _ rfl))) <| zg (Gd.t1 rfl rfl rfl) (fun hc => p_eql (gh hc rfl) rfl) <| Qq (p_pickAnd rfl rfl rfl) ?_
  refine Qm rfl <| zg (Gd.t1 rfl rfl rfl) (fun hc => p_move rfl) <| zg (Gd.t1 rfl rfl rfl) (fun hc => p_nilCheck (gh hc rfl)) <| zg (Gd.t1 rfl rfl rfl) (fun hc => p_fieldAddr fld_49_5.h (gh hc rfl)) <| zgq (Gd.t1 rfl rfl rfl) (fun hc => q_load1 ty_2.h (gh hc rfl) (Mem.pub (hr3 5 _ rfl))) <| zg (Gd.t1 rfl rfl rfl) (fun hc => p_eql (gh hc rfl) rfl) <| Qq (p_pickAnd rfl rfl rfl) <| Qa rfl <| JL.nil ?_
  refine zR (Up.refl _ _) ?_
  first | (rw [hE]; rfl) | (rw [hE, hn9]; rfl) | (rw [hE, ho9, hc9]; rfl) | (rw [hE]; simp [outV, M.freeS, Bool.and_assoc]; done)
 have hE := M.okSI_y (r := mem.rules) (n := mem.slots.length) (i := k) (s := (M.slo mem.slots k.toNat)) (by simpa using h4)
 refine Js.skip <| zS <| Qm rfl <| zc rfl (fun w hw => c_spec_l16Key (M.slo mem.slots k.toNat) (Ty.mono _ h3_1 hw.vis) (hr3.vis hw.vis)) ?_
 intro A5 c5 bl5 bh5
 refine za zeh fun b6 => zw 0 rfl rfl rfl ?_
 refine zJ <| zS <| Qm rfl <| Qc rfl <| Qf fh rfl <| zv rfl (fun w hw => c_spec_l04Ok mem.rules (M.Pos.mk ((M.slo mem.slots k.toNat).pits) [0, 0] ((M.slo mem.slots k.toNat).player)) (ok_ hw) (ok_ hw)) <| Qt rfl <| Qm rfl <| zg (Gd.f1 rfl rfl rfl) (fun hc => p_move rfl) <| zg (Gd.f1 rfl rfl rfl) (fun hc => p_nilCheck (gh hc rfl)) <| zg (Gd.f1 rfl rfl rfl) (fun hc => p_fieldAddr fld_49_3.h (gh hc rfl)) <| zgq (Gd.f1 rfl rfl rfl) (fun hc => q_load1 ty_2.h (gh hc rfl) (Mem.pub (hr3 3 _ rfl))) <| zgv (Gd.f1 rfl rfl rfl) (fun hc => (opds_3 (gh hc rfl) rfl rfl)) (fun hc => (fun w hw => c_spec_l00In ((M.slo mem.slots k.toNat).depth) 1 8)) ?_
 refine zg (Gd.f1 rfl rfl rfl) (fun hc => p_not (gh hc rfl)) <| Qq (p_pickOr rfl rfl rfl) <| Qm rfl <| zg (Gd.f1 rfl rfl rfl) (fun hc => p_move rfl) <| zg (Gd.f1 rfl rfl rfl) (fun hc => p_nilCheck (gh hc rfl)) <| zg (Gd.f1 rfl rfl rfl) (fun hc => p_fieldAddr fld_49_4.h (gh hc rfl)) <| zgq (Gd.f1 rfl rfl rfl) (fun hc => q_load1 ty_2.h (gh hc rfl) (Mem.pub (hr3 4 _ rfl))) <| zgv (Gd.f1 rfl rfl rfl) (fun hc => (opds_1 (gh hc rfl))) (fun hc => (fun w hw => c_spec_l16Value ((M.slo mem.slots k.toNat).value))) ?_
 refine zg (Gd.f1 rfl rfl rfl) (fun hc => p_not (gh hc rfl)) <| Qq (p_pickOr rfl rfl rfl) <| Qm rfl <| zg (Gd.f1 rfl rfl rfl) (fun hc => p_move rfl) <| zg (Gd.f1 rfl rfl rfl) (fun hc => p_nilCheck (gh hc rfl)) <| zg (Gd.f1 rfl rfl rfl) (fun hc => p_fieldAddr fld_49_5.h (gh hc rfl)) <| zgq (Gd.f1 rfl rfl rfl) (fun hc => q_load1 ty_2.h (gh hc rfl) (Mem.pub (hr3 5 _ rfl))) <| zgv (Gd.f1 rfl rfl rfl) (fun hc => (opds_3 (gh hc rfl) rfl rfl)) (fun hc => (fun w hw => c_spec_l00In ((M.slo mem.slots k.toNat).bound) 0 2)) ?_
 refine zg (Gd.f1 rfl rfl rfl) (fun hc => p_not (gh hc rfl)) <| Qq (p_pickOr rfl rfl rfl) <| JL.nil ?_
 refine zi (fun h7 h7' => ?_) fun h7 h7' => ?_
 ·
  have hn9 : (M.okP mem.rules (M.posS (M.slo mem.slots k.toNat)) && M.okCt (M.slo mem.slots k.toNat).depth (M.slo mem.slots k.toNat).value (M.slo mem.slots k.toNat).bound) = false := M.okCt_no (by have h9 := h7; simpa using h9)
  refine zS <| Qa rfl <| JL.nil ?_
  refine zR (Up.refl _ _) ?_
  first | (rw [hE]; rfl) | (rw [hE, hn9]; rfl) | (rw [hE, ho9, hc9]; rfl) | (rw [hE]; simp [outV, M.freeS, Bool.and_assoc]; done)
 obtain ⟨ho9, hc9⟩ := M.okCt_yes (by have h9 := h7; simpa using h9)
 obtain ⟨g1, g2, g3, g4, g5, g6, g7⟩ := M.okP_bd ho9
 have g7 : (M.slo mem.slots k.toNat).player = 0 ∨ (M.slo mem.slots k.toNat).player = 1 := g7
 refine Js.skip <| Js.seq ?_
 refine zdr [] ?_
 refine jM 0 rfl rfl ?_
 refine jN 1 rfl rfl ?_
 refine jF 2 fld_49_1 rfl rfl ?_
 refine jW 3 ty_29 rfl rfl (fun hv => (hr3.vis hv) 1 _ rfl) ?_
 refine jM 4 rfl rfl ?_
 refine jN 5 rfl rfl ?_
 refine jF 6 fld_49_2 rfl rfl ?_
 refine jW 7 ty_2 rfl rfl (fun hv => (hr3.vis hv) 2 _ rfl) ?_
 refine jM 8 rfl rfl ?_
 refine jN 9 rfl rfl ?_
 refine jF 10 fld_28_1 rfl rfl ?_
 refine jW 11 ty_26 rfl rfl (fun hv => (hr2.vis hv) 9 _ rfl) ?_
 refine JH.p 12 rfl (p_len el_26 rfl) ?_
 refine jM 14 rfl rfl ?_
 refine y1 13 ?_
 refine yv rfl rfl (fun w hw => c_spec_l16Hash ((M.slo mem.slots k.toNat).pits) ((M.slo mem.slots k.toNat).player) (mem.slots.length : Int) (ok_ hw) (r0 := g5) (r1 := (by constructor <;> omega))) ?_
 refine JH.p 15 rfl (p_eql rfl rfl) ?_
 refine jA 16 rfl rfl ?_
 refine yd ?_
 refine zR (Up.refl _ _) ?_
 first | (rw [hE]; rfl) | (rw [hE, hn9]; rfl) | (rw [hE, ho9, hc9]; rfl) | (rw [hE]; simp [outV, M.freeS, Bool.and_assoc]; done)
theorem c_spec_l16Ok (mem : M.Mem) {v_mem : Value} {w : World} (h_mem : (Ty.ref (cMemory mem)).ok w v_mem) (r0 : mem.slots.length ≤ 4194304 := by exact om_) (r1 : ∀ x ∈ mem.slots, x.pits.length ≤ 4194304 := by exact om_) : RetV Tryz.prog 53 [v_mem] w (.bool (M.okM mem)) := by
 revert v_mem; apply opn
 intro b2 o2 A1 c1 h1 bl1 bh1 hr2
 refine enter @Tryz.func53 @Tryz.ntmps53 rfl rfl ?_
 refine zent ?_
 refine zS <| Qa rfl <| zJ <| zS <| Qm rfl <| Qc rfl <| Qf fh rfl <| zv rfl (fun w hw => c_spec_l02Ok mem.rules (ok_ hw)) <| Qt rfl <| Qm rfl <| zg (Gd.f1 rfl rfl rfl) (fun hc => p_move rfl) <| zg (Gd.f1 rfl rfl rfl) (fun hc => p_nilCheck (gh hc rfl)) <| zg (Gd.f1 rfl rfl rfl) (fun hc => p_fieldAddr fld_28_1.h (gh hc rfl)) <| zgq (Gd.f1 rfl rfl rfl) (fun hc => q_load1 ty_26.h (gh hc rfl) (Mem.pub (hr2 9 _ rfl))) ?_
 refine zg (Gd.f1 rfl rfl rfl) (fun hc => p_len el_26 (gh hc rfl)) <| zgv (Gd.f1 rfl rfl rfl) (fun hc => (opds_3 (gh hc rfl) rfl rfl)) (fun hc => (fun w hw => c_spec_l00In (mem.slots.length : Int) 1 64)) ?_
 refine zg (Gd.f1 rfl rfl rfl) (fun hc => p_not (gh hc rfl)) <| Qq (p_pickOr rfl rfl rfl) <| JL.nil ?_
 refine zi (fun h3 h3' => ?_) fun h3 h3' => ?_
 ·
  have hE : M.okM mem = false := by by_cases e : M.okR mem.rules = true; (exact M.okM_l (by have h9 := h3; simpa [e] using h9)); exact M.okM_r (by simpa using e)
  refine zS <| Qa rfl <| JL.nil ?_
  refine zR (Up.refl _ _) ?_
  rw [hE]; rfl
 obtain ⟨hr, hb⟩ : M.okR mem.rules = true ∧ M.betw (mem.slots.length : Int) 1 64 = true := by have h9 := h3; simpa using h9
 obtain ⟨hl1, hl2⟩ := M.betw_iff.1 hb
 refine Js.skip <| Js.seq <| zS <| Qa rfl <| JL.nil <| Js.block ?_
 refine zl [0] (fun F U l os u m => ∃ (k : Nat), l = F [(3, .int .i64 (k : Int))] ∧ os = U [] ∧ (k ≤ mem.slots.length) ∧ (∀ i : Nat, i < k → M.okSI mem.rules mem.slots.length i (M.slo mem.slots i) = true) ∧ m = mem.slots.length - k) ⟨0, rfl, rfl, zt, by exact fun i hi => absurd hi (by omega), rfl⟩ ?_
 rintro _ _ u4 _ ⟨k, rfl, rfl, hk, hA, rfl⟩ x4
 refine zn ?_
 refine Js.seq <| zS <| Qm rfl <| Qm rfl <| Qc rfl <| Qf fh rfl <| QC ((hr2.vis x4.vis) 9 _ rfl) rfl <| Qz rfl <| Ql rfl rfl <| JL.nil ?_
 refine zi (fun h5 h5' => ?_) fun h5 h5' => ?_
 ·
  have hkk : k < mem.slots.length := by have := h5'; omega
  refine Js.skip <| Js.seq <| Js.block <| zS <| Qm rfl <| Qm rfl <| zv rfl (fun w hw => c_spec_l16Slot mem (k : Int) (ok_ hw) (r1 := r1)) <| Qt rfl <| JL.nil ?_
  refine zi (fun h6 h6' => ?_) fun h6 h6' => ?_
  ·
   have hE := M.okM_no hkk (by simpa using h6)
   refine zS <| Qa rfl <| JL.nil ?_
   refine zR x4 ?_
   rw [hE]; rfl
  have hx9 : M.okSI mem.rules mem.slots.length k (M.slo mem.slots k) = true := by simpa using h6
  have hA2 : ∀ i : Nat, i < k + 1 → M.okSI mem.rules mem.slots.length i (M.slo mem.slots i) = true := fun i hi => by rcases Nat.lt_succ_iff_lt_or_eq.1 hi with h9 | h9; (exact hA i h9); subst h9; exact hx9
  refine Js.skip <| Js.blockEnd <| Js.region <| Qm rfl <| Qp rfl rfl <| Qa rfl <| JL.nil ?_
  exact zag ⟨k + 1, rfl, rfl, zt, by exact hA2, rfl⟩ x4
 have hE : M.okM mem = true := M.okM_of hr (by omega) (by omega) (fun i hi => hA i (by have := h5'; omega))
 refine zx ?_
 refine zS <| Qa rfl <| JL.nil ?_
 refine zR x4 ?_
 rw [hE]; rfl
theorem c_spec_ValidMemory (mem : M.Mem) {v_mem : Value} {w : World} (h_mem : (Ty.agg (cMemory mem)).ok w v_mem) (r0 : mem.slots.length ≤ 4194304 := by exact om_) (r1 : ∀ x ∈ mem.slots, x.pits.length ≤ 4194304 := by exact om_) : RetV Tryz.prog 12 [v_mem] w (.bool (M.okM mem)) := by
 revert v_mem; apply opn
 intro A1 c1 h1 bl1 bh1
 refine enter @Tryz.func12 @Tryz.ntmps12 rfl rfl ?_
 refine zent ?_
 refine zS <| zb rfl fun b2 => Qa rfl <| zN <| zv rfl (fun w hw => c_spec_l16Ok mem (ok_ hw) (r1 := r1)) <| Qa rfl <| JL.nil ?_
 exact zr (Up.refl _ _)
theorem c_spec_l16Same (a : M.Slo) {v_a : Value} (b : M.Slo) {v_b : Value} {w : World} (h_a : (Ty.ref (cSlot a)).ok w v_a) (h_b : (Ty.ref (cSlot b)).ok w v_b) (r0 : a.pits.length ≤ 4194304 := by exact om_) (r1 : b.pits.length ≤ 4194304 := by exact om_) : RetV Tryz.prog 54 [v_a, v_b] w (.bool (M.sameS a b)) := by
 revert v_a; apply opn
 intro b2 o2 A1 c1 h1 bl1 bh1 hr2
 revert v_b; apply opn
 intro b4 o4 A3 c3 h3 bl3 bh3 hr4
 refine enter @Tryz.func54 @Tryz.ntmps54 rfl rfl ?_
 refine zent ?_
 refine zS <| Qa rfl <| zJ ?_
 refine zdr [] ?_
 refine jM 0 rfl rfl ?_
 refine jN 1 rfl rfl ?_
 refine jF 2 fld_49_0 rfl rfl ?_
 refine jW 3 ty_4 rfl rfl (fun hv => (hr2.vis hv) 0 _ rfl) ?_
 refine jM 4 rfl rfl ?_
 refine jN 5 rfl rfl ?_
 refine jF 6 fld_49_0 rfl rfl ?_
 refine jW 7 ty_4 rfl rfl (fun hv => (hr4.vis hv) 0 _ rfl) ?_
 refine JH.p 8 rfl (p_eqlB und_4 rfl rfl) ?_
 refine jM 9 rfl rfl ?_
 refine JH.pg 10 rfl (Gd.t1 rfl rfl rfl) (fun hc => p_move rfl) ?_
 refine JH.pg 11 rfl (Gd.t1 rfl rfl rfl) (fun hc => p_nilCheck (gvt rfl hc)) ?_
 refine JH.pg 12 rfl (Gd.t1 rfl rfl rfl) (fun hc => p_fieldAddr fld_49_1.h (gvt rfl hc)) ?_
 refine JH.wg 13 rfl (Gd.t1 rfl rfl rfl) (fun hc os' u' hv => q_load1 ty_29.h (gvt rfl hc) (Mem.pub ((hr2.vis hv) 1 _ rfl))) ?_
 refine JH.pg 14 rfl (Gd.t1 rfl rfl rfl) (fun hc => p_move rfl) ?_
 refine JH.pg 15 rfl (Gd.t1 rfl rfl rfl) (fun hc => p_nilCheck (gvt rfl hc)) ?_
 refine JH.pg 16 rfl (Gd.t1 rfl rfl rfl) (fun hc => p_fieldAddr fld_49_1.h (gvt rfl hc)) ?_
 refine JH.wg 17 rfl (Gd.t1 rfl rfl rfl) (fun hc os' u' hv => q_load1 ty_29.h (gvt rfl hc) (Mem.pub ((hr4.vis hv) 1 _ rfl))) ?_
 refine y1 18 ?_
 refine JHo.ge rfl (Gd.t1 rfl rfl rfl) (fun hc => e_callV fn_105.h (opds_2 (gvt rfl hc) (gvt rfl hc)) (fun w hw => c_spec_l00Same a.pits b.pits (ok_ hw) (ok_ hw))) ?_
 refine JH.p 19 rfl (p_pickAnd rfl rfl rfl) ?_
 refine jM 20 rfl rfl ?_
 refine JH.pg 21 rfl (Gd.t1 rfl rfl rfl) (fun hc => p_move rfl) ?_
 refine JH.pg 22 rfl (Gd.t1 rfl rfl rfl) (fun hc => p_nilCheck (gvt rfl hc)) ?_
 refine JH.pg 23 rfl (Gd.t1 rfl rfl rfl) (fun hc => p_fieldAddr fld_49_2.h (gvt rfl hc)) ?_
 refine JH.wg 24 rfl (Gd.t1 rfl rfl rfl) (fun hc os' u' hv => q_load1 ty_2.h (gvt rfl hc) (Mem.pub ((hr2.vis hv) 2 _ rfl))) ?_
 refine JH.pg 25 rfl (Gd.t1 rfl rfl rfl) (fun hc => p_move rfl) ?_
 refine JH.pg 26 rfl (Gd.t1 rfl rfl rfl) (fun hc => p_nilCheck (gvt rfl hc)) ?_
 refine JH.pg 27 rfl (Gd.t1 rfl rfl rfl) (fun hc => p_fieldAddr fld_49_2.h (gvt rfl hc)) ?_
 refine JH.wg 28 rfl (Gd.t1 rfl rfl rfl) (fun hc os' u' hv => q_load1 ty_2.h (gvt rfl hc) (Mem.pub ((hr4.vis hv) 2 _ rfl))) ?_
 refine JH.pg 29 rfl (Gd.t1 rfl rfl rfl) (fun hc => p_eql (gvt rfl hc) (gvt rfl hc)) ?_
 refine JH.p 30 rfl (p_pickAnd rfl rfl rfl) ?_
 refine jM 31 rfl rfl ?_
 refine JH.pg 32 rfl (Gd.t1 rfl rfl rfl) (fun hc => p_move rfl) ?_
 refine JH.pg 33 rfl (Gd.t1 rfl rfl rfl) (fun hc => p_nilCheck (gvt rfl hc)) ?_
 refine JH.pg 34 rfl (Gd.t1 rfl rfl rfl) (fun hc => p_fieldAddr fld_49_3.h (gvt rfl hc)) ?_
 refine JH.wg 35 rfl (Gd.t1 rfl rfl rfl) (fun hc os' u' hv => q_load1 ty_2.h (gvt rfl hc) (Mem.pub ((hr2.vis hv) 3 _ rfl))) ?_
 refine JH.pg 36 rfl (Gd.t1 rfl rfl rfl) (fun hc => p_move rfl) ?_
 refine JH.pg 37 rfl (Gd.t1 rfl rfl rfl) (fun hc => p_nilCheck (gvt rfl hc)) ?_
 refine JH.pg 38 rfl (Gd.t1 rfl rfl rfl) (fun hc => p_fieldAddr fld_49_3.h (gvt rfl hc)) ?_
 refine JH.wg 39 rfl (Gd.t1 rfl rfl rfl) (fun hc os' u' hv => q_load1 ty_2.h (gvt rfl hc) (Mem.pub ((hr4.vis hv) 3 _ rfl))) ?_
 refine JH.pg 40 rfl (Gd.t1 rfl rfl rfl) (fun hc => p_eql (gvt rfl hc) (gvt rfl hc)) ?_
 refine JH.p 41 rfl (p_pickAnd rfl rfl rfl) ?_
 refine jM 42 rfl rfl ?_
 refine JH.pg 43 rfl (Gd.t1 rfl rfl rfl) (fun hc => p_move rfl) ?_
 refine JH.pg 44 rfl (Gd.t1 rfl rfl rfl) (fun hc => p_nilCheck (gvt rfl hc)) ?_
 refine JH.pg 45 rfl (Gd.t1 rfl rfl rfl) (fun hc => p_fieldAddr fld_49_4.h (gvt rfl hc)) ?_
 refine JH.wg 46 rfl (Gd.t1 rfl rfl rfl) (fun hc os' u' hv => q_load1 ty_2.h (gvt rfl hc) (Mem.pub ((hr2.vis hv) 4 _ rfl))) ?_
 refine JH.pg 47 rfl (Gd.t1 rfl rfl rfl) (fun hc => p_move rfl) ?_
 refine JH.pg 48 rfl (Gd.t1 rfl rfl rfl) (fun hc => p_nilCheck (gvt rfl hc)) ?_
 refine JH.pg 49 rfl (Gd.t1 rfl rfl rfl) (fun hc => p_fieldAddr fld_49_4.h (gvt rfl hc)) ?_
 refine JH.wg 50 rfl (Gd.t1 rfl rfl rfl) (fun hc os' u' hv => q_load1 ty_2.h (gvt rfl hc) (Mem.pub ((hr4.vis hv) 4 _ rfl))) ?_
 refine JH.pg 51 rfl (Gd.t1 rfl rfl rfl) (fun hc => p_eql (gvt rfl hc) (gvt rfl hc)) ?_
 refine JH.p 52 rfl (p_pickAnd rfl rfl rfl) ?_
 refine jM 53 rfl rfl ?_
 refine JH.pg 54 rfl (Gd.t1 rfl rfl rfl) (fun hc => p_move rfl) ?_
 refine JH.pg 55 rfl (Gd.t1 rfl rfl rfl) (fun hc => p_nilCheck (gvt rfl hc)) ?_
 refine JH.pg 56 rfl (Gd.t1 rfl rfl rfl) (fun hc => p_fieldAddr fld_49_5.h (gvt rfl hc)) ?_
 refine JH.wg 57 rfl (Gd.t1 rfl rfl rfl) (fun hc os' u' hv => q_load1 ty_2.h (gvt rfl hc) (Mem.pub ((hr2.vis hv) 5 _ rfl))) ?_
 refine JH.pg 58 rfl (Gd.t1 rfl rfl rfl) (fun hc => p_move rfl) ?_
 refine JH.pg 59 rfl (Gd.t1 rfl rfl rfl) (fun hc => p_nilCheck (gvt rfl hc)) ?_
 refine JH.pg 60 rfl (Gd.t1 rfl rfl rfl) (fun hc => p_fieldAddr fld_49_5.h (gvt rfl hc)) ?_
 refine JH.wg 61 rfl (Gd.t1 rfl rfl rfl) (fun hc os' u' hv => q_load1 ty_2.h (gvt rfl hc) (Mem.pub ((hr4.vis hv) 5 _ rfl))) ?_
 refine JH.pg 62 rfl (Gd.t1 rfl rfl rfl) (fun hc => p_eql (gvt rfl hc) (gvt rfl hc)) ?_
 refine JH.p 63 rfl (p_pickAnd rfl rfl rfl) ?_
 refine jA 64 rfl rfl ?_
 refine yd ?_
 refine zR (Up.refl _ _) ?_
 first | rfl | (simp [outV, M.sameS, Bool.and_assoc]; done)
theorem c_spec_SameMemory (a : M.Mem) {v_a : Value} (b : M.Mem) {v_b : Value} {w : World} (h_a : (Ty.agg (cMemory a)).ok w v_a) (h_b : (Ty.agg (cMemory b)).ok w v_b) (r0 : a.slots.length ≤ 4194304 := by exact om_) (r1 : ∀ x ∈ a.slots, x.pits.length ≤ 4194304 := by exact om_) (r2 : b.slots.length ≤ 4194304 := by exact om_) (r3 : ∀ x ∈ b.slots, x.pits.length ≤ 4194304 := by exact om_) : RetV Tryz.prog 10 [v_a, v_b] w (.bool (M.sameM a b)) := by
 revert v_a; apply opn
 intro A1 c1 h1 bl1 bh1
 revert v_b; apply opn
 intro A2 c2 h2 bl2 bh2
 refine enter @Tryz.func10 @Tryz.ntmps10 rfl rfl ?_
 refine zent ?_
 refine zS <| zb rfl fun b3 => zb rfl fun b4 => Qa rfl <| zJ <| zS <| Qf fh rfl <| Q9 1 rfl rfl ?_
 refine Qf fh rfl <| Q9 0 rfl rfl ?_
 refine Qq (p_neqS (by kernel_rfl) (fun w => eqs_Rules a.rules b.rules w) rfl rfl) <| Qm rfl <| zg (Gd.f1 rfl rfl rfl) (fun hc => p_fieldAddr fld_28_1.h rfl) <| zgq (Gd.f1 rfl rfl rfl) (fun hc => q_load1 ty_26.h (gh hc rfl) (Mem.box (i := 1) rfl rfl)) <| zg (Gd.f1 rfl rfl rfl) (fun hc => p_len el_26 (gh hc rfl)) <| zg (Gd.f1 rfl rfl rfl) (fun hc => p_fieldAddr fld_28_1.h rfl) <| zgq (Gd.f1 rfl rfl rfl) (fun hc => q_load1 ty_26.h (gh hc rfl) (Mem.box (i := 0) rfl rfl)) <| zg (Gd.f1 rfl rfl rfl) (fun hc => p_len el_26 (gh hc rfl)) <| zg (Gd.f1 rfl rfl rfl) (fun hc => p_neq (gh hc rfl) (gh hc rfl)) <| Qq (p_pickOr rfl rfl rfl) <| JL.nil ?_
 refine zi (fun h5 h5' => ?_) fun h5 h5' => ?_
 ·
  have hE := M.sameM_no (a := a) (b := b) (by have h9 := h5; simpa using h9)
  refine zS <| Qa rfl <| JL.nil ?_
  refine zR (Up.refl _ _) ?_
  rw [hE]; rfl
 obtain ⟨hr, hl⟩ : a.rules = b.rules ∧ a.slots.length = b.slots.length := M.sameM_h (by have h9 := h5; simpa using h9)
 refine Js.skip <| Js.seq <| zS <| Qa rfl <| JL.nil <| Js.block ?_
 refine zl [2, 3] (fun F U l os u m => ∃ (k : Nat), l = F [(5, .int .i64 (k : Int))] ∧ os = U [] ∧ (k ≤ a.slots.length) ∧ (∀ i : Nat, i < k → M.slo a.slots i = M.slo b.slots i) ∧ m = a.slots.length - k) ⟨0, rfl, rfl, zt, by exact fun i hi => absurd hi (by omega), rfl⟩ ?_
 rintro _ _ u6 _ ⟨k, rfl, rfl, hk, hA, rfl⟩ x6
 refine zn ?_
 refine Js.seq <| zS <| Qm rfl <| Qf fh rfl <| Q0 1 rfl rfl rfl <| Qz rfl <| Ql rfl rfl <| JL.nil ?_
 refine zi (fun h7 h7' => ?_) fun h7 h7' => ?_
 ·
  have hkk : k < a.slots.length := by have := h7'; omega
  have ha9 := r1 _ (M.slo_mem (l := a.slots) (k := k) (by omega))
  have hb9 := r3 _ (M.slo_mem (l := b.slots) (k := k) (by omega))
  refine Js.skip <| Js.seq <| Js.block <| Js.seq ?_
  refine zdr [] ?_
  refine jF 0 fld_28_1 rfl rfl ?_
  refine jB 1 1 ty_26 rfl rfl rfl rfl ?_
  refine jM 2 rfl rfl ?_
  have hy8 : a.slots[k]? = some (M.slo a.slots k) := M.slo_get (by omega)
  obtain ⟨b8, o8, A8_1, c8_1, he8, hr8, h8_1, bl8_1, bh8_1⟩ := elem_Slot (Ty.mono _ h1 x6.vis) hy8
  refine jI 3 el_26 rfl rfl rfl he8 ?_
  refine jF 4 fld_28_1 rfl rfl ?_
  refine jB 5 0 ty_26 rfl rfl rfl rfl ?_
  refine jM 6 rfl rfl ?_
  have hy9 : b.slots[k]? = some (M.slo b.slots k) := M.slo_get (by omega)
  obtain ⟨b9, o9, A9_1, c9_1, he9, hr9, h9_1, bl9_1, bh9_1⟩ := elem_Slot (Ty.mono _ h2 x6.vis) hy9
  refine jI 7 el_26 rfl rfl rfl he9 ?_
  refine y1 8 ?_
  refine yv rfl rfl (fun w hw => c_spec_l16Same (M.slo a.slots k) (M.slo b.slots k) (ok_ hw) (ok_ hw)) ?_
  refine JH.p 9 rfl (p_not rfl) ?_
  refine yd ?_
  refine zi (fun h10 h10' => ?_) fun h10 h10' => ?_
  ·
   have hE := M.sameM_x (a := a) (b := b) (k := k) (by have h9 := h10; simpa using h9)
   refine zS <| Qa rfl <| JL.nil ?_
   refine zR x6 ?_
   rw [hE]; rfl
  have hx9 : M.slo a.slots k = M.slo b.slots k := M.sameS_iff.1 (by simpa using h10)
  have hA2 : ∀ i : Nat, i < k + 1 → M.slo a.slots i = M.slo b.slots i := fun i hi => by rcases Nat.lt_succ_iff_lt_or_eq.1 hi with h9 | h9; (exact hA i h9); subst h9; exact hx9
  refine Js.skip <| Js.blockEnd <| Js.region <| Qm rfl <| Qp rfl rfl <| Qa rfl <| JL.nil ?_
  exact zag ⟨k + 1, rfl, rfl, zt, by exact hA2, rfl⟩ x6
 have hE := M.sameM_y hr hl (fun i hi => hA i (by have := h7'; omega))
 refine zx ?_
 refine zS <| Qa rfl <| JL.nil ?_
 refine zR x6 ?_
 rw [hE]; rfl
theorem c_spec_l16Own (mem : M.Mem) {v_mem : Value} {w : World} (h_mem : (Ty.ref (cMemory mem)).ok w v_mem) (r0 : mem.slots.length ≤ 4194304 := by exact om_) (r1 : ∀ x ∈ mem.slots, x.pits.length ≤ 4194304 := by exact om_) : Ret Tryz.prog 50 [v_mem] w (Ty.agg (cMemory mem)) := by
 revert v_mem; apply opn
 intro b2 o2 A1 c1 h1 bl1 bh1 hr2
 refine enter @Tryz.func50 @Tryz.ntmps50 rfl rfl ?_
 refine zent ?_
 refine zS <| za zeh fun b3 => zN <| Qm rfl <| Qc rfl <| Qf fh rfl <| QS 0 hr2 rfl ?_
 refine Qb ?_
 refine za zeh fun b4 => zw 0 rfl rfl rfl ?_
 refine zJ <| zS <| Qa rfl <| JL.nil <| Js.block ?_
 refine Js.conv (fun w hw => St.nilRowS 49 6 hw) ?_
 refine Js.vals (Ts := lSlot []) (vs := []) (fun w => rfl) ?_
 refine zl [0, 2, 3] (fun F U l os u m => ∃ (k : Nat) (acc : List M.Slo) (A5_3_9 : Option Addr) (c5_3_9 : Nat) (g5_3_9 : List Nat) (vs5_3_9 : List Value) (fl5_3_9 : List Nat), l = F [(4, .int .i64 (k : Int))] ∧ os = U [some (ownC (lSlot acc) vs5_3_9 fl5_3_9), some (rowO 49 6 (.slice A5_3_9 acc.length c5_3_9) acc.length vs5_3_9 g5_3_9), some (boxO b4 [.int .i64 mem.rules.pits, .int .i64 mem.rules.seeds, .bool mem.rules.stores, .bool mem.rules.skip, .bool mem.rules.relay, .bool mem.rules.feed, .bool mem.rules.again, .int .i64 mem.rules.capture, .int .i64 mem.rules.slam, .slice A5_3_9 acc.length c5_3_9] 28)] ∧ (acc = mem.slots.take k) ∧ (k ≤ mem.slots.length) ∧ (acc.length ≤ c5_3_9) ∧ (c5_3_9 ≤ 9223372036854775807) ∧ m = mem.slots.length - k) ⟨0, [], _, _, _, _, _, rfl, rfl, by rfl, zt, zu, zu, rfl⟩ ?_
 rintro _ _ u5 _ ⟨k, acc, A5_3_9, c5_3_9, g5_3_9, vs5_3_9, fl5_3_9, rfl, rfl, hA, hk, f5_2, f5_3, rfl⟩ x5
 refine zn ?_
 have hla : acc.length = k := by rw [hA, List.length_take]; omega
 refine Js.seq <| zS <| Qm rfl <| Qm rfl <| Qc rfl <| Qf fh rfl <| QC ((hr2.vis x5.vis) 9 _ rfl) rfl <| Qz rfl <| Ql rfl rfl <| JL.nil ?_
 refine zi (fun h6 h6' => ?_) fun h6 h6' => ?_
 ·
  have hkk : k < mem.slots.length := by have := h6'; omega
  have e1_ := r1 _ (M.slo_mem (l := mem.slots) (k := k) hkk)
  have hA2 := M.takeS hkk
  rw [← hA] at hA2
  have hA2 := hA2.symm
  have hy7 : mem.slots[k]? = some (M.slo mem.slots k) := M.slo_get (by omega)
  obtain ⟨b7, o7, A7_1, c7_1, he7, hr7, h7_1, bl7_1, bh7_1⟩ := elem_Slot (Ty.mono _ h1 x5.vis) hy7
  refine Js.skip <| Js.seq <| Js.block <| zS <| Qm rfl <| Qc rfl <| Qf fh rfl <| QC ((hr2.vis x5.vis) 9 _ rfl) rfl <| Qm rfl <| Qq (p_indexAddr el_26 rfl rfl (by omega) (by omega) he7) <| QS 0 hr7 rfl ?_
  refine za zeh fun b8 => zw 0 rfl rfl rfl ?_
  refine zN <| Qf fh rfl <| Q0 0 rfl rfl rfl <| zcs rfl (fun w hw => c_spec_l00Own ((M.slo mem.slots k).pits) (ok_ hw)) ?_
  intro A9 c9 bl9 bh9
  refine Qf fh rfl <| zw 1 rfl rfl rfl ?_
  refine zG <| Qf fh rfl <| Q0 4 rfl rfl rfl <| Q9 1 rfl rfl ?_
  refine zbs fun b10 => ?_
  refine JL.e (e_append (i := 4) (n' := (acc ++ [(M.slo mem.slots k)]).length) (vs' := vs5_3_9 ++ [.bool ((M.slo mem.slots k).used), .slice A9 (((M.slo mem.slots k).pits).length) c9, .int .i64 ((M.slo mem.slots k).player), .int .i64 ((M.slo mem.slots k).depth), .int .i64 ((M.slo mem.slots k).value), .int .i64 ((M.slo mem.slots k).bound)]) el_26 rfl rfl rfl rfl (src_row (i := 0) und_26 rfl rfl) (by omega) (by omega) ln2_ (rfl)) ?_
  rintro v12 _ _ ⟨⟨g13, rfl⟩, rfl⟩ _
  refine JL.fact (row_form' (i := 4) rfl) (fun hf14 => ?_)
  obtain ⟨A14, c14, rfl, bl14, bh14⟩ := hf14
  refine znl ?_
  refine Qf fh rfl <| zw 5 rfl rfl rfl ?_
  refine JL.nil ?_
  refine Js.pk (cSlot (M.slo mem.slots k)) [.bool ((M.slo mem.slots k).used), .slice A9 (((M.slo mem.slots k).pits).length) c9, .int .i64 ((M.slo mem.slots k).player), .int .i64 ((M.slo mem.slots k).depth), .int .i64 ((M.slo mem.slots k).value), .int .i64 ((M.slo mem.slots k).bound)] (fun f16 G16 => ?_)
  refine zn ?_
  refine Js.joinL (i := 4) (j := 0) (Vs := lSlot (acc ++ [(M.slo mem.slots k)])) rfl rfl (lSlot_snoc _ _) (fun f17 => ?_)
  refine zn ?_
  refine Js.blockEnd <| Js.region <| Qm rfl <| Qp rfl rfl <| Qa rfl <| JL.nil ?_
  refine zd [0, 3, 3, 3] rfl fun u18 x18 => ?_
  exact zag ⟨k + 1, acc ++ [(M.slo mem.slots k)], _, _, _, _, _, rfl, rfl, by exact hA2, zt, zu, zu, rfl⟩ (x5.trans x18)
 have hE : acc = mem.slots := by rw [hA, List.take_of_length_le (by have := h6'; omega)]
 refine zx ?_
 have hq0 : acc = mem.slots := by first | rfl | (rw [hE]; done) | (rw [hE]; rfl)
 refine zS <| Q9 2 rfl rfl ?_
 refine zw 3 rfl rfl rfl ?_
 refine JL.nil ?_
 exact zro x5
theorem c_spec_l16Code (mem : M.Mem) {v_mem : Value} (p : M.Pos) {v_p : Value} {w : World} (h_mem : (Ty.ref (cMemory mem)).ok w v_mem) (h_p : (Ty.ref (cPosition p)).ok w v_p) (r0 : mem.slots.length ≤ 4194304 := by exact om_) (r1 : ∀ x ∈ mem.slots, x.pits.length ≤ 4194304 := by exact om_) (r2 : p.pits.length ≤ 4194304 := by exact om_) (r3 : p.stores.length ≤ 4194304 := by exact om_) : RetV Tryz.prog 48 [v_mem, v_p] w (.int .i64 (M.remC mem p)) := by
 revert v_mem; apply opn
 intro b2 o2 A1 c1 h1 bl1 bh1 hr2
 revert v_p; apply opn
 intro b5 o5 A3 c3 h3 bl3 bh3 A4 c4 h4 bl4 bh4 hr5
 refine enter @Tryz.func48 @Tryz.ntmps48 rfl rfl ?_
 refine zent ?_
 refine zS <| Qa rfl <| zJ <| zS <| Qm rfl <| zv rfl (fun w hw => c_spec_l16Ok mem (ok_ hw) (r1 := r1)) <| Qt rfl <| Qm rfl <| zg (Gd.f1 rfl rfl rfl) (fun hc => p_move rfl) <| zg (Gd.f1 rfl rfl rfl) (fun hc => p_nilCheck (gh hc rfl)) <| zg (Gd.f1 rfl rfl rfl) (fun hc => p_fieldAddr fld_28_0.h (gh hc rfl)) <| zg (Gd.f1 rfl rfl rfl) (fun hc => p_move rfl) <| zgv (Gd.f1 rfl rfl rfl) (fun hc => (opds_2 (gh hc rfl) (gh hc rfl))) (fun hc => (fun w hw => c_spec_l04Ok mem.rules p (ok_ hw) (ok_ hw) (r0 := (by have hc9 := hc; (try simp only [Bool.not_eq_true', Bool.not_eq_false'] at hc9); omega)) (r1 := (by have hc9 := hc; (try simp only [Bool.not_eq_true', Bool.not_eq_false'] at hc9); omega)))) ?_
 refine zg (Gd.f1 rfl rfl rfl) (fun hc => p_not (gh hc rfl)) <| Qq (p_pickOr rfl rfl rfl) <| JL.nil ?_
 refine zi (fun h6 h6' => ?_) fun h6 h6' => ?_
 ·
  have hE := M.remC_1 (m := mem) (p := p) (by have h9 := h6; rintro h8; simp only [M.remB, Bool.and_eq_true] at h8; simp [h8.1, h8.2] at h9)
  refine zS <| Qa rfl <| JL.nil ?_
  refine zR (Up.refl _ _) ?_
  rw [hE]; rfl
 have hE := M.remC_0 (m := mem) (p := p) (by have h9 := h6; simpa [M.remB] using h9)
 refine Js.skip <| zS <| Qa rfl <| JL.nil ?_
 refine zR (Up.refl _ _) ?_
 rw [hE]; rfl
theorem c_spec_l16Place (mem : M.Mem) {v_mem : Value} (p : M.Pos) {v_p : Value} {w : World} (h_mem : (Ty.ref (cMemory mem)).ok w v_mem) (h_p : (Ty.ref (cPosition p)).ok w v_p) (r0 : M.okP mem.rules p = true := by exact om_) (r1 : 0 < mem.slots.length := by exact om_) (r2 : mem.slots.length ≤ 4194304 := by exact om_) : RetV Tryz.prog 133 [v_mem, v_p] w (.int .i64 (M.plc mem.slots.length p.pits p.player)) := by
 obtain ⟨g1, g2, g3, g4, g5, g6, g7⟩ := M.okP_bd r0
 revert v_mem; apply opn
 intro b2 o2 A1 c1 h1 bl1 bh1 hr2
 revert v_p; apply opn
 intro b5 o5 A3 c3 h3 bl3 bh3 A4 c4 h4 bl4 bh4 hr5
 refine enter @Tryz.func133 @Tryz.ntmps133 rfl rfl ?_
 refine zent ?_
 refine zS <| Qa rfl <| zJ ?_
 refine zdr [] ?_
 refine jM 0 rfl rfl ?_
 refine jN 1 rfl rfl ?_
 refine jF 2 fld_31_0 rfl rfl ?_
 refine jW 3 ty_29 rfl rfl (fun hv => (hr5.vis hv) 0 _ rfl) ?_
 refine jM 4 rfl rfl ?_
 refine jN 5 rfl rfl ?_
 refine jF 6 fld_31_2 rfl rfl ?_
 refine jW 7 ty_2 rfl rfl (fun hv => (hr5.vis hv) 2 _ rfl) ?_
 refine jM 8 rfl rfl ?_
 refine jN 9 rfl rfl ?_
 refine jF 10 fld_28_1 rfl rfl ?_
 refine jW 11 ty_26 rfl rfl (fun hv => (hr2.vis hv) 9 _ rfl) ?_
 refine JH.p 12 rfl (p_len el_26 rfl) ?_
 refine y1 13 ?_
 refine yv rfl rfl (fun w hw => c_spec_l16Hash p.pits p.player (mem.slots.length : Int) (ok_ hw) (r0 := g5) (r1 := (by constructor <;> omega))) ?_
 refine jA 14 rfl rfl ?_
 refine yd ?_
 refine zR (Up.refl _ _) ?_
 rfl
theorem c_spec_l16Find (mem : M.Mem) {bmem_p omem_p : Nat} {Amem_9 : Option Addr} {cmem_9 : Nat} (p : M.Pos) {v_p : Value} (depth : Int) {w : World} (hemem_9 : (Ty.sl 49 6 mem.slots.length (lSlot mem.slots)).ok w (.slice Amem_9 mem.slots.length cmem_9)) (hrmem : RowAt w bmem_p omem_p [.int .i64 mem.rules.pits, .int .i64 mem.rules.seeds, .bool mem.rules.stores, .bool mem.rules.skip, .bool mem.rules.relay, .bool mem.rules.feed, .bool mem.rules.again, .int .i64 mem.rules.capture, .int .i64 mem.rules.slam, .slice Amem_9 mem.slots.length cmem_9]) (h_p : (Ty.ref (cPosition p)).ok w v_p) (bd0 : mem.slots.length ≤ cmem_9 := by exact om_) (bd1 : cmem_9 ≤ 9223372036854775807 := by exact om_) (r0 : mem.slots.length ≤ 4194304 := by exact om_) (r1 : ∀ x ∈ mem.slots, x.pits.length ≤ 4194304 := by exact om_) (r2 : p.pits.length ≤ 4194304 := by exact om_) (r3 : p.stores.length ≤ 4194304 := by exact om_) (r4 : M.okP mem.rules p = true := by exact om_) (r5 : 0 < mem.slots.length := by exact om_) : RetX Tryz.prog 99 [.pointer (some ⟨bmem_p, omem_p, none⟩), v_p, .int .i64 depth] w (fun v => v = .tuple #[.pointer (elemA 6 (.slice Amem_9 mem.slots.length cmem_9) (M.plc mem.slots.length p.pits p.player).toNat), .bool (M.fndB mem.slots p depth)]) := by
 obtain ⟨hp1, hp2⟩ := M.plc_bd (n := mem.slots.length) p.pits p.player r5
 have hfs := r1 _ (M.slo_mem (l := mem.slots) (k := (M.plc mem.slots.length p.pits p.player).toNat) (by omega))
 revert v_p; apply opn
 intro b3 o3 A1 c1 h1 bl1 bh1 A2 c2 h2 bl2 bh2 hr3
 refine enter @Tryz.func99 @Tryz.ntmps99 rfl rfl ?_
 refine zent ?_
 refine zS <| Qa rfl <| Qa rfl <| zJ ?_
 refine zdr [] ?_
 refine jM 0 rfl rfl ?_
 refine jN 1 rfl rfl ?_
 refine jF 2 fld_28_1 rfl rfl ?_
 refine jW 3 ty_26 rfl rfl (fun hv => (hrmem.vis hv) 9 _ rfl) ?_
 refine jM 4 rfl rfl ?_
 refine jM 5 rfl rfl ?_
 refine y1 6 ?_
 refine yv rfl rfl (fun w hw => c_spec_l16Place mem p (ok_ hw) (ok_ hw) (r0 := r4)) ?_
 have hy4 : mem.slots[(M.plc mem.slots.length p.pits p.player).toNat]? = some (M.slo mem.slots ((M.plc mem.slots.length p.pits p.player).toNat)) := M.slo_get (by omega)
 obtain ⟨b4, o4, A4_1, c4_1, he4, hr4, h4_1, bl4_1, bh4_1⟩ := elem_Slot hemem_9 hy4
 refine jI 7 el_26 rfl rfl rfl he4 ?_
 refine jA 8 rfl rfl ?_
 refine yd ?_
 refine Js.seq ?_
 refine zdr [] ?_
 refine jM 0 rfl rfl ?_
 refine jM 1 rfl rfl ?_
 refine jN 2 rfl rfl ?_
 refine jF 3 fld_49_0 rfl rfl ?_
 refine jW 4 ty_4 rfl rfl (fun hv => (hr4.vis hv) 0 _ rfl) ?_
 refine jM 5 rfl rfl ?_
 refine JH.pg 6 rfl (Gd.t1 rfl rfl rfl) (fun hc => p_move rfl) ?_
 refine JH.pg 7 rfl (Gd.t1 rfl rfl rfl) (fun hc => p_nilCheck (gvt rfl hc)) ?_
 refine JH.pg 8 rfl (Gd.t1 rfl rfl rfl) (fun hc => p_fieldAddr fld_49_3.h (gvt rfl hc)) ?_
 refine JH.wg 9 rfl (Gd.t1 rfl rfl rfl) (fun hc os' u' hv => q_load1 ty_2.h (gvt rfl hc) (Mem.pub ((hr4.vis hv) 3 _ rfl))) ?_
 refine JH.pg 10 rfl (Gd.t1 rfl rfl rfl) (fun hc => p_move rfl) ?_
 refine JH.pg 11 rfl (Gd.t1 rfl rfl rfl) (fun hc => p_eql (gvt rfl hc) (gvt rfl hc)) ?_
 refine JH.p 12 rfl (p_pickAnd rfl rfl rfl) ?_
 refine jM 13 rfl rfl ?_
 refine JH.pg 14 rfl (Gd.t1 rfl rfl rfl) (fun hc => p_move rfl) ?_
 refine JH.pg 15 rfl (Gd.t1 rfl rfl rfl) (fun hc => p_nilCheck (gvt rfl hc)) ?_
 refine JH.pg 16 rfl (Gd.t1 rfl rfl rfl) (fun hc => p_fieldAddr fld_49_2.h (gvt rfl hc)) ?_
 refine JH.wg 17 rfl (Gd.t1 rfl rfl rfl) (fun hc os' u' hv => q_load1 ty_2.h (gvt rfl hc) (Mem.pub ((hr4.vis hv) 2 _ rfl))) ?_
 refine JH.pg 18 rfl (Gd.t1 rfl rfl rfl) (fun hc => p_move rfl) ?_
 refine JH.pg 19 rfl (Gd.t1 rfl rfl rfl) (fun hc => p_nilCheck (gvt rfl hc)) ?_
 refine JH.pg 20 rfl (Gd.t1 rfl rfl rfl) (fun hc => p_fieldAddr fld_31_2.h (gvt rfl hc)) ?_
 refine JH.wg 21 rfl (Gd.t1 rfl rfl rfl) (fun hc os' u' hv => q_load1 ty_2.h (gvt rfl hc) (Mem.pub ((hr3.vis hv) 2 _ rfl))) ?_
 refine JH.pg 22 rfl (Gd.t1 rfl rfl rfl) (fun hc => p_eql (gvt rfl hc) (gvt rfl hc)) ?_
 refine JH.p 23 rfl (p_pickAnd rfl rfl rfl) ?_
 refine jM 24 rfl rfl ?_
 refine JH.pg 25 rfl (Gd.t1 rfl rfl rfl) (fun hc => p_move rfl) ?_
 refine JH.pg 26 rfl (Gd.t1 rfl rfl rfl) (fun hc => p_nilCheck (gvt rfl hc)) ?_
 refine JH.pg 27 rfl (Gd.t1 rfl rfl rfl) (fun hc => p_fieldAddr fld_49_1.h (gvt rfl hc)) ?_
 refine JH.wg 28 rfl (Gd.t1 rfl rfl rfl) (fun hc os' u' hv => q_load1 ty_29.h (gvt rfl hc) (Mem.pub ((hr4.vis hv) 1 _ rfl))) ?_
 refine JH.pg 29 rfl (Gd.t1 rfl rfl rfl) (fun hc => p_move rfl) ?_
 refine JH.pg 30 rfl (Gd.t1 rfl rfl rfl) (fun hc => p_nilCheck (gvt rfl hc)) ?_
 refine JH.pg 31 rfl (Gd.t1 rfl rfl rfl) (fun hc => p_fieldAddr fld_31_0.h (gvt rfl hc)) ?_
 refine JH.wg 32 rfl (Gd.t1 rfl rfl rfl) (fun hc os' u' hv => q_load1 ty_29.h (gvt rfl hc) (Mem.pub ((hr3.vis hv) 0 _ rfl))) ?_
 refine y1 33 ?_
 refine JHo.ge rfl (Gd.t1 rfl rfl rfl) (fun hc => e_callV fn_105.h (opds_2 (gvt rfl hc) (gvt rfl hc)) (fun w hw => c_spec_l00Same ((M.slo mem.slots ((M.plc mem.slots.length p.pits p.player).toNat)).pits) p.pits (ok_ hw) (ok_ hw) (r0 := (by have hc9 := hc; (try simp only [Bool.and_eq_true, decide_eq_true_eq] at hc9); omega)) (r1 := (by have hc9 := hc; (try simp only [Bool.and_eq_true, decide_eq_true_eq] at hc9); omega)))) ?_
 refine JH.p 34 rfl (p_pickAnd rfl rfl rfl) ?_
 refine jA 35 rfl rfl ?_
 refine jA 36 rfl rfl ?_
 refine yd ?_
 refine zX (Up.refl _ _) ?_
 show (_ : Value) = _; rw [he4]; first | rfl | (simp [outV, M.fndB, M.fnd, Bool.and_assoc]; done)
theorem c_spec_l16StoreL (mem_rules : M.Rul) (mem_slots : List M.Slo) (mem_hits : Int) {Amem_9 : Option Addr} {cmem_9 : Nat} {gmem_9 : List Nat} {vsmem_9 : List Value} {fmem_9 : List Nat} (x : M.Slo) {v_x : Value} {bmem : Nat} {w : World} (hb : Bw w [boxO bmem [.int .i64 mem_rules.pits, .int .i64 mem_rules.seeds, .bool mem_rules.stores, .bool mem_rules.skip, .bool mem_rules.relay, .bool mem_rules.feed, .bool mem_rules.again, .int .i64 mem_rules.capture, .int .i64 mem_rules.slam, .slice Amem_9 mem_slots.length cmem_9, .int .i64 mem_hits] 99, rowO 49 6 (.slice Amem_9 mem_slots.length cmem_9) mem_slots.length vsmem_9 gmem_9, ownC (lSlot mem_slots) vsmem_9 fmem_9]) (h_x : (Ty.ref (cSlot x)).ok (offW w (([boxO bmem [.int .i64 mem_rules.pits, .int .i64 mem_rules.seeds, .bool mem_rules.stores, .bool mem_rules.skip, .bool mem_rules.relay, .bool mem_rules.feed, .bool mem_rules.again, .int .i64 mem_rules.capture, .int .i64 mem_rules.slam, .slice Amem_9 mem_slots.length cmem_9, .int .i64 mem_hits] 99, rowO 49 6 (.slice Amem_9 mem_slots.length cmem_9) mem_slots.length vsmem_9 gmem_9, ownC (lSlot mem_slots) vsmem_9 fmem_9] : List Own).flatMap (·.fp))) v_x) (bd0 : mem_slots.length ≤ cmem_9 := by exact om_) (bd1 : cmem_9 ≤ 9223372036854775807 := by exact om_) (r0 : M.okP mem_rules (M.posS x) = true := by exact om_) (r1 : 0 < mem_slots.length := by exact om_) (r2 : mem_slots.length ≤ 4194304 := by exact om_) (r3 : x.pits.length ≤ 4194304 := by exact om_) : RetB Tryz.prog 101 [.pointer (some ⟨bmem, 0, none⟩), v_x] w [boxO bmem [.int .i64 mem_rules.pits, .int .i64 mem_rules.seeds, .bool mem_rules.stores, .bool mem_rules.skip, .bool mem_rules.relay, .bool mem_rules.feed, .bool mem_rules.again, .int .i64 mem_rules.capture, .int .i64 mem_rules.slam, .slice Amem_9 mem_slots.length cmem_9, .int .i64 mem_hits] 99, rowO 49 6 (.slice Amem_9 mem_slots.length cmem_9) mem_slots.length vsmem_9 gmem_9, ownC (lSlot mem_slots) vsmem_9 fmem_9] (fun v bs' => ∃ (Axmem_9 : Option Addr) (cxmem_9 : Nat) (gxmem_9 : List Nat) (vsxmem_9 : List Value) (fxmem_9 : List Nat), v = .tuple #[] ∧ bs' = [boxO bmem [.int .i64 mem_rules.pits, .int .i64 mem_rules.seeds, .bool mem_rules.stores, .bool mem_rules.skip, .bool mem_rules.relay, .bool mem_rules.feed, .bool mem_rules.again, .int .i64 mem_rules.capture, .int .i64 mem_rules.slam, .slice Axmem_9 ((M.stoS mem_slots x).length) cxmem_9, .int .i64 mem_hits] 99, rowO 49 6 (.slice Axmem_9 ((M.stoS mem_slots x).length) cxmem_9) ((M.stoS mem_slots x).length) vsxmem_9 gxmem_9, ownC (lSlot (M.stoS mem_slots x)) vsxmem_9 fxmem_9] ∧ (M.stoS mem_slots x).length ≤ cxmem_9 ∧ cxmem_9 ≤ 9223372036854775807) := by
 obtain ⟨hp1, hp2⟩ := M.plc_bd (n := mem_slots.length) x.pits x.player r1
 obtain ⟨g1, g2, g3, g4, g5, g6, g7⟩ := M.okP_bd r0
 have g7 : x.player = 0 ∨ x.player = 1 := g7
 have hq1 : 0 ≤ M.hashP x.pits x.player % (mem_slots.length : Int) := hp1
 have hq2 : M.hashP x.pits x.player % (mem_slots.length : Int) < (mem_slots.length : Int) := hp2
 revert v_x; apply opn
 intro b2 o2 A1 c1 h1 bl1 bh1 hr2
 refine enterB hb @Tryz.func101 @Tryz.ntmps101 rfl rfl ?_
 refine zent ?_
 refine Js.trashE ?_
 refine zn ?_
 refine Js.seq ?_
 refine zdr [] ?_
 refine jM 0 rfl rfl ?_
 refine jN 1 rfl rfl ?_
 refine jF 2 fld_49_1 rfl rfl ?_
 refine jW 3 ty_29 rfl rfl (fun hv => (hr2.vis hv) 1 _ rfl) ?_
 refine jM 4 rfl rfl ?_
 refine jN 5 rfl rfl ?_
 refine jF 6 fld_49_2 rfl rfl ?_
 refine jW 7 ty_2 rfl rfl (fun hv => (hr2.vis hv) 2 _ rfl) ?_
 refine jM 8 rfl rfl ?_
 refine jN 9 rfl rfl ?_
 refine jF 10 fld_28_1 rfl rfl ?_
 refine jB 11 0 ty_26 rfl rfl rfl rfl ?_
 refine JH.p 12 rfl (p_len el_26 rfl) ?_
 refine y1 13 ?_
 refine yv rfl rfl (fun w hw => c_spec_l16Hash x.pits x.player (mem_slots.length : Int) (ok_ hw) (r0 := g5) (r1 := (by constructor <;> omega))) ?_
 refine jA 14 rfl rfl ?_
 refine yd ?_
 refine Js.seq <| Js.seq ?_
 refine zdr [] ?_
 refine jM 0 rfl rfl ?_
 refine jN 1 rfl rfl ?_
 refine jF 2 fld_28_1 rfl rfl ?_
 refine jB 3 0 ty_26 rfl rfl rfl rfl ?_
 refine jM 4 rfl rfl ?_
 refine JH.fact (row_some (i := 1) rfl (by omega)) (fun hf4 => ?_)
 obtain ⟨b4, rfl⟩ := hf4
 have hy3 : mem_slots[(M.hashP x.pits x.player % (mem_slots.length : Int)).toNat]? = some (M.slo mem_slots ((M.hashP x.pits x.player % (mem_slots.length : Int)).toNat)) := M.slo_get len_
 refine JH.fact (fun w hw => elemv_Slot (Mem.ownC (i := 2) rfl w hw) hy3) (fun hf3 => ?_)
 obtain ⟨A3_1, c3_1, he3, bl3_1, bh3_1⟩ := hf3
 refine jI 5 el_26 rfl rfl rfl rfl ?_
 refine jF 6 fld_49_0 rfl rfl ?_
 refine JH.q 7 rfl (q_load1 ty_4.h rfl (fun w hw => (Mem.rowR' (i := 1) rfl he3 w hw) 0 _ rfl)) ?_
 refine jM 8 rfl rfl ?_
 refine JH.pg 9 rfl (Gd.t1 rfl rfl rfl) (fun hc => p_move rfl) ?_
 refine JH.pg 10 rfl (Gd.t1 rfl rfl rfl) (fun hc => p_nilCheck (gvt rfl hc)) ?_
 refine JH.pg 11 rfl (Gd.t1 rfl rfl rfl) (fun hc => p_fieldAddr fld_28_1.h (gvt rfl hc)) ?_
 refine JH.pg 13 rfl (Gd.t1 rfl rfl rfl) (fun hc => p_move rfl) ?_
 refine JH.pg 17 rfl (Gd.t1 rfl rfl rfl) (fun hc => p_move rfl) ?_
 refine JH.pg 18 rfl (Gd.t1 rfl rfl rfl) (fun hc => p_nilCheck (gvt rfl hc)) ?_
 refine JH.pg 19 rfl (Gd.t1 rfl rfl rfl) (fun hc => p_fieldAddr fld_49_3.h (gvt rfl hc)) ?_
 refine JH.wg 20 rfl (Gd.t1 rfl rfl rfl) (fun hc os' u' hv => q_load1 ty_2.h (gvt rfl hc) (Mem.pub ((hr2.vis hv) 3 _ rfl))) ?_
 refine y1 12 ?_
 refine JHo.qg rfl (Gd.t1 rfl rfl rfl) (fun hc => q_load1 ty_26.h (gvt rfl hc) (Mem.box (i := 0) rfl rfl)) ?_
 have hy5 : mem_slots[(M.hashP x.pits x.player % (mem_slots.length : Int)).toNat]? = some (M.slo mem_slots ((M.hashP x.pits x.player % (mem_slots.length : Int)).toNat)) := M.slo_get len_
 refine JH.fact (fun w hw => elemv_Slot (Mem.ownC (i := 2) rfl w hw) hy5) (fun hf5 => ?_)
 obtain ⟨A5_1, c5_1, he5, bl5_1, bh5_1⟩ := hf5
 refine JH.pg 14 rfl (Gd.t1 rfl rfl rfl) (fun hc => p_indexAddr el_26 (gvt rfl hc) (gvt rfl hc) (by omega) (by omega) rfl) ?_
 refine JH.pg 15 rfl (Gd.t1 rfl rfl rfl) (fun hc => p_fieldAddr fld_49_3.h (gvt rfl hc)) ?_
 refine JH.qg 16 rfl (Gd.t1 rfl rfl rfl) (fun hc => q_load1 ty_2.h (gvt rfl hc) (fun w hw => (Mem.rowR' (i := 1) rfl he5 w hw) 3 _ rfl)) ?_
 refine JH.pg 21 rfl (Gd.t1 rfl rfl rfl) (fun hc => p_gtr (gvt rfl hc) (gvt rfl hc)) ?_
 refine JH.p 22 rfl (p_pickAnd rfl rfl rfl) ?_
 refine yd ?_
 refine zi (fun h6 h6' => ?_) fun h6 h6' => ?_
 ·
  have hE9 : M.stoS mem_slots x = mem_slots := if_neg (by have h9 := h6; exact M.sto_no h9)
  refine zrb0 [0, 0, 0] hb (Up.refl _ _) ?_
  have hN10 : (M.stoS mem_slots x).length = mem_slots.length := by first | exact M.stoS_len _ _ | rfl
  have hE10 : (M.stoS mem_slots x) = mem_slots := by first | exact hE9 | rfl
  refine ⟨(some ⟨b4, 0, none⟩), cmem_9, gmem_9, vsmem_9, fmem_9, rfl, ?_, ?_, ?_⟩
  · first | rfl | (dsimp only; rw [hN10, hE10]; done) | (dsimp only; rw [hN10, hE10]; rfl) | (dsimp only; simp only [hN10, hE10]) | (rw [hN10, hE10]; done) | (rw [hN10, hE10]; rfl)
  all_goals (try dsimp only)
  all_goals (first | (rw [hN10, hE10]; omega) | omega | (simp only [*]; omega) | (simp; done))
 have hE9 : M.stoS mem_slots x = mem_slots.set (M.plc mem_slots.length x.pits x.player).toNat x := if_pos (by have h9 := h6; exact M.sto_yes h9)
 refine Js.skip <| zS <| Qm rfl <| Qc rfl <| QS 0 hr2 rfl ?_
 refine za zeh fun b7 => zw 0 rfl rfl rfl ?_
 refine zN <| Qm rfl <| Qc rfl <| Qf fh rfl <| QC (hr2 1 _ rfl) rfl <| zcs rfl (fun w hw => c_spec_l00Own x.pits (ok_ hw)) ?_
 intro A8 c8 bl8 bh8
 refine Qf fh rfl <| zw 1 rfl rfl rfl ?_
 refine JL.nil ?_
 refine Js.fact (fun w hw => elem_in cSlot (m := 6) (k := (M.hashP x.pits x.player % (mem_slots.length : Int)).toNat) (xs := mem_slots) (fun _ => rfl) (Mem.ownC (i := 4) rfl w hw) (by omega)) (fun hl9 => ?_)
 refine Js.ex3 (fun w hw => St.elemS cSlot (m := 6) (i := 4) (xs := mem_slots) (fun _ => rfl) rfl hy5 he5 hw) (fun f9_1 f9_2 f9_3 => ?_)
 refine Js.unp 0 ?_
 refine zn ?_
 refine zdr [7] ?_
 refine jM 0 rfl rfl ?_
 refine jN 1 rfl rfl ?_
 refine jF 2 fld_28_1 rfl rfl ?_
 refine jB 3 5 ty_26 rfl rfl rfl rfl ?_
 refine jM 4 rfl rfl ?_
 refine JH.q 5 rfl (L9 4 rfl rfl) ?_
 refine jI 6 el_26 rfl rfl rfl rfl ?_
 refine y1 7 ?_
 refine JHo.s rfl (e_storeRow (i := 6) (xs' := setL vsmem_9 (0 + ((M.hashP x.pits x.player % (mem_slots.length : Int)).toNat) * 6) [.bool x.used, .slice A8 x.pits.length c8, .int .i64 x.player, .int .i64 x.depth, .int .i64 x.value, .int .i64 x.bound]) ty_49.h rfl rfl rfl rfl rfl rfl (by omega) rfl) (.inr rfl) ?_
 rintro _ _ _ ⟨rfl, rfl⟩ _
 refine znh ?_
 refine yd ?_
 refine Js.pk (cSlot x) [.bool x.used, .slice A8 x.pits.length c8, .int .i64 x.player, .int .i64 x.depth, .int .i64 x.value, .int .i64 x.bound] (fun f12 G12 => ?_)
 refine Js.front (i := 3) rfl ?_
 refine zn ?_
 refine Js.front (i := 1) rfl ?_
 refine zn ?_
 refine Js.front (i := 4) rfl ?_
 refine zn ?_
 refine Js.conv (fun w hw => St.closeE cSlot (k := (M.hashP x.pits x.player % (mem_slots.length : Int)).toNat) (m := 6) (xs := mem_slots) (y := x) (vs := vsmem_9) (vs' := (setL vsmem_9 (0 + ((M.hashP x.pits x.player % (mem_slots.length : Int)).toNat) * 6) [.bool x.used, .slice A8 x.pits.length c8, .int .i64 x.player, .int .i64 x.depth, .int .i64 x.value, .int .i64 x.bound])) (by omega) rfl rfl hw) ?_
 refine zn ?_
 refine zrbE [4, 4, 0] hb (Up.refl _ _) ?_
 have hN10 : (M.stoS mem_slots x).length = mem_slots.length := by first | exact M.stoS_len _ _ | rfl
 have hE10 : (M.stoS mem_slots x) = (mem_slots.set ((M.hashP x.pits x.player % (mem_slots.length : Int)).toNat) x) := by first | exact hE9 | rfl
 refine ⟨(some ⟨b4, 0, none⟩), cmem_9, gmem_9, (setL vsmem_9 (0 + ((M.hashP x.pits x.player % (mem_slots.length : Int)).toNat) * 6) [.bool x.used, .slice A8 x.pits.length c8, .int .i64 x.player, .int .i64 x.depth, .int .i64 x.value, .int .i64 x.bound]), (f9_3 ++ f12 ++ f9_2), rfl, ?_, ?_, ?_⟩
 · first | rfl | (dsimp only; rw [hN10, hE10]; done) | (dsimp only; rw [hN10, hE10]; rfl) | (dsimp only; simp only [hN10, hE10]) | (rw [hN10, hE10]; done) | (rw [hN10, hE10]; rfl)
 all_goals (try dsimp only)
 all_goals (first | (rw [hN10, hE10]; omega) | omega | (simp only [*]; omega) | (simp; done))
end Go.Proofs.YtmgnckfhghibeaaGreat

/- Walks: G3. -/
import Derived.Test.YtcmfnlleikcpnaaGreatZxA3
import Derived.Test.YtcmfnlleikcpnaaGreatZxA9
set_option linter.unusedSimpArgs false
set_option linter.unusedVariables false
set_option maxRecDepth 100000
attribute [local irreducible] Go.Proofs.YtcmfnlleikcpnaaGreat.gv
set_option maxHeartbeats 12000000
namespace Go.Proofs.YtcmfnlleikcpnaaGreat
open Go.RowKit
theorem c_impl_Rules_taken (r : M.Rul) {v_r : Value} (s : M.Sw) {v_s : Value} (player : Int) {w : World} (h_r : (Ty.agg (cRules r)).ok w v_r) (h_s : (Ty.agg (cSown s)).ok w v_s) (r0 : 2 ≤ r.pits := by exact om_) (r1 : r.pits ≤ 8 := by exact om_) (r2 : player = 0 ∨ player = 1 := by exact om_) (r3 : M.Good r s.pits s.stores 0 := by exact om_) (r4 : -1 ≤ s.last := by exact om_) (r5 : s.last < 2 * r.pits := by exact om_) : Ret Tryz.prog 188 [v_r, v_s, .int .i64 player] w (Ty.ints 2 (M.taken r s player)) := by
 have l1 := r3.lp
 have l2 := r3.ls
 have hv : 0 ≤ M.getI s.pits s.last := M.nn_nth r3.np _
 have hv9 := r3.pit s.last
 revert v_r; apply opn
 revert v_s; apply opn
 intro A1 c1 h1 bl1 bh1 A2 c2 h2 bl2 bh2
 refine enter @Tryz.func188 @Tryz.ntmps188 rfl rfl ?_
 refine zent ?_
 obtain ⟨b3, o3, rfl⟩ := ints_some h1 (by omega)
 refine zS <| zb rfl fun b4 => zb rfl fun b5 => Qa rfl <| zN <| zbs fun b6 => ?_
 refine Qa rfl <| zJ <| zS <| Qf fh rfl <| Q0 1 rfl rfl rfl <| Ql rfl rfl <| JL.nil ?_
 refine zi (fun h8 h8' => ?_) fun h8 h8' => ?_
 ·
  have hR : M.taken r s player = [] := by unfold M.taken; rw [if_pos (by simpa using h8)]
  have hq0 : [] = M.taken r s player := by rw [hR]
  refine zS <| Qm rfl <| Qa rfl <| JL.nil ?_
  exact zro (Up.refl _ _)
 have hl0 : ¬ s.last < 0 := by simpa using h8
 refine Js.skip <| zS <| Q9 2 rfl rfl ?_
 refine Qf fh rfl <| Q0 1 rfl rfl rfl <| zv rfl (fun w hw => c_impl_Rules_owner r s.last (ok_ hw)) <| Qm rfl <| Qe rfl rfl <| Qa rfl <| zJ <| zS <| Qf fh rfl <| Q0 2 rfl rfl rfl <| JL.nil <| Js.block <| zS <| Qe rfl rfl ?_
 refine Qa rfl <| JL.nil ?_
 refine zi (fun h9 h9' => ?_) fun h9 h9' => ?_
 ·
  have hcap : r.capture = 1 := by simpa using h9
  refine zS <| Qf fh rfl <| Q0 1 rfl rfl rfl <| Qa rfl <| JL.nil <| Js.block ?_
  refine zl [2, 3, 4] (fun F U l os u m => ∃ (k : Int) (out : List Int) (A10_7 : Option Addr) (c10_7 : Nat) (g10_7 : List Nat), l = F [(7, .slice A10_7 out.length c10_7), (9, .int .i64 k)] ∧ os = U [some (rowO 2 1 (.slice A10_7 out.length c10_7) out.length (ints_ out) g10_7)] ∧ (out ++ M.ttI r player s.pits k = M.ttI r player s.pits s.last) ∧ (-1 ≤ k) ∧ (k < 2 * r.pits) ∧ ((out.length : Int) + k = s.last) ∧ (out.length ≤ c10_7) ∧ (c10_7 ≤ 9223372036854775807) ∧ m = (k + 1).toNat) ⟨s.last, [], _, _, _, rfl, rfl, by rfl, zt, zt, by simp, zu, zu, rfl⟩ ?_
  rintro _ _ u10 _ ⟨k, out, A10_7, c10_7, g10_7, rfl, rfl, hS, k0, k1, hl, f10_4, f10_5, rfl⟩ x10
  refine zn ?_
  refine Js.seq <| zS <| Qm rfl <| Qh rfl rfl <| Qm rfl <| zgq (Gd.t1 rfl rfl rfl) (fun hc => L9 2 rfl rfl) <| zg (Gd.t1 rfl rfl rfl) (fun hc => p_move rfl) <| zgv (Gd.t1 rfl rfl rfl) (fun hc => (opds_2 (gh hc rfl) (gh hc rfl))) (fun hc => (fun w hw => c_impl_Rules_owner r k (ok_ hw) (r0 := (oh_ hc)) (r1 := (oh_ hc)) (r2 := (oh_ hc)) (r3 := (oh_ hc)))) ?_
  refine zg (Gd.t1 rfl rfl rfl) (fun hc => p_move rfl) <| zg (Gd.t1 rfl rfl rfl) (fun hc => p_neq (gh hc rfl) (gh hc rfl)) <| Qq (p_pickAnd rfl rfl rfl) <| Qm rfl <| zg (Gd.t1 rfl rfl rfl) (fun hc => p_fieldAddr fld_162_0.h rfl) <| zgq (Gd.t1 rfl rfl rfl) (fun hc => q_load1 ty_27.h (gh hc rfl) (Mem.box (i := 1) rfl rfl)) <| zg (Gd.t1 rfl rfl rfl) (fun hc => p_move rfl) <| zg (Gd.t1 rfl rfl rfl) (fun hc => p_indexAddr el_27 (gh hc rfl) (gh hc rfl) (by have hc9 := hc; (try simp only [Bool.and_eq_true, decide_eq_true_eq, Bool.not_eq_true', decide_eq_false_iff_not] at hc9); omega) (by have hc9 := hc; (try simp only [Bool.and_eq_true, decide_eq_true_eq, Bool.not_eq_true', decide_eq_false_iff_not] at hc9); omega) rfl) ?_
  refine zgq (Gd.t1 rfl rfl rfl) (fun hc => q_load1 ty_2.h (gh hc rfl) (Mem.pub (ints_cellI (i := k) (Ty.mono _ h1 x10.vis) (by have hc9 := hc; (try simp only [Bool.and_eq_true, decide_eq_true_eq, Bool.not_eq_true', decide_eq_false_iff_not] at hc9); omega)))) ?_
  refine zgv (Gd.t1 rfl rfl rfl) (fun hc => (opds_3 (gh hc rfl) rfl rfl)) (fun hc => (fun w hw => c_impl_between (M.getI s.pits k) 2 3)) ?_
  refine Qq (p_pickAnd rfl rfl rfl) <| JL.nil ?_
  refine zi (fun h12 h12' => ?_) fun h12 h12' => ?_
  ·
   obtain ⟨⟨c0, c1⟩, c2⟩ : (0 ≤ k ∧ ¬ M.owner r k = player) ∧ M.betw (M.getI s.pits k) 2 3 = true := by simpa using h12
   have hS2 : (out ++ [k]) ++ M.ttI r player s.pits (k - 1) = M.ttI r player s.pits s.last := by rw [← hS, M.ttI_yes c0 c1 c2]; simp
   refine Js.skip <| Js.seq <| Js.block <| Js.region <| Qm rfl <| Qm rfl <| zbs fun b13 => ?_
   refine JL.e (e_append (i := 1) (n' := (out ++ [k]).length) (vs' := ints_ (out ++ [k])) el_27 rfl rfl rfl rfl (src_row (i := 0) und_27 rfl rfl) (by omega) (by omega) ln2_ (by simp [ints_])) ?_
   rintro v15 _ _ ⟨⟨g16, rfl⟩, rfl⟩ _
   refine JL.fact (row_form' (i := 1) rfl) (fun hf17 => ?_)
   obtain ⟨A17, c17, rfl, bl17, bh17⟩ := hf17
   refine znl ?_
   refine Qa rfl <| JL.nil <| Js.blockEnd <| Js.region <| Qm rfl <| Qs rfl rfl <| Qa rfl <| JL.nil ?_
   refine zd [1, 1, 1] rfl fun u18 x18 => ?_
   exact zag ⟨k - 1, out ++ [k], _, _, _, rfl, rfl, by exact hS2, zt, zt, by simp only [List.length_append, List.length_cons, List.length_nil]; omega, zu, zu, rfl⟩ (x10.trans x18)
  have hF : M.ttI r player s.pits k = [] := by rcases h12' with (h | h) | h; exact M.ttI_neg h; exact M.ttI_no (.inl h); exact M.ttI_no (.inr h)
  rw [hF, List.append_nil] at hS
  have hR : M.taken r s player = out := by unfold M.taken; rw [if_neg hl0, if_pos hcap, hS]; simp [M.ttI, hl0]
  refine zx ?_
  have hq0 : out = M.taken r s player := by rw [hR]
  refine Js.blockEnd <| zS <| Qm rfl <| Qa rfl <| JL.nil ?_
  exact zro x10
 have hcap1 : ¬ r.capture = 1 := by simpa using h9
 refine zS <| Qe rfl rfl <| Qa rfl <| JL.nil ?_
 refine zi (fun h19 h19' => ?_) fun h19 h19' => ?_
 ·
  have hcap : r.capture = 2 := by simpa using h19
  have ho : M.opp r s.last = 2 * r.pits - 1 - s.last := rfl
  have ho : M.opp r s.last = 2 * r.pits - 1 - s.last := rfl
  refine zS <| Q9 2 rfl rfl ?_
  refine Qf fh rfl <| Q0 1 rfl rfl rfl <| zv rfl (fun w hw => c_impl_Rules_opposite r s.last (ok_ hw)) <| Qa rfl <| zN <| Qm rfl <| Qm rfl <| zg (Gd.t1 rfl rfl rfl) (fun hc => p_fieldAddr fld_162_0.h rfl) <| zgq (Gd.t1 rfl rfl rfl) (fun hc => q_load1 ty_27.h (gh hc rfl) (Mem.box (i := 1) rfl rfl)) <| zg (Gd.t1 rfl rfl rfl) (fun hc => p_fieldAddr fld_162_2.h rfl) <| zgq (Gd.t1 rfl rfl rfl) (fun hc => q_load1 ty_2.h (gh hc rfl) (Mem.box (i := 1) rfl rfl)) <| zg (Gd.t1 rfl rfl rfl) (fun hc => p_indexAddr el_27 (gh hc rfl) (gh hc rfl) (oh_ hc) (oh_ hc) rfl) ?_
  refine zgq (Gd.t1 rfl rfl rfl) (fun hc => q_load1 ty_2.h (gh hc rfl) (Mem.pub (ints_cellI (i := s.last) h1 (oh_ hc)))) ?_
  refine zg (Gd.t1 rfl rfl rfl) (fun hc => p_eql (gh hc rfl) rfl) <| Qq (p_pickAnd rfl rfl rfl) <| Qm rfl <| zg (Gd.t1 rfl rfl rfl) (fun hc => p_fieldAddr fld_162_0.h rfl) <| zgq (Gd.t1 rfl rfl rfl) (fun hc => q_load1 ty_27.h (gh hc rfl) (Mem.box (i := 1) rfl rfl)) <| zg (Gd.t1 rfl rfl rfl) (fun hc => p_move rfl) <| zg (Gd.t1 rfl rfl rfl) (fun hc => p_indexAddr el_27 (gh hc rfl) (gh hc rfl) (by have hc9 := hc; (try simp only [Bool.and_eq_true, decide_eq_true_eq] at hc9); omega) (by have hc9 := hc; (try simp only [Bool.and_eq_true, decide_eq_true_eq] at hc9); omega) rfl) ?_
  refine zgq (Gd.t1 rfl rfl rfl) (fun hc => q_load1 ty_2.h (gh hc rfl) (Mem.pub (ints_cellI (i := M.opp r s.last) h1 (by have hc9 := hc; (try simp only [Bool.and_eq_true, decide_eq_true_eq] at hc9); omega)))) ?_
  refine zg (Gd.t1 rfl rfl rfl) (fun hc => p_gtr (gh hc rfl) rfl) <| Qq (p_pickAnd rfl rfl rfl) <| JL.nil ?_
  refine zi (fun h22 h22' => ?_) fun h22 h22' => ?_
  ·
   have hR : M.taken r s player = [s.last, M.opp r s.last] := by unfold M.taken; rw [if_neg hl0, if_neg hcap1, if_pos hcap, if_pos (by simpa [and_assoc] using h22)]
   refine Js.region <| Qm rfl <| Qf fh rfl <| Q0 1 rfl rfl rfl <| Qm rfl <| zbs fun b23 => ?_
   refine JL.e (e_append (i := 1) (n' := 2) (vs' := ints_ [s.last, (M.opp r s.last)]) el_27 rfl rfl rfl rfl (src_row (i := 0) und_27 rfl rfl) (by omega) (by omega) ln2_ (by simp [ints_])) ?_
   rintro v25 _ _ ⟨⟨g26, rfl⟩, rfl⟩ _
   refine JL.fact (row_form' (i := 1) rfl) (fun hf27 => ?_)
   obtain ⟨A27, c27, rfl, bl27, bh27⟩ := hf27
   refine znl ?_
   have hq0 : [s.last, (M.opp r s.last)] = M.taken r s player := by rw [hR]
   refine Qa rfl <| JL.nil <| Js.blockEnd <| zS <| Qm rfl <| Qa rfl <| JL.nil ?_
   exact zro (Up.refl _ _)
  have hR : M.taken r s player = [] := by unfold M.taken; rw [if_neg hl0, if_neg hcap1, if_pos hcap, if_neg (by simpa [and_assoc] using h22)]
  have hq0 : [] = M.taken r s player := by rw [hR]
  refine Js.skip <| Js.blockEnd <| zS <| Qm rfl <| Qa rfl <| JL.nil ?_
  exact zro (Up.refl _ _)
 have hcap2 : ¬ r.capture = 2 := by simpa using h19
 refine zS <| Qe rfl rfl <| Qa rfl <| JL.nil ?_
 refine zi (fun h28 h28' => ?_) fun h28 h28' => ?_
 ·
  have hcap : r.capture = 3 := by simpa using h28
  refine zS <| Qm rfl <| Qt rfl <| Qm rfl <| zg (Gd.t1 rfl rfl rfl) (fun hc => p_fieldAddr fld_162_0.h rfl) <| zgq (Gd.t1 rfl rfl rfl) (fun hc => q_load1 ty_27.h (gh hc rfl) (Mem.box (i := 1) rfl rfl)) <| zg (Gd.t1 rfl rfl rfl) (fun hc => p_fieldAddr fld_162_2.h rfl) <| zgq (Gd.t1 rfl rfl rfl) (fun hc => q_load1 ty_2.h (gh hc rfl) (Mem.box (i := 1) rfl rfl)) <| zg (Gd.t1 rfl rfl rfl) (fun hc => p_indexAddr el_27 (gh hc rfl) (gh hc rfl) (by have hc9 := hc; (try simp only [Bool.not_eq_true', decide_eq_false_iff_not] at hc9); omega) (by have hc9 := hc; (try simp only [Bool.not_eq_true', decide_eq_false_iff_not] at hc9); omega) rfl) ?_
  refine zgq (Gd.t1 rfl rfl rfl) (fun hc => q_load1 ty_2.h (gh hc rfl) (Mem.pub (ints_cellI (i := s.last) h1 (by have hc9 := hc; (try simp only [Bool.not_eq_true', decide_eq_false_iff_not] at hc9); omega)))) ?_
  refine zg (Gd.t1 rfl rfl rfl) (fun hc => p_rem (gh hc rfl) rfl (by have hc9 := hc; (try simp only [Bool.not_eq_true', decide_eq_false_iff_not] at hc9); omega) (Int.tmod_eq_emod_of_nonneg (by have hc9 := hc; (try simp only [Bool.not_eq_true', decide_eq_false_iff_not] at hc9); omega))) ?_
  refine zg (Gd.t1 rfl rfl rfl) (fun hc => p_eql (gh hc rfl) rfl) <| Qq (p_pickAnd rfl rfl rfl) <| JL.nil ?_
  refine zi (fun h30 h30' => ?_) fun h30 h30' => ?_
  ·
   have hR : M.taken r s player = [s.last] := by unfold M.taken; rw [if_neg hl0, if_neg hcap1, if_neg hcap2, if_pos hcap, if_pos (by simpa using h30)]
   refine Js.region <| Qm rfl <| Qf fh rfl <| Q0 1 rfl rfl rfl <| zbs fun b31 => ?_
   refine JL.e (e_append (i := 1) (n' := 1) (vs' := ints_ [s.last]) el_27 rfl rfl rfl rfl (src_row (i := 0) und_27 rfl rfl) (by omega) (by omega) ln2_ (by simp [ints_])) ?_
   rintro v33 _ _ ⟨⟨g34, rfl⟩, rfl⟩ _
   refine JL.fact (row_form' (i := 1) rfl) (fun hf35 => ?_)
   obtain ⟨A35, c35, rfl, bl35, bh35⟩ := hf35
   refine znl ?_
   have hq0 : [s.last] = M.taken r s player := by rw [hR]
   refine Qa rfl <| JL.nil <| Js.blockEnd <| zS <| Qm rfl <| Qa rfl <| JL.nil ?_
   exact zro (Up.refl _ _)
  have hR : M.taken r s player = [] := by unfold M.taken; rw [if_neg hl0, if_neg hcap1, if_neg hcap2, if_pos hcap, if_neg (by simpa using h30)]
  have hq0 : [] = M.taken r s player := by rw [hR]
  refine Js.skip <| Js.blockEnd <| zS <| Qm rfl <| Qa rfl <| JL.nil ?_
  exact zro (Up.refl _ _)
 have hcap3 : ¬ r.capture = 3 := by simpa using h28
 have hR : M.taken r s player = [] := by unfold M.taken; rw [if_neg hl0, if_neg hcap1, if_neg hcap2, if_neg hcap3]
 have hq0 : [] = M.taken r s player := by rw [hR]
 refine Js.skip <| Js.blockEnd <| zS <| Qm rfl <| Qa rfl <| JL.nil ?_
 exact zro (Up.refl _ _)
theorem c_impl_Rules_slams (r : M.Rul) {v_r : Value} (s : M.Sw) {v_s : Value} (player : Int) {w : World} (h_r : (Ty.agg (cRules r)).ok w v_r) (h_s : (Ty.agg (cSown s)).ok w v_s) (r0 : 2 ≤ r.pits := by exact om_) (r1 : r.pits ≤ 8 := by exact om_) (r2 : player = 0 ∨ player = 1 := by exact om_) (r3 : M.Good r s.pits s.stores 0 := by exact om_) (r4 : -1 ≤ s.last := by exact om_) (r5 : s.last < 2 * r.pits := by exact om_) : RetV Tryz.prog 168 [v_r, v_s, .int .i64 player] w (.bool (M.slams r s player)) := by
 have l1 := r3.lp
 have l2 := r3.ls
 have hao := M.Good.ok r3
 have hlen := M.taken_len (s := s) (player := player) r5 r1
 revert v_r; apply opn
 revert v_s; apply opn
 intro A1 c1 h1 bl1 bh1 A2 c2 h2 bl2 bh2
 refine enter @Tryz.func168 @Tryz.ntmps168 rfl rfl ?_
 refine zent ?_
 obtain ⟨b3, o3, rfl⟩ := ints_some h1 (by omega)
 refine zS <| zb rfl fun b4 => zb rfl fun b5 => Qa rfl <| zN <| Q9 1 rfl rfl ?_
 refine Qf fh rfl <| Q0 0 rfl rfl rfl <| Qm rfl <| Qs rfl rfl <| zv rfl (fun w hw => c_impl_Rules_side r s.pits (1 - player) (ok_ hw) (ok_ hw) (r4 := hao.1)) <| Qa rfl <| Qa rfl <| zJ <| zS <| Q9 1 rfl rfl ?_
 refine Q9 0 rfl rfl ?_
 refine Qm rfl <| zp rfl (fun w hw => c_impl_Rules_taken r s player (ok_ hw) (ok_ hw) (r3 := r3)) ?_
 intro u6 x6 A7 c7 h7 bl7 bh7
 refine Qz rfl <| Qm rfl <| JL.nil <| Js.block ?_
 refine zl [2, 3, 4, 7, 20, 21] (fun F U l os u m => ∃ (k : Nat) (g : Int), l = F [(8, .int .i64 g), (22, .int .i64 (k : Int))] ∧ os = U [] ∧ (g + M.gone r s player ((M.taken r s player).drop k) = M.gone r s player (M.taken r s player)) ∧ (k ≤ (M.taken r s player).length) ∧ (0 ≤ g) ∧ (g ≤ 96 * k) ∧ m = (M.taken r s player).length - k) ⟨0, 0, rfl, rfl, by simp, zt, zt, zt, rfl⟩ ?_
 rintro _ _ u8 _ ⟨k, g, rfl, rfl, hS, hk, g0, g1, rfl⟩ x8
 refine zn ?_
 refine zS <| Ql rfl rfl <| zJ ?_
 refine zi (fun h9 h9' => ?_) fun h9 h9' => ?_
 ·
  have hk2 : k < (M.taken r s player).length := by have := h9; simp at this; omega
  have hx := M.taken_mem (r := r) (s := s) (player := player) r5 (M.nth_mem hk2)
  have hvx := r3.pit (M.nth (M.taken r s player) k)
  have hS1 := hS
  rw [M.drop_nth hk2, M.gone_cons] at hS1
  obtain ⟨b10, o10, he10, hc10⟩ := ints_elem (Ty.mono _ h7 x8.vis) (i := k) (by omega)
  refine Js.skip <| Js.seq <| Js.block <| zS <| Qq (p_indexAddr el_27 rfl rfl (by omega) (by omega) he10) <| QC hc10 rfl <| Qa rfl <| zN <| Q9 1 rfl rfl ?_
  refine Qm rfl <| zv rfl (fun w hw => c_impl_Rules_owner r (M.nth (M.taken r s player) k) (ok_ hw)) <| Qm rfl <| Qd rfl rfl <| JL.nil ?_
  refine zi (fun h11 h11' => ?_) fun h11 h11' => ?_
  ·
   have hS2 : (g + M.getI s.pits (M.nth (M.taken r s player) k)) + M.gone r s player ((M.taken r s player).drop (k + 1)) = M.gone r s player (M.taken r s player) := by rw [if_neg (by simpa using h11)] at hS1; omega
   refine Js.region <| Qm rfl <| Qf fh rfl <| Q0 0 rfl rfl rfl <| Qm rfl <| Qq (p_indexAddr el_27 rfl rfl (by omega) (by omega) rfl) <| Qw (q_load1 ty_2.h rfl (Mem.pub (ints_cellI (i := M.nth (M.taken r s player) k) (Ty.mono _ h1 (x6.vis.trans x8.vis)) (by omega)))) <| Qp rfl rfl <| Qa rfl <| JL.nil <| Js.blockEnd <| Js.region <| Qp rfl rfl <| Qm rfl ?_
   refine JL.nil ?_
   exact zag ⟨k + 1, g + (M.getI s.pits (M.nth (M.taken r s player) k)), rfl, rfl, by exact hS2, zt, zt, zt, rfl⟩ x8
  have hS2 : g + M.gone r s player ((M.taken r s player).drop (k + 1)) = M.gone r s player (M.taken r s player) := by rw [if_pos (by simpa using h11)] at hS1; omega
  refine Js.skip <| Js.blockEnd <| Js.region <| Qp rfl rfl <| Qm rfl <| JL.nil ?_
  exact zag ⟨k + 1, g, rfl, rfl, by exact hS2, zt, zt, zt, rfl⟩ x8
 have hg : g = M.gone r s player (M.taken r s player) := by rw [← hS, List.drop_eq_nil_of_le (by omega), M.gone_nil]; omega
 refine zx ?_
 refine zS <| Qm rfl <| Qg rfl rfl <| Qm rfl <| zg (Gd.t1 rfl rfl rfl) (fun hc => p_move rfl) <| zg (Gd.t1 rfl rfl rfl) (fun hc => p_move rfl) <| zg (Gd.t1 rfl rfl rfl) (fun hc => p_eql (gh hc rfl) (gh hc rfl)) <| Qq (p_pickAnd rfl rfl rfl) <| Qa rfl <| JL.nil ?_
 refine zR (x6.trans x8) ?_
 subst hg; simp [outV, M.slams]
theorem c_impl_Rules_captured (r : M.Rul) {v_r : Value} (s : M.Sw) {v_s : Value} (player : Int) {w : World} (h_r : (Ty.agg (cRules r)).ok w v_r) (h_s : (Ty.agg (cSown s)).ok w v_s) (r0 : 2 ≤ r.pits := by exact om_) (r1 : r.pits ≤ 8 := by exact om_) (r2 : player = 0 ∨ player = 1 := by exact om_) (r3 : M.Good r s.pits s.stores 0 := by exact om_) (r4 : -1 ≤ s.last := by exact om_) (r5 : s.last < 2 * r.pits := by exact om_) : Ret Tryz.prog 187 [v_r, v_s, .int .i64 player] w (Ty.ints 2 (M.captured r s player)) := by
 revert v_r; apply opn
 revert v_s; apply opn
 intro A1 c1 h1 bl1 bh1 A2 c2 h2 bl2 bh2
 refine enter @Tryz.func187 @Tryz.ntmps187 rfl rfl ?_
 refine zent ?_
 refine zS <| zb rfl fun b3 => zb rfl fun b4 => Qa rfl <| zJ <| zS <| Qf fh rfl <| Q0 1 rfl rfl rfl <| Qe rfl rfl <| Qm rfl <| zgq (Gd.t1 rfl rfl rfl) (fun hc => L9 1 rfl rfl) <| zgq (Gd.t1 rfl rfl rfl) (fun hc => L9 0 rfl rfl) <| zg (Gd.t1 rfl rfl rfl) (fun hc => p_move rfl) <| zgv (Gd.t1 rfl rfl rfl) (fun hc => (opds_3 (gh hc rfl) (gh hc rfl) (gh hc rfl))) (fun hc => (fun w hw => c_impl_Rules_slams r s player (ok_ hw) (ok_ hw) (r0 := (oh_ hc)) (r1 := (oh_ hc)) (r2 := (oh_ hc)) (r3 := r3) (r4 := (oh_ hc)) (r5 := (oh_ hc)))) ?_
 refine Qq (p_pickAnd rfl rfl rfl) <| JL.nil ?_
 refine zi (fun h5 h5' => ?_) fun h5 h5' => ?_
 ·
  have hR : M.captured r s player = [] := by unfold M.captured; rw [if_pos (by simpa using h5)]
  have hq0 : [] = M.captured r s player := by rw [hR]
  refine zS <| zbs fun b6 => ?_
  refine Qa rfl <| JL.nil ?_
  exact zro (Up.refl _ _)
 have hR : M.captured r s player = M.taken r s player := by unfold M.captured; rw [if_neg (by simpa using h5)]
 refine Js.skip <| zS <| Q9 1 rfl rfl ?_
 refine Q9 0 rfl rfl ?_
 refine Qm rfl <| zcs rfl (fun w hw => c_impl_Rules_taken r s player (ok_ hw) (ok_ hw) (r3 := r3)) ?_
 intro A8 c8 bl8 bh8
 have hq0 : (M.taken r s player) = M.captured r s player := by rw [hR]
 refine Qa rfl <| JL.nil ?_
 exact zro (Up.refl _ _)
theorem c_impl_Rules_takeCaptures (r : M.Rul) {v_r : Value} (s : M.Sw) {v_s : Value} (player : Int) {w : World} (h_r : (Ty.agg (cRules r)).ok w v_r) (h_s : (Ty.agg (cSown s)).ok w v_s) (r0 : 2 ≤ r.pits := by exact om_) (r1 : r.pits ≤ 8 := by exact om_) (r2 : player = 0 ∨ player = 1 := by exact om_) (r3 : M.Good r s.pits s.stores 0 := by exact om_) (r4 : -1 ≤ s.last := by exact om_) (r5 : s.last < 2 * r.pits := by exact om_) : Ret Tryz.prog 167 [v_r, v_s, .int .i64 player] w (Ty.agg (cSown (M.take r s player))) := by
 have l1 := r3.lp
 have l2 := r3.ls
 have hlen := M.captured_len (s := s) (player := player) r5 r1
 revert v_r; apply opn
 revert v_s; apply opn
 intro A1 c1 h1 bl1 bh1 A2 c2 h2 bl2 bh2
 refine enter @Tryz.func167 @Tryz.ntmps167 rfl rfl ?_
 refine zent ?_
 obtain ⟨b3, o3, rfl⟩ := ints_some h1 (by omega)
 obtain ⟨b4, o4, rfl⟩ := ints_some h2 (by omega)
 refine zS <| zb rfl fun b5 => zb rfl fun b6 => za zeh fun b7 => zN <| Q9 2 rfl rfl ?_
 refine Q9 1 rfl rfl ?_
 refine Qm rfl <| zp rfl (fun w hw => c_impl_Rules_captured r s player (ok_ hw) (ok_ hw) (r3 := r3)) ?_
 intro u8 x8 A9 c9 h9 bl9 bh9
 refine Qa rfl <| zJ ?_
 refine zdr [7, 9] ?_
 refine jF 0 fld_162_0 rfl rfl ?_
 refine jB 1 1 ty_27 rfl rfl rfl rfl ?_
 refine jF 3 fld_162_1 rfl rfl ?_
 refine jB 4 1 ty_27 rfl rfl rfl rfl ?_
 refine y1 2 ?_
 refine ycs rfl rfl (fun w hw => c_impl_copyNumbers s.pits (ok_ hw)) ?_
 intro A10 c10 bl10 bh10
 refine jF 6 fld_162_0 rfl rfl ?_
 refine y1 5 ?_
 refine ycs rfl rfl (fun w hw => c_impl_copyNumbers s.stores (ok_ hw)) ?_
 intro A11 c11 bl11 bh11
 refine y1 7 ?_
 refine yst rfl rfl rfl ?_
 refine jF 8 fld_162_1 rfl rfl ?_
 refine y1 9 ?_
 refine yst rfl rfl rfl ?_
 refine yd ?_
 refine Js.fact (row_some (i := 0) rfl (by omega)) (fun hf12 => ?_)
 obtain ⟨b12, rfl⟩ := hf12
 refine Js.fact (row_some (i := 1) rfl (by omega)) (fun hf13 => ?_)
 obtain ⟨b13, rfl⟩ := hf13
 refine Js.seq <| zS <| Qm rfl <| Qz rfl <| Qm rfl <| JL.nil <| Js.block ?_
 refine zl [2, 4, 6, 22, 23] (fun F U l os u m => ∃ (k : Nat) (ps ss : List Int), l = F [(24, .int .i64 (k : Int))] ∧ os = U [some (rowO 2 1 (.slice (some ⟨b12, 0, none⟩) s.stores.length c11) s.stores.length (ints_ ss) []), some (rowO 2 1 (.slice (some ⟨b13, 0, none⟩) s.pits.length c10) s.pits.length (ints_ ps) [])] ∧ (M.takeL player ((M.captured r s player).drop k) ps ss = M.takeL player (M.captured r s player) s.pits s.stores) ∧ (k ≤ (M.captured r s player).length) ∧ (M.Good r ps ss 0) ∧ m = (M.captured r s player).length - k) ⟨0, s.pits, s.stores, rfl, rfl, by rfl, zt, by exact r3, rfl⟩ ?_
 rintro _ _ u14 _ ⟨k, ps, ss, rfl, rfl, hS, hk, hG, rfl⟩ x14
 refine zn ?_
 have l3 := hG.lp
 have l4 := hG.ls
 refine zS <| Ql rfl rfl <| zJ ?_
 refine zi (fun h15 h15' => ?_) fun h15 h15' => ?_
 ·
  have hk2 : k < (M.captured r s player).length := by have := h15; simp at this; omega
  have hx := M.captured_mem (r := r) (s := s) (player := player) r5 (M.nth_mem hk2)
  have hvx := hG.pit (M.nth (M.captured r s player) k)
  have hvs := hG.store player
  obtain ⟨b16, o16, he16, hc16⟩ := ints_elem (Ty.mono _ h9 x14.vis) (i := k) (by omega)
  refine Js.skip <| Js.seq <| Js.block <| zS <| Qq (p_indexAddr el_27 rfl rfl (by omega) (by omega) he16) <| QC hc16 rfl <| Qa rfl <| zJ ?_
  refine zdr [12] ?_
  refine jF 0 fld_162_1 rfl rfl ?_
  refine jB 1 3 ty_27 rfl rfl rfl rfl ?_
  refine jM 2 rfl rfl ?_
  refine jI 3 el_27 rfl rfl rfl rfl ?_
  refine JH.q 4 rfl (q_load1 ty_2.h rfl (Mem.row (i := 0) rfl (ints_getI (i := player) (by omega)))) ?_
  refine jF 5 fld_162_0 rfl rfl ?_
  refine jB 6 3 ty_27 rfl rfl rfl rfl ?_
  refine jM 7 rfl rfl ?_
  refine jI 8 el_27 rfl rfl rfl rfl ?_
  refine JH.q 9 rfl (q_load1 ty_2.h rfl (Mem.row (i := 1) rfl (ints_getI (i := M.nth (M.captured r s player) k) (by omega)))) ?_
  refine JH.p 10 rfl (p_add rfl rfl (IntWalk.i64_in _ (by omega))) ?_
  refine jI 11 el_27 rfl rfl rfl rfl ?_
  refine y1 12 ?_
  refine JHo.s rfl (e_storeRow (i := 0) (xs' := ints_ (M.setI ss player ((M.getI ss player) + (M.getI ps (M.nth (M.captured r s player) k))))) ty_2.h rfl rfl rfl rfl rfl rfl (ints_lt (i := player.toNat) (by omega)) (ints_setL (i := player.toNat) (by omega))) (.inr rfl) ?_
  rintro _ _ _ ⟨rfl, rfl⟩ _
  refine znh ?_
  refine yd ?_
  refine Js.region <| Qf fh rfl <| Q0 3 rfl rfl rfl <| Qm rfl <| Qq (p_indexAddr el_27 rfl rfl (by omega) (by omega) rfl) ?_
  refine JL.s (e_storeRow (i := 1) (xs' := ints_ (M.setI ps (M.nth (M.captured r s player) k) 0)) ty_2.h rfl rfl rfl rfl rfl rfl (ints_lt (i := (M.nth (M.captured r s player) k).toNat) (by omega)) (ints_setL (i := (M.nth (M.captured r s player) k).toNat) (by omega))) ?_
  rintro _ _ _ ⟨rfl, rfl⟩ _
  refine znl ?_
  refine JL.nil <| Js.blockEnd <| Js.region <| Qp rfl rfl <| Qm rfl <| JL.nil ?_
  exact zag ⟨k + 1, M.setI ps (M.nth (M.captured r s player) k) 0, M.setI ss player ((M.getI ss player) + (M.getI ps (M.nth (M.captured r s player) k))), rfl, rfl, by rw [M.drop_nth hk2, M.takeL] at hS; exact hS, zt, by exact hG.takeStep hx.1 hx.2 (by omega) (by omega), rfl⟩ x14
 rw [List.drop_eq_nil_of_le (by omega), M.take_eq r5 (by omega) (by omega)] at hS
 injection hS with hT1 hT2
 refine zx ?_
 have hq0 : ps = (M.take r s player).pits := by first | exact hT1 | exact hT2 | rfl
 have hq1 : ss = (M.take r s player).stores := by first | exact hT1 | exact hT2 | rfl
 have hq2 : s.last = (M.take r s player).last := by first | exact hT1 | exact hT2 | rfl
 have hq3 : s.laps = (M.take r s player).laps := by first | exact hT1 | exact hT2 | rfl
 refine zS <| Q9 3 rfl rfl ?_
 refine zw 2 rfl rfl rfl ?_
 refine JL.nil ?_
 exact zro (x8.trans x14)
theorem c_impl_Rules_mustFeed (r : M.Rul) {v_r : Value} (p : M.Pos) {v_p : Value} {w : World} (h_r : (Ty.agg (cRules r)).ok w v_r) (h_p : (Ty.agg (cPosition p)).ok w v_p) (r0 : M.okP r p = true := by exact om_) : RetV Tryz.prog 169 [v_r, v_p] w (.bool (M.mustFeed r p)) := by
 obtain ⟨g1, g2, g3, g4, g5, g6, g7⟩ := M.okP_bd r0
 revert v_r; apply opn
 revert v_p; apply opn
 intro A1 c1 h1 bl1 bh1 A2 c2 h2 bl2 bh2
 refine enter @Tryz.func169 @Tryz.ntmps169 rfl rfl ?_
 refine zent ?_
 refine zS <| zb rfl fun b3 => zb rfl fun b4 => Qa rfl <| zN <| Qf fh rfl <| Q0 1 rfl rfl rfl <| Qm rfl <| zgq (Gd.t1 rfl rfl rfl) (fun hc => L9 1 rfl rfl) <| zg (Gd.t1 rfl rfl rfl) (fun hc => p_fieldAddr fld_39_0.h rfl) <| zgq (Gd.t1 rfl rfl rfl) (fun hc => q_load1 ty_27.h (gh hc rfl) (Mem.box (i := 0) rfl rfl)) <| zg (Gd.t1 rfl rfl rfl) (fun hc => p_fieldAddr fld_39_2.h rfl) <| zgq (Gd.t1 rfl rfl rfl) (fun hc => q_load1 ty_2.h (gh hc rfl) (Mem.box (i := 0) rfl rfl)) <| zg (Gd.t1 rfl rfl rfl) (fun hc => p_sub rfl (gh hc rfl) (IntWalk.i64_in _ (by omega))) ?_
 refine zgv (Gd.t1 rfl rfl rfl) (fun hc => (opds_3 (gh hc rfl) (gh hc rfl) (gh hc rfl))) (fun hc => (fun w hw => c_impl_Rules_side r p.pits (1 - p.player) (ok_ hw) (ok_ hw) (r4 := g5))) ?_
 refine zg (Gd.t1 rfl rfl rfl) (fun hc => p_eql (gh hc rfl) rfl) <| Qq (p_pickAnd rfl rfl rfl) <| Qa rfl <| JL.nil ?_
 refine zR (Up.refl _ _) ?_
 simp [outV, M.mustFeed]
theorem c_impl_Rules_done (r : M.Rul) {v_r : Value} (p : M.Pos) {v_p : Value} (move : Int) {w : World} (h_r : (Ty.agg (cRules r)).ok w v_r) (h_p : (Ty.agg (cPosition p)).ok w v_p) (r0 : p.pits.length ≤ 4194304 := by exact om_) (r1 : p.stores.length ≤ 4194304 := by exact om_) : Ret Tryz.prog 133 [v_r, v_p, .int .i64 move] w (Ty.tup [Ty.agg (cSown ((M.done r p move).1)), Ty.int ((M.done r p move).2)]) := by
 revert v_r; apply opn
 revert v_p; apply opn
 intro A1 c1 h1 bl1 bh1 A2 c2 h2 bl2 bh2
 refine enter @Tryz.func133 @Tryz.ntmps133 rfl rfl ?_
 refine zent ?_
 refine zS <| zb rfl fun b3 => zb rfl fun b4 => za zeh fun b5 => Qa rfl <| zN <| Q9 2 rfl rfl ?_
 refine Q9 1 rfl rfl ?_
 refine Qm rfl <| zp rfl (fun w hw => c_impl_sowMove r p move (ok_ hw) (ok_ hw)) ?_
 intro u6 x6 v7 h7
 refine Qm rfl <| Qx rfl rfl <| Qx rfl rfl <| Qa rfl <| Qa rfl <| zJ <| zS <| Qm rfl <| Qd rfl rfl <| JL.nil ?_
 refine zi (fun h8 h8' => ?_) fun h8 h8' => ?_
 ·
  have hz : ¬ (M.sowMove r p move).1 = 0 := by simpa using h8
  have hD : M.done r p move = (M.Sw.zero, (M.sowMove r p move).1) := by unfold M.done; rw [if_pos hz]
  have hq0 : [] = ((M.done r p move).1).pits := rp_ hD
  have hq1 : [] = ((M.done r p move).1).stores := rp_ hD
  have hq2 : 0 = ((M.done r p move).1).last := rp_ hD
  have hq3 : 0 = ((M.done r p move).1).laps := rp_ hD
  have hq4 : ((M.sowMove r p move).1) = (M.done r p move).2 := rp_ hD
  refine zS <| Qb ?_
  refine Qm rfl <| zw 0 rfl rfl rfl ?_
  refine Qa rfl <| JL.nil ?_
  exact zro x6
 have hz : (M.sowMove r p move).1 = 0 := by simpa using h8
 obtain ⟨hok, m0, m1, hG, q0, q1, hsum⟩ := M.sowMove_ok hz
 obtain ⟨g1, g2, g3, g4, g5, g6, g7⟩ := M.okP_bd hok
 have hG2 := (M.take_keeps g7 hG q1).1
 have hao := M.Good.ok hG2
 have hl2 := hG2.lp
 have ⟨g8, g9⟩ : p.pits.length ≤ 4194304 ∧ p.stores.length ≤ 4194304 := by omega
 refine Js.skip <| Js.seq ?_
 refine zk [3, 4, 6] (fun F U l os u => ∃ (b9 o9 b11 : Nat) (A10_0 : Option Addr) (c10_0 : Nat) (A10_1 : Option Addr) (c10_1 : Nat) (f10 : List Nat) (A9_10 : Option Addr) (c9_10 : Nat) (A9_11 : Option Addr) (c9_11 : Nat) (A9_14 : Option Addr) (c9_14 : Nat), l = F [(8, .pointer (some ⟨b9, o9, none⟩)), (10, .pointer (some ⟨b11, 0, none⟩))] ∧ os = [boxO b11 [.slice A10_0 (((M.take r ((M.sowMove r p move).2.1) p.player).pits).length) c10_0, .slice A10_1 (((M.take r ((M.sowMove r p move).2.1) p.player).stores).length) c10_1, .int .i64 ((M.take r ((M.sowMove r p move).2.1) p.player).last), .int .i64 ((M.take r ((M.sowMove r p move).2.1) p.player).laps)] 162, ownC (cSown (M.take r ((M.sowMove r p move).2.1) p.player)) [.slice A10_0 (((M.take r ((M.sowMove r p move).2.1) p.player).pits).length) c10_0, .slice A10_1 (((M.take r ((M.sowMove r p move).2.1) p.player).stores).length) c10_1, .int .i64 ((M.take r ((M.sowMove r p move).2.1) p.player).last), .int .i64 ((M.take r ((M.sowMove r p move).2.1) p.player).laps)] f10] ++ U [] ∧ (RowAt u b9 o9 [.int .i64 r.pits, .int .i64 r.seeds, .bool r.stores, .bool r.skip, .bool r.relay, .bool r.feed, .bool r.again, .int .i64 r.capture, .int .i64 r.slam, .int .i64 p.player, .slice A9_10 ((((M.sowMove r p move).2.1).pits).length) c9_10, .slice A9_11 ((((M.sowMove r p move).2.1).stores).length) c9_11, .int .i64 (((M.sowMove r p move).2.1).last), .int .i64 (((M.sowMove r p move).2.1).laps), .slice A9_14 (((M.sowMove r p move).2.2).length) c9_14]) ∧ ((((M.sowMove r p move).2.1).pits).length ≤ c9_10) ∧ (c9_10 ≤ 9223372036854775807) ∧ ((Ty.ints 2 (((M.sowMove r p move).2.1).pits)).ok u (.slice A9_10 ((((M.sowMove r p move).2.1).pits).length) c9_10)) ∧ ((((M.sowMove r p move).2.1).stores).length ≤ c9_11) ∧ (c9_11 ≤ 9223372036854775807) ∧ ((Ty.ints 2 (((M.sowMove r p move).2.1).stores)).ok u (.slice A9_11 ((((M.sowMove r p move).2.1).stores).length) c9_11)) ∧ (((M.sowMove r p move).2.2).length ≤ c9_14) ∧ (c9_14 ≤ 9223372036854775807) ∧ ((Ty.ints 2 ((M.sowMove r p move).2.2)).ok u (.slice A9_14 (((M.sowMove r p move).2.2).length) c9_14)) ∧ (((M.take r ((M.sowMove r p move).2.1) p.player).pits).length ≤ c10_0) ∧ (c10_0 ≤ 9223372036854775807) ∧ (((M.take r ((M.sowMove r p move).2.1) p.player).stores).length ≤ c10_1) ∧ (c10_1 ≤ 9223372036854775807)) ?_ ?_
 ·
  refine zdr [9] ?_
  refine JH.q 0 rfl (L9 2 rfl rfl) ?_
  refine jM 1 rfl rfl ?_
  obtain ⟨b15, o15, A15_10, c15_10, A15_11, c15_11, A15_14, c15_14, rfl, hr15, h15_10, h15_11, h15_14, bl15_10, bh15_10, bl15_11, bh15_11, bl15_14, bh15_14⟩ := ref_sowing (box_ref (opt_yes h7 (by exact decide_eq_true hz)))
  refine jN 2 rfl rfl ?_
  refine jF 3 fld_216_2 rfl rfl ?_
  refine JH.w 4 rfl (fun os' u' hv => LS 10 (hr15.vis hv) rfl) ?_
  refine jF 5 fld_39_2 rfl rfl ?_
  refine jB 6 1 ty_2 rfl rfl rfl rfl ?_
  refine y2 7 8 ?_ ?_
  ·
   refine ycs rfl rfl (fun w hw => c_impl_Rules_takeCaptures r ((M.sowMove r p move).2.1) p.player (ok_ hw) (ok_ hw) (r3 := hG)) ?_
   intro A16_0 c16_0 bl16_0 bh16_0 A16_1 c16_1 bl16_1 bh16_1 f16
   refine y1 8 ?_
   refine ya rfl fun b17 => ?_
   refine y1 9 ?_
   refine yst rfl rfl rfl ?_
   refine yd ?_
   exact zm ⟨_, _, _, _, _, _, _, _, _, _, _, _, _, _, rfl, rfl, hr15, zt, zt, h15_10, zt, zt, h15_11, zt, zt, h15_14, zt, zt, zt, zt⟩ (Up.refl _ _)
  refine ya rfl fun b18 => ?_
  refine y1 7 ?_
  refine ycs rfl rfl (fun w hw => c_impl_Rules_takeCaptures r ((M.sowMove r p move).2.1) p.player (ok_ hw) (ok_ hw) (r3 := hG)) ?_
  intro A19_0 c19_0 bl19_0 bh19_0 A19_1 c19_1 bl19_1 bh19_1 f19
  refine y1 9 ?_
  refine yst rfl rfl rfl ?_
  refine yd ?_
  refine zh [1, 0, 0, 0, 0] ?_
  exact zm ⟨_, _, _, _, _, _, _, _, _, _, _, _, _, _, rfl, rfl, hr15, zt, zt, h15_10, zt, zt, h15_11, zt, zt, h15_14, zt, zt, zt, zt⟩ (Up.refl _ _)
 rintro _ _ u14 ⟨b9, o9, b11, A10_0, c10_0, A10_1, c10_1, f10, A9_10, c9_10, A9_11, c9_11, A9_14, c9_14, rfl, rfl, f14_0, f14_1, f14_2, f14_3, f14_4, f14_5, f14_6, f14_7, f14_8, f14_9, f14_10, f14_11, f14_12, f14_13⟩ x14
 refine zn ?_
 refine Js.seq <| Js.seq ?_
 refine zdr [] ?_
 refine jF 0 fld_34_8 rfl rfl ?_
 refine jB 1 4 ty_2 rfl rfl rfl rfl ?_
 refine JH.p 2 rfl (p_eql rfl rfl) ?_
 refine jM 3 rfl rfl ?_
 refine JH.qg 4 rfl (Gd.t1 rfl rfl rfl) (fun hc => L9 4 rfl rfl) ?_
 refine JH.pg 5 rfl (Gd.t1 rfl rfl rfl) (fun hc => p_move rfl) ?_
 refine JH.pg 6 rfl (Gd.t1 rfl rfl rfl) (fun hc => p_nilCheck (gvt rfl hc)) ?_
 refine JH.pg 7 rfl (Gd.t1 rfl rfl rfl) (fun hc => p_fieldAddr fld_216_2.h (gvt rfl hc)) ?_
 refine JH.wg 8 rfl (Gd.t1 rfl rfl rfl) (fun hc os' u' hv => LS 10 (f14_0.vis hv) (gvt rfl hc)) ?_
 refine JH.pg 9 rfl (Gd.t1 rfl rfl rfl) (fun hc => p_fieldAddr fld_39_2.h rfl) ?_
 refine JH.qg 10 rfl (Gd.t1 rfl rfl rfl) (fun hc => q_load1 ty_2.h (gvt rfl hc) (Mem.box (i := 3) rfl rfl)) ?_
 refine y1 11 ?_
 refine JHo.ge rfl (Gd.t1 rfl rfl rfl) (fun hc => e_callV fn_168.h (opds_3 (gvt rfl hc) (gvt rfl hc) (gvt rfl hc)) (fun w hw => c_impl_Rules_slams r ((M.sowMove r p move).2.1) p.player (ok_ hw) (ok_ hw) (r0 := (oh_ hc)) (r1 := (oh_ hc)) (r2 := (oh_ hc)) (r3 := hG) (r4 := (oh_ hc)) (r5 := (oh_ hc)))) ?_
 refine JH.p 12 rfl (p_pickAnd rfl rfl rfl) ?_
 refine jM 13 rfl rfl ?_
 refine JH.qg 14 rfl (Gd.f1 rfl rfl rfl) (fun hc => L9 4 rfl rfl) ?_
 refine JH.qg 15 rfl (Gd.f1 rfl rfl rfl) (fun hc => L9 3 rfl rfl) ?_
 refine y1 16 ?_
 refine JHo.ge rfl (Gd.f1 rfl rfl rfl) (fun hc => e_callV fn_169.h (opds_2 (gvt rfl hc) (gvt rfl hc)) (fun w hw => c_impl_Rules_mustFeed r p (ok_ hw) (ok_ hw) (r0 := hok))) ?_
 refine JH.pg 17 rfl (Gd.f1 rfl rfl rfl) (fun hc => p_move (gvt rfl hc)) ?_
 refine JH.qg 18 rfl (Gd.t2 rfl rfl rfl) (fun hc => L9 4 rfl rfl) ?_
 refine JH.pg 19 rfl (Gd.t2 rfl rfl rfl) (fun hc => p_fieldAddr fld_162_0.h rfl) ?_
 refine JH.qg 20 rfl (Gd.t2 rfl rfl rfl) (fun hc => q_load1 ty_27.h (gvt rfl hc) (Mem.box (i := 0) rfl rfl)) ?_
 refine JH.pg 21 rfl (Gd.t2 rfl rfl rfl) (fun hc => p_fieldAddr fld_39_2.h rfl) ?_
 refine JH.qg 22 rfl (Gd.t2 rfl rfl rfl) (fun hc => q_load1 ty_2.h (gvt rfl hc) (Mem.box (i := 3) rfl rfl)) ?_
 refine JH.pg 23 rfl (Gd.t2 rfl rfl rfl) (fun hc => p_sub rfl (gvt rfl hc) (IntWalk.i64_in _ (by have hc9 := hc; (try simp only [Bool.and_eq_true, Bool.not_eq_true', Bool.and_eq_false_iff, decide_eq_false_iff_not] at hc9); omega))) ?_
 refine y1 24 ?_
 refine JHo.ge rfl (Gd.t2 rfl rfl rfl) (fun hc => e_callV fn_170.h (opds_3 (gvt rfl hc) (gvt rfl hc) (gvt rfl hc)) (fun w hw => c_impl_Rules_side r ((M.take r ((M.sowMove r p move).2.1) p.player).pits) (1 - p.player) (ok_ hw) (ok_ hw) (r0 := (by have hc9 := hc; (try simp only [Bool.and_eq_true, Bool.not_eq_true', Bool.and_eq_false_iff, decide_eq_false_iff_not] at hc9); omega)) (r1 := (by have hc9 := hc; (try simp only [Bool.and_eq_true, Bool.not_eq_true', Bool.and_eq_false_iff, decide_eq_false_iff_not] at hc9); omega)) (r2 := (by have hc9 := hc; (try simp only [Bool.and_eq_true, Bool.not_eq_true', Bool.and_eq_false_iff, decide_eq_false_iff_not] at hc9); omega)) (r3 := (by have hc9 := hc; (try simp only [Bool.and_eq_true, Bool.not_eq_true', Bool.and_eq_false_iff, decide_eq_false_iff_not] at hc9); omega)) (r4 := hao.1))) ?_
 refine JH.pg 25 rfl (Gd.t2 rfl rfl rfl) (fun hc => p_eql (gvt rfl hc) rfl) ?_
 refine JH.pg 26 rfl (Gd.f1 rfl rfl rfl) (fun hc => p_pickAnd (gvt rfl hc) (gvl rfl hc) rfl) ?_
 refine JH.p 27 rfl (p_pickOr rfl rfl rfl) ?_
 refine yd ?_
 refine zi (fun h20 h20' => ?_) fun h20 h20' => ?_
 ·
  have hD : M.done r p move = (M.Sw.zero, 9) := by unfold M.done; rw [if_neg (by simpa using hz), if_pos (by simpa using h20)]
  have hq0 : [] = ((M.done r p move).1).pits := rp_ hD
  have hq1 : [] = ((M.done r p move).1).stores := rp_ hD
  have hq2 : 0 = ((M.done r p move).1).last := rp_ hD
  have hq3 : 0 = ((M.done r p move).1).laps := rp_ hD
  have hq4 : 9 = (M.done r p move).2 := rp_ hD
  refine zS <| Qb ?_
  refine zw 2 rfl rfl rfl ?_
  refine Qa rfl <| JL.nil ?_
  exact zro (x6.trans x14)
 have hD : M.done r p move = (M.take r (M.sowMove r p move).2.1 p.player, 0) := by unfold M.done; rw [if_neg (by simpa using hz), if_neg (by simpa using h20)]
 have hq0 : (M.take r ((M.sowMove r p move).2.1) p.player) = (M.done r p move).1 := rp_ hD
 have hq1 : 0 = (M.done r p move).2 := rp_ hD
 refine Js.skip <| zS <| Q9 0 rfl rfl ?_
 refine zw 2 rfl rfl rfl ?_
 refine Qa rfl <| JL.nil ?_
 exact zro (x6.trans x14)
theorem c_impl_MoveFault (r : M.Rul) {v_r : Value} (p : M.Pos) {v_p : Value} (move : Int) {w : World} (h_r : (Ty.agg (cRules r)).ok w v_r) (h_p : (Ty.agg (cPosition p)).ok w v_p) (r0 : p.pits.length ≤ 4194304 := by exact om_) (r1 : p.stores.length ≤ 4194304 := by exact om_) : RetV Tryz.prog 76 [v_r, v_p, .int .i64 move] w (.int .i64 ((M.done r p move).2)) := by
 revert v_r; apply opn
 revert v_p; apply opn
 intro A1 c1 h1 bl1 bh1 A2 c2 h2 bl2 bh2
 refine enter @Tryz.func76 @Tryz.ntmps76 rfl rfl ?_
 refine zent ?_
 refine zS <| zb rfl fun b3 => zb rfl fun b4 => Qa rfl <| zN <| Q9 1 rfl rfl ?_
 refine Q9 0 rfl rfl ?_
 refine Qm rfl <| zp rfl (fun w hw => c_impl_Rules_done r p move (ok_ hw) (ok_ hw)) ?_
 intro u5 x5 A6 c6 h6 bl6 bh6 A7 c7 h7 bl7 bh7
 refine Qm rfl <| Qx rfl rfl <| Qx rfl rfl <| za zeh fun b8 => zw 0 rfl rfl rfl ?_
 refine Qa rfl <| zN <| Qm rfl <| Qa rfl <| JL.nil ?_
 exact zr x5
theorem c_impl_Rules_results (r : M.Rul) {v_r : Value} (p : M.Pos) {v_p : Value} {w : World} (h_r : (Ty.agg (cRules r)).ok w v_r) (h_p : (Ty.agg (cPosition p)).ok w v_p) (r0 : M.okP r p = true := by exact om_) : Ret Tryz.prog 126 [v_r, v_p] w (Ty.sl 101 6 (M.results r p).length (lResult (M.results r p))) := by
 obtain ⟨g1, g2, g3, g4, g5, g6, g7⟩ := M.okP_bd r0
 revert v_r; apply opn
 revert v_p; apply opn
 intro A1 c1 h1 bl1 bh1 A2 c2 h2 bl2 bh2
 refine enter @Tryz.func126 @Tryz.ntmps126 rfl rfl ?_
 refine zent ?_
 obtain ⟨b3, o3, rfl⟩ := ints_some h2 (by omega)
 refine zS <| zb rfl fun b4 => zb rfl fun b5 => Qa rfl <| zN <| zbs fun b6 => ?_
 refine Qa rfl <| zJ <| zS <| Qf fh rfl <| Q0 2 rfl rfl rfl <| Qm rfl <| JL.nil <| Js.block ?_
 refine Js.vals (Ts := lResult []) (vs := []) (fun w => rfl) ?_
 refine zl [2, 3, 13] (fun F U l os u m => ∃ (k : Nat) (acc : List M.Res) (A8_5 : Option Addr) (c8_5 : Nat) (g8_5 : List Nat) (vs8_5 : List Value) (fl8_5 : List Nat), l = F [(5, .slice A8_5 acc.length c8_5), (14, .int .i64 (k : Int))] ∧ os = U [some (ownC (lResult acc) vs8_5 fl8_5), some (rowO 101 6 (.slice A8_5 acc.length c8_5) acc.length vs8_5 g8_5)] ∧ (acc = M.resultsTo r p k) ∧ (k ≤ r.pits) ∧ (acc.length ≤ c8_5) ∧ (c8_5 ≤ 9223372036854775807) ∧ m = (r.pits - k).toNat) ⟨0, [], _, _, _, _, _, rfl, rfl, by rfl, zt, zu, zu, rfl⟩ ?_
 rintro _ _ u8 _ ⟨k, acc, A8_5, c8_5, g8_5, vs8_5, fl8_5, rfl, rfl, hacc, hk, f8_2, f8_3, rfl⟩ x8
 refine zn ?_
 have hlen := M.resultsTo_len (r := r) (p := p) k
 have hlacc : acc.length ≤ k := by rw [hacc]; exact hlen
 refine zS <| Ql rfl rfl <| zJ ?_
 refine zi (fun h9 h9' => ?_) fun h9 h9' => ?_
 ·
  refine Js.skip <| Js.seq <| Js.block <| zS <| Qm rfl <| Qa rfl <| zN <| Q9 3 rfl rfl ?_
  refine Q9 2 rfl rfl ?_
  refine Qm rfl <| zc rfl (fun w hw => c_impl_Rules_done r p (k : Int) (ok_ hw) (ok_ hw)) ?_
  intro A12 c12 bl12 bh12 A13 c13 bl13 bh13
  refine Qm rfl <| Qx rfl rfl <| Qx rfl rfl <| za zeh fun b14 => zw 0 rfl rfl rfl ?_
  refine Qa rfl <| zJ <| zS <| Qm rfl <| Qd rfl rfl <| JL.nil ?_
  refine zi (fun h15 h15' => ?_) fun h15 h15' => ?_
  ·
   have hacc2 := (M.resultsTo_no (r := r) (p := p) (k := k) (by simpa using h15)).symm
   refine zx ?_
   refine Js.region <| Qp rfl rfl <| Qm rfl <| JL.nil ?_
   refine zd [3, 3, 3, 3] rfl fun u16 x16 => ?_
   exact zag ⟨k + 1, acc, _, _, _, _, _, rfl, rfl, by rw [hacc]; exact hacc2, zt, zu, zu, rfl⟩ (x8.trans x16)
  have hz : (M.done r p k).2 = 0 := by simpa using h15
  obtain ⟨_, _, _, hG⟩ := M.done_good hz
  have l3 := hG.ls
  have hs1 := hG.store p.player
  have hs2 := (M.Good.of_ok r0).store p.player
  refine Js.fact (row_some (i := 1) rfl (by omega)) (fun hf17 => ?_)
  obtain ⟨b17, rfl⟩ := hf17
  refine Js.skip <| zS <| Qf fh rfl <| Q0 6 rfl rfl rfl <| Qm rfl <| zg (Gd.t1 rfl rfl rfl) (fun hc => p_fieldAddr fld_162_2.h rfl) <| zgq (Gd.t1 rfl rfl rfl) (fun hc => q_load1 ty_2.h (gh hc rfl) (Mem.box (i := 0) rfl rfl)) <| zg (Gd.t1 rfl rfl rfl) (fun hc => p_eql (gh hc rfl) rfl) <| Qq (p_pickAnd rfl rfl rfl) <| Qa rfl <| zN <| Qf fh rfl <| Q0 0 rfl rfl rfl <| Qf fh rfl ?_
  refine Q0 0 rfl rfl rfl <| Qf fh rfl <| Q0 5 rfl rfl rfl <| Qs rfl rfl <| Qb ?_
  refine za zeh fun b18 => zw 0 rfl rfl rfl ?_
  refine zJ <| zS <| Qm rfl <| JL.nil ?_
  refine zi (fun h19 h19' => ?_) fun h19 h19' => ?_
  ·
   have hacc2 := (M.resultsTo_yes hz).symm
   unfold M.resOf at hacc2
   rw [if_pos h19] at hacc2
   refine Js.region <| Qf fh rfl <| Q0 6 rfl rfl rfl <| Qf fh rfl <| zw 0 rfl rfl rfl ?_
   refine JL.nil ?_
   refine zdr [19] ?_
   refine jM 0 rfl rfl ?_
   refine jM 1 rfl rfl ?_
   refine jF 2 fld_162_1 rfl rfl ?_
   refine jB 3 1 ty_27 rfl rfl rfl rfl ?_
   refine jF 4 fld_39_2 rfl rfl ?_
   refine jB 5 6 ty_2 rfl rfl rfl rfl ?_
   refine jI 6 el_27 rfl rfl rfl rfl ?_
   refine JH.q 7 rfl (q_load1 ty_2.h rfl (Mem.row (i := 2) rfl (ints_getI (i := p.player) (by omega)))) ?_
   refine jF 8 fld_39_1 rfl rfl ?_
   refine jB 9 6 ty_27 rfl rfl rfl rfl ?_
   refine jF 10 fld_39_2 rfl rfl ?_
   refine jB 11 6 ty_2 rfl rfl rfl rfl ?_
   refine jI 12 el_27 rfl rfl rfl rfl ?_
   refine JH.w 13 rfl (fun os' u' hv => q_load1 ty_2.h rfl (Mem.pub (ints_cellI (i := p.player) (Ty.mono _ h2 (x8.vis.trans hv)) (by omega)))) ?_
   refine JH.p 14 rfl (p_sub rfl rfl (IntWalk.i64_in _ (by omega))) ?_
   refine jM 15 rfl rfl ?_
   refine JH.q 16 rfl (L9 0 rfl rfl) ?_
   refine JH.p 17 rfl (q_bld) ?_
   refine y1 18 ?_
   refine ybs rfl fun b22 => ?_
   refine y1 19 ?_
   refine JHo.e rfl (e_append (i := 6) (n' := (acc ++ [(M.Res.mk (k : Int) ((M.getI (((M.done r p (k : Int)).1).stores) p.player) - (M.getI p.stores p.player)) (r.again && (decide (((M.done r p (k : Int)).1).last = (-1)))) (M.Pos.mk (((M.done r p (k : Int)).1).pits) (((M.done r p (k : Int)).1).stores) p.player))]).length) (vs' := vs8_5 ++ [.int .i64 (k : Int), .int .i64 ((M.getI (((M.done r p (k : Int)).1).stores) p.player) - (M.getI p.stores p.player)), .bool (r.again && (decide (((M.done r p (k : Int)).1).last = (-1)))), .slice A12 ((((M.done r p (k : Int)).1).pits).length) c12, .slice (some ⟨b17, 0, none⟩) ((((M.done r p (k : Int)).1).stores).length) c13, .int .i64 p.player]) el_131 rfl rfl rfl rfl (src_row (i := 0) und_131 rfl rfl) (by omega) (by omega) ln2_ (rfl)) (.inr rfl) ?_
   rintro v24 _ _ ⟨⟨g25, rfl⟩, rfl⟩ _
   refine JH.fact (row_form' (i := 6) rfl) (fun hf26 => ?_)
   obtain ⟨A26, c26, rfl, bl26, bh26⟩ := hf26
   refine znh ?_
   refine jA 20 rfl rfl ?_
   refine yd ?_
   refine Js.pack2 (i := 4) (j := 3) (cResult (M.Res.mk (k : Int) ((M.getI (((M.done r p (k : Int)).1).stores) p.player) - (M.getI p.stores p.player)) (r.again && (decide (((M.done r p (k : Int)).1).last = (-1)))) (M.Pos.mk (((M.done r p (k : Int)).1).pits) (((M.done r p (k : Int)).1).stores) p.player))) [.int .i64 (k : Int), .int .i64 ((M.getI (((M.done r p (k : Int)).1).stores) p.player) - (M.getI p.stores p.player)), .bool (r.again && (decide (((M.done r p (k : Int)).1).last = (-1)))), .slice A12 ((((M.done r p (k : Int)).1).pits).length) c12, .slice (some ⟨b17, 0, none⟩) ((((M.done r p (k : Int)).1).stores).length) c13, .int .i64 p.player] rfl rfl (fun w h1 h2 => pack_Result (ints_row h1 rfl) (ints_row h2 rfl)) (fun f27 => ?_)
   refine Js.joinL (i := 4) (j := 0) (Vs := lResult (acc ++ [(M.Res.mk (k : Int) ((M.getI (((M.done r p (k : Int)).1).stores) p.player) - (M.getI p.stores p.player)) (r.again && (decide (((M.done r p (k : Int)).1).last = (-1)))) (M.Pos.mk (((M.done r p (k : Int)).1).pits) (((M.done r p (k : Int)).1).stores) p.player))])) rfl rfl (lResult_snoc _ _) (fun f28 => ?_)
   refine zn ?_
   refine Js.blockEnd <| Js.region <| Qp rfl rfl <| Qm rfl <| JL.nil ?_
   refine zd [0, 3, 3, 3] rfl fun u29 x29 => ?_
   exact zag ⟨k + 1, acc ++ [(M.Res.mk (k : Int) ((M.getI (((M.done r p (k : Int)).1).stores) p.player) - (M.getI p.stores p.player)) (r.again && (decide (((M.done r p (k : Int)).1).last = (-1)))) (M.Pos.mk (((M.done r p (k : Int)).1).pits) (((M.done r p (k : Int)).1).stores) p.player))], _, _, _, _, _, rfl, rfl, by rw [hacc]; exact hacc2, zt, zu, zu, rfl⟩ (x8.trans x29)
  have hacc2 := (M.resultsTo_yes hz).symm
  unfold M.resOf at hacc2
  rw [if_neg (by simpa using h19)] at hacc2
  refine Js.skip ?_
  refine zdr [19] ?_
  refine jM 0 rfl rfl ?_
  refine jM 1 rfl rfl ?_
  refine jF 2 fld_162_1 rfl rfl ?_
  refine jB 3 1 ty_27 rfl rfl rfl rfl ?_
  refine jF 4 fld_39_2 rfl rfl ?_
  refine jB 5 6 ty_2 rfl rfl rfl rfl ?_
  refine jI 6 el_27 rfl rfl rfl rfl ?_
  refine JH.q 7 rfl (q_load1 ty_2.h rfl (Mem.row (i := 2) rfl (ints_getI (i := p.player) (by omega)))) ?_
  refine jF 8 fld_39_1 rfl rfl ?_
  refine jB 9 6 ty_27 rfl rfl rfl rfl ?_
  refine jF 10 fld_39_2 rfl rfl ?_
  refine jB 11 6 ty_2 rfl rfl rfl rfl ?_
  refine jI 12 el_27 rfl rfl rfl rfl ?_
  refine JH.w 13 rfl (fun os' u' hv => q_load1 ty_2.h rfl (Mem.pub (ints_cellI (i := p.player) (Ty.mono _ h2 (x8.vis.trans hv)) (by omega)))) ?_
  refine JH.p 14 rfl (p_sub rfl rfl (IntWalk.i64_in _ (by omega))) ?_
  refine jM 15 rfl rfl ?_
  refine JH.q 16 rfl (L9 0 rfl rfl) ?_
  refine JH.p 17 rfl (q_bld) ?_
  refine y1 18 ?_
  refine ybs rfl fun b32 => ?_
  refine y1 19 ?_
  refine JHo.e rfl (e_append (i := 6) (n' := (acc ++ [(M.Res.mk (k : Int) ((M.getI (((M.done r p (k : Int)).1).stores) p.player) - (M.getI p.stores p.player)) (r.again && (decide (((M.done r p (k : Int)).1).last = (-1)))) (M.Pos.mk (((M.done r p (k : Int)).1).pits) (((M.done r p (k : Int)).1).stores) (1 - p.player)))]).length) (vs' := vs8_5 ++ [.int .i64 (k : Int), .int .i64 ((M.getI (((M.done r p (k : Int)).1).stores) p.player) - (M.getI p.stores p.player)), .bool (r.again && (decide (((M.done r p (k : Int)).1).last = (-1)))), .slice A12 ((((M.done r p (k : Int)).1).pits).length) c12, .slice (some ⟨b17, 0, none⟩) ((((M.done r p (k : Int)).1).stores).length) c13, .int .i64 (1 - p.player)]) el_131 rfl rfl rfl rfl (src_row (i := 0) und_131 rfl rfl) (by omega) (by omega) ln2_ (rfl)) (.inr rfl) ?_
  rintro v34 _ _ ⟨⟨g35, rfl⟩, rfl⟩ _
  refine JH.fact (row_form' (i := 6) rfl) (fun hf36 => ?_)
  obtain ⟨A36, c36, rfl, bl36, bh36⟩ := hf36
  refine znh ?_
  refine jA 20 rfl rfl ?_
  refine yd ?_
  refine Js.pack2 (i := 4) (j := 3) (cResult (M.Res.mk (k : Int) ((M.getI (((M.done r p (k : Int)).1).stores) p.player) - (M.getI p.stores p.player)) (r.again && (decide (((M.done r p (k : Int)).1).last = (-1)))) (M.Pos.mk (((M.done r p (k : Int)).1).pits) (((M.done r p (k : Int)).1).stores) (1 - p.player)))) [.int .i64 (k : Int), .int .i64 ((M.getI (((M.done r p (k : Int)).1).stores) p.player) - (M.getI p.stores p.player)), .bool (r.again && (decide (((M.done r p (k : Int)).1).last = (-1)))), .slice A12 ((((M.done r p (k : Int)).1).pits).length) c12, .slice (some ⟨b17, 0, none⟩) ((((M.done r p (k : Int)).1).stores).length) c13, .int .i64 (1 - p.player)] rfl rfl (fun w h1 h2 => pack_Result (ints_row h1 rfl) (ints_row h2 rfl)) (fun f37 => ?_)
  refine Js.joinL (i := 4) (j := 0) (Vs := lResult (acc ++ [(M.Res.mk (k : Int) ((M.getI (((M.done r p (k : Int)).1).stores) p.player) - (M.getI p.stores p.player)) (r.again && (decide (((M.done r p (k : Int)).1).last = (-1)))) (M.Pos.mk (((M.done r p (k : Int)).1).pits) (((M.done r p (k : Int)).1).stores) (1 - p.player)))])) rfl rfl (lResult_snoc _ _) (fun f38 => ?_)
  refine zn ?_
  refine Js.blockEnd <| Js.region <| Qp rfl rfl <| Qm rfl <| JL.nil ?_
  refine zd [0, 3, 3, 3] rfl fun u39 x39 => ?_
  exact zag ⟨k + 1, acc ++ [(M.Res.mk (k : Int) ((M.getI (((M.done r p (k : Int)).1).stores) p.player) - (M.getI p.stores p.player)) (r.again && (decide (((M.done r p (k : Int)).1).last = (-1)))) (M.Pos.mk (((M.done r p (k : Int)).1).pits) (((M.done r p (k : Int)).1).stores) (1 - p.player)))], _, _, _, _, _, rfl, rfl, by rw [hacc]; exact hacc2, zt, zu, zu, rfl⟩ (x8.trans x39)
 have hR : acc = M.results r p := by rw [hacc]; unfold M.results; rw [show k = r.pits.toNat by omega]
 refine zx ?_
 have hq0 : acc = M.results r p := by exact hR
 refine zS <| Qm rfl <| Qa rfl <| JL.nil ?_
 exact zro x8
theorem c_impl_Rules_resultOf (r : M.Rul) {v_r : Value} (p : M.Pos) {v_p : Value} (move : Int) {w : World} (h_r : (Ty.agg (cRules r)).ok w v_r) (h_p : (Ty.agg (cPosition p)).ok w v_p) (r0 : p.pits.length ≤ 4194304 := by exact om_) (r1 : p.stores.length ≤ 4194304 := by exact om_) : Ret Tryz.prog 67 [v_r, v_p, .int .i64 move] w (Ty.tup [Ty.agg (cResult ((M.make r p move).1)), Ty.int ((M.make r p move).2)]) := by
 revert v_r; apply opn
 revert v_p; apply opn
 intro A1 c1 h1 bl1 bh1 A2 c2 h2 bl2 bh2
 refine enter @Tryz.func67 @Tryz.ntmps67 rfl rfl ?_
 refine zent ?_
 refine zS <| zb rfl fun b3 => zb rfl fun b4 => za zeh fun b5 => Qa rfl <| zJ <| zS <| Q9 2 rfl rfl ?_
 refine Q9 1 rfl rfl ?_
 refine Qm rfl <| zv rfl (fun w hw => c_impl_MoveFault r p move (ok_ hw) (ok_ hw)) <| Qa rfl <| zN <| Qm rfl <| Qd rfl rfl <| JL.nil ?_
 refine zi (fun h6 h6' => ?_) fun h6 h6' => ?_
 ·
  have hD := M.make_no (r := r) (p := p) (move := move) (by simpa using h6)
  have hq0 : 0 = ((M.make r p move).1).move := by first | exact hE | (rw [hm]; done) | (rw [hD]; done) | (rw [hD]; rfl)
  have hq1 : 0 = ((M.make r p move).1).gain := by first | exact hE | (rw [hm]; done) | (rw [hD]; done) | (rw [hD]; rfl)
  have hq2 : false = ((M.make r p move).1).again := by first | exact hE | (rw [hm]; done) | (rw [hD]; done) | (rw [hD]; rfl)
  have hq3 : [] = (((M.make r p move).1).next).pits := by first | exact hE | (rw [hm]; done) | (rw [hD]; done) | (rw [hD]; rfl)
  have hq4 : [] = (((M.make r p move).1).next).stores := by first | exact hE | (rw [hm]; done) | (rw [hD]; done) | (rw [hD]; rfl)
  have hq5 : 0 = (((M.make r p move).1).next).player := by first | exact hE | (rw [hm]; done) | (rw [hD]; done) | (rw [hD]; rfl)
  have hq6 : ((M.done r p move).2) = (M.make r p move).2 := by first | exact hE | (rw [hm]; done) | (rw [hD]; done) | (rw [hD]; rfl)
  refine zS <| Qb ?_
  refine Qm rfl <| zw 0 rfl rfl rfl ?_
  refine Qa rfl <| JL.nil ?_
  exact zro (Up.refl _ _)
 have hz : (M.done r p move).2 = 0 := by simpa using h6
 have hm : (M.make r p move).2 = 0 := by rw [M.make_code]; exact hz
 have hok := (M.make_ok hm).1
 refine Js.skip <| Js.seq <| zS <| Q9 2 rfl rfl ?_
 refine Q9 1 rfl rfl ?_
 refine zcs rfl (fun w hw => c_impl_Rules_results r p (ok_ hw) (ok_ hw) (r0 := hok)) ?_
 intro A7 c7 vs7 f7 bl7 bh7
 refine Qz rfl <| Qm rfl <| JL.nil <| Js.block ?_
 refine zl [2, 6, 21, 22] (fun F U l os u m => ∃ (k : Nat), l = F [(23, .int .i64 (k : Int))] ∧ os = U [] ∧ (k ≤ (M.results r p).length) ∧ (∀ (j : Nat) (x : M.Res), j < k → (M.results r p)[j]? = some x → x.move ≠ move) ∧ m = (M.results r p).length - k) ⟨0, rfl, rfl, zt, by exact fun j x hj => absurd hj (by omega), rfl⟩ ?_
 rintro _ _ u8 _ ⟨k, rfl, rfl, hk, hn, rfl⟩ x8
 refine zn ?_
 refine zS <| Ql rfl rfl <| zJ ?_
 refine zi (fun h9 h9' => ?_) fun h9 h9' => ?_
 ·
  refine Js.skip <| Js.seq <| Js.block <| zS ?_
  refine JL.fact (row_some (i := 0) rfl (by omega)) (fun hf11 => ?_)
  obtain ⟨b11, rfl⟩ := hf11
  obtain ⟨y10, hy10⟩ : ∃ x, (M.results r p)[k]? = some x := ⟨_, List.getElem?_eq_getElem (by omega)⟩
  refine JL.fact (fun w hw => elemv_Result (Mem.ownC (i := 1) rfl w hw) hy10) (fun hf10 => ?_)
  obtain ⟨A10_3, c10_3, A10_4, c10_4, he10, bl10_3, bh10_3, bl10_4, bh10_4⟩ := hf10
  refine Qq (p_indexAddr el_131 rfl rfl (by omega) (by omega) rfl) <| Qw (q_loadN ty_101.h rfl (Mem.rowR' (i := 0) rfl he10) rfl rfl) <| za zeh fun b12 => zw 0 rfl rfl rfl ?_
  refine zN <| Qf fh rfl <| Q0 0 rfl rfl rfl <| Qm rfl <| Qe rfl rfl <| JL.nil ?_
  refine zi (fun h13 h13' => ?_) fun h13 h13' => ?_
  ·
   have hE := M.results_get hy10 (by simpa using h13)
   have hm2 := hm.symm
   refine zS <| Q9 0 rfl rfl ?_
   refine zw 3 rfl rfl rfl ?_
   refine Qa rfl <| JL.nil ?_
   refine Js.elemO cResult (i := 2) (xs := (M.results r p)) (fun _ => rfl) rfl hy10 he10 (fun f14 f14a f14b => ?_)
   refine zn ?_
   have hq0 : y10 = (M.make r p move).1 := by first | exact hE | (rw [hm]; done) | (rw [hD]; done) | (rw [hD]; rfl)
   have hq1 : 0 = (M.make r p move).2 := by first | exact hE | (rw [hm]; done) | (rw [hD]; done) | (rw [hD]; rfl)
   exact zro x8
  have hn2 := M.none_step hn hy10 (by simpa using h13)
  refine Js.skip <| Js.blockEnd <| Js.region <| Qp rfl rfl <| Qm rfl <| JL.nil ?_
  refine zd [1, 1, 1, 1, 1] rfl fun u15 x15 => ?_
  exact zag ⟨k + 1, rfl, rfl, zt, by exact hn2, rfl⟩ (x8.trans x15)
 obtain ⟨j, hj, hx, hmv⟩ := M.results_has hm; have h9 := h9; simp at h9; exact absurd hmv (hn j _ (by omega) hx)
theorem c_impl_compareNumbers (a : List Int) {v_a : Value} (b : List Int) {v_b : Value} {w : World} (h_a : (Ty.ints 2 a).ok w v_a) (h_b : (Ty.ints 2 b).ok w v_b) (r0 : a.length ≤ 4194304 := by exact om_) (r1 : b.length ≤ 4194304 := by exact om_) : RetV Tryz.prog 110 [v_a, v_b] w (.int .i64 (M.cmpL a b)) := by
 revert v_a; apply opn
 intro A1 c1 h1 bl1 bh1
 have h_a := h1
 revert v_b; apply opn
 intro A2 c2 h2 bl2 bh2
 have h_b := h2
 refine enter @Tryz.func110 @Tryz.ntmps110 rfl rfl ?_
 refine zent ?_
 refine zS <| Qa rfl <| zJ <| zS <| Qm rfl <| Qz rfl <| Qm rfl <| Qz rfl <| Qq (p_min rfl rfl) <| Qm rfl <| JL.nil <| Js.block ?_
 refine zl [0, 1, 10] (fun F U l os u m => ∃ (k : Nat), l = F [(11, .int .i64 (k : Int))] ∧ os = U [] ∧ (M.cmpL (a.drop k) (b.drop k) = M.cmpL a b) ∧ (k ≤ a.length) ∧ (k ≤ b.length) ∧ m = a.length - k) ⟨0, rfl, rfl, by rfl, zt, zt, rfl⟩ ?_
 rintro _ _ u3 _ ⟨k, rfl, rfl, hC, hka, hkb, rfl⟩ x3
 refine zn ?_
 refine zS <| Ql rfl rfl <| zJ ?_
 refine zi (fun h4 h4' => ?_) fun h4 h4' => ?_
 ·
  have hab : k < a.length ∧ k < b.length := by have := h4'; omega
  refine Js.skip <| Js.seq <| Js.block <| zS <| Qm rfl <| Qa rfl <| JL.nil <| Js.block <| Js.seq ?_
  refine zdr [] ?_
  refine jM 0 rfl rfl ?_
  refine jM 1 rfl rfl ?_
  obtain ⟨b5, o5, he5, hc5⟩ := ints_elem (Ty.mono _ h1 x3.vis) (i := k) (by omega)
  refine jI 2 el_27 rfl rfl rfl he5 ?_
  refine jW 3 ty_2 rfl rfl hc5.vis ?_
  refine jM 4 rfl rfl ?_
  refine jM 5 rfl rfl ?_
  obtain ⟨b6, o6, he6, hc6⟩ := ints_elem (Ty.mono _ h2 x3.vis) (i := k) (by omega)
  refine jI 6 el_27 rfl rfl rfl he6 ?_
  refine jW 7 ty_2 rfl rfl hc6.vis ?_
  refine JH.p 8 rfl (p_lss rfl rfl) ?_
  refine jA 9 rfl rfl ?_
  refine yd ?_
  refine zi (fun h7 h7' => ?_) fun h7 h7' => ?_
  ·
   have hE := M.cmpL_lt hC hab.1 hab.2 (by have := h7'; omega)
   refine zS <| Qa rfl <| JL.nil ?_
   refine zR x3 ?_
   first | (rw [hE]; done) | (rw [hE]; rfl)
  have h1_ : ¬ M.nth a k < M.nth b k := by have := h7'; omega
  refine Js.seq ?_
  refine zdr [] ?_
  refine jM 0 rfl rfl ?_
  refine jM 1 rfl rfl ?_
  obtain ⟨b8, o8, he8, hc8⟩ := ints_elem (Ty.mono _ h1 x3.vis) (i := k) (by omega)
  refine jI 2 el_27 rfl rfl rfl he8 ?_
  refine jW 3 ty_2 rfl rfl hc8.vis ?_
  refine jM 4 rfl rfl ?_
  refine jM 5 rfl rfl ?_
  obtain ⟨b9, o9, he9, hc9⟩ := ints_elem (Ty.mono _ h2 x3.vis) (i := k) (by omega)
  refine jI 6 el_27 rfl rfl rfl he9 ?_
  refine jW 7 ty_2 rfl rfl hc9.vis ?_
  refine JH.p 8 rfl (p_gtr rfl rfl) ?_
  refine jA 9 rfl rfl ?_
  refine yd ?_
  refine zi (fun h10 h10' => ?_) fun h10 h10' => ?_
  ·
   have hE := M.cmpL_gt hC hab.1 hab.2 (by have := h10'; omega)
   refine zS <| Qa rfl <| JL.nil ?_
   refine zR x3 ?_
   first | (rw [hE]; done) | (rw [hE]; rfl)
  have hC2 := M.cmpL_step hC hab.1 hab.2 h1_ (by have := h10'; omega)
  refine Js.skip <| Js.blockEnd <| Js.blockEnd <| Js.region <| Qp rfl rfl <| Qm rfl <| JL.nil ?_
  exact zag ⟨k + 1, rfl, rfl, by exact hC2, zt, zt, rfl⟩ x3
 have hE := M.cmpL_end hC (by have := h4'; omega) hka hkb
 refine zx ?_
 refine Js.seq <| Js.block <| zS <| Qm rfl <| Qz rfl <| Qm rfl <| Qz rfl <| Ql rfl rfl <| Qa rfl <| JL.nil ?_
 refine zi (fun h11 h11' => ?_) fun h11 h11' => ?_
 ·
  rw [if_pos (by have := h11'; omega)] at hE
  refine zS <| Qa rfl <| JL.nil ?_
  refine zR x3 ?_
  first | (rw [hE]; done) | (rw [hE]; rfl)
 rw [if_neg (by have := h11'; omega)] at hE
 refine zS <| Qm rfl <| Qz rfl <| Qm rfl <| Qz rfl <| Qg rfl rfl <| Qa rfl <| JL.nil ?_
 refine zi (fun h12 h12' => ?_) fun h12 h12' => ?_
 ·
  rw [if_pos (by have := h12'; omega)] at hE
  refine zS <| Qa rfl <| JL.nil ?_
  refine zR x3 ?_
  first | (rw [hE]; done) | (rw [hE]; rfl)
 rw [if_neg (by have := h12'; omega)] at hE
 refine Js.skip <| Js.blockEnd <| zS <| Qa rfl <| JL.nil ?_
 refine zR x3 ?_
 first | (rw [hE]; done) | (rw [hE]; rfl)
theorem c_impl_BookEntry_position (e : M.Ent) {Ae_0 : Option Addr} {ce_0 : Nat} {Ae_1 : Option Addr} {ce_1 : Nat} {w : World}  : Ret Tryz.prog 156 [.agg #[.slice Ae_0 e.pits.length ce_0, .slice Ae_1 e.choices.length ce_1]] w (Ty.agg [Ty.val (.slice Ae_0 e.pits.length ce_0), Ty.ints 2 [0, 0], Ty.int 0]) := by
 refine enter @Tryz.func156 @Tryz.ntmps156 rfl rfl ?_
 refine zent ?_
 refine zS <| zb rfl fun b1 => za zeh fun b2 => zN <| Qf fh rfl <| Q0 1 rfl rfl rfl <| zbs fun b3 => ?_
 refine Qb ?_
 refine zw 1 rfl rfl rfl ?_
 refine JL.nil ?_
 exact zro (Up.refl _ _)
theorem c_impl_Rules_validEntry (r : M.Rul) {v_r : Value} (e : M.Ent) {v_e : Value} {w : World} (h_r : (Ty.agg (cRules r)).ok w v_r) (h_e : (Ty.agg (cBookEntry e)).ok w v_e) (r0 : e.pits.length ≤ 4194304 := by exact om_) (r1 : e.choices.length ≤ 4194304 := by exact om_) : RetV Tryz.prog 111 [v_r, v_e] w (.bool (M.okE r e)) := by
 have p5 : (M.posE e.pits).stores.length ≤ 4194304 := (by decide : ([0, 0] : List Int).length ≤ 4194304)
 have p6 : (M.posE e.pits).pits.length ≤ 4194304 := r0
 revert v_r; apply opn
 revert v_e; apply opn
 intro A1 c1 h1 bl1 bh1 A2 c2 h2 bl2 bh2
 refine enter @Tryz.func111 @Tryz.ntmps111 rfl rfl ?_
 refine zent ?_
 refine zS <| zb rfl fun b3 => zb rfl fun b4 => Qa rfl <| zJ <| Js.seq ?_
 refine zdr [] ?_
 refine JH.q 0 rfl (L9 1 rfl rfl) ?_
 refine JH.q 1 rfl (L9 0 rfl rfl) ?_
 refine y1 2 ?_
 refine yc rfl rfl (fun w hw => c_impl_BookEntry_position e) ?_
 intro A5 c5 bl5 bh5
 refine y1 3 ?_
 refine yv rfl rfl (fun w hw => c_impl_ValidPosition r (M.posE e.pits) (ok_ hw) (ok_ hw)) ?_
 refine JH.p 4 rfl (p_not rfl) ?_
 refine jM 5 rfl rfl ?_
 refine JH.pg 6 rfl (Gd.f1 rfl rfl rfl) (fun hc => p_fieldAddr fld_89_1.h rfl) ?_
 refine JH.qg 7 rfl (Gd.f1 rfl rfl rfl) (fun hc => q_load1 ty_67.h (gvt rfl hc) (Mem.box (i := 0) rfl rfl)) ?_
 refine JH.pg 8 rfl (Gd.f1 rfl rfl rfl) (fun hc => p_len el_67 (gvt rfl hc)) ?_
 refine JH.pg 9 rfl (Gd.f1 rfl rfl rfl) (fun hc => p_eql (gvt rfl hc) rfl) ?_
 refine JH.p 10 rfl (p_pickOr rfl rfl rfl) ?_
 refine yd ?_
 refine zi (fun h6 h6' => ?_) fun h6 h6' => ?_
 ·
  have hE := M.okE_p (r := r) (e := e) (by have h9 := h6; simp only [Bool.or_eq_true, Bool.not_eq_true', decide_eq_true_eq] at h9; exact h9.imp id (fun h => by omega))
  refine zS <| Qa rfl <| JL.nil ?_
  refine zR (Up.refl _ _) ?_
  first | (rw [hE, hE2]; rfl) | (rw [hE]; rfl)
 have h9 := h6
 simp at h9
 have hE := M.okE_cs h9.1 (by omega)
 refine Js.skip <| Js.seq <| zS <| Qf fh rfl <| Q0 1 rfl rfl rfl <| Qz rfl <| Qm rfl <| JL.nil <| Js.block ?_
 refine zl [2, 3, 19, 20] (fun F U l os u m => ∃ (k : Nat), l = F [(21, .int .i64 (k : Int))] ∧ os = U [] ∧ (M.AllB (M.chAt r (M.posE e.pits) e.choices) k) ∧ (k ≤ e.choices.length) ∧ m = e.choices.length - k) ⟨0, rfl, rfl, by exact M.AllB.zero _, zt, rfl⟩ ?_
 rintro _ _ u7 _ ⟨k, rfl, rfl, hA, hk, rfl⟩ x7
 refine zn ?_
 refine zS <| Ql rfl rfl <| zJ ?_
 refine zi (fun h8 h8' => ?_) fun h8 h8' => ?_
 ·
  have hy9 : e.choices[k]? = some (M.cho e.choices k) := M.cho_get (by omega)
  obtain ⟨b9, o9, he9, hr9⟩ := elem_Choice (Ty.mono _ h2 x7.vis) hy9
  refine Js.skip <| Js.seq <| Js.block <| zS <| Qm rfl <| Qq (p_indexAddr el_67 rfl rfl (by omega) (by omega) he9) <| QS 0 hr9 rfl ?_
  refine za zeh fun b10 => Qa rfl <| zw 0 rfl rfl rfl ?_
  refine zJ ?_
  rcases Bool.eq_false_or_eq_true ((decide (0 < (k : Int))) && (decide ((M.cho e.choices k).move ≤ (M.cho e.choices (((k : Int) - 1).toNat)).move))) with h11 | h11
  ·
   refine zdr [] ?_
   refine jM 0 rfl rfl ?_
   refine JH.p 1 rfl (p_gtr rfl rfl) ?_
   refine jM 2 rfl rfl ?_
   refine JH.pg 3 rfl (Gd.t1 rfl rfl rfl) (fun hc => p_fieldAddr fld_81_0.h rfl) ?_
   refine JH.qg 4 rfl (Gd.t1 rfl rfl rfl) (fun hc => q_load1 ty_2.h (gvt rfl hc) (Mem.box (i := 0) rfl rfl)) ?_
   refine JH.pg 5 rfl (Gd.t1 rfl rfl rfl) (fun hc => p_fieldAddr fld_89_1.h rfl) ?_
   refine JH.qg 6 rfl (Gd.t1 rfl rfl rfl) (fun hc => q_load1 ty_67.h (gvt rfl hc) (Mem.box (i := 2) rfl rfl)) ?_
   refine JH.pg 7 rfl (Gd.t1 rfl rfl rfl) (fun hc => p_move rfl) ?_
   refine JH.pg 8 rfl (Gd.t1 rfl rfl rfl) (fun hc => p_sub (gvt rfl hc) rfl (IntWalk.i64_in _ (oh_ hc))) ?_
   have hy12 : e.choices[((k : Int) - 1).toNat]? = some (M.cho e.choices (((k : Int) - 1).toNat)) := M.cho_get (by omega)
   obtain ⟨b12, o12, he12, hr12⟩ := elem_Choice (Ty.mono _ h2 x7.vis) hy12
   refine JH.pg 9 rfl (Gd.t1 rfl rfl rfl) (fun hc => p_indexAddr el_67 (gvt rfl hc) (gvt rfl hc) (oh_ hc) (oh_ hc) he12) ?_
   refine JH.pg 10 rfl (Gd.t1 rfl rfl rfl) (fun hc => p_fieldAddr fld_81_0.h (gvt rfl hc)) ?_
   refine JH.wg 11 rfl (Gd.t1 rfl rfl rfl) (fun hc os' u' hv => q_load1 ty_2.h (gvt rfl hc) (Mem.pub ((hr12.vis hv) 0 _ rfl))) ?_
   refine JH.pg 12 rfl (Gd.t1 rfl rfl rfl) (fun hc => p_leq (gvt rfl hc) (gvt rfl hc)) ?_
   refine JH.p 13 rfl (p_pickAnd rfl rfl rfl) ?_
   refine jM 14 rfl rfl ?_
   refine jU 15 rfl (Gd.f1 rfl rfl rfl) h11 ?_
   refine jU 16 rfl (Gd.f1 rfl rfl rfl) h11 ?_
   refine jU 18 rfl (Gd.f1 rfl rfl rfl) h11 ?_
   refine jU 19 rfl (Gd.f1 rfl rfl rfl) h11 ?_
   refine y1 17 ?_
   refine JHo.qg (v := undef) rfl (Gd.f1 rfl rfl rfl) (fun hc => absurd hc (by first | (rw [h11]; simp; done) | simp [h11])) ?_
   refine y1 20 ?_
   refine JHo.qg (v := undef) rfl (Gd.f1 rfl rfl rfl) (fun hc => absurd hc (by first | (rw [h11]; simp; done) | simp [h11])) ?_
   refine JH.pg (v := .bool false) 21 rfl (Gd.f1 rfl rfl rfl) (fun hc => absurd hc (by first | (rw [h11]; simp; done) | simp [h11])) ?_
   refine JH.p 22 rfl (p_pickOr rfl rfl rfl) ?_
   refine jM 23 rfl rfl ?_
   refine JH.pg 24 rfl (Gd.f1 rfl rfl rfl) (fun hc => p_fieldAddr fld_81_1.h rfl) ?_
   refine JH.qg 25 rfl (Gd.f1 rfl rfl rfl) (fun hc => q_load1 ty_2.h (gvt rfl hc) (Mem.box (i := 0) rfl rfl)) ?_
   refine y1 26 ?_
   refine JHo.ge rfl (Gd.f1 rfl rfl rfl) (fun hc => e_callV fn_64.h (opds_3 (gvt rfl hc) rfl rfl) (fun w hw => c_impl_between ((M.cho e.choices k).games) 1 1000000)) ?_
   refine JH.pg 27 rfl (Gd.f1 rfl rfl rfl) (fun hc => p_not (gvt rfl hc)) ?_
   refine JH.p 28 rfl (p_pickOr rfl rfl rfl) ?_
   refine jM 29 rfl rfl ?_
   refine JH.pg 30 rfl (Gd.f1 rfl rfl rfl) (fun hc => p_fieldAddr fld_81_2.h rfl) ?_
   refine JH.qg 31 rfl (Gd.f1 rfl rfl rfl) (fun hc => q_load1 ty_2.h (gvt rfl hc) (Mem.box (i := 0) rfl rfl)) ?_
   refine JH.pg 32 rfl (Gd.f1 rfl rfl rfl) (fun hc => p_fieldAddr fld_81_1.h rfl) ?_
   refine JH.qg 33 rfl (Gd.f1 rfl rfl rfl) (fun hc => q_load1 ty_2.h (gvt rfl hc) (Mem.box (i := 0) rfl rfl)) ?_
   refine JH.pg 34 rfl (Gd.f1 rfl rfl rfl) (fun hc => p_mul rfl (gvt rfl hc) (IntWalk.i64_in _ (by have hc9 := hc; simp only [Bool.not_eq_true', Bool.or_eq_false_iff, Bool.not_eq_false'] at hc9; have h8 := M.betw_iff.1 hc9.2; omega))) ?_
   refine y1 35 ?_
   refine JHo.ge rfl (Gd.f1 rfl rfl rfl) (fun hc => e_callV fn_64.h (opds_3 (gvt rfl hc) rfl (gvt rfl hc)) (fun w hw => c_impl_between ((M.cho e.choices k).score) 0 (2 * ((M.cho e.choices k).games)))) ?_
   refine JH.pg 36 rfl (Gd.f1 rfl rfl rfl) (fun hc => p_not (gvt rfl hc)) ?_
   refine JH.p 37 rfl (p_pickOr rfl rfl rfl) ?_
   refine yd ?_
   refine zi (fun h13 h13' => ?_) fun h13 h13' => ?_
   ·
    have hN : M.chAt r (M.posE e.pits) e.choices k = false := M.chAt_prev h11
    have hE2 : M.okCs r (M.posE e.pits) e.choices = false := M.all_no (by omega) hN
    refine zS <| Qa rfl <| JL.nil ?_
    refine zR x7 ?_
    first | (rw [hE, hE2]; rfl) | (rw [hE]; rfl)
   exact absurd h13 (by rw [h11]; simp)
  refine zdr [] ?_
  refine jM 0 rfl rfl ?_
  refine JH.p 1 rfl (p_gtr rfl rfl) ?_
  refine jM 2 rfl rfl ?_
  refine JH.pg 3 rfl (Gd.t1 rfl rfl rfl) (fun hc => p_fieldAddr fld_81_0.h rfl) ?_
  refine JH.qg 4 rfl (Gd.t1 rfl rfl rfl) (fun hc => q_load1 ty_2.h (gvt rfl hc) (Mem.box (i := 0) rfl rfl)) ?_
  refine JH.pg 5 rfl (Gd.t1 rfl rfl rfl) (fun hc => p_fieldAddr fld_89_1.h rfl) ?_
  refine JH.qg 6 rfl (Gd.t1 rfl rfl rfl) (fun hc => q_load1 ty_67.h (gvt rfl hc) (Mem.box (i := 2) rfl rfl)) ?_
  refine JH.pg 7 rfl (Gd.t1 rfl rfl rfl) (fun hc => p_move rfl) ?_
  refine JH.pg 8 rfl (Gd.t1 rfl rfl rfl) (fun hc => p_sub (gvt rfl hc) rfl (IntWalk.i64_in _ (oh_ hc))) ?_
  have hy14 : e.choices[((k : Int) - 1).toNat]? = some (M.cho e.choices (((k : Int) - 1).toNat)) := M.cho_get (by omega)
  obtain ⟨b14, o14, he14, hr14⟩ := elem_Choice (Ty.mono _ h2 x7.vis) hy14
  refine JH.pg 9 rfl (Gd.t1 rfl rfl rfl) (fun hc => p_indexAddr el_67 (gvt rfl hc) (gvt rfl hc) (oh_ hc) (oh_ hc) he14) ?_
  refine JH.pg 10 rfl (Gd.t1 rfl rfl rfl) (fun hc => p_fieldAddr fld_81_0.h (gvt rfl hc)) ?_
  refine JH.wg 11 rfl (Gd.t1 rfl rfl rfl) (fun hc os' u' hv => q_load1 ty_2.h (gvt rfl hc) (Mem.pub ((hr14.vis hv) 0 _ rfl))) ?_
  refine JH.pg 12 rfl (Gd.t1 rfl rfl rfl) (fun hc => p_leq (gvt rfl hc) (gvt rfl hc)) ?_
  refine JH.p 13 rfl (p_pickAnd rfl rfl rfl) ?_
  refine jM 14 rfl rfl ?_
  refine JH.qgT 15 rfl (Gd.f1 rfl rfl rfl) (show (!((decide (0 < (k : Int))) && (decide ((M.cho e.choices k).move ≤ (M.cho e.choices (((k : Int) - 1).toNat)).move)))) = true by first | exact h11 | (rw [h11]; rfl) | simp [h11]) (L9 3 rfl rfl) ?_
  refine JH.qgT 16 rfl (Gd.f1 rfl rfl rfl) (show (!((decide (0 < (k : Int))) && (decide ((M.cho e.choices k).move ≤ (M.cho e.choices (((k : Int) - 1).toNat)).move)))) = true by first | exact h11 | (rw [h11]; rfl) | simp [h11]) (L9 2 rfl rfl) ?_
  refine JH.pgT 18 rfl (Gd.f1 rfl rfl rfl) (show (!((decide (0 < (k : Int))) && (decide ((M.cho e.choices k).move ≤ (M.cho e.choices (((k : Int) - 1).toNat)).move)))) = true by first | exact h11 | (rw [h11]; rfl) | simp [h11]) (p_fieldAddr fld_81_0.h rfl) ?_
  refine JH.qgT 19 rfl (Gd.f1 rfl rfl rfl) (show (!((decide (0 < (k : Int))) && (decide ((M.cho e.choices k).move ≤ (M.cho e.choices (((k : Int) - 1).toNat)).move)))) = true by first | exact h11 | (rw [h11]; rfl) | simp [h11]) (q_load1 ty_2.h rfl (Mem.box (i := 0) rfl rfl)) ?_
  refine y1 17 ?_
  refine ycT rfl (Gd.f1 rfl rfl rfl) (show (!((decide (0 < (k : Int))) && (decide ((M.cho e.choices k).move ≤ (M.cho e.choices (((k : Int) - 1).toNat)).move)))) = true by first | exact h11 | (rw [h11]; rfl) | simp [h11]) rfl (fun w hw => c_impl_BookEntry_position e) ?_
  intro A15 c15 bl15 bh15
  refine y1 20 ?_
  refine yvT rfl (Gd.f1 rfl rfl rfl) (show (!((decide (0 < (k : Int))) && (decide ((M.cho e.choices k).move ≤ (M.cho e.choices (((k : Int) - 1).toNat)).move)))) = true by first | exact h11 | (rw [h11]; rfl) | simp [h11]) rfl (fun w hw => c_impl_MoveFault r (M.posE e.pits) ((M.cho e.choices k).move) (ok_ hw) (ok_ hw)) ?_
  refine JH.pgT 21 rfl (Gd.f1 rfl rfl rfl) (show (!((decide (0 < (k : Int))) && (decide ((M.cho e.choices k).move ≤ (M.cho e.choices (((k : Int) - 1).toNat)).move)))) = true by first | exact h11 | (rw [h11]; rfl) | simp [h11]) (p_neq rfl rfl) ?_
  refine JH.p 22 rfl (p_pickOr2 rfl rfl rfl) ?_
  refine jM 23 rfl rfl ?_
  refine JH.pg 24 rfl (Gd.f1 rfl rfl rfl) (fun hc => p_fieldAddr fld_81_1.h rfl) ?_
  refine JH.qg 25 rfl (Gd.f1 rfl rfl rfl) (fun hc => q_load1 ty_2.h (gvt rfl hc) (Mem.box (i := 0) rfl rfl)) ?_
  refine y1 26 ?_
  refine JHo.ge rfl (Gd.f1 rfl rfl rfl) (fun hc => e_callV fn_64.h (opds_3 (gvt rfl hc) rfl rfl) (fun w hw => c_impl_between ((M.cho e.choices k).games) 1 1000000)) ?_
  refine JH.pg 27 rfl (Gd.f1 rfl rfl rfl) (fun hc => p_not (gvt rfl hc)) ?_
  refine JH.p 28 rfl (p_pickOr rfl rfl rfl) ?_
  refine jM 29 rfl rfl ?_
  refine JH.pg 30 rfl (Gd.f1 rfl rfl rfl) (fun hc => p_fieldAddr fld_81_2.h rfl) ?_
  refine JH.qg 31 rfl (Gd.f1 rfl rfl rfl) (fun hc => q_load1 ty_2.h (gvt rfl hc) (Mem.box (i := 0) rfl rfl)) ?_
  refine JH.pg 32 rfl (Gd.f1 rfl rfl rfl) (fun hc => p_fieldAddr fld_81_1.h rfl) ?_
  refine JH.qg 33 rfl (Gd.f1 rfl rfl rfl) (fun hc => q_load1 ty_2.h (gvt rfl hc) (Mem.box (i := 0) rfl rfl)) ?_
  refine JH.pg 34 rfl (Gd.f1 rfl rfl rfl) (fun hc => p_mul rfl (gvt rfl hc) (IntWalk.i64_in _ (by have hc9 := hc; simp only [Bool.not_eq_true', Bool.or_eq_false_iff, Bool.not_eq_false'] at hc9; have h8 := M.betw_iff.1 hc9.2; omega))) ?_
  refine y1 35 ?_
  refine JHo.ge rfl (Gd.f1 rfl rfl rfl) (fun hc => e_callV fn_64.h (opds_3 (gvt rfl hc) rfl (gvt rfl hc)) (fun w hw => c_impl_between ((M.cho e.choices k).score) 0 (2 * ((M.cho e.choices k).games)))) ?_
  refine JH.pg 36 rfl (Gd.f1 rfl rfl rfl) (fun hc => p_not (gvt rfl hc)) ?_
  refine JH.p 37 rfl (p_pickOr rfl rfl rfl) ?_
  refine yd ?_
  refine zi (fun h16 h16' => ?_) fun h16 h16' => ?_
  ·
   have hN : M.chAt r (M.posE e.pits) e.choices k = false := M.chAt_no (by rw [M.make_code]; exact h16)
   have hE2 : M.okCs r (M.posE e.pits) e.choices = false := M.all_no (by omega) hN
   refine zS <| Qa rfl <| JL.nil ?_
   refine zR x7 ?_
   first | (rw [hE, hE2]; rfl) | (rw [hE]; rfl)
  have hN : M.chAt r (M.posE e.pits) e.choices k = true := M.chAt_yes (by rw [M.make_code]; exact h16)
  refine Js.skip <| Js.blockEnd <| Js.region <| Qp rfl rfl <| Qm rfl <| JL.nil ?_
  refine zd [2, 2, 2] rfl fun u17 x17 => ?_
  exact zag ⟨k + 1, rfl, rfl, by exact hA.step hN, zt, rfl⟩ (x7.trans x17)
 have hE2 : M.okCs r (M.posE e.pits) e.choices = true := M.all_yes hA (by have := h8'; omega)
 refine zx ?_
 refine zS <| Qa rfl <| JL.nil ?_
 refine zR x7 ?_
 first | (rw [hE, hE2]; rfl) | (rw [hE]; rfl)
theorem c_impl_ValidBook (b : M.Boo) {v_b : Value} {w : World} (h_b : (Ty.agg (cBook b)).ok w v_b) (r0 : b.entries.length ≤ 4194304 := by exact om_) (r1 : ∀ x ∈ b.entries, x.pits.length ≤ 4194304 ∧ x.choices.length ≤ 4194304 := by exact om_) : RetV Tryz.prog 50 [v_b] w (.bool (M.okB b)) := by
 revert v_b; apply opn
 intro A1 c1 h1 bl1 bh1
 refine enter @Tryz.func50 @Tryz.ntmps50 rfl rfl ?_
 refine zent ?_
 refine zS <| zb rfl fun b2 => Qa rfl <| zJ <| zS <| Qf fh rfl <| Q9 0 rfl rfl ?_
 refine zv rfl (fun w hw => c_impl_ValidRules b.rules (ok_ hw)) <| Qt rfl <| Qm rfl <| zg (Gd.f1 rfl rfl rfl) (fun hc => p_fieldAddr fld_37_1.h rfl) <| zgq (Gd.f1 rfl rfl rfl) (fun hc => q_load1 ty_35.h (gh hc rfl) (Mem.box (i := 0) rfl rfl)) <| zg (Gd.f1 rfl rfl rfl) (fun hc => p_len el_35 (gh hc rfl)) <| zg (Gd.f1 rfl rfl rfl) (fun hc => p_gtr (gh hc rfl) rfl) <| Qq (p_pickOr rfl rfl rfl) <| JL.nil ?_
 refine zi (fun h3 h3' => ?_) fun h3 h3' => ?_
 ·
  have hE := M.okB_r (b := b) (by have h9 := h3; simp only [Bool.or_eq_true, Bool.not_eq_true', decide_eq_true_eq] at h9; exact h9.imp id (fun h => by omega))
  refine zS <| Qa rfl <| JL.nil ?_
  refine zR (Up.refl _ _) ?_
  first | (rw [hE, hE2]; rfl) | (rw [hE]; rfl)
 have h9 := h3
 simp only [Bool.or_eq_false_iff, Bool.not_eq_false', decide_eq_false_iff_not] at h9
 have hE := M.okB_es h9.1 (by omega)
 refine Js.skip <| Js.seq <| zS <| Qf fh rfl <| Q0 0 rfl rfl rfl <| Qz rfl <| Qm rfl <| JL.nil <| Js.block ?_
 refine zl [1, 16, 17] (fun F U l os u m => ∃ (k : Nat), l = F [(18, .int .i64 (k : Int))] ∧ os = U [] ∧ (M.AllB (M.entAt b.rules b.entries) k) ∧ (k ≤ b.entries.length) ∧ m = b.entries.length - k) ⟨0, rfl, rfl, by exact M.AllB.zero _, zt, rfl⟩ ?_
 rintro _ _ u4 _ ⟨k, rfl, rfl, hA, hk, rfl⟩ x4
 refine zn ?_
 refine zS <| Ql rfl rfl <| zJ ?_
 refine zi (fun h5 h5' => ?_) fun h5 h5' => ?_
 ·
  have hkk : k < b.entries.length := by have := h5'; omega
  obtain ⟨e1_, e2_⟩ := r1 _ (M.ent_mem (es := b.entries) (k := k) (by omega))
  obtain ⟨e3_, e4_⟩ := r1 _ (M.ent_mem (es := b.entries) (k := (((k : Int) - 1).toNat)) (by omega))
  have hy6 : b.entries[k]? = some (M.ent b.entries k) := M.ent_get (by omega)
  obtain ⟨b6, o6, A6_0, c6_0, A6_1, c6_1, he6, hr6, h6_0, h6_1, bl6_0, bh6_0, bl6_1, bh6_1⟩ := elem_BookEntry (Ty.mono _ h1 x4.vis) hy6
  refine Js.skip <| Js.seq <| Js.block <| zS <| Qm rfl <| Qq (p_indexAddr el_35 rfl rfl (by omega) (by omega) he6) <| QS 0 hr6 rfl ?_
  refine za zeh fun b7 => Qa rfl <| zw 0 rfl rfl rfl ?_
  refine zJ ?_
  refine zdr [] ?_
  refine jM 0 rfl rfl ?_
  refine JH.p 1 rfl (p_gtr rfl rfl) ?_
  refine jM 2 rfl rfl ?_
  refine JH.pg 3 rfl (Gd.t1 rfl rfl rfl) (fun hc => p_fieldAddr fld_37_1.h rfl) ?_
  refine JH.qg 4 rfl (Gd.t1 rfl rfl rfl) (fun hc => q_load1 ty_35.h (gvt rfl hc) (Mem.box (i := 1) rfl rfl)) ?_
  refine JH.pg 5 rfl (Gd.t1 rfl rfl rfl) (fun hc => p_move rfl) ?_
  refine JH.pg 6 rfl (Gd.t1 rfl rfl rfl) (fun hc => p_sub (gvt rfl hc) rfl (IntWalk.i64_in _ (oh_ hc))) ?_
  have hy8 : b.entries[((k : Int) - 1).toNat]? = some (M.ent b.entries (((k : Int) - 1).toNat)) := M.ent_get (by omega)
  obtain ⟨b8, o8, A8_0, c8_0, A8_1, c8_1, he8, hr8, h8_0, h8_1, bl8_0, bh8_0, bl8_1, bh8_1⟩ := elem_BookEntry (Ty.mono _ h1 x4.vis) hy8
  refine JH.pg 7 rfl (Gd.t1 rfl rfl rfl) (fun hc => p_indexAddr el_35 (gvt rfl hc) (gvt rfl hc) (oh_ hc) (oh_ hc) he8) ?_
  refine JH.pg 8 rfl (Gd.t1 rfl rfl rfl) (fun hc => p_fieldAddr fld_89_0.h (gvt rfl hc)) ?_
  refine JH.wg 9 rfl (Gd.t1 rfl rfl rfl) (fun hc os' u' hv => q_load1 ty_27.h (gvt rfl hc) (Mem.pub ((hr8.vis hv) 0 _ rfl))) ?_
  refine JH.pg 10 rfl (Gd.t1 rfl rfl rfl) (fun hc => p_fieldAddr fld_89_0.h rfl) ?_
  refine JH.qg 11 rfl (Gd.t1 rfl rfl rfl) (fun hc => q_load1 ty_27.h (gvt rfl hc) (Mem.box (i := 0) rfl rfl)) ?_
  refine y1 12 ?_
  refine JHo.ge rfl (Gd.t1 rfl rfl rfl) (fun hc => e_callV fn_110.h (opds_2 (gvt rfl hc) (gvt rfl hc)) (fun w hw => c_impl_compareNumbers ((M.ent b.entries (((k : Int) - 1).toNat)).pits) ((M.ent b.entries k).pits) (ok_ hw) (ok_ hw) (r0 := (oh_ hc)) (r1 := (oh_ hc)))) ?_
  refine JH.pg 13 rfl (Gd.t1 rfl rfl rfl) (fun hc => p_geq (gvt rfl hc) rfl) ?_
  refine JH.p 14 rfl (p_pickAnd rfl rfl rfl) ?_
  refine jM 15 rfl rfl ?_
  refine JH.pg 16 rfl (Gd.f1 rfl rfl rfl) (fun hc => p_fieldAddr fld_37_0.h rfl) ?_
  refine JH.qg 17 rfl (Gd.f1 rfl rfl rfl) (fun hc => L9 1 (gvt rfl hc) rfl) ?_
  refine JH.qg 18 rfl (Gd.f1 rfl rfl rfl) (fun hc => L9 0 rfl rfl) ?_
  refine y1 19 ?_
  refine JHo.ge rfl (Gd.f1 rfl rfl rfl) (fun hc => e_callV fn_111.h (opds_2 (gvt rfl hc) (gvt rfl hc)) (fun w hw => c_impl_Rules_validEntry b.rules (M.ent b.entries k) (ok_ hw) (ok_ hw) (r0 := (by have hc9 := hc; (try simp only [Bool.not_eq_true', Bool.and_eq_false_iff, decide_eq_false_iff_not, Int.not_lt, Int.not_le] at hc9); omega)) (r1 := (by have hc9 := hc; (try simp only [Bool.not_eq_true', Bool.and_eq_false_iff, decide_eq_false_iff_not, Int.not_lt, Int.not_le] at hc9); omega)))) ?_
  refine JH.pg 20 rfl (Gd.f1 rfl rfl rfl) (fun hc => p_not (gvt rfl hc)) ?_
  refine JH.p 21 rfl (p_pickOr rfl rfl rfl) ?_
  refine yd ?_
  refine zi (fun h9 h9' => ?_) fun h9 h9' => ?_
  ·
   have hN : M.entAt b.rules b.entries k = false := M.entAt_no (by exact h9)
   have hE2 : (List.range b.entries.length).all (M.entAt b.rules b.entries) = false := M.all_no (by omega) hN
   refine zS <| Qa rfl <| JL.nil ?_
   refine zR x4 ?_
   first | (rw [hE, hE2]; rfl) | (rw [hE]; rfl)
  have hN : M.entAt b.rules b.entries k = true := M.entAt_yes (by exact h9)
  refine Js.skip <| Js.blockEnd <| Js.region <| Qp rfl rfl <| Qm rfl <| JL.nil ?_
  refine zd [1] rfl fun u10 x10 => ?_
  exact zag ⟨k + 1, rfl, rfl, by exact hA.step hN, zt, rfl⟩ (x4.trans x10)
 have hE2 : (List.range b.entries.length).all (M.entAt b.rules b.entries) = true := M.all_yes hA (by have := h5'; omega)
 refine zx ?_
 refine zS <| Qa rfl <| JL.nil ?_
 refine zR x4 ?_
 first | (rw [hE, hE2]; rfl) | (rw [hE]; rfl)
theorem c_impl_PruneBook (b : M.Boo) {v_b : Value} (lo : Int) {w : World} (h_b : (Ty.agg (cBook b)).ok w v_b) (r0 : b.entries.length ≤ 4194304 := by exact om_) (r1 : ∀ x ∈ b.entries, x.pits.length ≤ 4194304 ∧ x.choices.length ≤ 4194304 := by exact om_) : Ret Tryz.prog 48 [v_b, .int .i64 lo] w (Ty.tup [Ty.agg (cBook ((M.prune b lo).1)), Ty.int ((M.prune b lo).2)]) := by
 revert v_b; apply opn
 intro A1 c1 h1 bl1 bh1
 refine enter @Tryz.func48 @Tryz.ntmps48 rfl rfl ?_
 refine zent ?_
 refine zS <| zb rfl fun b2 => za zeh fun b3 => Qa rfl <| zJ <| zS <| Q9 1 rfl rfl ?_
 refine zv rfl (fun w hw => c_impl_ValidBook b (ok_ hw) (r1 := r1)) <| Qt rfl <| JL.nil ?_
 refine zi (fun h4 h4' => ?_) fun h4 h4' => ?_
 ·
  have hno : ¬ M.okB b = true := by simpa using h4
  have hP := M.prune_1 (lo := lo) hno
  have hq0 : 0 = (((M.prune b lo).1).rules).pits := rp_ hP
  have hq1 : 0 = (((M.prune b lo).1).rules).seeds := rp_ hP
  have hq2 : false = (((M.prune b lo).1).rules).stores := rp_ hP
  have hq3 : false = (((M.prune b lo).1).rules).skip := rp_ hP
  have hq4 : false = (((M.prune b lo).1).rules).relay := rp_ hP
  have hq5 : false = (((M.prune b lo).1).rules).feed := rp_ hP
  have hq6 : false = (((M.prune b lo).1).rules).again := rp_ hP
  have hq7 : 0 = (((M.prune b lo).1).rules).capture := rp_ hP
  have hq8 : 0 = (((M.prune b lo).1).rules).slam := rp_ hP
  have hq9 : [] = ((M.prune b lo).1).entries := rp_ hP
  have hq10 : 1 = (M.prune b lo).2 := rp_ hP
  refine zS <| Qb ?_
  refine zw 0 rfl rfl rfl ?_
  refine Qa rfl <| JL.nil ?_
  exact zro (Up.refl _ _)
 have hok : M.okB b = true := by simpa using h4
 refine Js.skip <| Js.seq <| zS <| Qm rfl <| zv rfl (fun w hw => c_impl_between lo 0 1000000) <| Qt rfl <| JL.nil ?_
 refine zi (fun h5 h5' => ?_) fun h5 h5' => ?_
 ·
  have hP := M.prune_2 hok (lo := lo) (by simpa using h5)
  have hq0 : 0 = (((M.prune b lo).1).rules).pits := rp_ hP
  have hq1 : 0 = (((M.prune b lo).1).rules).seeds := rp_ hP
  have hq2 : false = (((M.prune b lo).1).rules).stores := rp_ hP
  have hq3 : false = (((M.prune b lo).1).rules).skip := rp_ hP
  have hq4 : false = (((M.prune b lo).1).rules).relay := rp_ hP
  have hq5 : false = (((M.prune b lo).1).rules).feed := rp_ hP
  have hq6 : false = (((M.prune b lo).1).rules).again := rp_ hP
  have hq7 : 0 = (((M.prune b lo).1).rules).capture := rp_ hP
  have hq8 : 0 = (((M.prune b lo).1).rules).slam := rp_ hP
  have hq9 : [] = ((M.prune b lo).1).entries := rp_ hP
  have hq10 : 2 = (M.prune b lo).2 := rp_ hP
  refine zS <| Qb ?_
  refine zw 0 rfl rfl rfl ?_
  refine Qa rfl <| JL.nil ?_
  exact zro (Up.refl _ _)
 have hP := M.prune_0 hok (lo := lo) (by simpa using h5)
 refine Js.skip <| zS <| Qf fh rfl <| Q9 1 rfl rfl ?_
 refine Qb ?_
 refine za zeh fun b6 => zw 0 rfl rfl rfl ?_
 refine zJ <| zS <| Qf fh rfl <| Q0 2 rfl rfl rfl <| Qz rfl <| Qm rfl <| JL.nil <| Js.block ?_
 refine Js.conv (fun w hw => St.nilRowS 89 2 hw) ?_
 refine Js.vals (Ts := lBookEntry []) (vs := []) (fun w => rfl) ?_
 refine zl [1, 4, 6, 24, 25] (fun F U l os u m => ∃ (k : Nat) (acc : List M.Ent) (A7_6_9 : Option Addr) (c7_6_9 : Nat) (g7_6_9 : List Nat) (vs7_6_9 : List Value) (fl7_6_9 : List Nat), l = F [(26, .int .i64 (k : Int))] ∧ os = U [some (ownC (lBookEntry acc) vs7_6_9 fl7_6_9), some (rowO 89 2 (.slice A7_6_9 acc.length c7_6_9) acc.length vs7_6_9 g7_6_9), some (boxO b6 [.int .i64 b.rules.pits, .int .i64 b.rules.seeds, .bool b.rules.stores, .bool b.rules.skip, .bool b.rules.relay, .bool b.rules.feed, .bool b.rules.again, .int .i64 b.rules.capture, .int .i64 b.rules.slam, .slice A7_6_9 acc.length c7_6_9] 37)] ∧ (acc = M.prE lo (b.entries.take k)) ∧ (k ≤ b.entries.length) ∧ (acc.length ≤ c7_6_9) ∧ (c7_6_9 ≤ 9223372036854775807) ∧ m = b.entries.length - k) ⟨0, [], _, _, _, _, _, rfl, rfl, by rfl, zt, zu, zu, rfl⟩ ?_
 rintro _ _ u7 _ ⟨k, acc, A7_6_9, c7_6_9, g7_6_9, vs7_6_9, fl7_6_9, rfl, rfl, hA, hk, f7_2, f7_3, rfl⟩ x7
 refine zn ?_
 have hla : acc.length ≤ k := by rw [hA]; exact M.prE_lent _ _ _
 refine zS <| Ql rfl rfl <| zJ ?_
 refine zi (fun h8 h8' => ?_) fun h8 h8' => ?_
 ·
  have hkk : k < b.entries.length := by have := h8'; omega
  obtain ⟨e1_, e2_⟩ := r1 _ (M.ent_mem (es := b.entries) (k := k) hkk)
  have hy9 : b.entries[k]? = some (M.ent b.entries k) := M.ent_get (by omega)
  obtain ⟨b9, o9, A9_0, c9_0, A9_1, c9_1, he9, hr9, h9_0, h9_1, bl9_0, bh9_0, bl9_1, bh9_1⟩ := elem_BookEntry (Ty.mono _ h1 x7.vis) hy9
  refine Js.skip <| Js.seq <| Js.block <| zS <| Qq (p_indexAddr el_35 rfl rfl (by omega) (by omega) he9) <| QS 0 hr9 rfl ?_
  refine za zeh fun b10 => zw 0 rfl rfl rfl ?_
  refine zN <| Qf fh rfl <| Q0 0 rfl rfl rfl <| zcs rfl (fun w hw => c_impl_copyNumbers ((M.ent b.entries k).pits) (ok_ hw)) ?_
  intro A11 c11 bl11 bh11
  refine Qb ?_
  refine za zeh fun b12 => zw 0 rfl rfl rfl ?_
  refine zJ <| zS <| Qf fh rfl <| Q0 2 rfl rfl rfl <| Qz rfl <| Qm rfl <| JL.nil <| Js.block ?_
  refine Js.conv (fun w hw => St.nilRowS 81 3 hw) ?_
  refine zl [1, 4, 6, 9, 24, 25, 26, 35, 36] (fun F U l os u m => ∃ (j : Nat) (cs : List M.Cho) (A13_9_1 : Option Addr) (c13_9_1 : Nat) (g13_9_1 : List Nat), l = F [(37, .int .i64 (j : Int))] ∧ os = U [some (rowO 81 3 (.slice A13_9_1 cs.length c13_9_1) cs.length (fltV vcChoice cs) g13_9_1), some (boxO b12 [.slice A11 (((M.ent b.entries k).pits).length) c11, .slice A13_9_1 cs.length c13_9_1] 89)] ∧ (cs = M.prC lo ((M.ent b.entries k).choices.take j)) ∧ (j ≤ (M.ent b.entries k).choices.length) ∧ (cs.length ≤ c13_9_1) ∧ (c13_9_1 ≤ 9223372036854775807) ∧ m = (M.ent b.entries k).choices.length - j) ⟨0, [], _, _, _, rfl, rfl, by rfl, zt, zu, zu, rfl⟩ ?_
  rintro _ _ u13 _ ⟨j, cs, A13_9_1, c13_9_1, g13_9_1, rfl, rfl, hC, hj, f13_2, f13_3, rfl⟩ x13
  refine zn ?_
  have hlc : cs.length ≤ j := by rw [hC]; exact M.prC_lent _ _ _
  refine zS <| Ql rfl rfl <| zJ ?_
  refine zi (fun h14 h14' => ?_) fun h14 h14' => ?_
  ·
   have hjj : j < (M.ent b.entries k).choices.length := by have := h14'; omega
   have hy15 : ((M.ent b.entries k).choices)[j]? = some (M.cho ((M.ent b.entries k).choices) j) := M.cho_get (by omega)
   obtain ⟨b15, o15, he15, hr15⟩ := elem_Choice (Ty.mono _ h9_1 x13.vis) hy15
   refine Js.skip <| Js.seq <| Js.block <| zS <| Qq (p_indexAddr el_67 rfl rfl (by omega) (by omega) he15) <| QS 0 hr15 rfl ?_
   refine za zeh fun b16 => zw 0 rfl rfl rfl ?_
   refine zN <| Qf fh rfl <| Q0 0 rfl rfl rfl <| Qm rfl <| Qh rfl rfl <| JL.nil ?_
   refine zi (fun h17 h17' => ?_) fun h17 h17' => ?_
   ·
    have hC2 := M.prC_yes (lo := lo) hjj (by have := h17'; omega)
    rw [← hC] at hC2
    have hC2 := hC2.symm
    refine Js.region <| Qf fh rfl <| Q0 2 rfl rfl rfl <| Q9 0 rfl rfl ?_
    refine zbs fun b18 => ?_
    refine JL.e (e_append (i := 2) (n' := (cs ++ [(M.cho ((M.ent b.entries k).choices) j)]).length) (vs' := fltV vcChoice (cs ++ [(M.cho ((M.ent b.entries k).choices) j)])) el_67 rfl rfl rfl rfl (src_row (i := 0) und_67 rfl rfl) (by omega) (by omega) ln2_ (by first | rfl | exact fltV_app _ _ _ | exact fltV_snoc _ _ _ | (simp [fltV]; done))) ?_
    rintro v20 _ _ ⟨⟨g21, rfl⟩, rfl⟩ _
    refine JL.fact (row_form' (i := 2) rfl) (fun hf22 => ?_)
    obtain ⟨A22, c22, rfl, bl22, bh22⟩ := hf22
    refine znl ?_
    refine Qf fh rfl <| zw 3 rfl rfl rfl ?_
    refine JL.nil <| Js.blockEnd <| Js.region <| Qp rfl rfl <| Qm rfl <| JL.nil ?_
    refine zd [2, 2, 2, 2, 2, 2, 2, 2, 2] rfl fun u23 x23 => ?_
    exact zag ⟨j + 1, cs ++ [(M.cho ((M.ent b.entries k).choices) j)], _, _, _, rfl, rfl, by exact hC2, zt, zu, zu, rfl⟩ (x13.trans x23)
   have hC2 := M.prC_no (lo := lo) hjj (by have := h17'; omega)
   rw [← hC] at hC2
   have hC2 := hC2.symm
   refine Js.skip <| Js.blockEnd <| Js.region <| Qp rfl rfl <| Qm rfl <| JL.nil ?_
   refine zd [1, 1, 1, 1, 1, 1, 1, 1, 1] rfl fun u24 x24 => ?_
   exact zag ⟨j + 1, cs, _, _, _, rfl, rfl, by exact hC2, zt, zu, zu, rfl⟩ (x13.trans x24)
  have hC3 : cs = M.prC lo (M.ent b.entries k).choices := by rw [hC, List.take_of_length_le (by have := h14'; omega)]
  refine zx ?_
  refine zS <| Qf fh rfl <| Q0 1 rfl rfl rfl <| Qz rfl <| Qg rfl rfl <| JL.nil ?_
  refine zi (fun h25 h25' => ?_) fun h25 h25' => ?_
  ·
   have hA2 := M.prE_yes (lo := lo) hkk (by rw [← hC3]; have := h25'; omega)
   rw [← hA, ← hC3] at hA2
   have hA2 := hA2.symm
   refine Js.region <| Qf fh rfl <| Q0 6 rfl rfl rfl <| Q9 1 rfl rfl ?_
   refine zbs fun b26 => ?_
   refine JL.e (e_append (i := 6) (n' := (acc ++ [(M.Ent.mk ((M.ent b.entries k).pits) cs)]).length) (vs' := vs7_6_9 ++ [.slice A11 (((M.ent b.entries k).pits).length) c11, .slice A13_9_1 cs.length c13_9_1]) el_35 rfl rfl rfl rfl (src_row (i := 0) und_35 rfl rfl) (by omega) (by omega) ln2_ (rfl)) ?_
   rintro v28 _ _ ⟨⟨g29, rfl⟩, rfl⟩ _
   refine JL.fact (row_form' (i := 6) rfl) (fun hf30 => ?_)
   obtain ⟨A30, c30, rfl, bl30, bh30⟩ := hf30
   refine znl ?_
   refine Qf fh rfl <| zw 7 rfl rfl rfl ?_
   refine JL.nil ?_
   refine Js.pk (cBookEntry (M.Ent.mk ((M.ent b.entries k).pits) cs)) [.slice A11 (((M.ent b.entries k).pits).length) c11, .slice A13_9_1 cs.length c13_9_1] (fun f32 G32 => ?_) (by exact (gv_agg (gvc gv_ (gvc (gv_flat lChoice (xs := cs) po_ (by first | rfl | (simp [fltV]; done)) (by first | with_reducible rfl | assumption | rfl)) gvn))))
   refine zn ?_
   refine Js.joinL (i := 5) (j := 0) (Vs := lBookEntry (acc ++ [(M.Ent.mk ((M.ent b.entries k).pits) cs)])) rfl rfl (lBookEntry_snoc _ _) (fun f33 => ?_)
   refine zn ?_
   refine Js.blockEnd <| Js.region <| Qp rfl rfl <| Qm rfl <| JL.nil ?_
   refine zd [0, 4, 4, 4, 4] rfl fun u34 x34 => ?_
   exact zag ⟨k + 1, acc ++ [(M.Ent.mk ((M.ent b.entries k).pits) cs)], _, _, _, _, _, rfl, rfl, by exact hA2, zt, zu, zu, rfl⟩ ((x7.trans x13).trans x34)
  have hA2 := M.prE_no (lo := lo) hkk (by rw [← hC3]; have := h25'; omega)
  rw [← hA] at hA2
  have hA2 := hA2.symm
  refine Js.skip <| Js.blockEnd <| Js.region <| Qp rfl rfl <| Qm rfl <| JL.nil ?_
  refine zd [4, 4, 4, 4, 4] rfl fun u35 x35 => ?_
  exact zag ⟨k + 1, acc, _, _, _, _, _, rfl, rfl, by exact hA2, zt, zu, zu, rfl⟩ ((x7.trans x13).trans x35)
 have hE : acc = M.prE lo b.entries := by rw [hA, List.take_of_length_le (by have := h8'; omega)]
 rw [← hE] at hP
 refine zx ?_
 have hq0 : b.rules.pits = (((M.prune b lo).1).rules).pits := rp_ hP
 have hq1 : b.rules.seeds = (((M.prune b lo).1).rules).seeds := rp_ hP
 have hq2 : b.rules.stores = (((M.prune b lo).1).rules).stores := rp_ hP
 have hq3 : b.rules.skip = (((M.prune b lo).1).rules).skip := rp_ hP
 have hq4 : b.rules.relay = (((M.prune b lo).1).rules).relay := rp_ hP
 have hq5 : b.rules.feed = (((M.prune b lo).1).rules).feed := rp_ hP
 have hq6 : b.rules.again = (((M.prune b lo).1).rules).again := rp_ hP
 have hq7 : b.rules.capture = (((M.prune b lo).1).rules).capture := rp_ hP
 have hq8 : b.rules.slam = (((M.prune b lo).1).rules).slam := rp_ hP
 have hq9 : acc = ((M.prune b lo).1).entries := rp_ hP
 have hq10 : 0 = (M.prune b lo).2 := rp_ hP
 refine zS <| Q9 2 rfl rfl ?_
 refine zw 3 rfl rfl rfl ?_
 refine Qa rfl <| JL.nil ?_
 exact zro x7
theorem c_impl_Rules_turned (r : M.Rul) {v_r : Value} (p : M.Pos) {v_p : Value} {w : World} (h_r : (Ty.agg (cRules r)).ok w v_r) (h_p : (Ty.agg (cPosition p)).ok w v_p) (r0 : M.okP r p = true := by exact om_) : Ret Tryz.prog 135 [v_r, v_p] w (Ty.agg (cPosition (M.turnP r p))) := by
 obtain ⟨g1, g2, g3, g4, g5, g6, g7⟩ := M.okP_bd r0
 revert v_r; apply opn
 revert v_p; apply opn
 intro A1 c1 h1 bl1 bh1 A2 c2 h2 bl2 bh2
 refine enter @Tryz.func135 @Tryz.ntmps135 rfl rfl ?_
 refine zent ?_
 refine zS <| zb rfl fun b3 => zb rfl fun b4 => za zeh fun b5 => zJ ?_
 refine zdr [11] ?_
 refine jF 0 fld_39_0 rfl rfl ?_
 refine jB 1 1 ty_27 rfl rfl rfl rfl ?_
 refine jF 2 fld_34_0 rfl rfl ?_
 refine jB 3 2 ty_2 rfl rfl rfl rfl ?_
 have hs6 := ints_cut (a := r.pits.toNat) (b := p.pits.length) (m := c1) h1 (by omega) (by omega) (by omega) (by omega)
 have hl6 : ((p.pits.drop r.pits.toNat).take (p.pits.length - r.pits.toNat)).length = p.pits.length - r.pits.toNat := by rw [List.length_take, List.length_drop]; omega
 refine JH.p 4 rfl (p_slice (lo' := r.pits.toNat) (hi' := p.pits.length) (mx' := c1) el_27 rfl rfl ⟨rfl, rfl⟩ ⟨_, by rw [Int.toNat_of_nonneg (by omega)]; exact rfl, by omega⟩) ?_
 refine jF 6 fld_39_0 rfl rfl ?_
 refine jB 7 1 ty_27 rfl rfl rfl rfl ?_
 refine jF 8 fld_34_0 rfl rfl ?_
 refine jB 9 2 ty_2 rfl rfl rfl rfl ?_
 have hs7 := ints_cut (a := 0) (b := r.pits.toNat) (m := c1) h1 (by omega) (by omega) (by omega) (by omega)
 have hl7 : ((p.pits.drop 0).take (r.pits.toNat - 0)).length = r.pits.toNat - 0 := by rw [List.length_take, List.length_drop]; omega
 refine JH.p 10 rfl (p_slice (lo' := 0) (hi' := r.pits.toNat) (mx' := c1) el_27 rfl rfl ⟨_, by rw [Int.toNat_of_nonneg (by omega)]; exact rfl, by omega⟩ rfl) ?_
 refine y1 5 ?_
 refine ycs rfl rfl (fun w hw => c_impl_copyNumbers ((p.pits.drop r.pits.toNat).take (p.pits.length - r.pits.toNat)) (ok_ hw)) ?_
 intro A8 c8 bl8 bh8
 refine y1 11 ?_
 refine JHo.e rfl (e_append (i := 0) (n' := (((p.pits.drop r.pits.toNat).take (p.pits.length - r.pits.toNat)) ++ ((p.pits.drop 0).take (r.pits.toNat - 0))).length) (vs' := ints_ (((p.pits.drop r.pits.toNat).take (p.pits.length - r.pits.toNat)) ++ ((p.pits.drop 0).take (r.pits.toNat - 0)))) el_27 rfl rfl rfl rfl (src_intsN und_27 hl7 hs7) (by omega) (by omega) ln2_ (by simp [ints_])) (.inr rfl) ?_
 rintro v9 _ _ ⟨⟨g10, rfl⟩, rfl⟩ _
 refine JH.fact (row_form' (i := 0) rfl) (fun hf11 => ?_)
 obtain ⟨A11, c11, rfl, bl11, bh11⟩ := hf11
 refine znh ?_
 refine jA 12 rfl rfl ?_
 refine yd ?_
 refine Js.seq ?_
 refine zdr [14] ?_
 refine jM 0 rfl rfl ?_
 refine jF 1 fld_39_1 rfl rfl ?_
 refine jB 2 2 ty_27 rfl rfl rfl rfl ?_
 obtain ⟨b12, o12, he12, hc12⟩ := ints_elem h2 (i := 1) (by omega)
 refine jI 3 el_27 rfl rfl rfl he12 ?_
 refine jW 4 ty_2 rfl rfl hc12.vis ?_
 refine jF 5 fld_39_1 rfl rfl ?_
 refine jB 6 2 ty_27 rfl rfl rfl rfl ?_
 obtain ⟨b13, o13, he13, hc13⟩ := ints_elem h2 (i := 0) (by omega)
 refine jI 7 el_27 rfl rfl rfl he13 ?_
 refine jW 8 ty_2 rfl rfl hc13.vis ?_
 refine jF 10 fld_39_2 rfl rfl ?_
 refine jB 11 2 ty_2 rfl rfl rfl rfl ?_
 refine JH.p 12 rfl (p_sub rfl rfl (IntWalk.i64_in _ (by omega))) ?_
 refine y1 9 ?_
 refine ybs rfl fun b14 => ?_
 refine JH.p 13 rfl (q_bld) ?_
 refine y1 14 ?_
 refine yst rfl rfl rfl ?_
 refine yd ?_
 have hq0 : (((p.pits.drop r.pits.toNat).take (p.pits.length - r.pits.toNat)) ++ ((p.pits.drop 0).take (r.pits.toNat - 0))) = (M.turnP r p).pits := by first | rfl | (simp [M.turnP, List.take_of_length_le]; done) | (unfold M.turnP; simp; omega)
 have hq1 : [(M.nth p.stores 1), (M.nth p.stores 0)] = (M.turnP r p).stores := by first | rfl | (simp [M.turnP, List.take_of_length_le]; done) | (unfold M.turnP; simp; omega)
 have hq2 : (1 - p.player) = (M.turnP r p).player := by first | rfl | (simp [M.turnP, List.take_of_length_le]; done) | (unfold M.turnP; simp; omega)
 exact zro (Up.refl _ _)
theorem c_impl_Rules_view (r : M.Rul) {v_r : Value} (p : M.Pos) {v_p : Value} {w : World} (h_r : (Ty.agg (cRules r)).ok w v_r) (h_p : (Ty.agg (cPosition p)).ok w v_p) (r0 : M.okV r p := by exact om_) : Ret Tryz.prog 79 [v_r, v_p] w (Ty.agg (cPosition (M.viewP r p))) := by
 have hl := M.okV_len r0
 revert v_r; apply opn
 revert v_p; apply opn
 intro A1 c1 h1 bl1 bh1 A2 c2 h2 bl2 bh2
 refine enter @Tryz.func79 @Tryz.ntmps79 rfl rfl ?_
 refine zent ?_
 refine zS <| zb rfl fun b3 => zb rfl fun b4 => za zeh fun b5 => zJ <| zS <| Qf fh rfl <| Q0 1 rfl rfl rfl <| Qe rfl rfl <| JL.nil ?_
 refine zi (fun h6 h6' => ?_) fun h6 h6' => ?_
 ·
  have hE := M.viewP_0 (r := r) (p := p) (by simpa using h6)
  refine zS <| Q9 1 rfl rfl ?_
  refine zc rfl (fun w hw => c_impl_Position_copied p (ok_ hw)) ?_
  intro A8 c8 bl8 bh8 A9 c9 bl9 bh9
  have hq0 : p.pits = (M.viewP r p).pits := by rw [hE]
  have hq1 : p.stores = (M.viewP r p).stores := by rw [hE]
  have hq2 : p.player = (M.viewP r p).player := by rw [hE]
  refine zw 2 rfl rfl rfl ?_
  refine JL.nil ?_
  exact zro (Up.refl _ _)
 have hn0 : ¬ p.player = 0 := by simpa using h6
 have hK := M.okV_turn r0 hn0
 have hE := M.viewP_1 (r := r) hn0
 refine Js.skip <| zS <| Q9 2 rfl rfl ?_
 refine Q9 1 rfl rfl ?_
 refine zc rfl (fun w hw => c_impl_Rules_turned r p (ok_ hw) (ok_ hw) (r0 := hK)) ?_
 intro A11 c11 bl11 bh11 A12 c12 bl12 bh12
 have hq0 : ((M.turnP r p).pits) = (M.viewP r p).pits := by rw [hE]
 have hq1 : ((M.turnP r p).stores) = (M.viewP r p).stores := by rw [hE]
 have hq2 : ((M.turnP r p).player) = (M.viewP r p).player := by rw [hE]
 refine zw 2 rfl rfl rfl ?_
 refine JL.nil ?_
 exact zro (Up.refl _ _)
end Go.Proofs.YtcmfnlleikcpnaaGreat

/- Walks: G3. -/
import Derived.Test.YtjdhgkdimanabaaGreatDoorZeA3
import Derived.Test.YtjdhgkdimanabaaGreatDoorZeA7
import Derived.Test.YtjdhgkdimanabaaGreatDoorZeA5
set_option linter.unusedSimpArgs false
set_option linter.unusedVariables false
set_option maxRecDepth 100000
attribute [local irreducible] Go.Proofs.YtjdhgkdimanabaaGreatDoor.gv
set_option maxHeartbeats 1000000
namespace Go.Proofs.YtjdhgkdimanabaaGreatDoor
open Go.RowKit
theorem c_impl_Rules_taken (r : M.Rul) {v_r : Value} (s : M.Sw) {v_s : Value} (player : Int) {w : World} (h_r : (Ty.agg (cRules r)).ok w v_r) (h_s : (Ty.agg (cSown s)).ok w v_s) (r0 : 2 ≤ r.pits := by exact om_) (r1 : r.pits ≤ 8 := by exact om_) (r2 : player = 0 ∨ player = 1 := by exact om_) (r3 : M.Good r s.pits s.stores 0 := by exact om_) (r4 : -1 ≤ s.last := by exact om_) (r5 : s.last < 2 * r.pits := by exact om_) : Ret Tryz.prog 182 [v_r, v_s, .int .i64 player] w (Ty.ints 2 (M.taken r s player)) := by
 have l1 := r3.lp
 have l2 := r3.ls
 have hv : 0 ≤ M.getI s.pits s.last := M.nn_nth r3.np _
 have hv9 := r3.pit s.last
 revert v_r; apply opn
 revert v_s; apply opn
 intro A1 c1 h1 bl1 bh1 A2 c2 h2 bl2 bh2
 refine enter @Tryz.func182 @Tryz.ntmps182 rfl rfl ?_
 refine zent ?_
 obtain ⟨b3, o3, rfl⟩ := ints_some h1 (by omega)
 refine zS <| zb rfl fun b4 => zb rfl fun b5 => Qa rfl <| zN <| zbs fun b6 => ?_
 refine Qa rfl <| zJ <| zS <| Qf fh rfl <| Q0 1 rfl rfl rfl <| Ql rfl rfl <| JL.nil ?_
 refine zi (fun h8 h8' => ?_) fun h8 h8' => ?_
 ·
  have hR : M.taken r s player = [] := by unfold M.taken; rw [if_pos (by simpa using h8)]
  have hq0 : [] = M.taken r s player := by rw [hR]
  refine zS <| Qm rfl <| Qa rfl <| JL.nil ?_
  exact zro (Up.refl _ _)
 have hl0 : ¬ s.last < 0 := by simpa using h8
 refine Js.skip <| zS <| Q9 2 rfl rfl ?_
 refine Qf fh rfl <| Q0 1 rfl rfl rfl <| zv rfl (fun w hw => c_impl_Rules_owner r s.last (ok_ hw)) <| Qm rfl <| Qe rfl rfl <| Qa rfl <| zJ <| zS <| Qf fh rfl <| Q0 2 rfl rfl rfl <| JL.nil <| Js.block <| zS <| Qe rfl rfl ?_
 refine Qa rfl <| JL.nil ?_
 refine zi (fun h9 h9' => ?_) fun h9 h9' => ?_
 ·
  have hcap : r.capture = 1 := by simpa using h9
  refine zS <| Qf fh rfl <| Q0 1 rfl rfl rfl <| Qa rfl <| JL.nil <| Js.block ?_
  refine zl [2, 3, 4] (fun F U l os u m => ∃ (k : Int) (out : List Int) (A10_7 : Option Addr) (c10_7 : Nat) (g10_7 : List Nat), l = F [(7, .slice A10_7 out.length c10_7), (9, .int .i64 k)] ∧ os = U [some (rowO 2 1 (.slice A10_7 out.length c10_7) out.length (ints_ out) g10_7)] ∧ (out ++ M.ttI r player s.pits k = M.ttI r player s.pits s.last) ∧ (-1 ≤ k) ∧ (k < 2 * r.pits) ∧ ((out.length : Int) + k = s.last) ∧ (out.length ≤ c10_7) ∧ (c10_7 ≤ 9223372036854775807) ∧ m = (k + 1).toNat) ⟨s.last, [], _, _, _, rfl, rfl, by rfl, zt, zt, by simp, zu, zu, rfl⟩ ?_
  rintro _ _ u10 _ ⟨k, out, A10_7, c10_7, g10_7, rfl, rfl, hS, k0, k1, hl, f10_4, f10_5, rfl⟩ x10
  refine zn ?_
  refine Js.seq <| zS <| Qm rfl <| Qh rfl rfl <| Qm rfl <| zgq (Gd.t1 rfl rfl rfl) (fun hc => L9 2 rfl rfl) <| zg (Gd.t1 rfl rfl rfl) (fun hc => p_move rfl) <| zgv (Gd.t1 rfl rfl rfl) (fun hc => (opds_2 (gh hc rfl) (gh hc rfl))) (fun hc => (fun w hw => c_impl_Rules_owner r k (ok_ hw) (r0 := (oh_ hc)) (r1 := (oh_ hc)) (r2 := (oh_ hc)) (r3 := (oh_ hc)))) ?_
  refine zg (Gd.t1 rfl rfl rfl) (fun hc => p_move rfl) <| zg (Gd.t1 rfl rfl rfl) (fun hc => p_neq (gh hc rfl) (gh hc rfl)) <| Qq (p_pickAnd rfl rfl rfl) <| Qm rfl <| zg (Gd.t1 rfl rfl rfl) (fun hc => p_fieldAddr fld_139_0.h rfl) <| zgq (Gd.t1 rfl rfl rfl) (fun hc => q_load1 ty_26.h (gh hc rfl) (Mem.box (i := 1) rfl rfl)) <| zg (Gd.t1 rfl rfl rfl) (fun hc => p_move rfl) <| zg (Gd.t1 rfl rfl rfl) (fun hc => p_indexAddr el_26 (gh hc rfl) (gh hc rfl) (by have hc9 := hc; (try simp only [Bool.and_eq_true, decide_eq_true_eq, Bool.not_eq_true', decide_eq_false_iff_not] at hc9); omega) (by have hc9 := hc; (try simp only [Bool.and_eq_true, decide_eq_true_eq, Bool.not_eq_true', decide_eq_false_iff_not] at hc9); omega) rfl) ?_
  refine zgq (Gd.t1 rfl rfl rfl) (fun hc => q_load1 ty_2.h (gh hc rfl) (Mem.pub (ints_cellI (i := k) (Ty.mono _ h1 x10.vis) (by have hc9 := hc; (try simp only [Bool.and_eq_true, decide_eq_true_eq, Bool.not_eq_true', decide_eq_false_iff_not] at hc9); omega)))) ?_
  refine zgv (Gd.t1 rfl rfl rfl) (fun hc => (opds_3 (gh hc rfl) rfl rfl)) (fun hc => (fun w hw => c_impl_between (M.getI s.pits k) 2 3)) ?_
  refine Qq (p_pickAnd rfl rfl rfl) <| JL.nil ?_
  refine zi (fun h12 h12' => ?_) fun h12 h12' => ?_
  ·
   obtain ⟨⟨c0, c1⟩, c2⟩ : (0 ≤ k ∧ ¬ M.owner r k = player) ∧ M.betw (M.getI s.pits k) 2 3 = true := by simpa using h12
   have hS2 : (out ++ [k]) ++ M.ttI r player s.pits (k - 1) = M.ttI r player s.pits s.last := by rw [← hS, M.ttI_yes c0 c1 c2]; simp
   refine Js.skip <| Js.seq <| Js.block <| Js.region <| Qm rfl <| Qm rfl <| zbs fun b13 => ?_
   refine JL.e (e_append (i := 1) (n' := (out ++ [k]).length) (vs' := ints_ (out ++ [k])) el_26 rfl rfl rfl rfl (src_row (i := 0) und_26 rfl rfl) (by omega) (by omega) ln2_ (by simp [ints_])) ?_
   rintro v15 _ _ ⟨⟨g16, rfl⟩, rfl⟩ _
   refine JL.fact (row_form' (i := 1) rfl) (fun hf17 => ?_)
   obtain ⟨A17, c17, rfl, bl17, bh17⟩ := hf17
   refine znl ?_
   refine Qa rfl <| JL.nil <| Js.blockEnd <| Js.region <| Qm rfl <| Qs rfl rfl <| Qa rfl <| JL.nil ?_
   refine zd [1, 1, 1] rfl fun u18 x18 => ?_
   exact zag ⟨k - 1, out ++ [k], _, _, _, rfl, rfl, by exact hS2, zt, zt, by simp only [List.length_append, List.length_cons, List.length_nil]; omega, zu, zu, rfl⟩ (x10.trans x18)
  have hF : M.ttI r player s.pits k = [] := by rcases h12' with (h | h) | h; exact M.ttI_neg h; exact M.ttI_no (.inl h); exact M.ttI_no (.inr h)
  rw [hF, List.append_nil] at hS
  have hR : M.taken r s player = out := by unfold M.taken; rw [if_neg hl0, if_pos hcap, hS]; simp [M.ttI, hl0]
  refine zx ?_
  have hq0 : out = M.taken r s player := by rw [hR]
  refine Js.blockEnd <| zS <| Qm rfl <| Qa rfl <| JL.nil ?_
  exact zro x10
 have hcap1 : ¬ r.capture = 1 := by simpa using h9
 refine zS <| Qe rfl rfl <| Qa rfl <| JL.nil ?_
 refine zi (fun h19 h19' => ?_) fun h19 h19' => ?_
 ·
  have hcap : r.capture = 2 := by simpa using h19
  have ho : M.opp r s.last = 2 * r.pits - 1 - s.last := rfl
  have ho : M.opp r s.last = 2 * r.pits - 1 - s.last := rfl
  refine zS <| Q9 2 rfl rfl ?_
  refine Qf fh rfl <| Q0 1 rfl rfl rfl <| zv rfl (fun w hw => c_impl_Rules_opposite r s.last (ok_ hw)) <| Qa rfl <| zN <| Qm rfl <| Qm rfl <| zg (Gd.t1 rfl rfl rfl) (fun hc => p_fieldAddr fld_139_0.h rfl) <| zgq (Gd.t1 rfl rfl rfl) (fun hc => q_load1 ty_26.h (gh hc rfl) (Mem.box (i := 1) rfl rfl)) <| zg (Gd.t1 rfl rfl rfl) (fun hc => p_fieldAddr fld_139_2.h rfl) <| zgq (Gd.t1 rfl rfl rfl) (fun hc => q_load1 ty_2.h (gh hc rfl) (Mem.box (i := 1) rfl rfl)) <| zg (Gd.t1 rfl rfl rfl) (fun hc => p_indexAddr el_26 (gh hc rfl) (gh hc rfl) (oh_ hc) (oh_ hc) rfl) ?_
  refine zgq (Gd.t1 rfl rfl rfl) (fun hc => q_load1 ty_2.h (gh hc rfl) (Mem.pub (ints_cellI (i := s.last) h1 (oh_ hc)))) ?_
  refine zg (Gd.t1 rfl rfl rfl) (fun hc => p_eql (gh hc rfl) rfl) <| Qq (p_pickAnd rfl rfl rfl) <| Qm rfl <| zg (Gd.t1 rfl rfl rfl) (fun hc => p_fieldAddr fld_139_0.h rfl) <| zgq (Gd.t1 rfl rfl rfl) (fun hc => q_load1 ty_26.h (gh hc rfl) (Mem.box (i := 1) rfl rfl)) <| zg (Gd.t1 rfl rfl rfl) (fun hc => p_move rfl) <| zg (Gd.t1 rfl rfl rfl) (fun hc => p_indexAddr el_26 (gh hc rfl) (gh hc rfl) (by have hc9 := hc; (try simp only [Bool.and_eq_true, decide_eq_true_eq] at hc9); omega) (by have hc9 := hc; (try simp only [Bool.and_eq_true, decide_eq_true_eq] at hc9); omega) rfl) ?_
  refine zgq (Gd.t1 rfl rfl rfl) (fun hc => q_load1 ty_2.h (gh hc rfl) (Mem.pub (ints_cellI (i := M.opp r s.last) h1 (by have hc9 := hc; (try simp only [Bool.and_eq_true, decide_eq_true_eq] at hc9); omega)))) ?_
  refine zg (Gd.t1 rfl rfl rfl) (fun hc => p_gtr (gh hc rfl) rfl) <| Qq (p_pickAnd rfl rfl rfl) <| JL.nil ?_
  refine zi (fun h22 h22' => ?_) fun h22 h22' => ?_
  ·
   have hR : M.taken r s player = [s.last, M.opp r s.last] := by unfold M.taken; rw [if_neg hl0, if_neg hcap1, if_pos hcap, if_pos (by simpa [and_assoc] using h22)]
   refine Js.region <| Qm rfl <| Qf fh rfl <| Q0 1 rfl rfl rfl <| Qm rfl <| zbs fun b23 => ?_
   refine JL.e (e_append (i := 1) (n' := 2) (vs' := ints_ [s.last, (M.opp r s.last)]) el_26 rfl rfl rfl rfl (src_row (i := 0) und_26 rfl rfl) (by omega) (by omega) ln2_ (by simp [ints_])) ?_
   rintro v25 _ _ ⟨⟨g26, rfl⟩, rfl⟩ _
   refine JL.fact (row_form' (i := 1) rfl) (fun hf27 => ?_)
   obtain ⟨A27, c27, rfl, bl27, bh27⟩ := hf27
   refine znl ?_
   have hq0 : [s.last, (M.opp r s.last)] = M.taken r s player := by rw [hR]
   refine Qa rfl <| JL.nil <| Js.blockEnd <| zS <| Qm rfl <| Qa rfl <| JL.nil ?_
   exact zro (Up.refl _ _)
  have hR : M.taken r s player = [] := by unfold M.taken; rw [if_neg hl0, if_neg hcap1, if_pos hcap, if_neg (by simpa [and_assoc] using h22)]
  have hq0 : [] = M.taken r s player := by rw [hR]
  refine Js.skip <| Js.blockEnd <| zS <| Qm rfl <| Qa rfl <| JL.nil ?_
  exact zro (Up.refl _ _)
 have hcap2 : ¬ r.capture = 2 := by simpa using h19
 refine zS <| Qe rfl rfl <| Qa rfl <| JL.nil ?_
 refine zi (fun h28 h28' => ?_) fun h28 h28' => ?_
 ·
  have hcap : r.capture = 3 := by simpa using h28
  refine zS <| Qm rfl <| Qt rfl <| Qm rfl <| zg (Gd.t1 rfl rfl rfl) (fun hc => p_fieldAddr fld_139_0.h rfl) <| zgq (Gd.t1 rfl rfl rfl) (fun hc => q_load1 ty_26.h (gh hc rfl) (Mem.box (i := 1) rfl rfl)) <| zg (Gd.t1 rfl rfl rfl) (fun hc => p_fieldAddr fld_139_2.h rfl) <| zgq (Gd.t1 rfl rfl rfl) (fun hc => q_load1 ty_2.h (gh hc rfl) (Mem.box (i := 1) rfl rfl)) <| zg (Gd.t1 rfl rfl rfl) (fun hc => p_indexAddr el_26 (gh hc rfl) (gh hc rfl) (by have hc9 := hc; (try simp only [Bool.not_eq_true', decide_eq_false_iff_not] at hc9); omega) (by have hc9 := hc; (try simp only [Bool.not_eq_true', decide_eq_false_iff_not] at hc9); omega) rfl) ?_
  refine zgq (Gd.t1 rfl rfl rfl) (fun hc => q_load1 ty_2.h (gh hc rfl) (Mem.pub (ints_cellI (i := s.last) h1 (by have hc9 := hc; (try simp only [Bool.not_eq_true', decide_eq_false_iff_not] at hc9); omega)))) ?_
  refine zg (Gd.t1 rfl rfl rfl) (fun hc => p_rem (gh hc rfl) rfl (by have hc9 := hc; (try simp only [Bool.not_eq_true', decide_eq_false_iff_not] at hc9); omega) (Int.tmod_eq_emod_of_nonneg (by have hc9 := hc; (try simp only [Bool.not_eq_true', decide_eq_false_iff_not] at hc9); omega))) ?_
  refine zg (Gd.t1 rfl rfl rfl) (fun hc => p_eql (gh hc rfl) rfl) <| Qq (p_pickAnd rfl rfl rfl) <| JL.nil ?_
  refine zi (fun h30 h30' => ?_) fun h30 h30' => ?_
  ·
   have hR : M.taken r s player = [s.last] := by unfold M.taken; rw [if_neg hl0, if_neg hcap1, if_neg hcap2, if_pos hcap, if_pos (by simpa using h30)]
   refine Js.region <| Qm rfl <| Qf fh rfl <| Q0 1 rfl rfl rfl <| zbs fun b31 => ?_
   refine JL.e (e_append (i := 1) (n' := 1) (vs' := ints_ [s.last]) el_26 rfl rfl rfl rfl (src_row (i := 0) und_26 rfl rfl) (by omega) (by omega) ln2_ (by simp [ints_])) ?_
   rintro v33 _ _ ⟨⟨g34, rfl⟩, rfl⟩ _
   refine JL.fact (row_form' (i := 1) rfl) (fun hf35 => ?_)
   obtain ⟨A35, c35, rfl, bl35, bh35⟩ := hf35
   refine znl ?_
   have hq0 : [s.last] = M.taken r s player := by rw [hR]
   refine Qa rfl <| JL.nil <| Js.blockEnd <| zS <| Qm rfl <| Qa rfl <| JL.nil ?_
   exact zro (Up.refl _ _)
  have hR : M.taken r s player = [] := by unfold M.taken; rw [if_neg hl0, if_neg hcap1, if_neg hcap2, if_pos hcap, if_neg (by simpa using h30)]
  have hq0 : [] = M.taken r s player := by rw [hR]
  refine Js.skip <| Js.blockEnd <| zS <| Qm rfl <| Qa rfl <| JL.nil ?_
  exact zro (Up.refl _ _)
 have hcap3 : ¬ r.capture = 3 := by simpa using h28
 have hR : M.taken r s player = [] := by unfold M.taken; rw [if_neg hl0, if_neg hcap1, if_neg hcap2, if_neg hcap3]
 have hq0 : [] = M.taken r s player := by rw [hR]
 refine Js.skip <| Js.blockEnd <| zS <| Qm rfl <| Qa rfl <| JL.nil ?_
 exact zro (Up.refl _ _)
theorem c_impl_Rules_slams (r : M.Rul) {v_r : Value} (s : M.Sw) {v_s : Value} (player : Int) {w : World} (h_r : (Ty.agg (cRules r)).ok w v_r) (h_s : (Ty.agg (cSown s)).ok w v_s) (r0 : 2 ≤ r.pits := by exact om_) (r1 : r.pits ≤ 8 := by exact om_) (r2 : player = 0 ∨ player = 1 := by exact om_) (r3 : M.Good r s.pits s.stores 0 := by exact om_) (r4 : -1 ≤ s.last := by exact om_) (r5 : s.last < 2 * r.pits := by exact om_) : RetV Tryz.prog 152 [v_r, v_s, .int .i64 player] w (.bool (M.slams r s player)) := by
 have l1 := r3.lp
 have l2 := r3.ls
 have hao := M.Good.ok r3
 have hlen := M.taken_len (s := s) (player := player) r5 r1
 revert v_r; apply opn
 revert v_s; apply opn
 intro A1 c1 h1 bl1 bh1 A2 c2 h2 bl2 bh2
 refine enter @Tryz.func152 @Tryz.ntmps152 rfl rfl ?_
 refine zent ?_
 obtain ⟨b3, o3, rfl⟩ := ints_some h1 (by omega)
 refine zS <| zb rfl fun b4 => zb rfl fun b5 => Qa rfl <| zN <| Q9 1 rfl rfl ?_
 refine Qf fh rfl <| Q0 0 rfl rfl rfl <| Qm rfl <| Qs rfl rfl <| zv rfl (fun w hw => c_impl_Rules_side r s.pits (1 - player) (ok_ hw) (ok_ hw) (r4 := hao.1)) <| Qa rfl <| Qa rfl <| zJ <| zS <| Q9 1 rfl rfl ?_
 refine Q9 0 rfl rfl ?_
 refine Qm rfl <| zp rfl (fun w hw => c_impl_Rules_taken r s player (ok_ hw) (ok_ hw) (r3 := r3)) ?_
 intro u6 x6 A7 c7 h7 bl7 bh7
 refine Qz rfl <| Qm rfl <| JL.nil <| Js.block ?_
 refine zl [2, 3, 4, 7, 20, 21] (fun F U l os u m => ∃ (k : Nat) (g : Int), l = F [(8, .int .i64 g), (22, .int .i64 (k : Int))] ∧ os = U [] ∧ (g + M.gone r s player ((M.taken r s player).drop k) = M.gone r s player (M.taken r s player)) ∧ (k ≤ (M.taken r s player).length) ∧ (0 ≤ g) ∧ (g ≤ 96 * k) ∧ m = (M.taken r s player).length - k) ⟨0, 0, rfl, rfl, by simp, zt, zt, zt, rfl⟩ ?_
 rintro _ _ u8 _ ⟨k, g, rfl, rfl, hS, hk, g0, g1, rfl⟩ x8
 refine zn ?_
 refine zS <| Ql rfl rfl <| zJ ?_
 refine zi (fun h9 h9' => ?_) fun h9 h9' => ?_
 ·
  have hk2 : k < (M.taken r s player).length := by have := h9; simp at this; omega
  have hx := M.taken_mem (r := r) (s := s) (player := player) r5 (M.nth_mem hk2)
  have hvx := r3.pit (M.nth (M.taken r s player) k)
  have hS1 := hS
  rw [M.drop_nth hk2, M.gone_cons] at hS1
  obtain ⟨b10, o10, he10, hc10⟩ := ints_elem (Ty.mono _ h7 x8.vis) (i := k) (by omega)
  refine Js.skip <| Js.seq <| Js.block <| zS <| Qq (p_indexAddr el_26 rfl rfl (by omega) (by omega) he10) <| QC hc10 rfl <| Qa rfl <| zN <| Q9 1 rfl rfl ?_
  refine Qm rfl <| zv rfl (fun w hw => c_impl_Rules_owner r (M.nth (M.taken r s player) k) (ok_ hw)) <| Qm rfl <| Qd rfl rfl <| JL.nil ?_
  refine zi (fun h11 h11' => ?_) fun h11 h11' => ?_
  ·
   have hS2 : (g + M.getI s.pits (M.nth (M.taken r s player) k)) + M.gone r s player ((M.taken r s player).drop (k + 1)) = M.gone r s player (M.taken r s player) := by rw [if_neg (by simpa using h11)] at hS1; omega
   refine Js.region <| Qm rfl <| Qf fh rfl <| Q0 0 rfl rfl rfl <| Qm rfl <| Qq (p_indexAddr el_26 rfl rfl (by omega) (by omega) rfl) <| Qw (q_load1 ty_2.h rfl (Mem.pub (ints_cellI (i := M.nth (M.taken r s player) k) (Ty.mono _ h1 (x6.vis.trans x8.vis)) (by omega)))) <| Qp rfl rfl <| Qa rfl <| JL.nil <| Js.blockEnd <| Js.region <| Qp rfl rfl <| Qm rfl ?_
   refine JL.nil ?_
   exact zag ⟨k + 1, g + (M.getI s.pits (M.nth (M.taken r s player) k)), rfl, rfl, by exact hS2, zt, zt, zt, rfl⟩ x8
  have hS2 : g + M.gone r s player ((M.taken r s player).drop (k + 1)) = M.gone r s player (M.taken r s player) := by rw [if_pos (by simpa using h11)] at hS1; omega
  refine Js.skip <| Js.blockEnd <| Js.region <| Qp rfl rfl <| Qm rfl <| JL.nil ?_
  exact zag ⟨k + 1, g, rfl, rfl, by exact hS2, zt, zt, zt, rfl⟩ x8
 have hg : g = M.gone r s player (M.taken r s player) := by rw [← hS, List.drop_eq_nil_of_le (by omega), M.gone_nil]; omega
 refine zx ?_
 refine zS <| Qm rfl <| Qg rfl rfl <| Qm rfl <| zg (Gd.t1 rfl rfl rfl) (fun hc => p_move rfl) <| zg (Gd.t1 rfl rfl rfl) (fun hc => p_move rfl) <| zg (Gd.t1 rfl rfl rfl) (fun hc => p_eql (gh hc rfl) (gh hc rfl)) <| Qq (p_pickAnd rfl rfl rfl) <| Qa rfl <| JL.nil ?_
 refine zR (x6.trans x8) ?_
 subst hg; simp [outV, M.slams]
theorem c_impl_Rules_captured (r : M.Rul) {v_r : Value} (s : M.Sw) {v_s : Value} (player : Int) {w : World} (h_r : (Ty.agg (cRules r)).ok w v_r) (h_s : (Ty.agg (cSown s)).ok w v_s) (r0 : 2 ≤ r.pits := by exact om_) (r1 : r.pits ≤ 8 := by exact om_) (r2 : player = 0 ∨ player = 1 := by exact om_) (r3 : M.Good r s.pits s.stores 0 := by exact om_) (r4 : -1 ≤ s.last := by exact om_) (r5 : s.last < 2 * r.pits := by exact om_) : Ret Tryz.prog 181 [v_r, v_s, .int .i64 player] w (Ty.ints 2 (M.captured r s player)) := by
 revert v_r; apply opn
 revert v_s; apply opn
 intro A1 c1 h1 bl1 bh1 A2 c2 h2 bl2 bh2
 refine enter @Tryz.func181 @Tryz.ntmps181 rfl rfl ?_
 refine zent ?_
 refine zS <| zb rfl fun b3 => zb rfl fun b4 => Qa rfl <| zJ <| zS <| Qf fh rfl <| Q0 1 rfl rfl rfl <| Qe rfl rfl <| Qm rfl <| zgq (Gd.t1 rfl rfl rfl) (fun hc => L9 1 rfl rfl) <| zgq (Gd.t1 rfl rfl rfl) (fun hc => L9 0 rfl rfl) <| zg (Gd.t1 rfl rfl rfl) (fun hc => p_move rfl) <| zgv (Gd.t1 rfl rfl rfl) (fun hc => (opds_3 (gh hc rfl) (gh hc rfl) (gh hc rfl))) (fun hc => (fun w hw => c_impl_Rules_slams r s player (ok_ hw) (ok_ hw) (r0 := (oh_ hc)) (r1 := (oh_ hc)) (r2 := (oh_ hc)) (r3 := r3) (r4 := (oh_ hc)) (r5 := (oh_ hc)))) ?_
 refine Qq (p_pickAnd rfl rfl rfl) <| JL.nil ?_
 refine zi (fun h5 h5' => ?_) fun h5 h5' => ?_
 ·
  have hR : M.captured r s player = [] := by unfold M.captured; rw [if_pos (by simpa using h5)]
  have hq0 : [] = M.captured r s player := by rw [hR]
  refine zS <| zbs fun b6 => ?_
  refine Qa rfl <| JL.nil ?_
  exact zro (Up.refl _ _)
 have hR : M.captured r s player = M.taken r s player := by unfold M.captured; rw [if_neg (by simpa using h5)]
 refine Js.skip <| zS <| Q9 1 rfl rfl ?_
 refine Q9 0 rfl rfl ?_
 refine Qm rfl <| zcs rfl (fun w hw => c_impl_Rules_taken r s player (ok_ hw) (ok_ hw) (r3 := r3)) ?_
 intro A8 c8 bl8 bh8
 have hq0 : (M.taken r s player) = M.captured r s player := by rw [hR]
 refine Qa rfl <| JL.nil ?_
 exact zro (Up.refl _ _)
theorem c_impl_Rules_takeCaptures (r : M.Rul) {v_r : Value} (s : M.Sw) {v_s : Value} (player : Int) {w : World} (h_r : (Ty.agg (cRules r)).ok w v_r) (h_s : (Ty.agg (cSown s)).ok w v_s) (r0 : 2 ≤ r.pits := by exact om_) (r1 : r.pits ≤ 8 := by exact om_) (r2 : player = 0 ∨ player = 1 := by exact om_) (r3 : M.Good r s.pits s.stores 0 := by exact om_) (r4 : -1 ≤ s.last := by exact om_) (r5 : s.last < 2 * r.pits := by exact om_) : Ret Tryz.prog 151 [v_r, v_s, .int .i64 player] w (Ty.agg (cSown (M.take r s player))) := by
 have l1 := r3.lp
 have l2 := r3.ls
 have hlen := M.captured_len (s := s) (player := player) r5 r1
 revert v_r; apply opn
 revert v_s; apply opn
 intro A1 c1 h1 bl1 bh1 A2 c2 h2 bl2 bh2
 refine enter @Tryz.func151 @Tryz.ntmps151 rfl rfl ?_
 refine zent ?_
 obtain ⟨b3, o3, rfl⟩ := ints_some h1 (by omega)
 obtain ⟨b4, o4, rfl⟩ := ints_some h2 (by omega)
 refine zS <| zb rfl fun b5 => zb rfl fun b6 => za zeh fun b7 => zN <| Q9 2 rfl rfl ?_
 refine Q9 1 rfl rfl ?_
 refine Qm rfl <| zp rfl (fun w hw => c_impl_Rules_captured r s player (ok_ hw) (ok_ hw) (r3 := r3)) ?_
 intro u8 x8 A9 c9 h9 bl9 bh9
 refine Qa rfl <| zJ ?_
 refine zdr [7, 9] ?_
 refine jF 0 fld_139_0 rfl rfl ?_
 refine jB 1 1 ty_26 rfl rfl rfl rfl ?_
 refine jF 3 fld_139_1 rfl rfl ?_
 refine jB 4 1 ty_26 rfl rfl rfl rfl ?_
 refine y1 2 ?_
 refine ycs rfl rfl (fun w hw => c_impl_copyNumbers s.pits (ok_ hw)) ?_
 intro A10 c10 bl10 bh10
 refine jF 6 fld_139_0 rfl rfl ?_
 refine y1 5 ?_
 refine ycs rfl rfl (fun w hw => c_impl_copyNumbers s.stores (ok_ hw)) ?_
 intro A11 c11 bl11 bh11
 refine y1 7 ?_
 refine yst rfl rfl rfl ?_
 refine jF 8 fld_139_1 rfl rfl ?_
 refine y1 9 ?_
 refine yst rfl rfl rfl ?_
 refine yd ?_
 refine Js.fact (row_some (i := 0) rfl (by omega)) (fun hf12 => ?_)
 obtain ⟨b12, rfl⟩ := hf12
 refine Js.fact (row_some (i := 1) rfl (by omega)) (fun hf13 => ?_)
 obtain ⟨b13, rfl⟩ := hf13
 refine Js.seq <| zS <| Qm rfl <| Qz rfl <| Qm rfl <| JL.nil <| Js.block ?_
 refine zl [2, 4, 6, 22, 23] (fun F U l os u m => ∃ (k : Nat) (ps ss : List Int), l = F [(24, .int .i64 (k : Int))] ∧ os = U [some (rowO 2 1 (.slice (some ⟨b12, 0, none⟩) s.stores.length c11) s.stores.length (ints_ ss) []), some (rowO 2 1 (.slice (some ⟨b13, 0, none⟩) s.pits.length c10) s.pits.length (ints_ ps) [])] ∧ (M.takeL player ((M.captured r s player).drop k) ps ss = M.takeL player (M.captured r s player) s.pits s.stores) ∧ (k ≤ (M.captured r s player).length) ∧ (M.Good r ps ss 0) ∧ m = (M.captured r s player).length - k) ⟨0, s.pits, s.stores, rfl, rfl, by rfl, zt, by exact r3, rfl⟩ ?_
 rintro _ _ u14 _ ⟨k, ps, ss, rfl, rfl, hS, hk, hG, rfl⟩ x14
 refine zn ?_
 have l3 := hG.lp
 have l4 := hG.ls
 refine zS <| Ql rfl rfl <| zJ ?_
 refine zi (fun h15 h15' => ?_) fun h15 h15' => ?_
 ·
  have hk2 : k < (M.captured r s player).length := by have := h15; simp at this; omega
  have hx := M.captured_mem (r := r) (s := s) (player := player) r5 (M.nth_mem hk2)
  have hvx := hG.pit (M.nth (M.captured r s player) k)
  have hvs := hG.store player
  obtain ⟨b16, o16, he16, hc16⟩ := ints_elem (Ty.mono _ h9 x14.vis) (i := k) (by omega)
  refine Js.skip <| Js.seq <| Js.block <| zS <| Qq (p_indexAddr el_26 rfl rfl (by omega) (by omega) he16) <| QC hc16 rfl <| Qa rfl <| zJ ?_
  refine zdr [12] ?_
  refine jF 0 fld_139_1 rfl rfl ?_
  refine jB 1 3 ty_26 rfl rfl rfl rfl ?_
  refine jM 2 rfl rfl ?_
  refine jI 3 el_26 rfl rfl rfl rfl ?_
  refine JH.q 4 rfl (q_load1 ty_2.h rfl (Mem.row (i := 0) rfl (ints_getI (i := player) (by omega)))) ?_
  refine jF 5 fld_139_0 rfl rfl ?_
  refine jB 6 3 ty_26 rfl rfl rfl rfl ?_
  refine jM 7 rfl rfl ?_
  refine jI 8 el_26 rfl rfl rfl rfl ?_
  refine JH.q 9 rfl (q_load1 ty_2.h rfl (Mem.row (i := 1) rfl (ints_getI (i := M.nth (M.captured r s player) k) (by omega)))) ?_
  refine JH.p 10 rfl (p_add rfl rfl (IntWalk.i64_in _ (by omega))) ?_
  refine jI 11 el_26 rfl rfl rfl rfl ?_
  refine y1 12 ?_
  refine JHo.s rfl (e_storeRow (i := 0) (xs' := ints_ (M.setI ss player ((M.getI ss player) + (M.getI ps (M.nth (M.captured r s player) k))))) ty_2.h rfl rfl rfl rfl rfl rfl (ints_lt (i := player.toNat) (by omega)) (ints_setL (i := player.toNat) (by omega))) (.inr rfl) ?_
  rintro _ _ _ ⟨rfl, rfl⟩ _
  refine znh ?_
  refine yd ?_
  refine Js.region <| Qf fh rfl <| Q0 3 rfl rfl rfl <| Qm rfl <| Qq (p_indexAddr el_26 rfl rfl (by omega) (by omega) rfl) ?_
  refine JL.s (e_storeRow (i := 1) (xs' := ints_ (M.setI ps (M.nth (M.captured r s player) k) 0)) ty_2.h rfl rfl rfl rfl rfl rfl (ints_lt (i := (M.nth (M.captured r s player) k).toNat) (by omega)) (ints_setL (i := (M.nth (M.captured r s player) k).toNat) (by omega))) ?_
  rintro _ _ _ ⟨rfl, rfl⟩ _
  refine znl ?_
  refine JL.nil <| Js.blockEnd <| Js.region <| Qp rfl rfl <| Qm rfl <| JL.nil ?_
  exact zag ⟨k + 1, M.setI ps (M.nth (M.captured r s player) k) 0, M.setI ss player ((M.getI ss player) + (M.getI ps (M.nth (M.captured r s player) k))), rfl, rfl, by rw [M.drop_nth hk2, M.takeL] at hS; exact hS, zt, by exact hG.takeStep hx.1 hx.2 (by omega) (by omega), rfl⟩ x14
 rw [List.drop_eq_nil_of_le (by omega), M.take_eq r5 (by omega) (by omega)] at hS
 injection hS with hT1 hT2
 refine zx ?_
 have hq0 : ps = (M.take r s player).pits := by first | exact hT1 | exact hT2 | rfl
 have hq1 : ss = (M.take r s player).stores := by first | exact hT1 | exact hT2 | rfl
 have hq2 : s.last = (M.take r s player).last := by first | exact hT1 | exact hT2 | rfl
 have hq3 : s.laps = (M.take r s player).laps := by first | exact hT1 | exact hT2 | rfl
 refine zS <| Q9 3 rfl rfl ?_
 refine zw 2 rfl rfl rfl ?_
 refine JL.nil ?_
 exact zro (x8.trans x14)
theorem c_impl_Rules_mustFeed (r : M.Rul) {v_r : Value} (p : M.Pos) {v_p : Value} {w : World} (h_r : (Ty.agg (cRules r)).ok w v_r) (h_p : (Ty.agg (cPosition p)).ok w v_p) (r0 : M.okP r p = true := by exact om_) : RetV Tryz.prog 153 [v_r, v_p] w (.bool (M.mustFeed r p)) := by
 obtain ⟨g1, g2, g3, g4, g5, g6, g7⟩ := M.okP_bd r0
 revert v_r; apply opn
 revert v_p; apply opn
 intro A1 c1 h1 bl1 bh1 A2 c2 h2 bl2 bh2
 refine enter @Tryz.func153 @Tryz.ntmps153 rfl rfl ?_
 refine zent ?_
 refine zS <| zb rfl fun b3 => zb rfl fun b4 => Qa rfl <| zN <| Qf fh rfl <| Q0 1 rfl rfl rfl <| Qm rfl <| zgq (Gd.t1 rfl rfl rfl) (fun hc => L9 1 rfl rfl) <| zg (Gd.t1 rfl rfl rfl) (fun hc => p_fieldAddr fld_28_0.h rfl) <| zgq (Gd.t1 rfl rfl rfl) (fun hc => q_load1 ty_26.h (gh hc rfl) (Mem.box (i := 0) rfl rfl)) <| zg (Gd.t1 rfl rfl rfl) (fun hc => p_fieldAddr fld_28_2.h rfl) <| zgq (Gd.t1 rfl rfl rfl) (fun hc => q_load1 ty_2.h (gh hc rfl) (Mem.box (i := 0) rfl rfl)) <| zg (Gd.t1 rfl rfl rfl) (fun hc => p_sub rfl (gh hc rfl) (IntWalk.i64_in _ (by omega))) ?_
 refine zgv (Gd.t1 rfl rfl rfl) (fun hc => (opds_3 (gh hc rfl) (gh hc rfl) (gh hc rfl))) (fun hc => (fun w hw => c_impl_Rules_side r p.pits (1 - p.player) (ok_ hw) (ok_ hw) (r4 := g5))) ?_
 refine zg (Gd.t1 rfl rfl rfl) (fun hc => p_eql (gh hc rfl) rfl) <| Qq (p_pickAnd rfl rfl rfl) <| Qa rfl <| JL.nil ?_
 refine zR (Up.refl _ _) ?_
 simp [outV, M.mustFeed]
theorem c_impl_Rules_done (r : M.Rul) {v_r : Value} (p : M.Pos) {v_p : Value} (move : Int) {w : World} (h_r : (Ty.agg (cRules r)).ok w v_r) (h_p : (Ty.agg (cPosition p)).ok w v_p) (r0 : p.pits.length ≤ 4194304 := by exact om_) (r1 : p.stores.length ≤ 4194304 := by exact om_) : Ret Tryz.prog 107 [v_r, v_p, .int .i64 move] w (Ty.tup [Ty.agg (cSown ((M.done r p move).1)), Ty.int ((M.done r p move).2)]) := by
 revert v_r; apply opn
 revert v_p; apply opn
 intro A1 c1 h1 bl1 bh1 A2 c2 h2 bl2 bh2
 refine enter @Tryz.func107 @Tryz.ntmps107 rfl rfl ?_
 refine zent ?_
 refine zS <| zb rfl fun b3 => zb rfl fun b4 => za zeh fun b5 => Qa rfl <| zN <| Q9 2 rfl rfl ?_
 refine Q9 1 rfl rfl ?_
 refine Qm rfl <| zp rfl (fun w hw => c_impl_sowMove r p move (ok_ hw) (ok_ hw)) ?_
 intro u6 x6 v7 h7
 refine Qm rfl <| Qx rfl rfl <| Qx rfl rfl <| Qa rfl <| Qa rfl <| zJ <| zS <| Qm rfl <| Qd rfl rfl <| JL.nil ?_
 refine zi (fun h8 h8' => ?_) fun h8 h8' => ?_
 ·
  have hz : ¬ (M.sowMove r p move).1 = 0 := by simpa using h8
  have hD : M.done r p move = (M.Sw.zero, (M.sowMove r p move).1) := by unfold M.done; rw [if_pos hz]
  have hq0 : [] = ((M.done r p move).1).pits := rp_ hD
  have hq1 : [] = ((M.done r p move).1).stores := rp_ hD
  have hq2 : 0 = ((M.done r p move).1).last := rp_ hD
  have hq3 : 0 = ((M.done r p move).1).laps := rp_ hD
  have hq4 : ((M.sowMove r p move).1) = (M.done r p move).2 := rp_ hD
  refine zS <| Qb ?_
  refine Qm rfl <| zw 0 rfl rfl rfl ?_
  refine Qa rfl <| JL.nil ?_
  exact zro x6
 have hz : (M.sowMove r p move).1 = 0 := by simpa using h8
 obtain ⟨hok, m0, m1, hG, q0, q1, hsum⟩ := M.sowMove_ok hz
 obtain ⟨g1, g2, g3, g4, g5, g6, g7⟩ := M.okP_bd hok
 have hG2 := (M.take_keeps g7 hG q1).1
 have hao := M.Good.ok hG2
 have hl2 := hG2.lp
 have ⟨g8, g9⟩ : p.pits.length ≤ 4194304 ∧ p.stores.length ≤ 4194304 := by omega
 refine Js.skip <| Js.seq ?_
 refine zk [3, 4, 6] (fun F U l os u => ∃ (b9 o9 b11 : Nat) (A10_0 : Option Addr) (c10_0 : Nat) (A10_1 : Option Addr) (c10_1 : Nat) (f10 : List Nat) (A9_10 : Option Addr) (c9_10 : Nat) (A9_11 : Option Addr) (c9_11 : Nat) (A9_14 : Option Addr) (c9_14 : Nat), l = F [(8, .pointer (some ⟨b9, o9, none⟩)), (10, .pointer (some ⟨b11, 0, none⟩))] ∧ os = [boxO b11 [.slice A10_0 (((M.take r ((M.sowMove r p move).2.1) p.player).pits).length) c10_0, .slice A10_1 (((M.take r ((M.sowMove r p move).2.1) p.player).stores).length) c10_1, .int .i64 ((M.take r ((M.sowMove r p move).2.1) p.player).last), .int .i64 ((M.take r ((M.sowMove r p move).2.1) p.player).laps)] 139, ownC (cSown (M.take r ((M.sowMove r p move).2.1) p.player)) [.slice A10_0 (((M.take r ((M.sowMove r p move).2.1) p.player).pits).length) c10_0, .slice A10_1 (((M.take r ((M.sowMove r p move).2.1) p.player).stores).length) c10_1, .int .i64 ((M.take r ((M.sowMove r p move).2.1) p.player).last), .int .i64 ((M.take r ((M.sowMove r p move).2.1) p.player).laps)] f10] ++ U [] ∧ (RowAt u b9 o9 [.int .i64 r.pits, .int .i64 r.seeds, .bool r.stores, .bool r.skip, .bool r.relay, .bool r.feed, .bool r.again, .int .i64 r.capture, .int .i64 r.slam, .int .i64 p.player, .slice A9_10 ((((M.sowMove r p move).2.1).pits).length) c9_10, .slice A9_11 ((((M.sowMove r p move).2.1).stores).length) c9_11, .int .i64 (((M.sowMove r p move).2.1).last), .int .i64 (((M.sowMove r p move).2.1).laps), .slice A9_14 (((M.sowMove r p move).2.2).length) c9_14]) ∧ ((((M.sowMove r p move).2.1).pits).length ≤ c9_10) ∧ (c9_10 ≤ 9223372036854775807) ∧ ((Ty.ints 2 (((M.sowMove r p move).2.1).pits)).ok u (.slice A9_10 ((((M.sowMove r p move).2.1).pits).length) c9_10)) ∧ ((((M.sowMove r p move).2.1).stores).length ≤ c9_11) ∧ (c9_11 ≤ 9223372036854775807) ∧ ((Ty.ints 2 (((M.sowMove r p move).2.1).stores)).ok u (.slice A9_11 ((((M.sowMove r p move).2.1).stores).length) c9_11)) ∧ (((M.sowMove r p move).2.2).length ≤ c9_14) ∧ (c9_14 ≤ 9223372036854775807) ∧ ((Ty.ints 2 ((M.sowMove r p move).2.2)).ok u (.slice A9_14 (((M.sowMove r p move).2.2).length) c9_14)) ∧ (((M.take r ((M.sowMove r p move).2.1) p.player).pits).length ≤ c10_0) ∧ (c10_0 ≤ 9223372036854775807) ∧ (((M.take r ((M.sowMove r p move).2.1) p.player).stores).length ≤ c10_1) ∧ (c10_1 ≤ 9223372036854775807)) ?_ ?_
 ·
  refine zdr [9] ?_
  refine JH.q 0 rfl (L9 2 rfl rfl) ?_
  refine jM 1 rfl rfl ?_
  obtain ⟨b15, o15, A15_10, c15_10, A15_11, c15_11, A15_14, c15_14, rfl, hr15, h15_10, h15_11, h15_14, bl15_10, bh15_10, bl15_11, bh15_11, bl15_14, bh15_14⟩ := ref_sowing (box_ref (opt_yes h7 (by exact decide_eq_true hz)))
  refine jN 2 rfl rfl ?_
  refine jF 3 fld_185_2 rfl rfl ?_
  refine JH.w 4 rfl (fun os' u' hv => LS 10 (hr15.vis hv) rfl) ?_
  refine jF 5 fld_28_2 rfl rfl ?_
  refine jB 6 1 ty_2 rfl rfl rfl rfl ?_
  refine y2 7 8 ?_ ?_
  ·
   refine ycs rfl rfl (fun w hw => c_impl_Rules_takeCaptures r ((M.sowMove r p move).2.1) p.player (ok_ hw) (ok_ hw) (r3 := hG)) ?_
   intro A16_0 c16_0 bl16_0 bh16_0 A16_1 c16_1 bl16_1 bh16_1 f16
   refine y1 8 ?_
   refine ya rfl fun b17 => ?_
   refine y1 9 ?_
   refine yst rfl rfl rfl ?_
   refine yd ?_
   exact zm ⟨_, _, _, _, _, _, _, _, _, _, _, _, _, _, rfl, rfl, hr15, zt, zt, h15_10, zt, zt, h15_11, zt, zt, h15_14, zt, zt, zt, zt⟩ (Up.refl _ _)
  refine ya rfl fun b18 => ?_
  refine y1 7 ?_
  refine ycs rfl rfl (fun w hw => c_impl_Rules_takeCaptures r ((M.sowMove r p move).2.1) p.player (ok_ hw) (ok_ hw) (r3 := hG)) ?_
  intro A19_0 c19_0 bl19_0 bh19_0 A19_1 c19_1 bl19_1 bh19_1 f19
  refine y1 9 ?_
  refine yst rfl rfl rfl ?_
  refine yd ?_
  refine zh [1, 0, 0, 0, 0] ?_
  exact zm ⟨_, _, _, _, _, _, _, _, _, _, _, _, _, _, rfl, rfl, hr15, zt, zt, h15_10, zt, zt, h15_11, zt, zt, h15_14, zt, zt, zt, zt⟩ (Up.refl _ _)
 rintro _ _ u14 ⟨b9, o9, b11, A10_0, c10_0, A10_1, c10_1, f10, A9_10, c9_10, A9_11, c9_11, A9_14, c9_14, rfl, rfl, f14_0, f14_1, f14_2, f14_3, f14_4, f14_5, f14_6, f14_7, f14_8, f14_9, f14_10, f14_11, f14_12, f14_13⟩ x14
 refine zn ?_
 refine Js.seq <| Js.seq ?_
 refine zdr [] ?_
 refine jF 0 fld_25_8 rfl rfl ?_
 refine jB 1 4 ty_2 rfl rfl rfl rfl ?_
 refine JH.p 2 rfl (p_eql rfl rfl) ?_
 refine jM 3 rfl rfl ?_
 refine JH.qg 4 rfl (Gd.t1 rfl rfl rfl) (fun hc => L9 4 rfl rfl) ?_
 refine JH.pg 5 rfl (Gd.t1 rfl rfl rfl) (fun hc => p_move rfl) ?_
 refine JH.pg 6 rfl (Gd.t1 rfl rfl rfl) (fun hc => p_nilCheck (gvt rfl hc)) ?_
 refine JH.pg 7 rfl (Gd.t1 rfl rfl rfl) (fun hc => p_fieldAddr fld_185_2.h (gvt rfl hc)) ?_
 refine JH.wg 8 rfl (Gd.t1 rfl rfl rfl) (fun hc os' u' hv => LS 10 (f14_0.vis hv) (gvt rfl hc)) ?_
 refine JH.pg 9 rfl (Gd.t1 rfl rfl rfl) (fun hc => p_fieldAddr fld_28_2.h rfl) ?_
 refine JH.qg 10 rfl (Gd.t1 rfl rfl rfl) (fun hc => q_load1 ty_2.h (gvt rfl hc) (Mem.box (i := 3) rfl rfl)) ?_
 refine y1 11 ?_
 refine JHo.ge rfl (Gd.t1 rfl rfl rfl) (fun hc => e_callV fn_152.h (opds_3 (gvt rfl hc) (gvt rfl hc) (gvt rfl hc)) (fun w hw => c_impl_Rules_slams r ((M.sowMove r p move).2.1) p.player (ok_ hw) (ok_ hw) (r0 := (oh_ hc)) (r1 := (oh_ hc)) (r2 := (oh_ hc)) (r3 := hG) (r4 := (oh_ hc)) (r5 := (oh_ hc)))) ?_
 refine JH.p 12 rfl (p_pickAnd rfl rfl rfl) ?_
 refine jM 13 rfl rfl ?_
 refine JH.qg 14 rfl (Gd.f1 rfl rfl rfl) (fun hc => L9 4 rfl rfl) ?_
 refine JH.qg 15 rfl (Gd.f1 rfl rfl rfl) (fun hc => L9 3 rfl rfl) ?_
 refine y1 16 ?_
 refine JHo.ge rfl (Gd.f1 rfl rfl rfl) (fun hc => e_callV fn_153.h (opds_2 (gvt rfl hc) (gvt rfl hc)) (fun w hw => c_impl_Rules_mustFeed r p (ok_ hw) (ok_ hw) (r0 := hok))) ?_
 refine JH.pg 17 rfl (Gd.f1 rfl rfl rfl) (fun hc => p_move (gvt rfl hc)) ?_
 refine JH.qg 18 rfl (Gd.t2 rfl rfl rfl) (fun hc => L9 4 rfl rfl) ?_
 refine JH.pg 19 rfl (Gd.t2 rfl rfl rfl) (fun hc => p_fieldAddr fld_139_0.h rfl) ?_
 refine JH.qg 20 rfl (Gd.t2 rfl rfl rfl) (fun hc => q_load1 ty_26.h (gvt rfl hc) (Mem.box (i := 0) rfl rfl)) ?_
 refine JH.pg 21 rfl (Gd.t2 rfl rfl rfl) (fun hc => p_fieldAddr fld_28_2.h rfl) ?_
 refine JH.qg 22 rfl (Gd.t2 rfl rfl rfl) (fun hc => q_load1 ty_2.h (gvt rfl hc) (Mem.box (i := 3) rfl rfl)) ?_
 refine JH.pg 23 rfl (Gd.t2 rfl rfl rfl) (fun hc => p_sub rfl (gvt rfl hc) (IntWalk.i64_in _ (by have hc9 := hc; (try simp only [Bool.and_eq_true, Bool.not_eq_true', Bool.and_eq_false_iff, decide_eq_false_iff_not] at hc9); omega))) ?_
 refine y1 24 ?_
 refine JHo.ge rfl (Gd.t2 rfl rfl rfl) (fun hc => e_callV fn_154.h (opds_3 (gvt rfl hc) (gvt rfl hc) (gvt rfl hc)) (fun w hw => c_impl_Rules_side r ((M.take r ((M.sowMove r p move).2.1) p.player).pits) (1 - p.player) (ok_ hw) (ok_ hw) (r0 := (by have hc9 := hc; (try simp only [Bool.and_eq_true, Bool.not_eq_true', Bool.and_eq_false_iff, decide_eq_false_iff_not] at hc9); omega)) (r1 := (by have hc9 := hc; (try simp only [Bool.and_eq_true, Bool.not_eq_true', Bool.and_eq_false_iff, decide_eq_false_iff_not] at hc9); omega)) (r2 := (by have hc9 := hc; (try simp only [Bool.and_eq_true, Bool.not_eq_true', Bool.and_eq_false_iff, decide_eq_false_iff_not] at hc9); omega)) (r3 := (by have hc9 := hc; (try simp only [Bool.and_eq_true, Bool.not_eq_true', Bool.and_eq_false_iff, decide_eq_false_iff_not] at hc9); omega)) (r4 := hao.1))) ?_
 refine JH.pg 25 rfl (Gd.t2 rfl rfl rfl) (fun hc => p_eql (gvt rfl hc) rfl) ?_
 refine JH.pg 26 rfl (Gd.f1 rfl rfl rfl) (fun hc => p_pickAnd (gvt rfl hc) (gvl rfl hc) rfl) ?_
 refine JH.p 27 rfl (p_pickOr rfl rfl rfl) ?_
 refine yd ?_
 refine zi (fun h20 h20' => ?_) fun h20 h20' => ?_
 ·
  have hD : M.done r p move = (M.Sw.zero, 9) := by unfold M.done; rw [if_neg (by simpa using hz), if_pos (by simpa using h20)]
  have hq0 : [] = ((M.done r p move).1).pits := rp_ hD
  have hq1 : [] = ((M.done r p move).1).stores := rp_ hD
  have hq2 : 0 = ((M.done r p move).1).last := rp_ hD
  have hq3 : 0 = ((M.done r p move).1).laps := rp_ hD
  have hq4 : 9 = (M.done r p move).2 := rp_ hD
  refine zS <| Qb ?_
  refine zw 2 rfl rfl rfl ?_
  refine Qa rfl <| JL.nil ?_
  exact zro (x6.trans x14)
 have hD : M.done r p move = (M.take r (M.sowMove r p move).2.1 p.player, 0) := by unfold M.done; rw [if_neg (by simpa using hz), if_neg (by simpa using h20)]
 have hq0 : (M.take r ((M.sowMove r p move).2.1) p.player) = (M.done r p move).1 := rp_ hD
 have hq1 : 0 = (M.done r p move).2 := rp_ hD
 refine Js.skip <| zS <| Q9 0 rfl rfl ?_
 refine zw 2 rfl rfl rfl ?_
 refine Qa rfl <| JL.nil ?_
 exact zro (x6.trans x14)
theorem c_impl_MoveFault (r : M.Rul) {v_r : Value} (p : M.Pos) {v_p : Value} (move : Int) {w : World} (h_r : (Ty.agg (cRules r)).ok w v_r) (h_p : (Ty.agg (cPosition p)).ok w v_p) (r0 : p.pits.length ≤ 4194304 := by exact om_) (r1 : p.stores.length ≤ 4194304 := by exact om_) : RetV Tryz.prog 108 [v_r, v_p, .int .i64 move] w (.int .i64 ((M.done r p move).2)) := by
 revert v_r; apply opn
 revert v_p; apply opn
 intro A1 c1 h1 bl1 bh1 A2 c2 h2 bl2 bh2
 refine enter @Tryz.func108 @Tryz.ntmps108 rfl rfl ?_
 refine zent ?_
 refine zS <| zb rfl fun b3 => zb rfl fun b4 => Qa rfl <| zN <| Q9 1 rfl rfl ?_
 refine Q9 0 rfl rfl ?_
 refine Qm rfl <| zp rfl (fun w hw => c_impl_Rules_done r p move (ok_ hw) (ok_ hw)) ?_
 intro u5 x5 A6 c6 h6 bl6 bh6 A7 c7 h7 bl7 bh7
 refine Qm rfl <| Qx rfl rfl <| Qx rfl rfl <| za zeh fun b8 => zw 0 rfl rfl rfl ?_
 refine Qa rfl <| zN <| Qm rfl <| Qa rfl <| JL.nil ?_
 exact zr x5
theorem c_impl_Rules_results (r : M.Rul) {v_r : Value} (p : M.Pos) {v_p : Value} {w : World} (h_r : (Ty.agg (cRules r)).ok w v_r) (h_p : (Ty.agg (cPosition p)).ok w v_p) (r0 : M.okP r p = true := by exact om_) : Ret Tryz.prog 57 [v_r, v_p] w (Ty.sl 87 6 (M.results r p).length (lResult (M.results r p))) := by
 obtain ⟨g1, g2, g3, g4, g5, g6, g7⟩ := M.okP_bd r0
 revert v_r; apply opn
 revert v_p; apply opn
 intro A1 c1 h1 bl1 bh1 A2 c2 h2 bl2 bh2
 refine enter @Tryz.func57 @Tryz.ntmps57 rfl rfl ?_
 refine zent ?_
 obtain ⟨b3, o3, rfl⟩ := ints_some h2 (by omega)
 refine zS <| zb rfl fun b4 => zb rfl fun b5 => Qa rfl <| zN <| zbs fun b6 => ?_
 refine Qa rfl <| zJ <| zS <| Qf fh rfl <| Q0 2 rfl rfl rfl <| Qm rfl <| JL.nil <| Js.block ?_
 refine Js.vals (Ts := lResult []) (vs := []) (fun w => rfl) ?_
 refine zl [2, 3, 13] (fun F U l os u m => ∃ (k : Nat) (acc : List M.Res) (A8_5 : Option Addr) (c8_5 : Nat) (g8_5 : List Nat) (vs8_5 : List Value) (fl8_5 : List Nat), l = F [(5, .slice A8_5 acc.length c8_5), (14, .int .i64 (k : Int))] ∧ os = U [some (ownC (lResult acc) vs8_5 fl8_5), some (rowO 87 6 (.slice A8_5 acc.length c8_5) acc.length vs8_5 g8_5)] ∧ (acc = M.resultsTo r p k) ∧ (k ≤ r.pits) ∧ (acc.length ≤ c8_5) ∧ (c8_5 ≤ 9223372036854775807) ∧ m = (r.pits - k).toNat) ⟨0, [], _, _, _, _, _, rfl, rfl, by rfl, zt, zu, zu, rfl⟩ ?_
 rintro _ _ u8 _ ⟨k, acc, A8_5, c8_5, g8_5, vs8_5, fl8_5, rfl, rfl, hacc, hk, f8_2, f8_3, rfl⟩ x8
 refine zn ?_
 have hlen := M.resultsTo_len (r := r) (p := p) k
 have hlacc : acc.length ≤ k := by rw [hacc]; exact hlen
 refine zS <| Ql rfl rfl <| zJ ?_
 refine zi (fun h9 h9' => ?_) fun h9 h9' => ?_
 ·
  refine Js.skip <| Js.seq <| Js.block <| zS <| Qm rfl <| Qa rfl <| zN <| Q9 3 rfl rfl ?_
  refine Q9 2 rfl rfl ?_
  refine Qm rfl <| zc rfl (fun w hw => c_impl_Rules_done r p (k : Int) (ok_ hw) (ok_ hw)) ?_
  intro A12 c12 bl12 bh12 A13 c13 bl13 bh13
  refine Qm rfl <| Qx rfl rfl <| Qx rfl rfl <| za zeh fun b14 => zw 0 rfl rfl rfl ?_
  refine Qa rfl <| zJ <| zS <| Qm rfl <| Qd rfl rfl <| JL.nil ?_
  refine zi (fun h15 h15' => ?_) fun h15 h15' => ?_
  ·
   have hacc2 := (M.resultsTo_no (r := r) (p := p) (k := k) (by simpa using h15)).symm
   refine zx ?_
   refine Js.region <| Qp rfl rfl <| Qm rfl <| JL.nil ?_
   refine zd [3, 3, 3, 3] rfl fun u16 x16 => ?_
   exact zag ⟨k + 1, acc, _, _, _, _, _, rfl, rfl, by rw [hacc]; exact hacc2, zt, zu, zu, rfl⟩ (x8.trans x16)
  have hz : (M.done r p k).2 = 0 := by simpa using h15
  obtain ⟨_, _, _, hG⟩ := M.done_good hz
  have l3 := hG.ls
  have hs1 := hG.store p.player
  have hs2 := (M.Good.of_ok r0).store p.player
  refine Js.fact (row_some (i := 1) rfl (by omega)) (fun hf17 => ?_)
  obtain ⟨b17, rfl⟩ := hf17
  refine Js.skip <| zS <| Qf fh rfl <| Q0 6 rfl rfl rfl <| Qm rfl <| zg (Gd.t1 rfl rfl rfl) (fun hc => p_fieldAddr fld_139_2.h rfl) <| zgq (Gd.t1 rfl rfl rfl) (fun hc => q_load1 ty_2.h (gh hc rfl) (Mem.box (i := 0) rfl rfl)) <| zg (Gd.t1 rfl rfl rfl) (fun hc => p_eql (gh hc rfl) rfl) <| Qq (p_pickAnd rfl rfl rfl) <| Qa rfl <| zN <| Qf fh rfl <| Q0 0 rfl rfl rfl <| Qf fh rfl ?_
  refine Q0 0 rfl rfl rfl <| Qf fh rfl <| Q0 5 rfl rfl rfl <| Qs rfl rfl <| Qb ?_
  refine za zeh fun b18 => zw 0 rfl rfl rfl ?_
  refine zJ <| zS <| Qm rfl <| JL.nil ?_
  refine zi (fun h19 h19' => ?_) fun h19 h19' => ?_
  ·
   have hacc2 := (M.resultsTo_yes hz).symm
   unfold M.resOf at hacc2
   rw [if_pos h19] at hacc2
   refine Js.region <| Qf fh rfl <| Q0 6 rfl rfl rfl <| Qf fh rfl <| zw 0 rfl rfl rfl ?_
   refine JL.nil ?_
   refine zdr [19] ?_
   refine jM 0 rfl rfl ?_
   refine jM 1 rfl rfl ?_
   refine jF 2 fld_139_1 rfl rfl ?_
   refine jB 3 1 ty_26 rfl rfl rfl rfl ?_
   refine jF 4 fld_28_2 rfl rfl ?_
   refine jB 5 6 ty_2 rfl rfl rfl rfl ?_
   refine jI 6 el_26 rfl rfl rfl rfl ?_
   refine JH.q 7 rfl (q_load1 ty_2.h rfl (Mem.row (i := 2) rfl (ints_getI (i := p.player) (by omega)))) ?_
   refine jF 8 fld_28_1 rfl rfl ?_
   refine jB 9 6 ty_26 rfl rfl rfl rfl ?_
   refine jF 10 fld_28_2 rfl rfl ?_
   refine jB 11 6 ty_2 rfl rfl rfl rfl ?_
   refine jI 12 el_26 rfl rfl rfl rfl ?_
   refine JH.w 13 rfl (fun os' u' hv => q_load1 ty_2.h rfl (Mem.pub (ints_cellI (i := p.player) (Ty.mono _ h2 (x8.vis.trans hv)) (by omega)))) ?_
   refine JH.p 14 rfl (p_sub rfl rfl (IntWalk.i64_in _ (by omega))) ?_
   refine jM 15 rfl rfl ?_
   refine JH.q 16 rfl (L9 0 rfl rfl) ?_
   refine JH.p 17 rfl (q_bld) ?_
   refine y1 18 ?_
   refine ybs rfl fun b22 => ?_
   refine y1 19 ?_
   refine JHo.e rfl (e_append (i := 6) (n' := (acc ++ [(M.Res.mk (k : Int) ((M.getI (((M.done r p (k : Int)).1).stores) p.player) - (M.getI p.stores p.player)) (r.again && (decide (((M.done r p (k : Int)).1).last = (-1)))) (M.Pos.mk (((M.done r p (k : Int)).1).pits) (((M.done r p (k : Int)).1).stores) p.player))]).length) (vs' := vs8_5 ++ [.int .i64 (k : Int), .int .i64 ((M.getI (((M.done r p (k : Int)).1).stores) p.player) - (M.getI p.stores p.player)), .bool (r.again && (decide (((M.done r p (k : Int)).1).last = (-1)))), .slice A12 ((((M.done r p (k : Int)).1).pits).length) c12, .slice (some ⟨b17, 0, none⟩) ((((M.done r p (k : Int)).1).stores).length) c13, .int .i64 p.player]) el_84 rfl rfl rfl rfl (src_row (i := 0) und_84 rfl rfl) (by omega) (by omega) ln2_ (rfl)) (.inr rfl) ?_
   rintro v24 _ _ ⟨⟨g25, rfl⟩, rfl⟩ _
   refine JH.fact (row_form' (i := 6) rfl) (fun hf26 => ?_)
   obtain ⟨A26, c26, rfl, bl26, bh26⟩ := hf26
   refine znh ?_
   refine jA 20 rfl rfl ?_
   refine yd ?_
   refine Js.pack2 (i := 4) (j := 3) (cResult (M.Res.mk (k : Int) ((M.getI (((M.done r p (k : Int)).1).stores) p.player) - (M.getI p.stores p.player)) (r.again && (decide (((M.done r p (k : Int)).1).last = (-1)))) (M.Pos.mk (((M.done r p (k : Int)).1).pits) (((M.done r p (k : Int)).1).stores) p.player))) [.int .i64 (k : Int), .int .i64 ((M.getI (((M.done r p (k : Int)).1).stores) p.player) - (M.getI p.stores p.player)), .bool (r.again && (decide (((M.done r p (k : Int)).1).last = (-1)))), .slice A12 ((((M.done r p (k : Int)).1).pits).length) c12, .slice (some ⟨b17, 0, none⟩) ((((M.done r p (k : Int)).1).stores).length) c13, .int .i64 p.player] rfl rfl (fun w h1 h2 => pack_Result (ints_row h1 rfl) (ints_row h2 rfl)) (fun f27 => ?_)
   refine Js.joinL (i := 4) (j := 0) (Vs := lResult (acc ++ [(M.Res.mk (k : Int) ((M.getI (((M.done r p (k : Int)).1).stores) p.player) - (M.getI p.stores p.player)) (r.again && (decide (((M.done r p (k : Int)).1).last = (-1)))) (M.Pos.mk (((M.done r p (k : Int)).1).pits) (((M.done r p (k : Int)).1).stores) p.player))])) rfl rfl (lResult_snoc _ _) (fun f28 => ?_)
   refine zn ?_
   refine Js.blockEnd <| Js.region <| Qp rfl rfl <| Qm rfl <| JL.nil ?_
   refine zd [0, 3, 3, 3] rfl fun u29 x29 => ?_
   exact zag ⟨k + 1, acc ++ [(M.Res.mk (k : Int) ((M.getI (((M.done r p (k : Int)).1).stores) p.player) - (M.getI p.stores p.player)) (r.again && (decide (((M.done r p (k : Int)).1).last = (-1)))) (M.Pos.mk (((M.done r p (k : Int)).1).pits) (((M.done r p (k : Int)).1).stores) p.player))], _, _, _, _, _, rfl, rfl, by rw [hacc]; exact hacc2, zt, zu, zu, rfl⟩ (x8.trans x29)
  have hacc2 := (M.resultsTo_yes hz).symm
  unfold M.resOf at hacc2
  rw [if_neg (by simpa using h19)] at hacc2
  refine Js.skip ?_
  refine zdr [19] ?_
  refine jM 0 rfl rfl ?_
  refine jM 1 rfl rfl ?_
  refine jF 2 fld_139_1 rfl rfl ?_
  refine jB 3 1 ty_26 rfl rfl rfl rfl ?_
  refine jF 4 fld_28_2 rfl rfl ?_
  refine jB 5 6 ty_2 rfl rfl rfl rfl ?_
  refine jI 6 el_26 rfl rfl rfl rfl ?_
  refine JH.q 7 rfl (q_load1 ty_2.h rfl (Mem.row (i := 2) rfl (ints_getI (i := p.player) (by omega)))) ?_
  refine jF 8 fld_28_1 rfl rfl ?_
  refine jB 9 6 ty_26 rfl rfl rfl rfl ?_
  refine jF 10 fld_28_2 rfl rfl ?_
  refine jB 11 6 ty_2 rfl rfl rfl rfl ?_
  refine jI 12 el_26 rfl rfl rfl rfl ?_
  refine JH.w 13 rfl (fun os' u' hv => q_load1 ty_2.h rfl (Mem.pub (ints_cellI (i := p.player) (Ty.mono _ h2 (x8.vis.trans hv)) (by omega)))) ?_
  refine JH.p 14 rfl (p_sub rfl rfl (IntWalk.i64_in _ (by omega))) ?_
  refine jM 15 rfl rfl ?_
  refine JH.q 16 rfl (L9 0 rfl rfl) ?_
  refine JH.p 17 rfl (q_bld) ?_
  refine y1 18 ?_
  refine ybs rfl fun b32 => ?_
  refine y1 19 ?_
  refine JHo.e rfl (e_append (i := 6) (n' := (acc ++ [(M.Res.mk (k : Int) ((M.getI (((M.done r p (k : Int)).1).stores) p.player) - (M.getI p.stores p.player)) (r.again && (decide (((M.done r p (k : Int)).1).last = (-1)))) (M.Pos.mk (((M.done r p (k : Int)).1).pits) (((M.done r p (k : Int)).1).stores) (1 - p.player)))]).length) (vs' := vs8_5 ++ [.int .i64 (k : Int), .int .i64 ((M.getI (((M.done r p (k : Int)).1).stores) p.player) - (M.getI p.stores p.player)), .bool (r.again && (decide (((M.done r p (k : Int)).1).last = (-1)))), .slice A12 ((((M.done r p (k : Int)).1).pits).length) c12, .slice (some ⟨b17, 0, none⟩) ((((M.done r p (k : Int)).1).stores).length) c13, .int .i64 (1 - p.player)]) el_84 rfl rfl rfl rfl (src_row (i := 0) und_84 rfl rfl) (by omega) (by omega) ln2_ (rfl)) (.inr rfl) ?_
  rintro v34 _ _ ⟨⟨g35, rfl⟩, rfl⟩ _
  refine JH.fact (row_form' (i := 6) rfl) (fun hf36 => ?_)
  obtain ⟨A36, c36, rfl, bl36, bh36⟩ := hf36
  refine znh ?_
  refine jA 20 rfl rfl ?_
  refine yd ?_
  refine Js.pack2 (i := 4) (j := 3) (cResult (M.Res.mk (k : Int) ((M.getI (((M.done r p (k : Int)).1).stores) p.player) - (M.getI p.stores p.player)) (r.again && (decide (((M.done r p (k : Int)).1).last = (-1)))) (M.Pos.mk (((M.done r p (k : Int)).1).pits) (((M.done r p (k : Int)).1).stores) (1 - p.player)))) [.int .i64 (k : Int), .int .i64 ((M.getI (((M.done r p (k : Int)).1).stores) p.player) - (M.getI p.stores p.player)), .bool (r.again && (decide (((M.done r p (k : Int)).1).last = (-1)))), .slice A12 ((((M.done r p (k : Int)).1).pits).length) c12, .slice (some ⟨b17, 0, none⟩) ((((M.done r p (k : Int)).1).stores).length) c13, .int .i64 (1 - p.player)] rfl rfl (fun w h1 h2 => pack_Result (ints_row h1 rfl) (ints_row h2 rfl)) (fun f37 => ?_)
  refine Js.joinL (i := 4) (j := 0) (Vs := lResult (acc ++ [(M.Res.mk (k : Int) ((M.getI (((M.done r p (k : Int)).1).stores) p.player) - (M.getI p.stores p.player)) (r.again && (decide (((M.done r p (k : Int)).1).last = (-1)))) (M.Pos.mk (((M.done r p (k : Int)).1).pits) (((M.done r p (k : Int)).1).stores) (1 - p.player)))])) rfl rfl (lResult_snoc _ _) (fun f38 => ?_)
  refine zn ?_
  refine Js.blockEnd <| Js.region <| Qp rfl rfl <| Qm rfl <| JL.nil ?_
  refine zd [0, 3, 3, 3] rfl fun u39 x39 => ?_
  exact zag ⟨k + 1, acc ++ [(M.Res.mk (k : Int) ((M.getI (((M.done r p (k : Int)).1).stores) p.player) - (M.getI p.stores p.player)) (r.again && (decide (((M.done r p (k : Int)).1).last = (-1)))) (M.Pos.mk (((M.done r p (k : Int)).1).pits) (((M.done r p (k : Int)).1).stores) (1 - p.player)))], _, _, _, _, _, rfl, rfl, by rw [hacc]; exact hacc2, zt, zu, zu, rfl⟩ (x8.trans x39)
 have hR : acc = M.results r p := by rw [hacc]; unfold M.results; rw [show k = r.pits.toNat by omega]
 refine zx ?_
 have hq0 : acc = M.results r p := by exact hR
 refine zS <| Qm rfl <| Qa rfl <| JL.nil ?_
 exact zro x8
theorem c_impl_Rules_resultOf (r : M.Rul) {v_r : Value} (p : M.Pos) {v_p : Value} (move : Int) {w : World} (h_r : (Ty.agg (cRules r)).ok w v_r) (h_p : (Ty.agg (cPosition p)).ok w v_p) (r0 : p.pits.length ≤ 4194304 := by exact om_) (r1 : p.stores.length ≤ 4194304 := by exact om_) : Ret Tryz.prog 58 [v_r, v_p, .int .i64 move] w (Ty.tup [Ty.agg (cResult ((M.make r p move).1)), Ty.int ((M.make r p move).2)]) := by
 revert v_r; apply opn
 revert v_p; apply opn
 intro A1 c1 h1 bl1 bh1 A2 c2 h2 bl2 bh2
 refine enter @Tryz.func58 @Tryz.ntmps58 rfl rfl ?_
 refine zent ?_
 refine zS <| zb rfl fun b3 => zb rfl fun b4 => za zeh fun b5 => Qa rfl <| zJ <| zS <| Q9 2 rfl rfl ?_
 refine Q9 1 rfl rfl ?_
 refine Qm rfl <| zv rfl (fun w hw => c_impl_MoveFault r p move (ok_ hw) (ok_ hw)) <| Qa rfl <| zN <| Qm rfl <| Qd rfl rfl <| JL.nil ?_
 refine zi (fun h6 h6' => ?_) fun h6 h6' => ?_
 ·
  have hD := M.make_no (r := r) (p := p) (move := move) (by simpa using h6)
  have hq0 : 0 = ((M.make r p move).1).move := by first | exact hE | (rw [hm]; done) | (rw [hD]; done) | (rw [hD]; rfl)
  have hq1 : 0 = ((M.make r p move).1).gain := by first | exact hE | (rw [hm]; done) | (rw [hD]; done) | (rw [hD]; rfl)
  have hq2 : false = ((M.make r p move).1).again := by first | exact hE | (rw [hm]; done) | (rw [hD]; done) | (rw [hD]; rfl)
  have hq3 : [] = (((M.make r p move).1).next).pits := by first | exact hE | (rw [hm]; done) | (rw [hD]; done) | (rw [hD]; rfl)
  have hq4 : [] = (((M.make r p move).1).next).stores := by first | exact hE | (rw [hm]; done) | (rw [hD]; done) | (rw [hD]; rfl)
  have hq5 : 0 = (((M.make r p move).1).next).player := by first | exact hE | (rw [hm]; done) | (rw [hD]; done) | (rw [hD]; rfl)
  have hq6 : ((M.done r p move).2) = (M.make r p move).2 := by first | exact hE | (rw [hm]; done) | (rw [hD]; done) | (rw [hD]; rfl)
  refine zS <| Qb ?_
  refine Qm rfl <| zw 0 rfl rfl rfl ?_
  refine Qa rfl <| JL.nil ?_
  exact zro (Up.refl _ _)
 have hz : (M.done r p move).2 = 0 := by simpa using h6
 have hm : (M.make r p move).2 = 0 := by rw [M.make_code]; exact hz
 have hok := (M.make_ok hm).1
 refine Js.skip <| Js.seq <| zS <| Q9 2 rfl rfl ?_
 refine Q9 1 rfl rfl ?_
 refine zcs rfl (fun w hw => c_impl_Rules_results r p (ok_ hw) (ok_ hw) (r0 := hok)) ?_
 intro A7 c7 vs7 f7 bl7 bh7
 refine Qz rfl <| Qm rfl <| JL.nil <| Js.block ?_
 refine zl [2, 6, 21, 22] (fun F U l os u m => ∃ (k : Nat), l = F [(23, .int .i64 (k : Int))] ∧ os = U [] ∧ (k ≤ (M.results r p).length) ∧ (∀ (j : Nat) (x : M.Res), j < k → (M.results r p)[j]? = some x → x.move ≠ move) ∧ m = (M.results r p).length - k) ⟨0, rfl, rfl, zt, by exact fun j x hj => absurd hj (by omega), rfl⟩ ?_
 rintro _ _ u8 _ ⟨k, rfl, rfl, hk, hn, rfl⟩ x8
 refine zn ?_
 refine zS <| Ql rfl rfl <| zJ ?_
 refine zi (fun h9 h9' => ?_) fun h9 h9' => ?_
 ·
  refine Js.skip <| Js.seq <| Js.block <| zS ?_
  refine JL.fact (row_some (i := 0) rfl (by omega)) (fun hf11 => ?_)
  obtain ⟨b11, rfl⟩ := hf11
  obtain ⟨y10, hy10⟩ : ∃ x, (M.results r p)[k]? = some x := ⟨_, List.getElem?_eq_getElem (by omega)⟩
  refine JL.fact (fun w hw => elemv_Result (Mem.ownC (i := 1) rfl w hw) hy10) (fun hf10 => ?_)
  obtain ⟨A10_3, c10_3, A10_4, c10_4, he10, bl10_3, bh10_3, bl10_4, bh10_4⟩ := hf10
  refine Qq (p_indexAddr el_84 rfl rfl (by omega) (by omega) rfl) <| Qw (q_loadN ty_87.h rfl (Mem.rowR' (i := 0) rfl he10) rfl rfl) <| za zeh fun b12 => zw 0 rfl rfl rfl ?_
  refine zN <| Qf fh rfl <| Q0 0 rfl rfl rfl <| Qm rfl <| Qe rfl rfl <| JL.nil ?_
  refine zi (fun h13 h13' => ?_) fun h13 h13' => ?_
  ·
   have hE := M.results_get hy10 (by simpa using h13)
   have hm2 := hm.symm
   refine zS <| Q9 0 rfl rfl ?_
   refine zw 3 rfl rfl rfl ?_
   refine Qa rfl <| JL.nil ?_
   refine Js.elemO cResult (i := 2) (xs := (M.results r p)) (fun _ => rfl) rfl hy10 he10 (fun f14 f14a f14b => ?_)
   refine zn ?_
   have hq0 : y10 = (M.make r p move).1 := by first | exact hE | (rw [hm]; done) | (rw [hD]; done) | (rw [hD]; rfl)
   have hq1 : 0 = (M.make r p move).2 := by first | exact hE | (rw [hm]; done) | (rw [hD]; done) | (rw [hD]; rfl)
   exact zro x8
  have hn2 := M.none_step hn hy10 (by simpa using h13)
  refine Js.skip <| Js.blockEnd <| Js.region <| Qp rfl rfl <| Qm rfl <| JL.nil ?_
  refine zd [1, 1, 1, 1, 1] rfl fun u15 x15 => ?_
  exact zag ⟨k + 1, rfl, rfl, zt, by exact hn2, rfl⟩ (x8.trans x15)
 obtain ⟨j, hj, hx, hmv⟩ := M.results_has hm; have h9 := h9; simp at h9; exact absurd hmv (hn j _ (by omega) hx)
theorem c_impl_Rules_endValue (r : M.Rul) {v_r : Value} (p : M.Pos) {v_p : Value} {w : World} (h_r : (Ty.agg (cRules r)).ok w v_r) (h_p : (Ty.agg (cPosition p)).ok w v_p) (r0 : M.okP r p = true := by exact om_) : RetV Tryz.prog 114 [v_r, v_p] w (.int .i64 (M.endV r p)) := by
 obtain ⟨g1, g2, g3, g4, g5, g6, g7⟩ := M.okP_bd r0
 have g8 := M.results_8 r0
 have b1 := M.side_bd g5 g2 p.player
 have b2 := M.side_bd g5 g2 (1 - p.player)
 revert v_r; apply opn
 revert v_p; apply opn
 intro A1 c1 h1 bl1 bh1 A2 c2 h2 bl2 bh2
 refine enter @Tryz.func114 @Tryz.ntmps114 rfl rfl ?_
 refine zent ?_
 refine zS <| zb rfl fun b3 => zb rfl fun b4 => Qa rfl <| zJ ?_
 refine zdr [] ?_
 refine JH.q 0 rfl (L9 1 rfl rfl) ?_
 refine jF 1 fld_28_0 rfl rfl ?_
 refine jB 2 0 ty_26 rfl rfl rfl rfl ?_
 refine jF 3 fld_28_2 rfl rfl ?_
 refine jB 4 0 ty_2 rfl rfl rfl rfl ?_
 refine JH.q 6 rfl (L9 1 rfl rfl) ?_
 refine jF 7 fld_28_0 rfl rfl ?_
 refine jB 8 0 ty_26 rfl rfl rfl rfl ?_
 refine jF 9 fld_28_2 rfl rfl ?_
 refine jB 10 0 ty_2 rfl rfl rfl rfl ?_
 refine JH.p 11 rfl (p_sub rfl rfl (IntWalk.i64_in _ (by omega))) ?_
 refine y1 5 ?_
 refine yv rfl rfl (fun w hw => c_impl_Rules_side r p.pits p.player (ok_ hw) (ok_ hw) (r4 := g5)) ?_
 refine y1 12 ?_
 refine yv rfl rfl (fun w hw => c_impl_Rules_side r p.pits (1 - p.player) (ok_ hw) (ok_ hw) (r4 := g5)) ?_
 refine JH.p 13 rfl (p_sub rfl rfl (IntWalk.i64_in _ (by omega))) ?_
 refine jA 14 rfl rfl ?_
 refine yd ?_
 refine zR (Up.refl _ _) ?_
 rfl
def S_impl_Rules_sizeUpTo (N : Nat) : Prop := ∀ (r : M.Rul) (v_r : Value) (p : M.Pos) (v_p : Value) (depth : Int) (w : World) (h_r : (Ty.agg (cRules r)).ok w v_r) (h_p : (Ty.agg (cPosition p)).ok w v_p) (r0 : M.okP r p = true) (r1 : 0 ≤ depth) (r2 : depth ≤ 8) (_ : depth.toNat = N), RetV Tryz.prog 162 [v_r, v_p, .int .i64 depth] w (.int .i64 (M.sizeT r depth.toNat p))
theorem c_impl_Rules_sizeUpTo_ : ∀ N, S_impl_Rules_sizeUpTo N := by
 intro N
 induction N using Nat.strongRecOn with
 | ind N ih =>
 intro r v_r p v_p depth w h_r h_p r0 r1 r2 hN
 obtain ⟨g1, g2, g3, g4, g5, g6, g7⟩ := M.okP_bd r0
 have g8 := M.results_8 r0
 revert v_r; apply opn
 revert v_p; apply opn
 intro A1 c1 h1 bl1 bh1 A2 c2 h2 bl2 bh2
 refine enter @Tryz.func162 @Tryz.ntmps162 rfl rfl ?_
 refine zent ?_
 refine zS <| zb rfl fun b3 => zb rfl fun b4 => Qa rfl <| zN <| Qa rfl <| zJ <| zS <| Qm rfl <| Qe rfl rfl <| JL.nil ?_
 refine zi (fun h5 h5' => ?_) fun h5 h5' => ?_
 ·
  have hE : M.sizeT r depth.toNat p = 1 := by rw [show depth.toNat = 0 by have := h5'; omega]; rfl
  refine zS <| Qm rfl <| Qa rfl <| JL.nil ?_
  refine zR (Up.refl _ _) ?_
  rw [hE]; rfl
 have hd : 1 ≤ depth := by have := h5'; omega
 refine Js.skip <| Js.seq <| zS <| Q9 1 rfl rfl ?_
 refine Q9 0 rfl rfl ?_
 refine zp rfl (fun w hw => c_impl_Rules_results r p (ok_ hw) (ok_ hw) (r0 := r0)) ?_
 intro u6 x6 A7 c7 h7 bl7 bh7
 refine Qz rfl <| Qm rfl <| JL.nil <| Js.block ?_
 refine zl [2, 3, 15, 16] (fun F U l os u m => ∃ (k : Nat) (z : Int), l = F [(7, .int .i64 z), (17, .int .i64 (k : Int))] ∧ os = U [] ∧ (M.szgo (M.sizeT r (depth - 1).toNat) z ((M.results r p).drop k) = M.sizeT r depth.toNat p) ∧ (1 ≤ z) ∧ (z ≤ 3000) ∧ (k ≤ (M.results r p).length) ∧ m = (M.results r p).length - k) ⟨0, 1, rfl, rfl, by exact (M.sizeT_d (by omega)).symm, zt, zt, zt, rfl⟩ ?_
 rintro _ _ u8 _ ⟨k, z, rfl, rfl, hS, z0, z1, hk, rfl⟩ x8
 refine zn ?_
 refine zS <| Ql rfl rfl <| zJ ?_
 refine zi (fun h9 h9' => ?_) fun h9 h9' => ?_
 ·
  obtain ⟨y10, hy10⟩ : ∃ x, (M.results r p)[k]? = some x := ⟨_, List.getElem?_eq_getElem (by omega)⟩
  obtain ⟨b10, o10, A10_3, c10_3, A10_4, c10_4, he10, hr10, h10_3, h10_4, bl10_3, bh10_3, bl10_4, bh10_4⟩ := elem_Result (Ty.mono _ h7 x8.vis) hy10
  have hb9 := M.sizeT_bd r (depth - 1).toNat y10.next
  refine Js.skip <| Js.seq <| Js.block <| zS <| Qq (p_indexAddr el_84 rfl rfl (by omega) (by omega) he10) <| QS 0 hr10 rfl ?_
  refine za zeh fun b11 => zw 0 rfl rfl rfl ?_
  refine zN <| Qm rfl <| Q9 2 rfl rfl ?_
  refine Qf fh rfl <| Q9 0 rfl rfl ?_
  refine Qm rfl <| Qs rfl rfl <| zv rfl (fun w hw => ih ((depth - 1).toNat) (by omega) r _ y10.next _ (depth - 1) w (ok_ hw) (ok_ hw) (M.results_ok (M.results_get0 hy10)) (by omega) (by omega) rfl) <| Qp rfl rfl <| Qa rfl <| zN <| Qm rfl <| Qg rfl rfl <| JL.nil ?_
  refine zi (fun h12 h12' => ?_) fun h12 h12' => ?_
  ·
   have hE := M.szgo_y hS hy10 (by simpa using h12)
   refine zS <| Qm rfl <| Qa rfl <| JL.nil ?_
   refine zR (x6.trans x8) ?_
   rw [hE]; rfl
  have hS2 := M.szgo_n hS hy10 (by simpa using h12)
  have hz9 := h12'
  refine Js.skip <| Js.blockEnd <| Js.region <| Qp rfl rfl <| Qm rfl <| JL.nil ?_
  refine zd [1, 1] rfl fun u13 x13 => ?_
  exact zag ⟨k + 1, z + (M.sizeT r (depth - 1).toNat y10.next), rfl, rfl, by exact hS2, zt, zt, zt, rfl⟩ (x8.trans x13)
 have hE := M.szgo_e hS (by have := h9'; omega)
 refine zx ?_
 refine zS <| Qm rfl <| Qa rfl <| JL.nil ?_
 refine zR (x6.trans x8) ?_
 rw [hE]; rfl
theorem c_impl_Rules_sizeUpTo (r : M.Rul) {v_r : Value} (p : M.Pos) {v_p : Value} (depth : Int) {w : World} (h_r : (Ty.agg (cRules r)).ok w v_r) (h_p : (Ty.agg (cPosition p)).ok w v_p) (r0 : M.okP r p = true := by exact om_) (r1 : 0 ≤ depth := by exact om_) (r2 : depth ≤ 8 := by exact om_) : RetV Tryz.prog 162 [v_r, v_p, .int .i64 depth] w (.int .i64 (M.sizeT r depth.toNat p)) := c_impl_Rules_sizeUpTo_ _ r v_r p v_p depth w h_r h_p r0 r1 r2 rfl
theorem c_impl_searchCode (r : M.Rul) {v_r : Value} (p : M.Pos) {v_p : Value} (depth : Int) {w : World} (h_r : (Ty.agg (cRules r)).ok w v_r) (h_p : (Ty.agg (cPosition p)).ok w v_p) (r0 : p.pits.length ≤ 4194304 := by exact om_) (r1 : p.stores.length ≤ 4194304 := by exact om_) : RetV Tryz.prog 118 [v_r, v_p, .int .i64 depth] w (.int .i64 (M.srchC r p depth)) := by
 revert v_r; apply opn
 revert v_p; apply opn
 intro A1 c1 h1 bl1 bh1 A2 c2 h2 bl2 bh2
 refine enter @Tryz.func118 @Tryz.ntmps118 rfl rfl ?_
 refine zent ?_
 refine zS <| zb rfl fun b3 => zb rfl fun b4 => Qa rfl <| zJ <| zS <| Q9 1 rfl rfl ?_
 refine Q9 0 rfl rfl ?_
 refine zv rfl (fun w hw => c_impl_ValidPosition r p (ok_ hw) (ok_ hw)) <| Qt rfl <| JL.nil ?_
 refine zi (fun h5 h5' => ?_) fun h5 h5' => ?_
 ·
  have hE := M.srchC_1 (depth := depth) (by simpa using h5)
  refine zS <| Qa rfl <| JL.nil ?_
  refine zR (Up.refl _ _) ?_
  rw [hE]; rfl
 have hok : M.okP r p = true := by simpa using h5
 refine Js.skip <| Js.seq <| zS <| Qm rfl <| zv rfl (fun w hw => c_impl_between depth 0 8) <| Qt rfl <| JL.nil ?_
 refine zi (fun h6 h6' => ?_) fun h6 h6' => ?_
 ·
  have hE := M.srchC_2 hok (by simpa using h6)
  refine zS <| Qa rfl <| JL.nil ?_
  refine zR (Up.refl _ _) ?_
  rw [hE]; rfl
 have hbt : M.betw depth 0 8 = true := by simpa using h6
 obtain ⟨d0, d1⟩ := M.betw_iff.1 hbt
 refine Js.skip <| Js.seq <| zS <| Q9 1 rfl rfl ?_
 refine Q9 0 rfl rfl ?_
 refine Qm rfl <| zv rfl (fun w hw => c_impl_Rules_sizeUpTo r p depth (ok_ hw) (ok_ hw) (r0 := hok)) <| Qg rfl rfl <| JL.nil ?_
 refine zi (fun h7 h7' => ?_) fun h7 h7' => ?_
 ·
  have hE := M.srchC_5 hok hbt ((M.sizeT_big _ _ _).1 (by simpa using h7))
  refine zS <| Qa rfl <| JL.nil ?_
  refine zR (Up.refl _ _) ?_
  rw [hE]; rfl
 have hE := M.srchC_0 hok hbt (fun h9 => absurd ((M.sizeT_big _ _ _).2 h9) (by simpa using h7))
 refine Js.skip <| zS <| Qa rfl <| JL.nil ?_
 refine zR (Up.refl _ _) ?_
 rw [hE]; rfl
theorem c_impl_Rules_moveValue (r : M.Rul) {v_r : Value} (x : M.Res) {v_x : Value} (value : Int) {w : World} (h_r : (Ty.agg (cRules r)).ok w v_r) (h_x : (Ty.agg (cResult x)).ok w v_x) (r0 : -96 ≤ x.gain ∧ x.gain ≤ 96 := by exact om_) (r1 : -100000 ≤ value ∧ value ≤ 100000 := by exact om_) : RetV Tryz.prog 62 [v_r, v_x, .int .i64 value] w (.int .i64 (M.moveV x value)) := by
 revert v_r; apply opn
 revert v_x; apply opn
 intro A1 c1 h1 bl1 bh1 A2 c2 h2 bl2 bh2
 refine enter @Tryz.func62 @Tryz.ntmps62 rfl rfl ?_
 refine zent ?_
 refine zS <| zb rfl fun b3 => zb rfl fun b4 => Qa rfl <| zJ <| zS <| Qf fh rfl <| Q0 0 rfl rfl rfl <| JL.nil ?_
 refine zi (fun h5 h5' => ?_) fun h5 h5' => ?_
 ·
  have hE := M.moveV_y (v := value) h5
  refine zS <| Qf fh rfl <| Q0 0 rfl rfl rfl <| Qm rfl <| Qp rfl rfl <| Qa rfl <| JL.nil ?_
  refine zR (Up.refl _ _) ?_
  rw [hE]; rfl
 have hE := M.moveV_n (v := value) (by simpa using h5)
 refine Js.skip <| zS <| Qf fh rfl <| Q0 0 rfl rfl rfl <| Qm rfl <| Qs rfl rfl <| Qa rfl <| JL.nil ?_
 refine zR (Up.refl _ _) ?_
 rw [hE]; rfl
def S_impl_Rules_value (N : Nat) : Prop := ∀ (r : M.Rul) (v_r : Value) (p : M.Pos) (v_p : Value) (depth : Int) (w : World) (h_r : (Ty.agg (cRules r)).ok w v_r) (h_p : (Ty.agg (cPosition p)).ok w v_p) (r0 : M.okP r p = true) (r1 : 0 ≤ depth) (r2 : depth ≤ 8) (_ : depth.toNat = N), RetV Tryz.prog 63 [v_r, v_p, .int .i64 depth] w (.int .i64 (M.val r depth.toNat p))
theorem c_impl_Rules_value_ : ∀ N, S_impl_Rules_value N := by
 intro N
 induction N using Nat.strongRecOn with
 | ind N ih =>
 intro r v_r p v_p depth w h_r h_p r0 r1 r2 hN
 obtain ⟨g1, g2, g3, g4, g5, g6, g7⟩ := M.okP_bd r0
 have g8 := M.results_8 r0
 revert v_r; apply opn
 revert v_p; apply opn
 intro A1 c1 h1 bl1 bh1 A2 c2 h2 bl2 bh2
 refine enter @Tryz.func63 @Tryz.ntmps63 rfl rfl ?_
 refine zent ?_
 refine zS <| zb rfl fun b3 => zb rfl fun b4 => Qa rfl <| zN <| Q9 1 rfl rfl ?_
 refine Q9 0 rfl rfl ?_
 refine zp rfl (fun w hw => c_impl_Rules_results r p (ok_ hw) (ok_ hw) (r0 := r0)) ?_
 intro u5 x5 A6 c6 h6 bl6 bh6
 refine Qa rfl <| zJ <| Js.block <| zS <| Qm rfl <| Qz rfl <| Qe rfl rfl <| Qa rfl <| JL.nil ?_
 refine zi (fun h7 h7' => ?_) fun h7 h7' => ?_
 ·
  have hE : M.val r depth.toNat p = M.endV r p := M.val_end (by have := h7'; omega)
  refine zS <| Q9 1 rfl rfl ?_
  refine Q9 0 rfl rfl ?_
  refine zv rfl (fun w hw => c_impl_Rules_endValue r p (ok_ hw) (ok_ hw) (r0 := r0)) <| Qa rfl <| JL.nil ?_
  refine zR x5 ?_
  rw [hE]; rfl
 have hne : (M.results r p).length ≠ 0 := by have := h7'; omega
 refine zS <| Qm rfl <| Qe rfl rfl <| Qa rfl <| JL.nil ?_
 refine zi (fun h8 h8' => ?_) fun h8 h8' => ?_
 ·
  have hE : M.val r depth.toNat p = 0 := by rw [show depth.toNat = 0 by have := h8'; omega]; exact M.val_0 hne
  refine zS <| Qa rfl <| JL.nil ?_
  refine zR x5 ?_
  rw [hE]; rfl
 have hd : 1 ≤ depth := by have := h8'; omega
 refine Js.skip <| Js.blockEnd <| zS <| Qa rfl <| zJ <| zS <| Qm rfl <| Qz rfl <| Qm rfl <| JL.nil <| Js.block ?_
 refine zl [2, 3, 25, 26] (fun F U l os u m => ∃ (k : Nat) (b : Int), l = F [(8, .int .i64 b), (27, .int .i64 (k : Int))] ∧ os = U [] ∧ (M.bestF (decide (k = 0)) b ((M.vals r (depth - 1).toNat p).drop k) = M.val r depth.toNat p) ∧ (-2000 ≤ b) ∧ (b ≤ 2000) ∧ (k ≤ (M.results r p).length) ∧ m = (M.results r p).length - k) ⟨0, 0, rfl, rfl, by exact (M.val_d hne hd).symm, zt, zt, zt, rfl⟩ ?_
 rintro _ _ u9 _ ⟨k, b, rfl, rfl, hS, b0, b1, hk, rfl⟩ x9
 refine zn ?_
 refine zS <| Ql rfl rfl <| zJ ?_
 refine zi (fun h10 h10' => ?_) fun h10 h10' => ?_
 ·
  obtain ⟨y11, hy11⟩ : ∃ x, (M.results r p)[k]? = some x := ⟨_, List.getElem?_eq_getElem (by omega)⟩
  obtain ⟨b11, o11, A11_3, c11_3, A11_4, c11_4, he11, hr11, h11_3, h11_4, bl11_3, bh11_3, bl11_4, bh11_4⟩ := elem_Result (Ty.mono _ h6 x9.vis) hy11
  refine Js.skip <| Js.seq <| Js.block <| zS <| Qm rfl <| Qq (p_indexAddr el_84 rfl rfl (by omega) (by omega) he11) <| QS 0 hr11 rfl ?_
  refine za zeh fun b12 => Qa rfl <| zw 0 rfl rfl rfl ?_
  refine zJ ?_
  refine zdr [] ?_
  refine JH.q 0 rfl (L9 2 rfl rfl) ?_
  refine JH.q 1 rfl (L9 0 rfl rfl) ?_
  refine JH.q 2 rfl (L9 2 rfl rfl) ?_
  refine jF 3 fld_87_3 rfl rfl ?_
  refine JH.q 4 rfl (L9 0 rfl rfl) ?_
  refine jM 5 rfl rfl ?_
  refine JH.p 6 rfl (p_sub rfl rfl (IntWalk.i64_in _ (by omega))) ?_
  refine y1 7 ?_
  have hvb9 := M.val_bd (depth - 1).toNat y11.next (M.results_ok (M.results_get0 hy11))
  have hgb9 := M.results_gain (M.results_get0 hy11)
  have hmb9 := M.moveV_bd hgb9 hvb9
  refine yv rfl rfl (fun w hw => ih ((depth - 1).toNat) (by omega) r _ y11.next _ (depth - 1) w (ok_ hw) (ok_ hw) (M.results_ok (M.results_get0 hy11)) (by omega) (by omega) rfl) ?_
  refine y1 8 ?_
  refine yv rfl rfl (fun w hw => c_impl_Rules_moveValue r y11 (M.val r (depth - 1).toNat y11.next) (ok_ hw) (ok_ hw) (r0 := hgb9)) ?_
  refine jA 9 rfl rfl ?_
  refine yd ?_
  refine zS <| Qm rfl <| Qe rfl rfl <| Qm rfl <| zg (Gd.f1 rfl rfl rfl) (fun hc => p_move rfl) <| zg (Gd.f1 rfl rfl rfl) (fun hc => p_move rfl) <| zg (Gd.f1 rfl rfl rfl) (fun hc => p_gtr (gh hc rfl) (gh hc rfl)) <| Qq (p_pickOr rfl rfl rfl) <| JL.nil ?_
  refine zi (fun h13 h13' => ?_) fun h13 h13' => ?_
  ·
   have hS2 := M.bestF_y hS (M.vals_get hy11) (by have := h13'; omega)
   refine Js.region <| Qm rfl <| Qa rfl <| JL.nil <| Js.blockEnd <| Js.region <| Qp rfl rfl <| Qm rfl <| JL.nil ?_
   refine zd [1, 1] rfl fun u14 x14 => ?_
   exact zag ⟨k + 1, M.moveV y11 (M.val r (depth - 1).toNat y11.next), rfl, rfl, by exact hS2, zt, zt, zt, rfl⟩ (x9.trans x14)
  have hS2 := M.bestF_n hS (M.vals_get hy11) (by have := h13'; omega)
  refine Js.skip <| Js.blockEnd <| Js.region <| Qp rfl rfl <| Qm rfl <| JL.nil ?_
  refine zd [1, 1] rfl fun u15 x15 => ?_
  exact zag ⟨k + 1, b, rfl, rfl, by exact hS2, zt, zt, zt, rfl⟩ (x9.trans x15)
 have hE := M.bestF_e hS (by rw [M.vals_len]; have := h10'; omega)
 refine zx ?_
 refine zS <| Qm rfl <| Qa rfl <| JL.nil ?_
 refine zR (x5.trans x9) ?_
 rw [hE]; rfl
theorem c_impl_Rules_value (r : M.Rul) {v_r : Value} (p : M.Pos) {v_p : Value} (depth : Int) {w : World} (h_r : (Ty.agg (cRules r)).ok w v_r) (h_p : (Ty.agg (cPosition p)).ok w v_p) (r0 : M.okP r p = true := by exact om_) (r1 : 0 ≤ depth := by exact om_) (r2 : depth ≤ 8 := by exact om_) : RetV Tryz.prog 63 [v_r, v_p, .int .i64 depth] w (.int .i64 (M.val r depth.toNat p)) := c_impl_Rules_value_ _ r v_r p v_p depth w h_r h_p r0 r1 r2 rfl
theorem c_impl_Rules_options (r : M.Rul) {v_r : Value} (p : M.Pos) {v_p : Value} (depth : Int) {w : World} (h_r : (Ty.agg (cRules r)).ok w v_r) (h_p : (Ty.agg (cPosition p)).ok w v_p) (r0 : M.okP r p = true := by exact om_) (r1 : 1 ≤ depth := by exact om_) (r2 : depth ≤ 8 := by exact om_) : Ret Tryz.prog 119 [v_r, v_p, .int .i64 depth] w (Ty.sl 99 2 (M.opts r p depth).length (lOption (M.opts r p depth))) := by
 obtain ⟨g1, g2, g3, g4, g5, g6, g7⟩ := M.okP_bd r0
 have g8 := M.results_8 r0
 revert v_r; apply opn
 revert v_p; apply opn
 intro A1 c1 h1 bl1 bh1 A2 c2 h2 bl2 bh2
 refine enter @Tryz.func119 @Tryz.ntmps119 rfl rfl ?_
 refine zent ?_
 refine zS <| zb rfl fun b3 => zb rfl fun b4 => Qa rfl <| zN <| zbs fun b5 => ?_
 refine Qa rfl <| zJ <| zS <| Q9 2 rfl rfl ?_
 refine Q9 1 rfl rfl ?_
 refine zp rfl (fun w hw => c_impl_Rules_results r p (ok_ hw) (ok_ hw) (r0 := r0)) ?_
 intro u7 x7 A8 c8 h8 bl8 bh8
 refine Qz rfl <| Qm rfl <| JL.nil <| Js.block ?_
 refine Js.vals (Ts := lOption []) (vs := []) (fun w => rfl) ?_
 refine zl [2, 3, 13, 14] (fun F U l os u m => ∃ (k : Nat) (acc : List M.Opt) (A9_7 : Option Addr) (c9_7 : Nat) (g9_7 : List Nat) (vs9_7 : List Value) (fl9_7 : List Nat), l = F [(7, .slice A9_7 acc.length c9_7), (15, .int .i64 (k : Int))] ∧ os = U [some (ownC (lOption acc) vs9_7 fl9_7), some (rowO 99 2 (.slice A9_7 acc.length c9_7) acc.length vs9_7 g9_7)] ∧ (acc = (M.opts r p depth).take k) ∧ (k ≤ (M.results r p).length) ∧ (acc.length = k) ∧ (acc.length ≤ c9_7) ∧ (c9_7 ≤ 9223372036854775807) ∧ m = (M.results r p).length - k) ⟨0, [], _, _, _, _, _, rfl, rfl, by rfl, zt, by rfl, zu, zu, rfl⟩ ?_
 rintro _ _ u9 _ ⟨k, acc, A9_7, c9_7, g9_7, vs9_7, fl9_7, rfl, rfl, hA, hk, hl, f9_3, f9_4, rfl⟩ x9
 refine zn ?_
 refine zS <| Ql rfl rfl <| zJ ?_
 refine zi (fun h10 h10' => ?_) fun h10 h10' => ?_
 ·
  obtain ⟨y11, hy11⟩ : ∃ x, (M.results r p)[k]? = some x := ⟨_, List.getElem?_eq_getElem (by omega)⟩
  obtain ⟨b11, o11, A11_3, c11_3, A11_4, c11_4, he11, hr11, h11_3, h11_4, bl11_3, bh11_3, bl11_4, bh11_4⟩ := elem_Result (Ty.mono _ h8 x9.vis) hy11
  refine Js.skip <| Js.seq <| Js.block <| zS <| Qq (p_indexAddr el_84 rfl rfl (by omega) (by omega) he11) <| QS 0 hr11 rfl ?_
  refine za zeh fun b12 => zw 0 rfl rfl rfl ?_
  refine JL.nil ?_
  refine zdr [14] ?_
  refine jM 0 rfl rfl ?_
  refine jF 1 fld_87_0 rfl rfl ?_
  refine jB 2 0 ty_2 rfl rfl rfl rfl ?_
  refine JH.q 3 rfl (L9 4 rfl rfl) ?_
  refine JH.q 4 rfl (L9 0 rfl rfl) ?_
  refine JH.q 5 rfl (L9 4 rfl rfl) ?_
  refine jF 6 fld_87_3 rfl rfl ?_
  refine JH.q 7 rfl (L9 0 rfl rfl) ?_
  refine jM 8 rfl rfl ?_
  refine JH.p 9 rfl (p_sub rfl rfl (IntWalk.i64_in _ (by omega))) ?_
  refine y1 10 ?_
  have hvb9 := M.val_bd (depth - 1).toNat y11.next (M.results_ok (M.results_get0 hy11))
  have hgb9 := M.results_gain (M.results_get0 hy11)
  have hmb9 := M.moveV_bd hgb9 hvb9
  refine yv rfl rfl (fun w hw => c_impl_Rules_value r y11.next (depth - 1) (ok_ hw) (ok_ hw) (r0 := (M.results_ok (M.results_get0 hy11)))) ?_
  refine y1 11 ?_
  refine yv rfl rfl (fun w hw => c_impl_Rules_moveValue r y11 (M.val r (depth - 1).toNat y11.next) (ok_ hw) (ok_ hw) (r0 := hgb9)) ?_
  refine JH.p 12 rfl (q_bld) ?_
  refine y1 13 ?_
  refine ybs rfl fun b13 => ?_
  refine y1 14 ?_
  refine JHo.e rfl (e_append (i := 3) (n' := (acc ++ [(M.Opt.mk y11.move (M.moveV y11 (M.val r (depth - 1).toNat y11.next)))]).length) (vs' := vs9_7 ++ [.int .i64 y11.move, .int .i64 (M.moveV y11 (M.val r (depth - 1).toNat y11.next))]) el_95 rfl rfl rfl rfl (src_row (i := 0) und_95 rfl rfl) (by omega) (by omega) ln2_ (rfl)) (.inr rfl) ?_
  rintro v15 _ _ ⟨⟨g16, rfl⟩, rfl⟩ _
  refine JH.fact (row_form' (i := 3) rfl) (fun hf17 => ?_)
  obtain ⟨A17, c17, rfl, bl17, bh17⟩ := hf17
  refine znh ?_
  refine jA 15 rfl rfl ?_
  refine yd ?_
  refine Js.vals (Ts := cOption (M.Opt.mk y11.move (M.moveV y11 (M.val r (depth - 1).toNat y11.next)))) (vs := [.int .i64 y11.move, .int .i64 (M.moveV y11 (M.val r (depth - 1).toNat y11.next))]) (fun w => ⟨[], [], rfl, ⟨rfl, rfl⟩, ⟨[], [], rfl, ⟨rfl, rfl⟩, rfl⟩⟩) ?_
  refine Js.joinL (i := 3) (j := 0) (Vs := lOption (acc ++ [(M.Opt.mk y11.move (M.moveV y11 (M.val r (depth - 1).toNat y11.next)))])) rfl rfl (lOption_snoc _ _) (fun f19 => ?_)
  refine zn ?_
  refine Js.blockEnd <| Js.region <| Qp rfl rfl <| Qm rfl <| JL.nil ?_
  refine zd [0, 2, 2, 2] rfl fun u20 x20 => ?_
  exact zag ⟨k + 1, acc ++ [(M.Opt.mk y11.move (M.moveV y11 (M.val r (depth - 1).toNat y11.next)))], _, _, _, _, _, rfl, rfl, by rw [hA]; exact (M.opts_step (by assumption)).symm, zt, by simp [hl], zu, zu, rfl⟩ (x9.trans x20)
 have hE : acc = M.opts r p depth := by rw [hA, List.take_of_length_le (by rw [M.opts_len]; have := h10'; omega)]
 refine zx ?_
 have hq0 : acc = M.opts r p depth := by exact hE
 refine zS <| Qm rfl <| Qa rfl <| JL.nil ?_
 exact zro (x7.trans x9)
theorem c_impl_optionsCode (r : M.Rul) {v_r : Value} (p : M.Pos) {v_p : Value} (depth : Int) {w : World} (h_r : (Ty.agg (cRules r)).ok w v_r) (h_p : (Ty.agg (cPosition p)).ok w v_p) (r0 : p.pits.length ≤ 4194304 := by exact om_) (r1 : p.stores.length ≤ 4194304 := by exact om_) : RetV Tryz.prog 143 [v_r, v_p, .int .i64 depth] w (.int .i64 (M.optsC r p depth)) := by
 revert v_r; apply opn
 revert v_p; apply opn
 intro A1 c1 h1 bl1 bh1 A2 c2 h2 bl2 bh2
 refine enter @Tryz.func143 @Tryz.ntmps143 rfl rfl ?_
 refine zent ?_
 refine zS <| zb rfl fun b3 => zb rfl fun b4 => Qa rfl <| zJ <| zS <| Q9 1 rfl rfl ?_
 refine Q9 0 rfl rfl ?_
 refine zv rfl (fun w hw => c_impl_ValidPosition r p (ok_ hw) (ok_ hw)) <| Qm rfl <| zg (Gd.t1 rfl rfl rfl) (fun hc => p_move rfl) <| zg (Gd.t1 rfl rfl rfl) (fun hc => p_eql (gh hc rfl) rfl) <| Qq (p_pickAnd rfl rfl rfl) <| JL.nil ?_
 refine zi (fun h5 h5' => ?_) fun h5 h5' => ?_
 ·
  have hE := M.optsC_2 (r := r) (p := p) (depth := depth) (by simpa using h5)
  refine zS <| Qa rfl <| JL.nil ?_
  refine zR (Up.refl _ _) ?_
  rw [hE]; rfl
 have hE := M.optsC_s (r := r) (p := p) (depth := depth) (by rintro ⟨a, b⟩; simp [a, b] at h5)
 refine Js.skip <| zS <| Q9 1 rfl rfl ?_
 refine Q9 0 rfl rfl ?_
 refine Qm rfl <| zv rfl (fun w hw => c_impl_searchCode r p depth (ok_ hw) (ok_ hw)) <| Qa rfl <| JL.nil ?_
 refine zR (Up.refl _ _) ?_
 rw [hE]; rfl
theorem c_impl_SearchOptions (r : M.Rul) {v_r : Value} (p : M.Pos) {v_p : Value} (depth : Int) {w : World} (h_r : (Ty.agg (cRules r)).ok w v_r) (h_p : (Ty.agg (cPosition p)).ok w v_p) (r0 : p.pits.length ≤ 4194304 := by exact om_) (r1 : p.stores.length ≤ 4194304 := by exact om_) : Ret Tryz.prog 95 [v_r, v_p, .int .i64 depth] w (Ty.tup [Ty.sl 99 2 (M.optsR r p depth).length (lOption (M.optsR r p depth)), Ty.int (M.optsC r p depth)]) := by
 revert v_r; apply opn
 revert v_p; apply opn
 intro A1 c1 h1 bl1 bh1 A2 c2 h2 bl2 bh2
 refine enter @Tryz.func95 @Tryz.ntmps95 rfl rfl ?_
 refine zent ?_
 refine zS <| zb rfl fun b3 => zb rfl fun b4 => Qa rfl <| Qa rfl <| zJ <| zS <| Q9 1 rfl rfl ?_
 refine Q9 0 rfl rfl ?_
 refine Qm rfl <| zv rfl (fun w hw => c_impl_optionsCode r p depth (ok_ hw) (ok_ hw)) <| Qa rfl <| zN <| Qm rfl <| Qd rfl rfl <| JL.nil ?_
 refine zi (fun h5 h5' => ?_) fun h5 h5' => ?_
 ·
  have hE := M.optsR_no (r := r) (p := p) (depth := depth) (by simpa using h5)
  have hq0 : [] = M.optsR r p depth := by first | (rw [hE]; done) | (rw [hz]; done)
  refine zS <| Qm rfl <| Qa rfl <| Qa rfl <| JL.nil ?_
  exact zro (Up.refl _ _)
 have hz : M.optsC r p depth = 0 := by simpa using h5
 have ho := M.optsC_ok hz
 have hE := M.optsR_yes hz
 refine Js.skip <| zS <| Q9 1 rfl rfl ?_
 refine Q9 0 rfl rfl ?_
 refine Qm rfl <| zcs rfl (fun w hw => c_impl_Rules_options r p depth (ok_ hw) (ok_ hw) (r0 := ho.1)) ?_
 intro A6 c6 vs6 f6 bl6 bh6
 have hq0 : (M.opts r p depth) = M.optsR r p depth := by first | (rw [hE]; done) | (rw [hz]; done)
 have hq1 : 0 = M.optsC r p depth := by first | (rw [hE]; done) | (rw [hz]; done)
 refine Qa rfl <| Qa rfl <| JL.nil ?_
 exact zro (Up.refl _ _)
theorem c_impl_bestOption (list : List M.Opt) {v_list : Value} {w : World} (h_list : (Ty.sl 99 2 list.length (lOption list)).ok w v_list) (r0 : list.length ≠ 0 := by exact om_) (r1 : list.length ≤ 4194304 := by exact om_) : Ret Tryz.prog 96 [v_list] w (Ty.agg (cOption (M.bOpt list))) := by
 revert v_list; apply opn
 intro A1 c1 h1 bl1 bh1
 have h_list := h1
 refine enter @Tryz.func96 @Tryz.ntmps96 rfl rfl ?_
 refine zent ?_
 obtain ⟨y3, hy3⟩ : ∃ x, list[0]? = some x := ⟨_, List.getElem?_eq_getElem (by omega)⟩
 obtain ⟨b3, o3, he3, hr3⟩ := elem_Option h1 hy3
 refine zS <| za zeh fun b2 => zN <| Qm rfl <| Qq (p_indexAddr el_95 rfl rfl (by omega) (by omega) he3) <| QS 0 hr3 rfl ?_
 refine za zeh fun b4 => zw 0 rfl rfl rfl ?_
 refine zJ <| zS <| Qm rfl <| Qz rfl <| Qm rfl <| JL.nil <| Js.block ?_
 refine zl [2, 3, 9, 10] (fun F U l os u m => ∃ (k : Nat) (b : M.Opt), l = F [(11, .int .i64 (k : Int))] ∧ os = U [some (boxO b4 [.int .i64 b.move, .int .i64 b.value] 99)] ∧ (M.bOptF b (list.drop k) = M.bOpt list) ∧ (k ≤ list.length) ∧ m = list.length - k) ⟨0, y3, rfl, rfl, by exact M.bOpt_zero (by assumption), zt, rfl⟩ ?_
 rintro _ _ u5 _ ⟨k, b, rfl, rfl, hS, hk, rfl⟩ x5
 refine zn ?_
 refine zS <| Ql rfl rfl <| zJ ?_
 refine zi (fun h6 h6' => ?_) fun h6 h6' => ?_
 ·
  obtain ⟨y7, hy7⟩ : ∃ x, list[k]? = some x := ⟨_, List.getElem?_eq_getElem (by omega)⟩
  obtain ⟨b7, o7, he7, hr7⟩ := elem_Option (Ty.mono _ h1 x5.vis) hy7
  refine Js.skip <| Js.seq <| Js.block <| zS <| Qq (p_indexAddr el_95 rfl rfl (by omega) (by omega) he7) <| QS 0 hr7 rfl ?_
  refine za zeh fun b8 => zw 0 rfl rfl rfl ?_
  refine zN <| Qf fh rfl <| Q0 0 rfl rfl rfl <| Qf fh rfl <| Q0 1 rfl rfl rfl <| Qg rfl rfl <| JL.nil ?_
  refine zi (fun h9 h9' => ?_) fun h9 h9' => ?_
  ·
   have hS2 := M.bOptF_y hS hy7 (by simpa using h9)
   refine Js.region <| Q9 0 rfl rfl ?_
   refine zw 1 rfl rfl rfl ?_
   refine JL.nil <| Js.blockEnd <| Js.region <| Qp rfl rfl <| Qm rfl <| JL.nil ?_
   refine zd [1, 1] rfl fun u10 x10 => ?_
   exact zag ⟨k + 1, y7, rfl, rfl, by exact hS2, zt, rfl⟩ (x5.trans x10)
  have hS2 := M.bOptF_n hS hy7 (by simpa using h9)
  refine Js.skip <| Js.blockEnd <| Js.region <| Qp rfl rfl <| Qm rfl <| JL.nil ?_
  refine zd [1, 1] rfl fun u11 x11 => ?_
  exact zag ⟨k + 1, b, rfl, rfl, by exact hS2, zt, rfl⟩ (x5.trans x11)
 have hE := M.bOptF_e hS (by have := h6'; omega)
 refine zx ?_
 have hq0 : b.move = (M.bOpt list).move := by rw [hE]
 have hq1 : b.value = (M.bOpt list).value := by rw [hE]
 refine zS <| Q9 0 rfl rfl ?_
 refine zw 1 rfl rfl rfl ?_
 refine JL.nil ?_
 exact zro x5
theorem c_impl_SearchLine (r : M.Rul) {v_r : Value} (p : M.Pos) {v_p : Value} (depth : Int) {w : World} (h_r : (Ty.agg (cRules r)).ok w v_r) (h_p : (Ty.agg (cPosition p)).ok w v_p) (r0 : p.pits.length ≤ 4194304 := by exact om_) (r1 : p.stores.length ≤ 4194304 := by exact om_) : Ret Tryz.prog 66 [v_r, v_p, .int .i64 depth] w (Ty.tup [Ty.ints 2 (M.lineR r p depth), Ty.int (M.srchC r p depth)]) := by
 revert v_r; apply opn
 revert v_p; apply opn
 intro A1 c1 h1 bl1 bh1 A2 c2 h2 bl2 bh2
 refine enter @Tryz.func66 @Tryz.ntmps66 rfl rfl ?_
 refine zent ?_
 refine zS <| zb rfl fun b3 => zb rfl fun b4 => Qa rfl <| Qa rfl <| zJ <| zS <| Q9 1 rfl rfl ?_
 refine Q9 0 rfl rfl ?_
 refine Qm rfl <| zv rfl (fun w hw => c_impl_searchCode r p depth (ok_ hw) (ok_ hw)) <| Qa rfl <| zN <| Qm rfl <| Qd rfl rfl <| JL.nil ?_
 refine zi (fun h5 h5' => ?_) fun h5 h5' => ?_
 ·
  have hE := M.lineR_no (r := r) (p := p) (depth := depth) (by simpa using h5)
  have hq0 : [] = M.lineR r p depth := by first | (rw [hE]; done) | (rw [hz]; done)
  refine zS <| Qm rfl <| Qa rfl <| Qa rfl <| JL.nil ?_
  exact zro (Up.refl _ _)
 have hz : M.srchC r p depth = 0 := by simpa using h5
 have hs := M.srchC_ok hz
 refine Js.skip <| zS <| zbs fun b6 => ?_
 refine Qa rfl <| zJ <| Js.block ?_
 refine zl [3, 4] (fun F U l os u m => ∃ (d : Int) (out : List Int) (q : M.Pos) (A8_9 : Option Addr) (c8_9 : Nat) (g8_9 : List Nat) (A8_4_0 : Option Addr) (c8_4_0 : Nat) (A8_4_1 : Option Addr) (c8_4_1 : Nat), l = F [(2, .int .i64 d), (9, .slice A8_9 out.length c8_9)] ∧ os = U [some (rowO 2 1 (.slice A8_9 out.length c8_9) out.length (ints_ out) g8_9), some (boxO b4 [.slice A8_4_0 q.pits.length c8_4_0, .slice A8_4_1 q.stores.length c8_4_1, .int .i64 q.player] 28)] ∧ (M.Line r p depth out q d) ∧ (q.pits.length ≤ 4194304) ∧ (q.stores.length ≤ 4194304) ∧ (out.length ≤ 8) ∧ (out.length ≤ c8_9) ∧ (c8_9 ≤ 9223372036854775807) ∧ ((Ty.ints 2 q.pits).ok u (.slice A8_4_0 q.pits.length c8_4_0)) ∧ (q.pits.length ≤ c8_4_0) ∧ (c8_4_0 ≤ 9223372036854775807) ∧ ((Ty.ints 2 q.stores).ok u (.slice A8_4_1 q.stores.length c8_4_1)) ∧ (q.stores.length ≤ c8_4_1) ∧ (c8_4_1 ≤ 9223372036854775807) ∧ m = d.toNat) ⟨depth, [], p, _, _, _, _, _, _, _, rfl, rfl, by exact M.Line.zero hz, zt, zt, zt, zu, zu, h1, zu, zu, h2, zu, zu, rfl⟩ ?_
 rintro _ _ u8 _ ⟨d, out, q, A8_9, c8_9, g8_9, A8_4_0, c8_4_0, A8_4_1, c8_4_1, rfl, rfl, hL, q0, q1, hl, f8_4, f8_5, f8_6, f8_7, f8_8, f8_9, f8_10, f8_11, rfl⟩ x8
 refine zn ?_
 have h8 := M.results_8 hL.ok
 have hlo := hL.lo
 have hhi := hL.hi
 have hln := hL.ln
 have hol := M.opts_len r q d
 refine Js.seq <| zS <| Qm rfl <| Qg rfl rfl <| JL.nil ?_
 refine zi (fun h9 h9' => ?_) fun h9 h9' => ?_
 ·
  refine Js.skip <| Js.seq <| Js.block <| zS <| Q9 2 rfl rfl ?_
  refine Q9 1 rfl rfl ?_
  refine Qm rfl <| zp rfl (fun w hw => c_impl_Rules_options r q d (ok_ hw) (ok_ hw) (r0 := hL.ok)) ?_
  intro u10 x10 A11 c11 h11 bl11 bh11
  refine Qa rfl <| zJ <| zS <| Qm rfl <| Qz rfl <| Qe rfl rfl <| JL.nil ?_
  refine zi (fun h12 h12' => ?_) fun h12 h12' => ?_
  ·
   have hE := (M.lineR_yes hz).trans (hL.end_ (by have := h12'; omega))
   refine zx ?_
   have hq0 : out = M.lineR r p depth := by first | (rw [hE]; done) | (rw [hz]; done)
   have hq1 : 0 = M.srchC r p depth := by first | (rw [hE]; done) | (rw [hz]; done)
   refine zS <| Qm rfl <| Qa rfl <| Qa rfl <| JL.nil ?_
   exact zro (x8.trans x10)
  have hL2 := hL.step (by omega) (by have := h12'; omega)
  refine Js.skip <| zS <| Qm rfl <| zp rfl (fun w hw => c_impl_bestOption (M.opts r q d) (ok_ hw)) ?_
  intro u13 x13
  refine za zeh fun b14 => zw 0 rfl rfl rfl ?_
  refine zN <| Qm rfl <| Qf fh rfl <| Q0 0 rfl rfl rfl <| zbs fun b15 => ?_
  refine JL.e (e_append (i := 2) (n' := (out ++ [((M.bOpt (M.opts r q d)).move)]).length) (vs' := ints_ (out ++ [((M.bOpt (M.opts r q d)).move)])) el_26 rfl rfl rfl rfl (src_row (i := 0) und_26 rfl rfl) (by omega) (by omega) ln2_ (by simp [ints_])) ?_
  rintro v17 _ _ ⟨⟨g18, rfl⟩, rfl⟩ _
  refine JL.fact (row_form' (i := 2) rfl) (fun hf19 => ?_)
  obtain ⟨A19, c19, rfl, bl19, bh19⟩ := hf19
  refine znl ?_
  refine Qa rfl <| zN <| Q9 4 rfl rfl ?_
  refine Q9 3 rfl rfl ?_
  refine Qf fh rfl <| Q0 1 rfl rfl rfl <| zp rfl (fun w hw => c_impl_Rules_resultOf r q ((M.bOpt (M.opts r q d)).move) (ok_ hw) (ok_ hw)) ?_
  intro u20 x20 A21 c21 h21 bl21 bh21 A22 c22 h22 bl22 bh22
  refine Qm rfl <| Qx rfl rfl <| Qx rfl rfl <| za zeh fun b23 => zw 0 rfl rfl rfl ?_
  refine Qa rfl <| zG <| Qf fh rfl <| Q9 0 rfl rfl ?_
  refine zw 4 rfl rfl rfl ?_
  refine JL.nil <| Js.blockEnd <| Js.region <| Qm rfl <| Qs rfl rfl <| Qa rfl <| JL.nil ?_
  refine zd [3, 3, 3] rfl fun u24 x24 => ?_
  exact zag ⟨d - 1, out ++ [((M.bOpt (M.opts r q d)).move)], (((M.make r q ((M.bOpt (M.opts r q d)).move)).1).next), _, _, _, _, _, _, _, rfl, rfl, by exact hL2, by exact (M.okP_len hL2.ok).1, by exact (M.okP_len hL2.ok).2, by have := hL2.ln; have := hL2.lo; have := hL.hi; omega, zu, zu, (Ty.mono _ h21 x24.vis), zu, zu, (Ty.mono _ h22 x24.vis), zu, zu, rfl⟩ ((((x8.trans x10).trans x13).trans x20).trans x24)
 have hE := (M.lineR_yes hz).trans (hL.done (by have := h9'; omega))
 refine zx ?_
 have hq0 : out = M.lineR r p depth := by first | (rw [hE]; done) | (rw [hz]; done)
 have hq1 : 0 = M.srchC r p depth := by first | (rw [hE]; done) | (rw [hz]; done)
 refine zS <| Qm rfl <| Qa rfl <| Qa rfl <| JL.nil ?_
 exact zro x8
theorem c_spec_l15End (r : M.Rul) {v_r : Value} (p : M.Pos) {v_p : Value} {w : World} (h_r : (Ty.ref (cRules r)).ok w v_r) (h_p : (Ty.ref (cPosition p)).ok w v_p) (r0 : M.okP r p = true := by exact om_) : RetV Tryz.prog 186 [v_r, v_p] w (.int .i64 (M.endV r p)) := by
 obtain ⟨g1, g2, g3, g4, g5, g6, g7⟩ := M.okP_bd r0
 have g8 := M.results_8 r0
 have b1 := M.side_bd g5 g2 p.player
 have b2 := M.side_bd g5 g2 (1 - p.player)
 revert v_r; apply opn
 intro b1 o1 hr1
 revert v_p; apply opn
 intro b4 o4 A2 c2 h2 bl2 bh2 A3 c3 h3 bl3 bh3 hr4
 refine enter @Tryz.func186 @Tryz.ntmps186 rfl rfl ?_
 refine zent ?_
 refine zS <| Qa rfl <| zJ ?_
 refine zdr [] ?_
 refine jM 0 rfl rfl ?_
 refine jM 1 rfl rfl ?_
 refine jN 2 rfl rfl ?_
 refine jF 3 fld_28_0 rfl rfl ?_
 refine jW 4 ty_26 rfl rfl (fun hv => (hr4.vis hv) 0 _ rfl) ?_
 refine jM 5 rfl rfl ?_
 refine jN 6 rfl rfl ?_
 refine jF 7 fld_28_2 rfl rfl ?_
 refine jW 8 ty_2 rfl rfl (fun hv => (hr4.vis hv) 2 _ rfl) ?_
 refine jM 10 rfl rfl ?_
 refine jM 11 rfl rfl ?_
 refine jN 12 rfl rfl ?_
 refine jF 13 fld_28_0 rfl rfl ?_
 refine jW 14 ty_26 rfl rfl (fun hv => (hr4.vis hv) 0 _ rfl) ?_
 refine jM 15 rfl rfl ?_
 refine jN 16 rfl rfl ?_
 refine jF 17 fld_28_2 rfl rfl ?_
 refine jW 18 ty_2 rfl rfl (fun hv => (hr4.vis hv) 2 _ rfl) ?_
 refine JH.p 19 rfl (p_sub rfl rfl (IntWalk.i64_in _ (by omega))) ?_
 refine y1 9 ?_
 refine yv rfl rfl (fun w hw => c_spec_l04Side r p.pits p.player (ok_ hw) (ok_ hw) (r4 := g5)) ?_
 refine y1 20 ?_
 refine yv rfl rfl (fun w hw => c_spec_l04Side r p.pits (1 - p.player) (ok_ hw) (ok_ hw) (r4 := g5)) ?_
 refine JH.p 21 rfl (p_sub rfl rfl (IntWalk.i64_in _ (by omega))) ?_
 refine jA 22 rfl rfl ?_
 refine yd ?_
 refine zR (Up.refl _ _) ?_
 rfl
def S_spec_l15S_value (N : Nat) : Prop := ∀ (s_r : M.Rul) (s_size : Int) (bs_0 : Nat) (os_0 : Nat) (p : M.Pos) (v_p : Value) (depth : Int) (bs : Nat) (w : World) (hb : Bw w [boxO bs [.pointer (some ⟨bs_0, os_0, none⟩), .int .i64 s_size] 154]) (hps_0 : RowAt (offW w (([boxO bs [.pointer (some ⟨bs_0, os_0, none⟩), .int .i64 s_size] 154] : List Own).flatMap (·.fp))) bs_0 os_0 [.int .i64 s_r.pits, .int .i64 s_r.seeds, .bool s_r.stores, .bool s_r.skip, .bool s_r.relay, .bool s_r.feed, .bool s_r.again, .int .i64 s_r.capture, .int .i64 s_r.slam]) (h_p : (Ty.ref (cPosition p)).ok (offW w (([boxO bs [.pointer (some ⟨bs_0, os_0, none⟩), .int .i64 s_size] 154] : List Own).flatMap (·.fp))) v_p) (r0 : M.okP s_r p = true) (r1 : 0 ≤ depth) (r2 : depth ≤ 8) (r3 : 0 ≤ s_size) (r4 : s_size ≤ 100000) (_ : depth.toNat = N), RetB Tryz.prog 161 [.pointer (some ⟨bs, 0, none⟩), v_p, .int .i64 depth] w [boxO bs [.pointer (some ⟨bs_0, os_0, none⟩), .int .i64 s_size] 154] (fun v bs' => v = .int .i64 ((M.sv s_r depth.toNat p s_size).1) ∧ bs' = [boxO bs [.pointer (some ⟨bs_0, os_0, none⟩), .int .i64 ((M.sv s_r depth.toNat p s_size).2)] 154])
theorem c_spec_l15S_option_ (N : Nat) (ih : ∀ m, m < N → S_spec_l15S_value m) (s_r : M.Rul) (s_size : Int) (bs_0 : Nat) (os_0 : Nat) (x : M.Res) (v_x : Value) (depth : Int) (bs : Nat) (w : World) (hb : Bw w [boxO bs [.pointer (some ⟨bs_0, os_0, none⟩), .int .i64 s_size] 154]) (hps_0 : RowAt (offW w (([boxO bs [.pointer (some ⟨bs_0, os_0, none⟩), .int .i64 s_size] 154] : List Own).flatMap (·.fp))) bs_0 os_0 [.int .i64 s_r.pits, .int .i64 s_r.seeds, .bool s_r.stores, .bool s_r.skip, .bool s_r.relay, .bool s_r.feed, .bool s_r.again, .int .i64 s_r.capture, .int .i64 s_r.slam]) (h_x : (Ty.ref (cResult x)).ok (offW w (([boxO bs [.pointer (some ⟨bs_0, os_0, none⟩), .int .i64 s_size] 154] : List Own).flatMap (·.fp))) v_x) (r0 : M.okP s_r x.next = true) (r1 : 1 ≤ depth) (r2 : depth ≤ 8) (r3 : 0 ≤ s_size) (r4 : s_size ≤ 100000) (r5 : -96 ≤ x.gain ∧ x.gain ≤ 96) (hN : depth.toNat = N) : RetB Tryz.prog 117 [.pointer (some ⟨bs, 0, none⟩), v_x, .int .i64 depth] w [boxO bs [.pointer (some ⟨bs_0, os_0, none⟩), .int .i64 s_size] 154] (fun v bs' => v = .int .i64 (M.moveV x (M.sv s_r (depth - 1).toNat x.next s_size).1) ∧ bs' = [boxO bs [.pointer (some ⟨bs_0, os_0, none⟩), .int .i64 ((M.sv s_r (depth - 1).toNat x.next s_size).2)] 154]) := by
 have hvb := M.sv_vbd (depth - 1).toNat x.next s_size r0
 have g9 := M.okP_len r0
 revert v_x; apply opn
 intro b3 o3 A1 c1 h1 bl1 bh1 A2 c2 h2 bl2 bh2 hr3
 refine enterB hb @Tryz.func117 @Tryz.ntmps117 rfl rfl ?_
 refine zent ?_
 refine Js.trashE ?_
 refine zn ?_
 refine zS <| Qa rfl <| zN <| Qm rfl <| Qm rfl <| Qc rfl <| Qf fh rfl <| Qm rfl <| Qs rfl rfl <| zBB 1 sp_ rfl (fun w hb _ hw => ih ((depth - 1).toNat) (by omega) s_r s_size bs_0 os_0 x.next _ (depth - 1) bs w hb (hps_0.vis hw.vis) (ok_ hw) r0 (by omega) (by omega) (by omega) (by omega) rfl) ?_
 rintro _ _ G4 ⟨rfl, rfl⟩
 refine znl ?_
 refine Qa rfl <| zJ <| zS <| Qm rfl <| Qc rfl <| Qf fh rfl <| QC (hr3 2 _ rfl) rfl <| JL.nil ?_
 refine zi (fun h5 h5' => ?_) fun h5 h5' => ?_
 ·
  have hQ := M.moveV_y (v := (M.sv s_r (depth - 1).toNat x.next s_size).1) h5
  refine zS <| Qm rfl <| Qc rfl <| Qf fh rfl <| QC (hr3 1 _ rfl) rfl <| Qm rfl <| Qp rfl rfl <| Qa rfl <| JL.nil ?_
  refine zrb [0] hb (Up.refl _ _) ?_
  have hE : (.int .i64 (x.gain + ((M.sv s_r (depth - 1).toNat x.next s_size).1)) : Value) = .int .i64 (M.moveV x (M.sv s_r (depth - 1).toNat x.next s_size).1) := by rw [hQ]
  exact ⟨hE, rfl⟩
 have hQ := M.moveV_n (v := (M.sv s_r (depth - 1).toNat x.next s_size).1) (by simpa using h5)
 refine Js.skip <| zS <| Qm rfl <| Qc rfl <| Qf fh rfl <| QC (hr3 1 _ rfl) rfl <| Qm rfl <| Qs rfl rfl <| Qa rfl <| JL.nil ?_
 refine zrb [0] hb (Up.refl _ _) ?_
 have hE : (.int .i64 (x.gain - ((M.sv s_r (depth - 1).toNat x.next s_size).1)) : Value) = .int .i64 (M.moveV x (M.sv s_r (depth - 1).toNat x.next s_size).1) := by rw [hQ]
 exact ⟨hE, rfl⟩
theorem c_spec_l15S_value_ : ∀ N, S_spec_l15S_value N := by
 intro N
 induction N using Nat.strongRecOn with
 | ind N ih =>
 intro s_r s_size bs_0 os_0 p v_p depth bs w hb hps_0 h_p r0 r1 r2 r3 r4 hN
 obtain ⟨g1, g2, g3, g4, g5, g6, g7⟩ := M.okP_bd r0
 have g8 := M.results_8 r0
 have g9 := M.okP_len r0
 have g10 := M.results_8R (M.okP_okR r0)
 revert v_p; apply opn
 intro b3 o3 A1 c1 h1 bl1 bh1 A2 c2 h2 bl2 bh2 hr3
 refine enterB hb @Tryz.func161 @Tryz.ntmps161 rfl rfl ?_
 refine zent ?_
 refine Js.trashE ?_
 refine zn ?_
 refine zS <| Qa rfl <| zN <| Qm rfl <| Qc rfl <| Qf fh rfl <| Q0 0 rfl rfl rfl <| Qp rfl rfl <| Qc rfl <| Qf fh rfl <| zw 0 rfl rfl rfl ?_
 refine zJ <| zS <| Qm rfl <| Qc rfl <| Qf fh rfl <| Q0 0 rfl rfl rfl <| Qg rfl rfl <| JL.nil ?_
 refine zi (fun h4 h4' => ?_) fun h4 h4' => ?_
 ·
  have hQ := M.sv_big (r := s_r) (d := depth.toNat) (p := p) (s := s_size) (by have := h4'; omega)
  refine zS <| Qa rfl <| JL.nil ?_
  refine zrb [0] hb (Up.refl _ _) ?_
  have hE : (.int .i64 0 : Value) = .int .i64 ((M.sv s_r depth.toNat p s_size).1) := by rw [hQ]
  have hE1 : (M.sv s_r depth.toNat p s_size).2 = (s_size + 1) := by rw [hQ]
  refine ⟨hE, ?_⟩
  · rw [hE1]
 have hbg : ¬ 3000 < s_size + 1 := by have := h4'; omega
 refine Js.skip <| zS <| Qm rfl <| Qc rfl <| Qf fh rfl <| Q0 0 rfl rfl rfl <| Qm rfl <| zp rfl (fun w hw => c_spec_l07All s_r p (ok_ hw) (ok_ hw) (r0 := r0)) ?_
 intro u5 x5 A6 c6 h6 bl6 bh6
 refine Qa rfl <| zJ <| zS <| Qm rfl <| Qz rfl <| Qe rfl rfl <| JL.nil ?_
 refine zi (fun h7 h7' => ?_) fun h7 h7' => ?_
 ·
  have hQ := M.sv_end (r := s_r) (p := p) (d := depth.toNat) hbg (by have := h7'; omega)
  refine zS <| Qm rfl <| Qc rfl <| Qf fh rfl <| Q0 0 rfl rfl rfl <| Qm rfl <| zv rfl (fun w hw => c_spec_l15End s_r p (ok_ hw) (ok_ hw) (r0 := r0)) <| Qa rfl <| JL.nil ?_
  refine zrb [0] hb x5 ?_
  have hE : (.int .i64 (M.endV s_r p) : Value) = .int .i64 ((M.sv s_r depth.toNat p s_size).1) := by rw [hQ]
  have hE1 : (M.sv s_r depth.toNat p s_size).2 = (s_size + 1) := by rw [hQ]
  refine ⟨hE, ?_⟩
  · rw [hE1]
 have hne : (M.results s_r p).length ≠ 0 := by have := h7'; omega
 refine Js.skip <| Js.seq <| zS <| Qm rfl <| Qe rfl rfl <| JL.nil ?_
 refine zi (fun h8 h8' => ?_) fun h8 h8' => ?_
 ·
  have hQ : (M.sv s_r depth.toNat p s_size) = (0, s_size + 1) := by rw [show depth.toNat = 0 by have := h8'; omega]; exact M.sv_0 hbg hne
  refine zS <| Qa rfl <| JL.nil ?_
  refine zrb [0] hb x5 ?_
  have hE : (.int .i64 0 : Value) = .int .i64 ((M.sv s_r depth.toNat p s_size).1) := by rw [hQ]
  have hE1 : (M.sv s_r depth.toNat p s_size).2 = (s_size + 1) := by rw [hQ]
  refine ⟨hE, ?_⟩
  · rw [hE1]
 have hd : 1 ≤ depth := by have := h8'; omega
 refine Js.skip <| zS <| Qa rfl <| zJ <| zS <| Qa rfl <| JL.nil <| Js.block ?_
 refine zl [0, 2, 7] (fun F U l os u m => ∃ (k : Nat) (b z : Int) (G9_1 : List Nat), l = F [(8, .int .i64 b), (9, .int .i64 (k : Int))] ∧ os = U [some (boxO bs [.pointer (some ⟨bs_0, os_0, none⟩), .int .i64 z] 154), some (anyO G9_1)] ∧ (M.svL (M.sv s_r (depth - 1).toNat) (decide (k = 0)) b z ((M.results s_r p).drop k) = (M.sv s_r depth.toNat p s_size)) ∧ (0 ≤ z) ∧ (z ≤ 3001 + 8 * (depth - 1) + k) ∧ (-2000 ≤ b) ∧ (b ≤ 2000) ∧ (k ≤ (M.results s_r p).length) ∧ m = (M.results s_r p).length - k) ⟨0, 0, s_size + 1, _, rfl, rfl, by exact (M.sv_d hbg hne hd).symm, zt, zt, zt, zt, zt, rfl⟩ ?_
 rintro _ _ u9 _ ⟨k, b, z, G9_1, rfl, rfl, hS, z0, z1, b0, b1, hk, rfl⟩ x9
 refine zn ?_
 refine Js.seq <| zS <| Qm rfl <| Qm rfl <| Qz rfl <| Ql rfl rfl <| JL.nil ?_
 refine zi (fun h10 h10' => ?_) fun h10 h10' => ?_
 ·
  obtain ⟨y11, hy11⟩ : ∃ x, (M.results s_r p)[k]? = some x := ⟨_, List.getElem?_eq_getElem (by omega)⟩
  obtain ⟨b11, o11, A11_3, c11_3, A11_4, c11_4, he11, hr11, h11_3, h11_4, bl11_3, bh11_3, bl11_4, bh11_4⟩ := elem_Result (Ty.mono _ h6 x9.vis) hy11
  have hgb9 := M.results_gain (M.results_get0 hy11)
  have hsb9 := M.sv_bd (depth - 1).toNat y11.next z g10
  have hvb9 := M.moveV_bd hgb9 (M.sv_vbd (depth - 1).toNat y11.next z (M.results_ok (M.results_get0 hy11)))
  refine Js.skip <| Js.seq <| Js.block <| zS <| Qm rfl <| Qm rfl <| Qm rfl <| Qq (p_indexAddr el_84 rfl rfl (by omega) (by omega) he11) <| Qm rfl <| zBB 1 sp_ rfl (fun w hb _ hw => c_spec_l15S_option_ _ ih s_r z bs_0 os_0 y11 _ depth bs w hb (hps_0.vis ((x5.vis.trans x9.vis).trans hw.vis)) (ok_ hw) (M.results_ok (M.results_get0 hy11)) (by omega) (by omega) (by omega) (by omega) hgb9 (by omega)) ?_
  rintro _ _ G12 ⟨rfl, rfl⟩
  refine znl ?_
  refine Qa rfl <| zN <| Qm rfl <| Qe rfl rfl <| Qm rfl <| zg (Gd.f1 rfl rfl rfl) (fun hc => p_move rfl) <| zg (Gd.f1 rfl rfl rfl) (fun hc => p_move rfl) <| zg (Gd.f1 rfl rfl rfl) (fun hc => p_gtr (gh hc rfl) (gh hc rfl)) <| Qq (p_pickOr rfl rfl rfl) <| JL.nil ?_
  refine zi (fun h13 h13' => ?_) fun h13 h13' => ?_
  ·
   have hS2 := M.svL_y hS hy11 (by have := h13'; omega)
   refine Js.region <| Qm rfl <| Qa rfl <| JL.nil <| Js.blockEnd <| Js.region <| Qm rfl <| Qp rfl rfl <| Qa rfl <| JL.nil ?_
   refine zf [0] fun GG14 => ?_
   refine zn ?_
   exact zag ⟨k + 1, M.moveV y11 (M.sv s_r (depth - 1).toNat y11.next z).1, (M.sv s_r (depth - 1).toNat y11.next z).2, _, rfl, rfl, by exact hS2, zt, zt, zt, zt, zt, rfl⟩ x9
  have hS2 := M.svL_n hS hy11 (by have := h13'; omega)
  refine Js.skip <| Js.blockEnd <| Js.region <| Qm rfl <| Qp rfl rfl <| Qa rfl <| JL.nil ?_
  refine zf [0] fun GG15 => ?_
  refine zn ?_
  exact zag ⟨k + 1, b, (M.sv s_r (depth - 1).toNat y11.next z).2, _, rfl, rfl, by exact hS2, zt, zt, zt, zt, zt, rfl⟩ x9
 have hQ := M.svL_e hS (by have := h10'; omega)
 refine zx ?_
 refine zS <| Qm rfl <| Qa rfl <| JL.nil ?_
 refine zrb [0] hb (x5.trans x9) ?_
 have hE : (.int .i64 b : Value) = .int .i64 ((M.sv s_r depth.toNat p s_size).1) := by rw [hQ]
 have hE1 : (M.sv s_r depth.toNat p s_size).2 = z := by rw [hQ]
 refine ⟨hE, ?_⟩
 · rw [hE1]
theorem c_spec_l15S_value (s_r : M.Rul) (s_size : Int) {bs_0 os_0 : Nat} (p : M.Pos) {v_p : Value} (depth : Int) {bs : Nat} {w : World} (hb : Bw w [boxO bs [.pointer (some ⟨bs_0, os_0, none⟩), .int .i64 s_size] 154]) (hps_0 : RowAt (offW w (([boxO bs [.pointer (some ⟨bs_0, os_0, none⟩), .int .i64 s_size] 154] : List Own).flatMap (·.fp))) bs_0 os_0 [.int .i64 s_r.pits, .int .i64 s_r.seeds, .bool s_r.stores, .bool s_r.skip, .bool s_r.relay, .bool s_r.feed, .bool s_r.again, .int .i64 s_r.capture, .int .i64 s_r.slam]) (h_p : (Ty.ref (cPosition p)).ok (offW w (([boxO bs [.pointer (some ⟨bs_0, os_0, none⟩), .int .i64 s_size] 154] : List Own).flatMap (·.fp))) v_p) (r0 : M.okP s_r p = true := by exact om_) (r1 : 0 ≤ depth := by exact om_) (r2 : depth ≤ 8 := by exact om_) (r3 : 0 ≤ s_size := by exact om_) (r4 : s_size ≤ 100000 := by exact om_) : RetB Tryz.prog 161 [.pointer (some ⟨bs, 0, none⟩), v_p, .int .i64 depth] w [boxO bs [.pointer (some ⟨bs_0, os_0, none⟩), .int .i64 s_size] 154] (fun v bs' => v = .int .i64 ((M.sv s_r depth.toNat p s_size).1) ∧ bs' = [boxO bs [.pointer (some ⟨bs_0, os_0, none⟩), .int .i64 ((M.sv s_r depth.toNat p s_size).2)] 154]) := c_spec_l15S_value_ _ s_r s_size bs_0 os_0 p v_p depth bs w hb hps_0 h_p r0 r1 r2 r3 r4 rfl
theorem c_spec_l15S_option (s_r : M.Rul) (s_size : Int) {bs_0 os_0 : Nat} (x : M.Res) {v_x : Value} (depth : Int) {bs : Nat} {w : World} (hb : Bw w [boxO bs [.pointer (some ⟨bs_0, os_0, none⟩), .int .i64 s_size] 154]) (hps_0 : RowAt (offW w (([boxO bs [.pointer (some ⟨bs_0, os_0, none⟩), .int .i64 s_size] 154] : List Own).flatMap (·.fp))) bs_0 os_0 [.int .i64 s_r.pits, .int .i64 s_r.seeds, .bool s_r.stores, .bool s_r.skip, .bool s_r.relay, .bool s_r.feed, .bool s_r.again, .int .i64 s_r.capture, .int .i64 s_r.slam]) (h_x : (Ty.ref (cResult x)).ok (offW w (([boxO bs [.pointer (some ⟨bs_0, os_0, none⟩), .int .i64 s_size] 154] : List Own).flatMap (·.fp))) v_x) (r0 : M.okP s_r x.next = true := by exact om_) (r1 : 1 ≤ depth := by exact om_) (r2 : depth ≤ 8 := by exact om_) (r3 : 0 ≤ s_size := by exact om_) (r4 : s_size ≤ 100000 := by exact om_) (r5 : -96 ≤ x.gain ∧ x.gain ≤ 96 := by exact om_) : RetB Tryz.prog 117 [.pointer (some ⟨bs, 0, none⟩), v_x, .int .i64 depth] w [boxO bs [.pointer (some ⟨bs_0, os_0, none⟩), .int .i64 s_size] 154] (fun v bs' => v = .int .i64 (M.moveV x (M.sv s_r (depth - 1).toNat x.next s_size).1) ∧ bs' = [boxO bs [.pointer (some ⟨bs_0, os_0, none⟩), .int .i64 ((M.sv s_r (depth - 1).toNat x.next s_size).2)] 154]) := c_spec_l15S_option_ _ (fun m _ => c_spec_l15S_value_ m) s_r s_size bs_0 os_0 x v_x depth bs w hb hps_0 h_x r0 r1 r2 r3 r4 r5 rfl
theorem c_spec_l15Code (r : M.Rul) {v_r : Value} (p : M.Pos) {v_p : Value} (depth : Int) {w : World} (h_r : (Ty.ref (cRules r)).ok w v_r) (h_p : (Ty.ref (cPosition p)).ok w v_p) (r0 : p.pits.length ≤ 4194304 := by exact om_) (r1 : p.stores.length ≤ 4194304 := by exact om_) : RetV Tryz.prog 115 [v_r, v_p, .int .i64 depth] w (.int .i64 (M.baseC r p depth)) := by
 revert v_r; apply opn
 intro b1 o1 hr1
 revert v_p; apply opn
 intro b4 o4 A2 c2 h2 bl2 bh2 A3 c3 h3 bl3 bh3 hr4
 refine enter @Tryz.func115 @Tryz.ntmps115 rfl rfl ?_
 refine zent ?_
 refine zS <| Qa rfl <| zJ <| zS <| Qm rfl <| Qm rfl <| zv rfl (fun w hw => c_spec_l04Ok r p (ok_ hw) (ok_ hw)) <| Qt rfl <| JL.nil ?_
 refine zi (fun h5 h5' => ?_) fun h5 h5' => ?_
 ·
  have hE := M.baseC_1 (depth := depth) (by simpa using h5)
  refine zS <| Qa rfl <| JL.nil ?_
  refine zR (Up.refl _ _) ?_
  rw [hE]; rfl
 have hok : M.okP r p = true := by simpa using h5
 refine Js.skip <| Js.seq <| zS <| Qm rfl <| zv rfl (fun w hw => c_spec_l00In depth 0 8) <| Qt rfl <| JL.nil ?_
 refine zi (fun h6 h6' => ?_) fun h6 h6' => ?_
 ·
  have hE := M.baseC_2 hok (by simpa using h6)
  refine zS <| Qa rfl <| JL.nil ?_
  refine zR (Up.refl _ _) ?_
  rw [hE]; rfl
 have hE := M.baseC_0 hok (by simpa using h6)
 refine Js.skip <| zS <| Qa rfl <| JL.nil ?_
 refine zR (Up.refl _ _) ?_
 rw [hE]; rfl
theorem c_spec_l15Ask (r : M.Rul) {v_r : Value} (p : M.Pos) {v_p : Value} (depth : Int) {w : World} (h_r : (Ty.ref (cRules r)).ok w v_r) (h_p : (Ty.ref (cPosition p)).ok w v_p) (r0 : p.pits.length ≤ 4194304 := by exact om_) (r1 : p.stores.length ≤ 4194304 := by exact om_) : RetV Tryz.prog 116 [v_r, v_p, .int .i64 depth] w (.tuple #[.int .i64 ((M.ask r p depth).1), .int .i64 ((M.ask r p depth).2.1), .int .i64 ((M.ask r p depth).2.2)]) := by
 revert v_r; apply opn
 intro b1 o1 hr1
 revert v_p; apply opn
 intro b4 o4 A2 c2 h2 bl2 bh2 A3 c3 h3 bl3 bh3 hr4
 refine enter @Tryz.func116 @Tryz.ntmps116 rfl rfl ?_
 refine zent ?_
 refine zS <| Qa rfl <| Qa rfl <| Qa rfl <| zN <| Qm rfl <| Qm rfl <| Qm rfl <| zv rfl (fun w hw => c_spec_l15Code r p depth (ok_ hw) (ok_ hw)) <| Qa rfl <| zJ <| zS <| Qm rfl <| Qd rfl rfl ?_
 refine JL.nil ?_
 refine zi (fun h5 h5' => ?_) fun h5 h5' => ?_
 ·
  have hE := M.ask_b (r := r) (p := p) (depth := depth) (by simpa using h5)
  refine zS <| Qm rfl <| Qa rfl <| Qa rfl <| Qa rfl <| JL.nil ?_
  refine zR (Up.refl _ _) ?_
  rw [hE]; rfl
 have hz : M.baseC r p depth = 0 := by simpa using h5
 have ho := M.baseC_ok hz
 refine Js.skip <| zS <| Qm rfl <| Qb ?_
 refine zb rfl fun b6 => Qa rfl <| zN <| Qm rfl <| Qm rfl <| Qm rfl <| zB 1 sp_ rfl (fun w hb hw => c_spec_l15S_value r 0 p depth hb (hr1.vis hw.vis) (ok_ hw) (r0 := ho.1)) ?_
 rintro _ _ G7 ⟨rfl, rfl⟩
 refine znl ?_
 refine Qa rfl <| zJ <| zS <| Qm rfl <| Qc rfl <| Qf fh rfl <| Q0 0 rfl rfl rfl <| Qg rfl rfl <| JL.nil ?_
 refine zi (fun h8 h8' => ?_) fun h8 h8' => ?_
 ·
  have hE := M.ask_5 hz (by simpa using h8)
  refine zS <| Qa rfl <| Qa rfl <| Qa rfl <| JL.nil ?_
  refine zR (Up.refl _ _) ?_
  rw [hE]; rfl
 have hE := M.ask_0 hz (by simpa using h8)
 refine Js.skip <| Js.seq ?_
 refine zdr [] ?_
 refine jM 0 rfl rfl ?_
 refine jM 1 rfl rfl ?_
 refine jN 2 rfl rfl ?_
 refine jF 3 fld_154_1 rfl rfl ?_
 refine jB 4 0 ty_2 rfl rfl rfl rfl ?_
 refine jA 5 rfl rfl ?_
 refine jA 6 rfl rfl ?_
 refine jA 7 rfl rfl ?_
 refine yd ?_
 refine zR (Up.refl _ _) ?_
 rw [hE]; rfl
theorem c_spec_l15Options (r : M.Rul) {v_r : Value} (p : M.Pos) {v_p : Value} (depth : Int) {w : World} (h_r : (Ty.ref (cRules r)).ok w v_r) (h_p : (Ty.ref (cPosition p)).ok w v_p) (r0 : p.pits.length ≤ 4194304 := by exact om_) (r1 : p.stores.length ≤ 4194304 := by exact om_) : Ret Tryz.prog 65 [v_r, v_p, .int .i64 depth] w (Ty.tup [Ty.sl 99 2 (M.optsR r p depth).length (lOption (M.optsR r p depth)), Ty.int (M.optsC r p depth)]) := by
 revert v_r; apply opn
 intro b1 o1 hr1
 revert v_p; apply opn
 intro b4 o4 A2 c2 h2 bl2 bh2 A3 c3 h3 bl3 bh3 hr4
 refine enter @Tryz.func65 @Tryz.ntmps65 rfl rfl ?_
 refine zent ?_
 refine zS <| Qa rfl <| Qa rfl <| zN <| Qm rfl <| Qm rfl <| Qm rfl <| zv rfl (fun w hw => c_spec_l15Code r p depth (ok_ hw) (ok_ hw)) <| Qa rfl <| zJ <| zS <| Qm rfl <| Qe rfl rfl <| Qm rfl ?_
 refine zg (Gd.t1 rfl rfl rfl) (fun hc => p_move rfl) <| zg (Gd.t1 rfl rfl rfl) (fun hc => p_eql (gh hc rfl) rfl) <| Qq (p_pickAnd rfl rfl rfl) <| JL.nil ?_
 refine zi (fun h5 h5' => ?_) fun h5 h5' => ?_
 ·
  have hb : M.baseC r p depth = 0 ∧ depth = 0 := by simpa using h5
  have hE := M.optsC_2 (r := r) (p := p) (depth := depth) ⟨(M.baseC_ok hb.1).1, hb.2⟩
  have hR := M.optsR_no (r := r) (p := p) (depth := depth) (by rw [hE]; decide)
  refine Js.region <| Qa rfl <| zJ <| zS <| Qm rfl <| Qe rfl rfl <| JL.nil ?_
  refine Js.condF rfl (by decide) ?_
  refine Js.skip <| Js.seq <| zS <| Qm rfl <| Qd rfl rfl <| JL.nil ?_
  refine Js.condT rfl (by decide) ?_
  have hq0 : [] = M.optsR r p depth := by first | (rw [hR]; done) | (rw [hE]; done) | (rw [hR]; exact hE2) | (rw [hz]; done)
  have hq1 : 2 = M.optsC r p depth := by first | (rw [hR]; done) | (rw [hE]; done) | (rw [hR]; exact hE2) | (rw [hz]; done)
  refine zS <| Qm rfl <| Qa rfl <| Qa rfl <| JL.nil ?_
  exact zro (Up.refl _ _)
 have hb : M.baseC r p depth = 0 → ¬ depth = 0 := by simpa using h5
 refine Js.skip <| Js.seq <| zS <| Qm rfl <| Qe rfl rfl <| JL.nil ?_
 refine zi (fun h6 h6' => ?_) fun h6 h6' => ?_
 ·
  have hq : M.baseC r p depth = 0 := by simpa using h6
  have hoc := M.optsC_s (r := r) (p := p) (depth := depth) (fun h => hb hq h.2)
  have hac := M.ask_c r p depth
  refine Js.region <| Qm rfl <| Qm rfl <| Qm rfl <| zv rfl (fun w hw => c_spec_l15Ask r p depth (ok_ hw) (ok_ hw)) <| Qm rfl <| Qx rfl rfl <| Qx rfl rfl <| Qx rfl rfl <| Qa rfl <| zJ <| zS <| Qm rfl <| Qd rfl rfl ?_
  refine JL.nil ?_
  refine zi (fun h7 h7' => ?_) fun h7 h7' => ?_
  ·
   have hE : M.optsC r p depth = (M.ask r p depth).2.2 := by rw [hoc, hac]
   have hR := M.optsR_no (r := r) (p := p) (depth := depth) (by rw [hE]; simpa using h7)
   have hq0 : [] = M.optsR r p depth := by first | (rw [hR]; done) | (rw [hE]; done) | (rw [hR]; exact hE2) | (rw [hz]; done)
   have hq1 : ((M.ask r p depth).2.2) = M.optsC r p depth := by first | (rw [hR]; done) | (rw [hE]; done) | (rw [hR]; exact hE2) | (rw [hz]; done)
   refine zS <| Qm rfl <| Qa rfl <| Qa rfl <| JL.nil ?_
   exact zro (Up.refl _ _)
  have hz : M.optsC r p depth = 0 := by rw [hoc, ← hac]; simpa using h7
  have ho := M.optsC_ok hz
  have hR := M.optsR_yes hz
  have g8 := M.results_8 ho.1
  have g11 : M.size r ((depth - 1).toNat + 1) p ≤ 3000 := by rw [show (depth - 1).toNat + 1 = depth.toNat by omega]; exact ho.2.2.2.1
  refine Js.skip <| zS <| Qm rfl <| Qb ?_
  refine zb rfl fun b8 => Qa rfl <| zN <| zbs fun b9 => ?_
  refine Qa rfl <| zN <| Qm rfl <| Qm rfl <| zp rfl (fun w hw => c_spec_l07All r p (ok_ hw) (ok_ hw) (r0 := ho.1)) ?_
  intro u11 x11 A12 c12 h12 bl12 bh12
  refine Qa rfl <| zJ <| zS <| Qa rfl <| JL.nil <| Js.block ?_
  refine Js.vals (Ts := lOption []) (vs := []) (fun w => rfl) ?_
  refine zl [2, 9, 11] (fun F U l os u m => ∃ (k : Nat) (z : Int) (acc : List M.Opt) (A13_10 : Option Addr) (c13_10 : Nat) (g13_10 : List Nat) (vs13_10 : List Value) (fl13_10 : List Nat), l = F [(10, .slice A13_10 acc.length c13_10), (12, .int .i64 (k : Int))] ∧ os = U [some (ownC (lOption acc) vs13_10 fl13_10), some (rowO 99 2 (.slice A13_10 acc.length c13_10) acc.length vs13_10 g13_10), some (boxO b8 [.pointer (some ⟨b1, o1, none⟩), .int .i64 z] 154)] ∧ (acc = (M.opts r p depth).take k) ∧ (k ≤ (M.results r p).length) ∧ (acc.length = k) ∧ (z = M.szk r (depth - 1).toNat p k) ∧ (0 ≤ z) ∧ (z ≤ 3000) ∧ (acc.length ≤ c13_10) ∧ (c13_10 ≤ 9223372036854775807) ∧ m = (M.results r p).length - k) ⟨0, 0, [], _, _, _, _, _, rfl, rfl, by rfl, zt, by rfl, by simp [M.szk_zero], zt, zt, zu, zu, rfl⟩ ?_
  rintro _ _ u13 _ ⟨k, z, acc, A13_10, c13_10, g13_10, vs13_10, fl13_10, rfl, rfl, hA, hk, hl, hz9, z0, z1, f13_6, f13_7, rfl⟩ x13
  refine zn ?_
  refine Js.seq <| zS <| Qm rfl <| Qm rfl <| Qz rfl <| Ql rfl rfl <| JL.nil ?_
  refine zi (fun h14 h14' => ?_) fun h14 h14' => ?_
  ·
   obtain ⟨ye15, hye15⟩ : ∃ x, (M.results r p)[k]? = some x := ⟨_, List.getElem?_eq_getElem (by omega)⟩
   have hgb9 := M.results_gain (M.results_get0 hye15)
   have hs9 := M.szk_step (d := (depth - 1).toNat) hye15
   have hp9 := M.size_pos r (depth - 1).toNat ye15.next
   have hq9 := M.sv_val (r := r) (depth - 1).toNat ye15.next z (by omega) (by have := M.szk_le r (depth - 1).toNat p (k + 1); omega)
   refine Js.skip <| Js.seq <| Js.block ?_
   refine zdr [11, 14] ?_
   refine jM 0 rfl rfl ?_
   refine jM 1 rfl rfl ?_
   refine jM 2 rfl rfl ?_
   have hy16 := hye15
   obtain ⟨b16, o16, A16_3, c16_3, A16_4, c16_4, he16, hr16, h16_3, h16_4, bl16_3, bh16_3, bl16_4, bh16_4⟩ := elem_Result (Ty.mono _ h12 x13.vis) hy16
   refine jI 3 el_84 rfl rfl rfl he16 ?_
   refine jF 4 fld_87_0 rfl rfl ?_
   refine jW 5 ty_2 rfl rfl (fun hv => (hr16.vis hv) 0 _ rfl) ?_
   refine jM 6 rfl rfl ?_
   refine jM 7 rfl rfl ?_
   refine jM 8 rfl rfl ?_
   have hy17 := hye15
   obtain ⟨b17, o17, A17_3, c17_3, A17_4, c17_4, he17, hr17, h17_3, h17_4, bl17_3, bh17_3, bl17_4, bh17_4⟩ := elem_Result (Ty.mono _ h12 x13.vis) hy17
   refine jI 9 el_84 rfl rfl rfl he17 ?_
   refine jM 10 rfl rfl ?_
   refine y1 11 ?_
   refine zhh [2] ?_
   refine yB 1 sp_ rfl rfl (fun w hb hw => c_spec_l15S_option r z ye15 depth hb (hr1.vis ((x11.vis.trans x13.vis).trans hw.vis)) (ok_ hw) (r0 := (M.results_ok (M.results_get0 hye15))) (r5 := hgb9)) ?_
   rintro _ _ G18 ⟨rfl, rfl⟩
   refine znh ?_
   refine JH.p 12 rfl (q_bld) ?_
   refine y1 13 ?_
   refine ybs rfl fun b19 => ?_
   refine y1 14 ?_
   refine JHo.e rfl (e_append (i := 4) (n' := (acc ++ [(M.Opt.mk ye15.move (M.moveV ye15 (M.sv r (depth - 1).toNat ye15.next z).1))]).length) (vs' := vs13_10 ++ [.int .i64 ye15.move, .int .i64 (M.moveV ye15 (M.sv r (depth - 1).toNat ye15.next z).1)]) el_95 rfl rfl rfl rfl (src_row (i := 0) und_95 rfl rfl) (by omega) (by omega) ln2_ (rfl)) (.inr rfl) ?_
   rintro v21 _ _ ⟨⟨g22, rfl⟩, rfl⟩ _
   refine JH.fact (row_form' (i := 4) rfl) (fun hf23 => ?_)
   obtain ⟨A23, c23, rfl, bl23, bh23⟩ := hf23
   refine znh ?_
   refine jA 15 rfl rfl ?_
   refine yd ?_
   refine Js.vals (Ts := cOption (M.Opt.mk ye15.move (M.moveV ye15 (M.sv r (depth - 1).toNat ye15.next z).1))) (vs := [.int .i64 ye15.move, .int .i64 (M.moveV ye15 (M.sv r (depth - 1).toNat ye15.next z).1)]) (fun w => ⟨[], [], rfl, ⟨rfl, rfl⟩, ⟨[], [], rfl, ⟨rfl, rfl⟩, rfl⟩⟩) ?_
   refine Js.joinL (i := 4) (j := 0) (Vs := lOption (acc ++ [(M.Opt.mk ye15.move (M.moveV ye15 (M.sv r (depth - 1).toNat ye15.next z).1))])) rfl rfl (lOption_snoc _ _) (fun f25 => ?_)
   refine zn ?_
   refine Js.blockEnd <| Js.region <| Qm rfl <| Qp rfl rfl <| Qa rfl <| JL.nil ?_
   refine zd [0, 3, 1] rfl fun u26 x26 => ?_
   exact zag ⟨k + 1, (M.sv r (depth - 1).toNat ye15.next z).2, acc ++ [(M.Opt.mk ye15.move (M.moveV ye15 (M.sv r (depth - 1).toNat ye15.next z).1))], _, _, _, _, _, rfl, rfl, by rw [hA, hq9]; exact (M.opts_step (by assumption)).symm, zt, by simp [hl], by rw [hq9, hs9, ← hz9], by rw [hq9]; simp only []; omega, by rw [hq9]; simp only []; have := M.szk_le r (depth - 1).toNat p (k + 1); omega, zu, zu, rfl⟩ (x13.trans x26)
  have hE2 : acc = M.opts r p depth := by rw [hA, List.take_of_length_le (by rw [M.opts_len]; have := h14'; omega)]
  refine zx ?_
  have hq0 : acc = M.optsR r p depth := by first | (rw [hR]; done) | (rw [hE]; done) | (rw [hR]; exact hE2) | (rw [hz]; done)
  have hq1 : 0 = M.optsC r p depth := by first | (rw [hR]; done) | (rw [hE]; done) | (rw [hR]; exact hE2) | (rw [hz]; done)
  refine zS <| Qm rfl <| Qa rfl <| Qa rfl <| JL.nil ?_
  exact zro (x11.trans x13)
 have hq : M.baseC r p depth ≠ 0 := by simpa using h6
 refine Js.skip <| Js.seq <| zS <| Qm rfl <| Qd rfl rfl <| JL.nil ?_
 refine zi (fun h27 h27' => ?_) fun h27 h27' => ?_
 ·
  have hE := M.optsC_base hq
  have hR := M.optsR_no (r := r) (p := p) (depth := depth) (by rw [hE]; exact hq)
  have hq0 : [] = M.optsR r p depth := by first | (rw [hR]; done) | (rw [hE]; done) | (rw [hR]; exact hE2) | (rw [hz]; done)
  have hq1 : (M.baseC r p depth) = M.optsC r p depth := by first | (rw [hR]; done) | (rw [hE]; done) | (rw [hR]; exact hE2) | (rw [hz]; done)
  refine zS <| Qm rfl <| Qa rfl <| Qa rfl <| JL.nil ?_
  exact zro (Up.refl _ _)
 have h9 := h27; simp at h9; exact absurd h9 hq
theorem c_spec_l15First (list : List M.Opt) {v_list : Value} {w : World} (h_list : (Ty.sl 99 2 list.length (lOption list)).ok w v_list) (r0 : list.length ≠ 0 := by exact om_) (r1 : list.length ≤ 4194304 := by exact om_) : Ret Tryz.prog 103 [v_list] w (Ty.agg (cOption (M.bOpt list))) := by
 revert v_list; apply opn
 intro A1 c1 h1 bl1 bh1
 have h_list := h1
 refine enter @Tryz.func103 @Tryz.ntmps103 rfl rfl ?_
 refine zent ?_
 obtain ⟨y3, hy3⟩ : ∃ x, list[0]? = some x := ⟨_, List.getElem?_eq_getElem (by omega)⟩
 obtain ⟨b3, o3, he3, hr3⟩ := elem_Option h1 hy3
 refine zS <| za zeh fun b2 => zN <| Qm rfl <| Qq (p_indexAddr el_95 rfl rfl (by omega) (by omega) he3) <| QS 0 hr3 rfl ?_
 refine za zeh fun b4 => zw 0 rfl rfl rfl ?_
 refine zJ <| zS <| Qa rfl <| JL.nil <| Js.block ?_
 refine zl [0, 2, 3] (fun F U l os u m => ∃ (k : Nat) (b : M.Opt), l = F [(4, .int .i64 (k : Int))] ∧ os = U [some (boxO b4 [.int .i64 b.move, .int .i64 b.value] 99)] ∧ (M.bOptF b (list.drop k) = M.bOpt list) ∧ (k ≤ list.length) ∧ m = list.length - k) ⟨1, y3, rfl, rfl, by exact M.bOpt_one (by assumption), zt, rfl⟩ ?_
 rintro _ _ u5 _ ⟨k, b, rfl, rfl, hS, hk, rfl⟩ x5
 refine zn ?_
 refine Js.seq <| zS <| Qm rfl <| Qm rfl <| Qz rfl <| Ql rfl rfl <| JL.nil ?_
 refine zi (fun h6 h6' => ?_) fun h6 h6' => ?_
 ·
  obtain ⟨ye7, hye7⟩ : ∃ x, list[k]? = some x := ⟨_, List.getElem?_eq_getElem (by omega)⟩
  refine Js.skip <| Js.seq <| Js.block <| Js.seq ?_
  refine zdr [] ?_
  refine jM 0 rfl rfl ?_
  refine jM 1 rfl rfl ?_
  have hy8 := hye7
  obtain ⟨b8, o8, he8, hr8⟩ := elem_Option (Ty.mono _ h1 x5.vis) hy8
  refine jI 2 el_95 rfl rfl rfl he8 ?_
  refine jF 3 fld_99_1 rfl rfl ?_
  refine jW 4 ty_2 rfl rfl (fun hv => (hr8.vis hv) 1 _ rfl) ?_
  refine jF 5 fld_99_1 rfl rfl ?_
  refine jB 6 0 ty_2 rfl rfl rfl rfl ?_
  refine JH.p 7 rfl (p_gtr rfl rfl) ?_
  refine yd ?_
  refine zi (fun h9 h9' => ?_) fun h9 h9' => ?_
  ·
   have hS2 := M.bOptF_y hS hye7 (by simpa using h9)
   have hy10 := hye7
   obtain ⟨b10, o10, he10, hr10⟩ := elem_Option (Ty.mono _ h1 x5.vis) hy10
   refine Js.region <| Qm rfl <| Qm rfl <| Qq (p_indexAddr el_95 rfl rfl (by omega) (by omega) he10) <| QS 0 hr10 rfl ?_
   refine zw 0 rfl rfl rfl ?_
   refine JL.nil <| Js.blockEnd <| Js.region <| Qm rfl <| Qp rfl rfl <| Qa rfl <| JL.nil ?_
   exact zag ⟨k + 1, ye7, rfl, rfl, by exact hS2, zt, rfl⟩ x5
  have hS2 := M.bOptF_n hS hye7 (by simpa using h9)
  refine Js.skip <| Js.blockEnd <| Js.region <| Qm rfl <| Qp rfl rfl <| Qa rfl <| JL.nil ?_
  exact zag ⟨k + 1, b, rfl, rfl, by exact hS2, zt, rfl⟩ x5
 have hE := M.bOptF_e hS (by have := h6'; omega)
 refine zx ?_
 have hq0 : b.move = (M.bOpt list).move := by rw [hE]
 have hq1 : b.value = (M.bOpt list).value := by rw [hE]
 refine zS <| Q9 0 rfl rfl ?_
 refine zw 1 rfl rfl rfl ?_
 refine JL.nil ?_
 exact zro x5
theorem c_spec_SearchLine (r : M.Rul) {v_r : Value} (p : M.Pos) {v_p : Value} (depth : Int) {w : World} (h_r : (Ty.agg (cRules r)).ok w v_r) (h_p : (Ty.agg (cPosition p)).ok w v_p) (r0 : p.pits.length ≤ 4194304 := by exact om_) (r1 : p.stores.length ≤ 4194304 := by exact om_) : Ret Tryz.prog 67 [v_r, v_p, .int .i64 depth] w (Ty.tup [Ty.ints 2 (M.lineR r p depth), Ty.int (M.srchC r p depth)]) := by
 revert v_r; apply opn
 revert v_p; apply opn
 intro A1 c1 h1 bl1 bh1 A2 c2 h2 bl2 bh2
 refine enter @Tryz.func67 @Tryz.ntmps67 rfl rfl ?_
 refine zent ?_
 refine zS <| zb rfl fun b3 => zb rfl fun b4 => Qa rfl <| Qa rfl <| zN <| Qm rfl <| zv rfl (fun w hw => c_spec_l15Ask r p depth (ok_ hw) (ok_ hw)) <| Qm rfl <| Qx rfl rfl <| Qx rfl rfl <| Qx rfl rfl <| Qa rfl <| Qa rfl ?_
 refine Qa rfl <| zJ <| zS <| Qm rfl <| Qd rfl rfl <| JL.nil ?_
 refine zi (fun h5 h5' => ?_) fun h5 h5' => ?_
 ·
  have hc9 := M.ask_c r p depth
  have hz : M.srchC r p depth ≠ 0 := by rw [← hc9]; simpa using h5
  have hE := M.lineR_no hz
  have hq0 : [] = M.lineR r p depth := by first | (rw [hE]; done) | (rw [hc9]; done) | (rw [hz]; done)
  have hq1 : ((M.ask r p depth).2.2) = M.srchC r p depth := by first | (rw [hE]; done) | (rw [hc9]; done) | (rw [hz]; done)
  refine zS <| Qm rfl <| Qa rfl <| Qa rfl <| JL.nil ?_
  exact zro (Up.refl _ _)
 have hc9 := M.ask_c r p depth
 have hz : M.srchC r p depth = 0 := by rw [← hc9]; simpa using h5
 have hs := M.srchC_ok hz
 refine Js.skip <| zS <| zbs fun b6 => ?_
 refine Qa rfl <| zJ <| Js.block ?_
 refine zl [3, 4] (fun F U l os u m => ∃ (d : Int) (out : List Int) (q : M.Pos) (A8_11 : Option Addr) (c8_11 : Nat) (g8_11 : List Nat) (A8_4_0 : Option Addr) (c8_4_0 : Nat) (A8_4_1 : Option Addr) (c8_4_1 : Nat), l = F [(2, .int .i64 d), (11, .slice A8_11 out.length c8_11)] ∧ os = U [some (rowO 2 1 (.slice A8_11 out.length c8_11) out.length (ints_ out) g8_11), some (boxO b4 [.slice A8_4_0 q.pits.length c8_4_0, .slice A8_4_1 q.stores.length c8_4_1, .int .i64 q.player] 28)] ∧ (M.Line r p depth out q d) ∧ (q.pits.length ≤ 4194304) ∧ (q.stores.length ≤ 4194304) ∧ (out.length ≤ 8) ∧ (out.length ≤ c8_11) ∧ (c8_11 ≤ 9223372036854775807) ∧ ((Ty.ints 2 q.pits).ok u (.slice A8_4_0 q.pits.length c8_4_0)) ∧ (q.pits.length ≤ c8_4_0) ∧ (c8_4_0 ≤ 9223372036854775807) ∧ ((Ty.ints 2 q.stores).ok u (.slice A8_4_1 q.stores.length c8_4_1)) ∧ (q.stores.length ≤ c8_4_1) ∧ (c8_4_1 ≤ 9223372036854775807) ∧ m = d.toNat) ⟨depth, [], p, _, _, _, _, _, _, _, rfl, rfl, by exact M.Line.zero hz, zt, zt, zt, zu, zu, h1, zu, zu, h2, zu, zu, rfl⟩ ?_
 rintro _ _ u8 _ ⟨d, out, q, A8_11, c8_11, g8_11, A8_4_0, c8_4_0, A8_4_1, c8_4_1, rfl, rfl, hL, q0, q1, hl, f8_4, f8_5, f8_6, f8_7, f8_8, f8_9, f8_10, f8_11, rfl⟩ x8
 refine zn ?_
 have h8 := M.results_8 hL.ok
 have hlo := hL.lo
 have hhi := hL.hi
 have hln := hL.ln
 have hol := M.opts_len r q d
 have hrl := M.optsR_len r q d
 refine Js.seq <| zS <| Qm rfl <| Qg rfl rfl <| JL.nil ?_
 refine zi (fun h9 h9' => ?_) fun h9 h9' => ?_
 ·
  have hoc := hL.srch (by have := h9'; omega)
  have hoy := M.optsR_yes hoc
  refine Js.skip <| Js.block <| zS <| Qm rfl <| zp rfl (fun w hw => c_spec_l15Options r q d (ok_ hw) (ok_ hw)) ?_
  intro u10 x10 A11 c11 h11 bl11 bh11
  refine Qm rfl <| Qx rfl rfl <| Qx rfl rfl <| Qa rfl <| Qa rfl <| zJ <| zS <| Qm rfl <| Qz rfl <| Qe rfl rfl <| JL.nil ?_
  refine zi (fun h12 h12' => ?_) fun h12 h12' => ?_
  ·
   have hE := (M.lineR_yes hz).trans (hL.end_ (by have := h12'; rw [hoy] at this; omega))
   refine zx ?_
   have hq0 : out = M.lineR r p depth := by first | (rw [hE]; done) | (rw [hc9]; done) | (rw [hz]; done)
   have hq1 : 0 = M.srchC r p depth := by first | (rw [hE]; done) | (rw [hc9]; done) | (rw [hz]; done)
   refine zS <| Qm rfl <| Qa rfl <| Qa rfl <| JL.nil ?_
   exact zro (x8.trans x10)
  have hne : (M.results r q).length ≠ 0 := by have := h12'; rw [hoy] at this; omega
  have hL2 := hL.step (by omega) hne
  rw [← hoy] at hL2
  refine Js.skip <| zS <| Qm rfl <| zp rfl (fun w hw => c_spec_l15First (M.optsR r q d) (ok_ hw)) ?_
  intro u13 x13
  refine Qi fh rfl rfl <| Qa rfl <| zN <| Qm rfl <| zp rfl (fun w hw => c_spec_l07Make r q ((M.bOpt (M.optsR r q d)).move) (ok_ hw) (ok_ hw)) ?_
  intro u14 x14 A15 c15 h15 bl15 bh15 A16 c16 h16 bl16 bh16
  refine Qm rfl <| Qx rfl rfl <| Qx rfl rfl <| za zeh fun b17 => zw 0 rfl rfl rfl ?_
  refine Qa rfl <| zN <| Qm rfl <| Qm rfl <| zbs fun b18 => ?_
  refine JL.e (e_append (i := 2) (n' := (out ++ [((M.bOpt (M.optsR r q d)).move)]).length) (vs' := ints_ (out ++ [((M.bOpt (M.optsR r q d)).move)])) el_26 rfl rfl rfl rfl (src_row (i := 0) und_26 rfl rfl) (by omega) (by omega) ln2_ (by simp [ints_])) ?_
  rintro v20 _ _ ⟨⟨g21, rfl⟩, rfl⟩ _
  refine JL.fact (row_form' (i := 2) rfl) (fun hf22 => ?_)
  obtain ⟨A22, c22, rfl, bl22, bh22⟩ := hf22
  refine znl ?_
  refine Qa rfl <| zN <| Qf fh rfl <| Q9 1 rfl rfl ?_
  refine zw 3 rfl rfl rfl ?_
  refine zG <| Qm rfl <| Qs rfl rfl <| Qa rfl <| JL.nil <| Js.blockEnd ?_
  refine zd [2, 2, 2] rfl fun u23 x23 => ?_
  exact zag ⟨d - 1, out ++ [((M.bOpt (M.optsR r q d)).move)], (((M.make r q ((M.bOpt (M.optsR r q d)).move)).1).next), _, _, _, _, _, _, _, rfl, rfl, by exact hL2, by exact (M.okP_len hL2.ok).1, by exact (M.okP_len hL2.ok).2, by have := hL2.ln; have := hL2.lo; have := hL.hi; omega, zu, zu, (Ty.mono _ h15 x23.vis), zu, zu, (Ty.mono _ h16 x23.vis), zu, zu, rfl⟩ ((((x8.trans x10).trans x13).trans x14).trans x23)
 have hE := (M.lineR_yes hz).trans (hL.done (by have := h9'; omega))
 refine zx ?_
 have hq0 : out = M.lineR r p depth := by first | (rw [hE]; done) | (rw [hc9]; done) | (rw [hz]; done)
 have hq1 : 0 = M.srchC r p depth := by first | (rw [hE]; done) | (rw [hc9]; done) | (rw [hz]; done)
 refine zS <| Qm rfl <| Qa rfl <| Qa rfl <| JL.nil ?_
 exact zro x8
end Go.Proofs.YtjdhgkdimanabaaGreatDoor

/- Walks: K3. -/
import Derived.Test.YtcmfnlleikcpnaaGreatZrA2
import Derived.Test.YtcmfnlleikcpnaaGreatZrA5
import Derived.Test.YtcmfnlleikcpnaaGreatZrA3
import Derived.Test.YtcmfnlleikcpnaaGreatZrA4
set_option linter.unusedSimpArgs false
set_option linter.unusedVariables false
set_option maxRecDepth 100000
attribute [local irreducible] Go.Proofs.YtcmfnlleikcpnaaGreat.gv
namespace Go.Proofs.YtcmfnlleikcpnaaGreat
open Go.RowKit

set_option maxHeartbeats 1000000 in
theorem c_spec_l06Raw (r : M.Rul) {v_r : Value} (s : M.Sw) {v_s : Value} (player : Int) {w : World} (h_r : (Ty.ref (cRules r)).ok w v_r) (h_s : (Ty.ref (cSown s)).ok w v_s) (r0 : 2 ≤ r.pits := by exact om_) (r1 : r.pits ≤ 8 := by exact om_) (r2 : player = 0 ∨ player = 1 := by exact om_) (r3 : M.Good r s.pits s.stores 0 := by exact om_) (r4 : -1 ≤ s.last := by exact om_) (r5 : s.last < 2 * r.pits := by exact om_) : Ret Tryz.prog 160 [v_r, v_s, .int .i64 player] w (Ty.ints 2 (M.taken r s player)) := by
 have l1 := r3.lp
 have l2 := r3.ls
 have hv9 := r3.pit s.last
 revert v_r; apply opn
 intro b1 o1 hr1
 revert v_s; apply opn
 intro b4 o4 A2 c2 h2 bl2 bh2 A3 c3 h3 bl3 bh3 hr4
 refine enter @Tryz.func160 @Tryz.ntmps160 rfl rfl ?_
 refine zent ?_
 obtain ⟨b5, o5, rfl⟩ := ints_some h2 (by omega)
 refine zS <| Qa rfl <| zN <| zbs fun b6 => ?_
 refine Qa rfl <| zN <| Qm rfl <| Qc rfl <| Qf fh rfl <| QC (hr4 2 _ rfl) rfl <| Qa rfl <| zJ <| zS <| Qm rfl <| Ql rfl rfl <| JL.nil ?_
 refine zi (fun h8 h8' => ?_) fun h8 h8' => ?_
 ·
  have hR : M.taken r s player = [] := by unfold M.taken; rw [if_pos (by simpa using h8)]
  have hq0 : [] = M.taken r s player := by rw [hR]
  refine zS <| Qm rfl <| Qa rfl <| JL.nil ?_
  exact zro (Up.refl _ _)
 have hl0 : ¬ s.last < 0 := by simpa using h8
 refine Js.skip <| zS <| Qm rfl <| Qm rfl <| zv rfl (fun w hw => c_spec_l02Owner r s.last (ok_ hw)) <| Qm rfl <| Qe rfl rfl <| Qa rfl <| zJ <| zS <| Qm rfl <| Qc rfl <| Qf fh rfl <| QC (hr1 7 _ rfl) rfl ?_
 refine JL.nil <| Js.block <| zS <| Qe rfl rfl <| Qa rfl <| JL.nil ?_
 refine zi (fun h9 h9' => ?_) fun h9 h9' => ?_
 ·
  have hcap : r.capture = 1 := by simpa using h9
  refine Js.block ?_
  refine zl [0, 1, 2] (fun F U l os u m => ∃ (k : Int) (out : List Int) (A10_7 : Option Addr) (c10_7 : Nat) (g10_7 : List Nat), l = F [(7, .slice A10_7 out.length c10_7), (8, .int .i64 k)] ∧ os = U [some (rowO 2 1 (.slice A10_7 out.length c10_7) out.length (ints_ out) g10_7)] ∧ (out ++ M.ttI r player s.pits k = M.ttI r player s.pits s.last) ∧ (-1 ≤ k) ∧ (k < 2 * r.pits) ∧ ((out.length : Int) + k = s.last) ∧ (out.length ≤ c10_7) ∧ (c10_7 ≤ 9223372036854775807) ∧ m = (k + 1).toNat) ⟨s.last, [], _, _, _, rfl, rfl, by rfl, zt, zt, by simp, zu, zu, rfl⟩ ?_
  rintro _ _ u10 _ ⟨k, out, A10_7, c10_7, g10_7, rfl, rfl, hS, k0, k1, hl, f10_4, f10_5, rfl⟩ x10
  refine zn ?_
  refine Js.seq <| zS <| Qm rfl <| Qh rfl rfl <| Qm rfl <| zg (Gd.t1 rfl rfl rfl) (fun hc => p_move rfl) <| zg (Gd.t1 rfl rfl rfl) (fun hc => p_move rfl) <| zgv (Gd.t1 rfl rfl rfl) (fun hc => (opds_2 (gh hc rfl) (gh hc rfl))) (fun hc => (fun w hw => c_spec_l02Owner r k (ok_ hw) (r0 := (by have hc9 := hc; (try simp only [decide_eq_true_eq] at hc9); omega)) (r1 := (by have hc9 := hc; (try simp only [decide_eq_true_eq] at hc9); omega)) (r2 := (by have hc9 := hc; (try simp only [decide_eq_true_eq] at hc9); omega)) (r3 := (by have hc9 := hc; (try simp only [decide_eq_true_eq] at hc9); omega)))) ?_
  refine zg (Gd.t1 rfl rfl rfl) (fun hc => p_move rfl) <| zg (Gd.t1 rfl rfl rfl) (fun hc => p_neq (gh hc rfl) (gh hc rfl)) <| Qq (p_pickAnd rfl rfl rfl) <| Qm rfl <| zg (Gd.t1 rfl rfl rfl) (fun hc => p_move rfl) <| zg (Gd.t1 rfl rfl rfl) (fun hc => p_nilCheck (gh hc rfl)) <| zg (Gd.t1 rfl rfl rfl) (fun hc => p_fieldAddr fld_162_0.h (gh hc rfl)) <| zgq (Gd.t1 rfl rfl rfl) (fun hc => q_load1 ty_27.h (gh hc rfl) (Mem.pub ((hr4.vis x10.vis) 0 _ rfl))) <| zg (Gd.t1 rfl rfl rfl) (fun hc => p_move rfl) <| zg (Gd.t1 rfl rfl rfl) (fun hc => p_indexAddr el_27 (gh hc rfl) (gh hc rfl) (by have hc9 := hc; (try simp only [Bool.and_eq_true, decide_eq_true_eq, Bool.not_eq_true', decide_eq_false_iff_not] at hc9); omega) (by have hc9 := hc; (try simp only [Bool.and_eq_true, decide_eq_true_eq, Bool.not_eq_true', decide_eq_false_iff_not] at hc9); omega) rfl) ?_
  refine zgq (Gd.t1 rfl rfl rfl) (fun hc => q_load1 ty_2.h (gh hc rfl) (Mem.pub (ints_cellI (i := k) (Ty.mono _ h2 x10.vis) (by have hc9 := hc; (try simp only [Bool.and_eq_true, decide_eq_true_eq, Bool.not_eq_true', decide_eq_false_iff_not] at hc9); omega)))) ?_
  refine zgv (Gd.t1 rfl rfl rfl) (fun hc => (opds_3 (gh hc rfl) rfl rfl)) (fun hc => (fun w hw => c_spec_l00In (M.getI s.pits k) 2 3)) ?_
  refine Qq (p_pickAnd rfl rfl rfl) <| JL.nil ?_
  refine zi (fun h12 h12' => ?_) fun h12 h12' => ?_
  ·
   obtain ⟨⟨c0, c1⟩, c2⟩ : (0 ≤ k ∧ ¬ M.owner r k = player) ∧ M.betw (M.getI s.pits k) 2 3 = true := by simpa using h12
   have hS2 : (out ++ [k]) ++ M.ttI r player s.pits (k - 1) = M.ttI r player s.pits s.last := by rw [← hS, M.ttI_yes c0 c1 c2]; simp
   refine Js.skip <| Js.block <| zS <| Qm rfl <| Qm rfl <| zbs fun b13 => ?_
   refine JL.e (e_append (i := 1) (n' := (out ++ [k]).length) (vs' := ints_ (out ++ [k])) el_27 rfl rfl rfl rfl (src_row (i := 0) und_27 rfl rfl) (by omega) (by omega) (by first | omega | (simp only [List.length_append, List.length_cons, List.length_nil] <;> omega)) (by simp [ints_])) ?_
   rintro v15 _ _ ⟨⟨g16, rfl⟩, rfl⟩ _
   refine JL.fact (row_form' (i := 1) rfl) (fun hf17 => ?_)
   obtain ⟨A17, c17, rfl, bl17, bh17⟩ := hf17
   refine znl ?_
   refine Qa rfl <| zG <| Qm rfl <| Qs rfl rfl <| Qa rfl <| JL.nil <| Js.blockEnd ?_
   refine zd [1] rfl fun u18 x18 => ?_
   exact zag ⟨k - 1, out ++ [k], _, _, _, rfl, rfl, by exact hS2, zt, zt, by simp only [List.length_append, List.length_cons, List.length_nil]; omega, zu, zu, rfl⟩ (x10.trans x18)
  have hF : M.ttI r player s.pits k = [] := by rcases h12' with (h | h) | h; exact M.ttI_neg h; exact M.ttI_no (.inl h); exact M.ttI_no (.inr h)
  rw [hF, List.append_nil] at hS
  have hR : M.taken r s player = out := by unfold M.taken; rw [if_neg hl0, if_pos hcap, hS]; simp [M.ttI, hl0]
  refine zx ?_
  have hq0 : out = M.taken r s player := by rw [hR]
  refine Js.blockEnd <| zS <| Qm rfl <| Qa rfl <| JL.nil ?_
  exact zro x10
 have hcap1 : ¬ r.capture = 1 := by simpa using h9
 refine zS <| Qe rfl rfl <| Qa rfl <| JL.nil ?_
 refine zi (fun h19 h19' => ?_) fun h19 h19' => ?_
 ·
  have hcap : r.capture = 2 := by simpa using h19
  have ho : M.opp r s.last = 2 * r.pits - 1 - s.last := rfl
  refine Js.seq ?_
  refine zdr [] ?_
  refine JH.p 0 rfl (p_move rfl) ?_
  refine JH.p 1 rfl (p_move rfl) ?_
  refine JH.pg 2 rfl (Gd.t1 rfl rfl rfl) (fun hc => p_move rfl) ?_
  refine JH.pg 3 rfl (Gd.t1 rfl rfl rfl) (fun hc => p_nilCheck (gvt rfl hc)) ?_
  refine JH.pg 4 rfl (Gd.t1 rfl rfl rfl) (fun hc => p_fieldAddr fld_162_0.h (gvt rfl hc)) ?_
  refine JH.wg 5 rfl (Gd.t1 rfl rfl rfl) (fun hc os' u' hv => q_load1 ty_27.h (gvt rfl hc) (Mem.pub ((hr4.vis hv) 0 _ rfl))) ?_
  refine JH.pg 6 rfl (Gd.t1 rfl rfl rfl) (fun hc => p_move rfl) ?_
  refine JH.pg 7 rfl (Gd.t1 rfl rfl rfl) (fun hc => p_indexAddr el_27 (gvt rfl hc) (gvt rfl hc) (by have hc9 := hc; (try simp only [decide_eq_true_eq] at hc9); omega) (by have hc9 := hc; (try simp only [decide_eq_true_eq] at hc9); omega) rfl) ?_
  refine JH.wg 8 rfl (Gd.t1 rfl rfl rfl) (fun hc os' u' hv => q_load1 ty_2.h (gvt rfl hc) (Mem.pub (ints_cellI (i := s.last) (Ty.mono _ h2 hv) (by have hc9 := hc; (try simp only [decide_eq_true_eq] at hc9); omega)))) ?_
  refine JH.pg 9 rfl (Gd.t1 rfl rfl rfl) (fun hc => p_eql (gvt rfl hc) rfl) ?_
  refine JH.p 10 rfl (p_pickAnd rfl rfl rfl) ?_
  refine JH.p 11 rfl (p_move rfl) ?_
  refine JH.pg 12 rfl (Gd.t1 rfl rfl rfl) (fun hc => p_move rfl) ?_
  refine JH.pg 13 rfl (Gd.t1 rfl rfl rfl) (fun hc => p_nilCheck (gvt rfl hc)) ?_
  refine JH.pg 14 rfl (Gd.t1 rfl rfl rfl) (fun hc => p_fieldAddr fld_162_0.h (gvt rfl hc)) ?_
  refine JH.wg 15 rfl (Gd.t1 rfl rfl rfl) (fun hc os' u' hv => q_load1 ty_27.h (gvt rfl hc) (Mem.pub ((hr4.vis hv) 0 _ rfl))) ?_
  refine JH.pg 16 rfl (Gd.t1 rfl rfl rfl) (fun hc => p_move rfl) ?_
  refine JH.pg 17 rfl (Gd.t1 rfl rfl rfl) (fun hc => p_move rfl) ?_
  refine y1 18 ?_
  refine JHo.ge rfl (Gd.t1 rfl rfl rfl) (fun hc => e_callV fn_180.h (opds_2 (gvt rfl hc) (gvt rfl hc)) (fun w hw => c_spec_l02Opposite r s.last (ok_ hw) (r0 := (by have hc9 := hc; (try simp only [Bool.and_eq_true, decide_eq_true_eq] at hc9); omega)) (r1 := (by have hc9 := hc; (try simp only [Bool.and_eq_true, decide_eq_true_eq] at hc9); omega)) (r2 := (by have hc9 := hc; (try simp only [Bool.and_eq_true, decide_eq_true_eq] at hc9); omega)) (r3 := (by have hc9 := hc; (try simp only [Bool.and_eq_true, decide_eq_true_eq] at hc9); omega)))) ?_
  refine JH.pg 19 rfl (Gd.t1 rfl rfl rfl) (fun hc => p_indexAddr el_27 (gvt rfl hc) (gvt rfl hc) (by have hc9 := hc; (try simp only [Bool.and_eq_true, decide_eq_true_eq] at hc9); omega) (by have hc9 := hc; (try simp only [Bool.and_eq_true, decide_eq_true_eq] at hc9); omega) rfl) ?_
  refine JH.wg 20 rfl (Gd.t1 rfl rfl rfl) (fun hc os' u' hv => q_load1 ty_2.h (gvt rfl hc) (Mem.pub (ints_cellI (i := M.opp r s.last) (Ty.mono _ h2 hv) (by have hc9 := hc; (try simp only [Bool.and_eq_true, decide_eq_true_eq] at hc9); omega)))) ?_
  refine JH.pg 21 rfl (Gd.t1 rfl rfl rfl) (fun hc => p_gtr (gvt rfl hc) rfl) ?_
  refine JH.p 22 rfl (p_pickAnd rfl rfl rfl) ?_
  refine yd ?_
  refine zi (fun h22 h22' => ?_) fun h22 h22' => ?_
  ·
   have hR : M.taken r s player = [s.last, M.opp r s.last] := by unfold M.taken; rw [if_neg hl0, if_neg hcap1, if_pos hcap, if_pos (by simpa [and_assoc] using h22)]
   refine Js.region <| Qm rfl <| Qm rfl <| Qm rfl <| Qm rfl <| zv rfl (fun w hw => c_spec_l02Opposite r s.last (ok_ hw)) <| zbs fun b23 => ?_
   refine JL.e (e_append (i := 1) (n' := 2) (vs' := ints_ [s.last, (M.opp r s.last)]) el_27 rfl rfl rfl rfl (src_row (i := 0) und_27 rfl rfl) (by omega) (by omega) (by first | omega | (simp only [List.length_append, List.length_cons, List.length_nil] <;> omega)) (by simp [ints_])) ?_
   rintro v25 _ _ ⟨⟨g26, rfl⟩, rfl⟩ _
   refine JL.fact (row_form' (i := 1) rfl) (fun hf27 => ?_)
   obtain ⟨A27, c27, rfl, bl27, bh27⟩ := hf27
   refine znl ?_
   have hq0 : [s.last, (M.opp r s.last)] = M.taken r s player := by rw [hR]
   refine Qa rfl <| JL.nil <| Js.blockEnd <| zS <| Qm rfl <| Qa rfl <| JL.nil ?_
   exact zro (Up.refl _ _)
  have hR : M.taken r s player = [] := by unfold M.taken; rw [if_neg hl0, if_neg hcap1, if_pos hcap, if_neg (by simpa [and_assoc] using h22)]
  have hq0 : [] = M.taken r s player := by rw [hR]
  refine Js.skip <| Js.blockEnd <| zS <| Qm rfl <| Qa rfl <| JL.nil ?_
  exact zro (Up.refl _ _)
 have hcap2 : ¬ r.capture = 2 := by simpa using h19
 refine zS <| Qe rfl rfl <| Qa rfl <| JL.nil ?_
 refine zi (fun h28 h28' => ?_) fun h28 h28' => ?_
 ·
  have hcap : r.capture = 3 := by simpa using h28
  refine zS <| Qm rfl <| Qt rfl <| Qm rfl <| zg (Gd.t1 rfl rfl rfl) (fun hc => p_move rfl) <| zg (Gd.t1 rfl rfl rfl) (fun hc => p_nilCheck (gh hc rfl)) <| zg (Gd.t1 rfl rfl rfl) (fun hc => p_fieldAddr fld_162_0.h (gh hc rfl)) <| zgq (Gd.t1 rfl rfl rfl) (fun hc => q_load1 ty_27.h (gh hc rfl) (Mem.pub (hr4 0 _ rfl))) <| zg (Gd.t1 rfl rfl rfl) (fun hc => p_move rfl) <| zg (Gd.t1 rfl rfl rfl) (fun hc => p_indexAddr el_27 (gh hc rfl) (gh hc rfl) (by have hc9 := hc; (try simp only [Bool.not_eq_true', decide_eq_false_iff_not] at hc9); omega) (by have hc9 := hc; (try simp only [Bool.not_eq_true', decide_eq_false_iff_not] at hc9); omega) rfl) ?_
  refine zgq (Gd.t1 rfl rfl rfl) (fun hc => q_load1 ty_2.h (gh hc rfl) (Mem.pub (ints_cellI (i := s.last) h2 (by have hc9 := hc; (try simp only [Bool.not_eq_true', decide_eq_false_iff_not] at hc9); omega)))) ?_
  refine zg (Gd.t1 rfl rfl rfl) (fun hc => p_rem (gh hc rfl) rfl (by have hc9 := hc; (try simp only [Bool.not_eq_true', decide_eq_false_iff_not] at hc9); omega) (Int.tmod_eq_emod_of_nonneg (by have hc9 := hc; (try simp only [Bool.not_eq_true', decide_eq_false_iff_not] at hc9); omega))) ?_
  refine zg (Gd.t1 rfl rfl rfl) (fun hc => p_eql (gh hc rfl) rfl) <| Qq (p_pickAnd rfl rfl rfl) <| JL.nil ?_
  refine zi (fun h30 h30' => ?_) fun h30 h30' => ?_
  ·
   have hR : M.taken r s player = [s.last] := by unfold M.taken; rw [if_neg hl0, if_neg hcap1, if_neg hcap2, if_pos hcap, if_pos (by simpa using h30)]
   refine Js.region <| Qm rfl <| Qm rfl <| zbs fun b31 => ?_
   refine JL.e (e_append (i := 1) (n' := 1) (vs' := ints_ [s.last]) el_27 rfl rfl rfl rfl (src_row (i := 0) und_27 rfl rfl) (by omega) (by omega) (by first | omega | (simp only [List.length_append, List.length_cons, List.length_nil] <;> omega)) (by simp [ints_])) ?_
   rintro v33 _ _ ⟨⟨g34, rfl⟩, rfl⟩ _
   refine JL.fact (row_form' (i := 1) rfl) (fun hf35 => ?_)
   obtain ⟨A35, c35, rfl, bl35, bh35⟩ := hf35
   refine znl ?_
   have hq0 : [s.last] = M.taken r s player := by rw [hR]
   refine Qa rfl <| JL.nil <| Js.blockEnd <| zS <| Qm rfl <| Qa rfl <| JL.nil ?_
   exact zro (Up.refl _ _)
  have hR : M.taken r s player = [] := by unfold M.taken; rw [if_neg hl0, if_neg hcap1, if_neg hcap2, if_pos hcap, if_neg (by simpa using h30)]
  have hq0 : [] = M.taken r s player := by rw [hR]
  refine Js.skip <| Js.blockEnd <| zS <| Qm rfl <| Qa rfl <| JL.nil ?_
  exact zro (Up.refl _ _)
 have hcap3 : ¬ r.capture = 3 := by simpa using h28
 have hR : M.taken r s player = [] := by unfold M.taken; rw [if_neg hl0, if_neg hcap1, if_neg hcap2, if_neg hcap3]
 have hq0 : [] = M.taken r s player := by rw [hR]
 refine Js.skip <| Js.blockEnd <| zS <| Qm rfl <| Qa rfl <| JL.nil ?_
 exact zro (Up.refl _ _)

set_option maxHeartbeats 1000000 in
theorem c_spec_l06Sum (s : M.Sw) {v_s : Value} (list : List Int) {v_list : Value} {w : World} (h_s : (Ty.ref (cSown s)).ok w v_s) (h_list : (Ty.ints 2 list).ok w v_list) (r0 : s.pits.length ≤ 16 := by exact om_) (r1 : list.length ≤ 16 := by exact om_) (r2 : ∀ x ∈ list, 0 ≤ x ∧ x < s.pits.length := by exact om_) (r3 : ∀ k : Int, 0 ≤ M.getI s.pits k ∧ M.getI s.pits k ≤ 96 := by exact om_) : RetV Tryz.prog 163 [v_s, v_list] w (.int .i64 (M.isum (list.map (M.getI s.pits)))) := by
 revert v_s; apply opn
 intro b3 o3 A1 c1 h1 bl1 bh1 A2 c2 h2 bl2 bh2 hr3
 revert v_list; apply opn
 intro A4 c4 h4 bl4 bh4
 have h_list := h4
 refine enter @Tryz.func163 @Tryz.ntmps163 rfl rfl ?_
 refine zent ?_
 refine zS <| Qa rfl <| zN <| Qa rfl <| zJ <| zS <| Qa rfl <| JL.nil <| Js.block ?_
 refine zl [0, 1] (fun F U l os u m => ∃ (k : Nat) (t : Int), l = F [(5, .int .i64 t), (6, .int .i64 (k : Int))] ∧ os = U [] ∧ (t + M.isum ((list.drop k).map (M.getI s.pits)) = M.isum (list.map (M.getI s.pits))) ∧ (k ≤ list.length) ∧ (0 ≤ t) ∧ (t ≤ 96 * k) ∧ m = list.length - k) ⟨0, 0, rfl, rfl, by simp, zt, zt, zt, rfl⟩ ?_
 rintro _ _ u5 _ ⟨k, t, rfl, rfl, hS, hk, t0, t1, rfl⟩ x5
 refine zn ?_
 refine Js.seq <| zS <| Qm rfl <| Qm rfl <| Qz rfl <| Ql rfl rfl <| JL.nil ?_
 refine zi (fun h6 h6' => ?_) fun h6 h6' => ?_
 ·
  have hk2 : k < list.length := by have := h6'; omega
  have hx := r2 _ (M.nth_mem hk2)
  have hv := r3 (M.nth list k)
  simp only [M.getI] at hv
  have hS2 := hS
  rw [M.drop_nth hk2, List.map_cons, M.isum_cons, ← Int.add_assoc] at hS2
  refine Js.skip <| Js.seq <| Js.block ?_
  refine zdr [] ?_
  refine JH.p 0 rfl (p_move rfl) ?_
  refine JH.p 1 rfl (p_move rfl) ?_
  refine JH.p 2 rfl (p_nilCheck rfl) ?_
  refine JH.p 3 rfl (p_fieldAddr fld_162_0.h rfl) ?_
  refine JH.w 4 rfl (fun os' u' hv => q_load1 ty_27.h rfl (Mem.pub ((hr3.vis (x5.vis.trans hv)) 0 _ rfl))) ?_
  refine JH.p 5 rfl (p_move rfl) ?_
  refine JH.p 6 rfl (p_move rfl) ?_
  obtain ⟨b7, o7, he7, hc7⟩ := ints_elem (Ty.mono _ h4 x5.vis) (i := k) (by omega)
  refine JH.p 7 rfl (p_indexAddr el_27 rfl rfl (by omega) (by omega) he7) ?_
  refine JH.w 8 rfl (fun os' u' hv => q_load1 ty_2.h rfl (Mem.pub (hc7.vis hv))) ?_
  obtain ⟨b8, o8, he8, hc8⟩ := ints_elem (Ty.mono _ h1 x5.vis) (i := (M.nth list k).toNat) (by omega)
  refine JH.p 9 rfl (p_indexAddr el_27 rfl rfl (by omega) (by omega) he8) ?_
  refine JH.w 10 rfl (fun os' u' hv => q_load1 ty_2.h rfl (Mem.pub (hc8.vis hv))) ?_
  refine JH.p 11 rfl (p_add rfl rfl (IntWalk.i64_in _ (by omega))) ?_
  refine JH.p 12 rfl (p_assign rfl) ?_
  refine yd ?_
  refine Js.blockEnd <| Js.region <| Qm rfl <| Qp rfl rfl <| Qa rfl <| JL.nil ?_
  exact zag ⟨k + 1, t + (M.nth s.pits ((M.nth list k).toNat)), rfl, rfl, by exact hS2, zt, zt, zt, rfl⟩ x5
 have hT : M.isum (list.map (M.getI s.pits)) = t := by rw [← hS, List.drop_eq_nil_of_le (by have := h6'; omega)]; simp
 refine zx ?_
 refine zS <| Qm rfl <| Qa rfl <| JL.nil ?_
 refine zR x5 ?_
 rw [hT]; rfl

set_option maxHeartbeats 1000000 in
theorem c_spec_l06Slam (r : M.Rul) {v_r : Value} (s : M.Sw) {v_s : Value} (player : Int) {w : World} (h_r : (Ty.ref (cRules r)).ok w v_r) (h_s : (Ty.ref (cSown s)).ok w v_s) (r0 : 2 ≤ r.pits := by exact om_) (r1 : r.pits ≤ 8 := by exact om_) (r2 : player = 0 ∨ player = 1 := by exact om_) (r3 : M.Good r s.pits s.stores 0 := by exact om_) (r4 : -1 ≤ s.last := by exact om_) (r5 : s.last < 2 * r.pits := by exact om_) : RetV Tryz.prog 118 [v_r, v_s, .int .i64 player] w (.bool (M.slams r s player)) := by
 have l1 := r3.lp
 have l2 := r3.ls
 have hao := M.Good.ok r3
 have hlen := M.taken_len (s := s) (player := player) r5 r1
 revert v_r; apply opn
 intro b1 o1 hr1
 revert v_s; apply opn
 intro b4 o4 A2 c2 h2 bl2 bh2 A3 c3 h3 bl3 bh3 hr4
 refine enter @Tryz.func118 @Tryz.ntmps118 rfl rfl ?_
 refine zent ?_
 obtain ⟨b5, o5, rfl⟩ := ints_some h2 (by omega)
 refine zS <| Qa rfl <| zN <| Qm rfl <| Qm rfl <| Qm rfl <| zp rfl (fun w hw => c_spec_l06Raw r s player (ok_ hw) (ok_ hw) (r3 := r3)) ?_
 intro u6 x6 A7 c7 h7 bl7 bh7
 refine Qa rfl <| zN <| Qa rfl <| zJ <| zS <| Qa rfl <| JL.nil <| Js.block ?_
 refine zl [0, 1, 2, 7] (fun F U l os u m => ∃ (k : Nat) (g : Int), l = F [(8, .int .i64 g), (9, .int .i64 (k : Int))] ∧ os = U [] ∧ (g + M.gone r s player ((M.taken r s player).drop k) = M.gone r s player (M.taken r s player)) ∧ (k ≤ (M.taken r s player).length) ∧ (0 ≤ g) ∧ (g ≤ 96 * k) ∧ m = (M.taken r s player).length - k) ⟨0, 0, rfl, rfl, by simp, zt, zt, zt, rfl⟩ ?_
 rintro _ _ u8 _ ⟨k, g, rfl, rfl, hS, hk, g0, g1, rfl⟩ x8
 refine zn ?_
 refine Js.seq <| zS <| Qm rfl <| Qm rfl <| Qz rfl <| Ql rfl rfl <| JL.nil ?_
 refine zi (fun h9 h9' => ?_) fun h9 h9' => ?_
 ·
  have hk2 : k < (M.taken r s player).length := by have := h9'; omega
  have hx := M.taken_mem (r := r) (s := s) (player := player) r5 (M.nth_mem hk2)
  have hvx := r3.pit (M.nth (M.taken r s player) k)
  have hS1 := hS
  rw [M.drop_nth hk2, M.gone_cons] at hS1
  obtain ⟨b10, o10, he10, hc10⟩ := ints_elem (Ty.mono _ h7 x8.vis) (i := k) (by omega)
  refine Js.skip <| Js.seq <| Js.block <| zS <| Qm rfl <| Qm rfl <| Qm rfl <| Qq (p_indexAddr el_27 rfl rfl (by omega) (by omega) he10) <| QC hc10 rfl <| zv rfl (fun w hw => c_spec_l02Owner r (M.nth (M.taken r s player) k) (ok_ hw)) <| Qm rfl <| Qd rfl rfl <| JL.nil ?_
  refine zi (fun h11 h11' => ?_) fun h11 h11' => ?_
  ·
   have hS2 : (g + M.getI s.pits (M.nth (M.taken r s player) k)) + M.gone r s player ((M.taken r s player).drop (k + 1)) = M.gone r s player (M.taken r s player) := by rw [if_neg (by simpa using h11)] at hS1; omega
   refine zdr [] ?_
   refine JH.p 0 rfl (p_move rfl) ?_
   refine JH.p 1 rfl (p_move rfl) ?_
   refine JH.p 2 rfl (p_nilCheck rfl) ?_
   refine JH.p 3 rfl (p_fieldAddr fld_162_0.h rfl) ?_
   refine JH.w 4 rfl (fun os' u' hv => q_load1 ty_27.h rfl (Mem.pub ((hr4.vis ((x6.vis.trans x8.vis).trans hv)) 0 _ rfl))) ?_
   refine JH.p 5 rfl (p_move rfl) ?_
   refine JH.p 6 rfl (p_move rfl) ?_
   obtain ⟨b12, o12, he12, hc12⟩ := ints_elem (Ty.mono _ h7 x8.vis) (i := k) (by omega)
   refine JH.p 7 rfl (p_indexAddr el_27 rfl rfl (by omega) (by omega) he12) ?_
   refine JH.w 8 rfl (fun os' u' hv => q_load1 ty_2.h rfl (Mem.pub (hc12.vis hv))) ?_
   refine JH.p 9 rfl (p_indexAddr el_27 rfl rfl (by omega) (by omega) rfl) ?_
   refine JH.w 10 rfl (fun os' u' hv => q_load1 ty_2.h rfl (Mem.pub (ints_cellI (i := M.nth (M.taken r s player) k) (Ty.mono _ h2 ((x6.vis.trans x8.vis).trans hv)) (by omega)))) ?_
   refine JH.p 11 rfl (p_add rfl rfl (IntWalk.i64_in _ (by omega))) ?_
   refine JH.p 12 rfl (p_assign rfl) ?_
   refine yd ?_
   refine Js.blockEnd <| Js.region <| Qm rfl <| Qp rfl rfl <| Qa rfl <| JL.nil ?_
   exact zag ⟨k + 1, g + (M.getI s.pits (M.nth (M.taken r s player) k)), rfl, rfl, by exact hS2, zt, zt, zt, rfl⟩ x8
  have hS2 : g + M.gone r s player ((M.taken r s player).drop (k + 1)) = M.gone r s player (M.taken r s player) := by rw [if_pos (by simpa using h11)] at hS1; omega
  refine Js.skip <| Js.blockEnd <| Js.region <| Qm rfl <| Qp rfl rfl <| Qa rfl <| JL.nil ?_
  exact zag ⟨k + 1, g, rfl, rfl, by exact hS2, zt, zt, zt, rfl⟩ x8
 have hg : g = M.gone r s player (M.taken r s player) := by rw [← hS, List.drop_eq_nil_of_le (by have := h9'; omega), M.gone_nil]; omega
 refine zx ?_
 refine zS <| Qm rfl <| Qg rfl rfl <| Qm rfl <| zg (Gd.t1 rfl rfl rfl) (fun hc => p_move rfl) <| zg (Gd.t1 rfl rfl rfl) (fun hc => p_move rfl) <| zg (Gd.t1 rfl rfl rfl) (fun hc => p_move rfl) <| zg (Gd.t1 rfl rfl rfl) (fun hc => p_nilCheck (gh hc rfl)) <| zg (Gd.t1 rfl rfl rfl) (fun hc => p_fieldAddr fld_162_0.h (gh hc rfl)) <| zgq (Gd.t1 rfl rfl rfl) (fun hc => q_load1 ty_27.h (gh hc rfl) (Mem.pub ((hr4.vis (x6.vis.trans x8.vis)) 0 _ rfl))) <| zg (Gd.t1 rfl rfl rfl) (fun hc => p_move rfl) <| zg (Gd.t1 rfl rfl rfl) (fun hc => p_sub rfl (gh hc rfl) (IntWalk.i64_in _ (by have hc9 := hc; (try simp only [decide_eq_true_eq] at hc9); omega))) ?_
 refine zgv (Gd.t1 rfl rfl rfl) (fun hc => (opds_3 (gh hc rfl) (gh hc rfl) (gh hc rfl))) (fun hc => (fun w hw => c_spec_l04Side r s.pits (1 - player) (ok_ hw) (ok_ hw) (r0 := (by have hc9 := hc; (try simp only [decide_eq_true_eq] at hc9); omega)) (r1 := (by have hc9 := hc; (try simp only [decide_eq_true_eq] at hc9); omega)) (r2 := (by have hc9 := hc; (try simp only [decide_eq_true_eq] at hc9); omega)) (r3 := (by have hc9 := hc; (try simp only [decide_eq_true_eq] at hc9); omega)) (r4 := hao.1))) ?_
 refine zg (Gd.t1 rfl rfl rfl) (fun hc => p_eql (gh hc rfl) (gh hc rfl)) <| Qq (p_pickAnd rfl rfl rfl) <| Qa rfl <| JL.nil ?_
 refine zR (x6.trans x8) ?_
 subst hg; simp [outV, M.slams, eq_comm]

set_option maxHeartbeats 1000000 in
theorem c_spec_l06Pits (r : M.Rul) {v_r : Value} (s : M.Sw) {v_s : Value} (player : Int) {w : World} (h_r : (Ty.ref (cRules r)).ok w v_r) (h_s : (Ty.ref (cSown s)).ok w v_s) (r0 : 2 ≤ r.pits := by exact om_) (r1 : r.pits ≤ 8 := by exact om_) (r2 : player = 0 ∨ player = 1 := by exact om_) (r3 : M.Good r s.pits s.stores 0 := by exact om_) (r4 : -1 ≤ s.last := by exact om_) (r5 : s.last < 2 * r.pits := by exact om_) : Ret Tryz.prog 162 [v_r, v_s, .int .i64 player] w (Ty.ints 2 (M.captured r s player)) := by
 revert v_r; apply opn
 intro b1 o1 hr1
 revert v_s; apply opn
 intro b4 o4 A2 c2 h2 bl2 bh2 A3 c3 h3 bl3 bh3 hr4
 refine enter @Tryz.func162 @Tryz.ntmps162 rfl rfl ?_
 refine zent ?_
 refine zS <| Qa rfl <| zJ <| zS <| Qm rfl <| Qc rfl <| Qf fh rfl <| QC (hr1 8 _ rfl) rfl <| Qe rfl rfl <| Qm rfl <| zg (Gd.t1 rfl rfl rfl) (fun hc => p_move rfl) <| zg (Gd.t1 rfl rfl rfl) (fun hc => p_move rfl) <| zg (Gd.t1 rfl rfl rfl) (fun hc => p_move rfl) <| zgv (Gd.t1 rfl rfl rfl) (fun hc => (opds_3 (gh hc rfl) (gh hc rfl) (gh hc rfl))) (fun hc => (fun w hw => c_spec_l06Slam r s player (ok_ hw) (ok_ hw) (r0 := (by have hc9 := hc; (try simp only [decide_eq_true_eq] at hc9); omega)) (r1 := (by have hc9 := hc; (try simp only [decide_eq_true_eq] at hc9); omega)) (r2 := (by have hc9 := hc; (try simp only [decide_eq_true_eq] at hc9); omega)) (r3 := r3) (r4 := (by have hc9 := hc; (try simp only [decide_eq_true_eq] at hc9); omega)) (r5 := (by have hc9 := hc; (try simp only [decide_eq_true_eq] at hc9); omega)))) ?_
 refine Qq (p_pickAnd rfl rfl rfl) <| JL.nil ?_
 refine zi (fun h5 h5' => ?_) fun h5 h5' => ?_
 ·
  have hR : M.captured r s player = [] := by unfold M.captured; rw [if_pos (by simpa using h5)]
  have hq0 : [] = M.captured r s player := by rw [hR]
  refine zS <| zbs fun b6 => ?_
  refine Qa rfl <| JL.nil ?_
  exact zro (Up.refl _ _)
 have hR : M.captured r s player = M.taken r s player := by unfold M.captured; rw [if_neg (by simpa using h5)]
 refine Js.skip <| zS <| Qm rfl <| Qm rfl <| Qm rfl <| zcs rfl (fun w hw => c_spec_l06Raw r s player (ok_ hw) (ok_ hw) (r3 := r3)) ?_
 intro A8 c8 bl8 bh8
 have hq0 : (M.taken r s player) = M.captured r s player := by rw [hR]
 refine Qa rfl <| JL.nil ?_
 exact zro (Up.refl _ _)

set_option maxHeartbeats 1000000 in
theorem c_spec_l06Take (r : M.Rul) {v_r : Value} (s : M.Sw) {v_s : Value} (player : Int) {w : World} (h_r : (Ty.ref (cRules r)).ok w v_r) (h_s : (Ty.ref (cSown s)).ok w v_s) (r0 : 2 ≤ r.pits := by exact om_) (r1 : r.pits ≤ 8 := by exact om_) (r2 : player = 0 ∨ player = 1 := by exact om_) (r3 : M.Good r s.pits s.stores 0 := by exact om_) (r4 : -1 ≤ s.last := by exact om_) (r5 : s.last < 2 * r.pits := by exact om_) : Ret Tryz.prog 119 [v_r, v_s, .int .i64 player] w (Ty.agg (cSown (M.take r s player))) := by
 have l1 := r3.lp
 have l2 := r3.ls
 have hlen := M.captured_len (s := s) (player := player) r5 r1
 have hmem : ∀ x ∈ (M.captured r s player), 0 ≤ x ∧ x < s.pits.length := fun x hx => by have := M.captured_mem r5 hx; omega
 have hbs := r3.store player
 have hbi := M.cap_sum (r := r) (s := s) (player := player) r3 r5
 revert v_r; apply opn
 intro b1 o1 hr1
 revert v_s; apply opn
 intro b4 o4 A2 c2 h2 bl2 bh2 A3 c3 h3 bl3 bh3 hr4
 refine enter @Tryz.func119 @Tryz.ntmps119 rfl rfl ?_
 refine zent ?_
 obtain ⟨b5, o5, rfl⟩ := ints_some h2 (by omega)
 obtain ⟨b6, o6, rfl⟩ := ints_some h3 (by omega)
 refine zS <| za zeh fun b7 => zN <| Qm rfl <| Qm rfl <| Qm rfl <| zp rfl (fun w hw => c_spec_l06Pits r s player (ok_ hw) (ok_ hw) (r3 := r3)) ?_
 intro u8 x8 A9 c9 h9 bl9 bh9
 refine Qa rfl <| zJ ?_
 refine zk [1, 2, 6, 7] (fun F U l os u => ∃ (b12 : Nat) (A10 : Option Addr) (c10 : Nat) (A11 : Option Addr) (c11 : Nat), l = F [(8, .pointer (some ⟨b12, 0, none⟩))] ∧ os = [boxO b12 [.slice A10 s.pits.length c10, .slice A11 s.stores.length c11, .int .i64 s.last, .int .i64 s.laps] 162, rowO 2 1 (.slice A11 s.stores.length c11) s.stores.length (ints_ s.stores) [], rowO 2 1 (.slice A10 s.pits.length c10) s.pits.length (ints_ s.pits) []] ++ U [] ∧ (s.pits.length ≤ c10) ∧ (c10 ≤ 9223372036854775807) ∧ (s.stores.length ≤ c11) ∧ (c11 ≤ 9223372036854775807)) ?_ ?_
 ·
  refine zdr [20] ?_
  refine JH.p 0 rfl (p_move rfl) ?_
  refine JH.p 1 rfl (p_nilCheck rfl) ?_
  refine JH.p 2 rfl (p_fieldAddr fld_162_0.h rfl) ?_
  refine JH.w 3 rfl (fun os' u' hv => q_load1 ty_27.h rfl (Mem.pub ((hr4.vis (x8.vis.trans hv)) 0 _ rfl))) ?_
  refine JH.p 5 rfl (p_move rfl) ?_
  refine JH.p 6 rfl (p_nilCheck rfl) ?_
  refine JH.p 7 rfl (p_fieldAddr fld_162_1.h rfl) ?_
  refine JH.w 8 rfl (fun os' u' hv => q_load1 ty_27.h rfl (Mem.pub ((hr4.vis (x8.vis.trans hv)) 1 _ rfl))) ?_
  refine JH.p 10 rfl (p_move rfl) ?_
  refine JH.p 11 rfl (p_nilCheck rfl) ?_
  refine JH.p 12 rfl (p_fieldAddr fld_162_2.h rfl) ?_
  refine JH.w 13 rfl (fun os' u' hv => q_load1 ty_2.h rfl (Mem.pub ((hr4.vis (x8.vis.trans hv)) 2 _ rfl))) ?_
  refine JH.p 14 rfl (p_move rfl) ?_
  refine JH.p 15 rfl (p_nilCheck rfl) ?_
  refine JH.p 16 rfl (p_fieldAddr fld_162_3.h rfl) ?_
  refine JH.w 17 rfl (fun os' u' hv => q_load1 ty_2.h rfl (Mem.pub ((hr4.vis (x8.vis.trans hv)) 3 _ rfl))) ?_
  refine y2 4 19 ?_ ?_
  ·
   refine ycs rfl rfl (fun w hw => c_spec_l00Own s.pits (ok_ hw)) ?_
   intro A19 c19 bl19 bh19
   refine y2 9 19 ?_ ?_
   ·
    refine ycs rfl rfl (fun w hw => c_spec_l00Own s.stores (ok_ hw)) ?_
    intro A20 c20 bl20 bh20
    refine JH.p 18 rfl (q_bld) ?_
    refine y1 19 ?_
    refine ya rfl fun b21 => ?_
    refine y1 20 ?_
    refine yst rfl rfl rfl ?_
    refine yd ?_
    exact zm ⟨_, _, _, _, _, rfl, rfl, zt, zt, zt, zt⟩ (Up.refl _ _)
   refine ya rfl fun b22 => ?_
   refine y1 9 ?_
   refine ycs rfl rfl (fun w hw => c_spec_l00Own s.stores (ok_ hw)) ?_
   intro A23 c23 bl23 bh23
   refine JH.p 18 rfl (q_bld) ?_
   refine y1 20 ?_
   refine yst rfl rfl rfl ?_
   refine yd ?_
   refine zh [1, 0, 0, 0] ?_
   exact zm ⟨_, _, _, _, _, rfl, rfl, zt, zt, zt, zt⟩ (Up.refl _ _)
  refine ya rfl fun b24 => ?_
  refine y1 4 ?_
  refine ycs rfl rfl (fun w hw => c_spec_l00Own s.pits (ok_ hw)) ?_
  intro A25 c25 bl25 bh25
  refine y1 9 ?_
  refine ycs rfl rfl (fun w hw => c_spec_l00Own s.stores (ok_ hw)) ?_
  intro A26 c26 bl26 bh26
  refine JH.p 18 rfl (q_bld) ?_
  refine y1 20 ?_
  refine yst rfl rfl rfl ?_
  refine yd ?_
  refine zh [2, 0, 0, 0] ?_
  exact zm ⟨_, _, _, _, _, rfl, rfl, zt, zt, zt, zt⟩ (Up.refl _ _)
 rintro _ _ u18 ⟨b12, A10, c10, A11, c11, rfl, rfl, f18_0, f18_1, f18_2, f18_3⟩ x18
 refine zn ?_
 refine Js.fact (row_some (i := 1) rfl (by omega)) (fun hf27 => ?_)
 obtain ⟨b27, rfl⟩ := hf27
 refine Js.fact (row_some (i := 2) rfl (by omega)) (fun hf28 => ?_)
 obtain ⟨b28, rfl⟩ := hf28
 refine Js.seq ?_
 refine zdr [10] ?_
 refine JH.p 0 rfl (p_fieldAddr fld_162_1.h rfl) ?_
 refine JH.q 1 rfl (q_load1 ty_27.h rfl (Mem.box (i := 0) rfl rfl)) ?_
 refine JH.p 2 rfl (p_move rfl) ?_
 refine JH.p 3 rfl (p_indexAddr el_27 rfl rfl (by omega) (by omega) rfl) ?_
 refine JH.q 4 rfl (q_load1 ty_2.h rfl (Mem.row (i := 1) rfl (ints_getI (i := player) (by omega)))) ?_
 refine JH.p 5 rfl (p_move rfl) ?_
 refine JH.p 6 rfl (p_move rfl) ?_
 refine y1 7 ?_
 refine yv rfl rfl (fun w hw => c_spec_l06Sum s (M.captured r s player) (ok_ hw) (ok_ hw) (r2 := hmem) (r3 := r3.pit)) ?_
 refine JH.p 8 rfl (p_add rfl rfl (IntWalk.i64_in _ (by omega))) ?_
 refine JH.p 9 rfl (p_indexAddr el_27 rfl rfl (by omega) (by omega) rfl) ?_
 refine y1 10 ?_
 refine JHo.s rfl (e_storeRow (i := 1) (xs' := ints_ (M.setI s.stores player ((M.getI s.stores player) + (M.isum ((M.captured r s player).map (M.getI s.pits)))))) ty_2.h rfl rfl rfl rfl rfl rfl (ints_lt (i := player.toNat) (by omega)) (ints_setL (i := player.toNat) (by omega))) (.inr rfl) ?_
 rintro _ _ _ ⟨rfl, rfl⟩ _
 refine znh ?_
 refine yd ?_
 refine Js.seq <| zS <| Qa rfl <| JL.nil <| Js.block ?_
 refine zl [6, 7, 8] (fun F U l os u m => ∃ (k : Nat) (ps : List Int), l = F [(9, .int .i64 (k : Int))] ∧ os = U [nO, nO, some (rowO 2 1 (.slice (some ⟨b28, 0, none⟩) s.pits.length c10) s.pits.length (ints_ ps) [])] ∧ (ps = M.zeros ((M.captured r s player).take k) s.pits) ∧ (k ≤ (M.captured r s player).length) ∧ (ps.length = s.pits.length) ∧ m = (M.captured r s player).length - k) ⟨0, s.pits, rfl, rfl, by rfl, zt, by rfl, rfl⟩ ?_
 rintro _ _ u31 _ ⟨k, ps, rfl, rfl, hP, hk, hpl, rfl⟩ x31
 refine zn ?_
 refine Js.seq <| zS <| Qm rfl <| Qm rfl <| Qz rfl <| Ql rfl rfl <| JL.nil ?_
 refine zi (fun h32 h32' => ?_) fun h32 h32' => ?_
 ·
  have hk2 : k < (M.captured r s player).length := by have := h32'; omega
  have hx := hmem _ (M.nth_mem hk2)
  refine Js.skip <| Js.seq <| Js.block ?_
  refine zdr [7] ?_
  refine JH.p 0 rfl (p_fieldAddr fld_162_0.h rfl) ?_
  refine JH.q 1 rfl (q_load1 ty_27.h rfl (Mem.box (i := 0) rfl rfl)) ?_
  refine JH.p 2 rfl (p_move rfl) ?_
  refine JH.p 3 rfl (p_move rfl) ?_
  obtain ⟨b33, o33, he33, hc33⟩ := ints_elem (Ty.mono _ h9 (x18.vis.trans x31.vis)) (i := k) (by omega)
  refine JH.p 4 rfl (p_indexAddr el_27 rfl rfl (by omega) (by omega) he33) ?_
  refine JH.w 5 rfl (fun os' u' hv => q_load1 ty_2.h rfl (Mem.pub (hc33.vis hv))) ?_
  refine JH.p 6 rfl (p_indexAddr el_27 rfl rfl (by omega) (by omega) rfl) ?_
  refine y1 7 ?_
  refine JHo.s rfl (e_storeRow (i := 2) (xs' := ints_ (M.setI ps (M.nth (M.captured r s player) k) 0)) ty_2.h rfl rfl rfl rfl rfl rfl (ints_lt (i := (M.nth (M.captured r s player) k).toNat) (by omega)) (ints_setL (i := (M.nth (M.captured r s player) k).toNat) (by omega))) (.inr rfl) ?_
  rintro _ _ _ ⟨rfl, rfl⟩ _
  refine znh ?_
  refine yd ?_
  refine Js.blockEnd <| Js.region <| Qm rfl <| Qp rfl rfl <| Qa rfl <| JL.nil ?_
  exact zag ⟨k + 1, M.setI ps (M.nth (M.captured r s player) k) 0, rfl, rfl, by rw [hP]; exact (M.zeros_step hk2 _).symm, zt, by rw [M.setI_length]; exact hpl, rfl⟩ x31
 have hR : ps = (M.take r s player).pits := by rw [hP, List.take_of_length_le (by have := h32'; omega)]; rfl
 refine zx ?_
 have hq0 : ps = (M.take r s player).pits := by first | exact hR | rfl
 have hq1 : (M.setI s.stores player ((M.getI s.stores player) + (M.isum ((M.captured r s player).map (M.getI s.pits))))) = (M.take r s player).stores := by first | exact hR | rfl
 have hq2 : s.last = (M.take r s player).last := by first | exact hR | rfl
 have hq3 : s.laps = (M.take r s player).laps := by first | exact hR | rfl
 refine zS <| Q9 0 rfl rfl ?_
 refine zw 3 rfl rfl rfl ?_
 refine JL.nil ?_
 exact zro ((x8.trans x18).trans x31)

set_option maxHeartbeats 1000000 in
theorem c_spec_l07Feed (r : M.Rul) {v_r : Value} (p : M.Pos) {v_p : Value} {w : World} (h_r : (Ty.ref (cRules r)).ok w v_r) (h_p : (Ty.ref (cPosition p)).ok w v_p) (r0 : M.okP r p = true := by exact om_) : RetV Tryz.prog 120 [v_r, v_p] w (.bool (M.mustFeed r p)) := by
 obtain ⟨g1, g2, g3, g4, g5, g6, g7⟩ := M.okP_bd r0
 revert v_r; apply opn
 intro b1 o1 hr1
 revert v_p; apply opn
 intro b4 o4 A2 c2 h2 bl2 bh2 A3 c3 h3 bl3 bh3 hr4
 refine enter @Tryz.func120 @Tryz.ntmps120 rfl rfl ?_
 refine zent ?_
 refine zS <| Qa rfl <| zJ ?_
 refine zdr [] ?_
 refine JH.p 0 rfl (p_move rfl) ?_
 refine JH.p 1 rfl (p_nilCheck rfl) ?_
 refine JH.p 2 rfl (p_fieldAddr fld_34_5.h rfl) ?_
 refine JH.w 3 rfl (fun os' u' hv => q_load1 ty_4.h rfl (Mem.pub ((hr1.vis hv) 5 _ rfl))) ?_
 refine JH.p 4 rfl (p_move rfl) ?_
 refine JH.pg 5 rfl (Gd.t1 rfl rfl rfl) (fun hc => p_move rfl) ?_
 refine JH.pg 6 rfl (Gd.t1 rfl rfl rfl) (fun hc => p_move rfl) ?_
 refine JH.pg 7 rfl (Gd.t1 rfl rfl rfl) (fun hc => p_nilCheck (gvt rfl hc)) ?_
 refine JH.pg 8 rfl (Gd.t1 rfl rfl rfl) (fun hc => p_fieldAddr fld_39_0.h (gvt rfl hc)) ?_
 refine JH.wg 9 rfl (Gd.t1 rfl rfl rfl) (fun hc os' u' hv => q_load1 ty_27.h (gvt rfl hc) (Mem.pub ((hr4.vis hv) 0 _ rfl))) ?_
 refine JH.pg 10 rfl (Gd.t1 rfl rfl rfl) (fun hc => p_move rfl) ?_
 refine JH.pg 11 rfl (Gd.t1 rfl rfl rfl) (fun hc => p_nilCheck (gvt rfl hc)) ?_
 refine JH.pg 12 rfl (Gd.t1 rfl rfl rfl) (fun hc => p_fieldAddr fld_39_2.h (gvt rfl hc)) ?_
 refine JH.wg 13 rfl (Gd.t1 rfl rfl rfl) (fun hc os' u' hv => q_load1 ty_2.h (gvt rfl hc) (Mem.pub ((hr4.vis hv) 2 _ rfl))) ?_
 refine JH.pg 14 rfl (Gd.t1 rfl rfl rfl) (fun hc => p_sub rfl (gvt rfl hc) (IntWalk.i64_in _ (by omega))) ?_
 refine y1 15 ?_
 refine JHo.ge rfl (Gd.t1 rfl rfl rfl) (fun hc => e_callV fn_121.h (opds_3 (gvt rfl hc) (gvt rfl hc) (gvt rfl hc)) (fun w hw => c_spec_l04Side r p.pits (1 - p.player) (ok_ hw) (ok_ hw) (r4 := g5))) ?_
 refine JH.pg 16 rfl (Gd.t1 rfl rfl rfl) (fun hc => p_eql (gvt rfl hc) rfl) ?_
 refine JH.p 17 rfl (p_pickAnd rfl rfl rfl) ?_
 refine JH.p 18 rfl (p_assign rfl) ?_
 refine yd ?_
 refine zR (Up.refl _ _) ?_
 simp [outV, M.mustFeed]

set_option maxHeartbeats 1000000 in
theorem c_spec_l07Make (r : M.Rul) {v_r : Value} (p : M.Pos) {v_p : Value} (move : Int) {w : World} (h_r : (Ty.ref (cRules r)).ok w v_r) (h_p : (Ty.ref (cPosition p)).ok w v_p) (r0 : p.pits.length ≤ 4194304 := by exact om_) (r1 : p.stores.length ≤ 4194304 := by exact om_) : Ret Tryz.prog 59 [v_r, v_p, .int .i64 move] w (Ty.tup [Ty.agg (cResult ((M.make r p move).1)), Ty.int ((M.make r p move).2)]) := by
 revert v_r; apply opn
 intro b1 o1 hr1
 revert v_p; apply opn
 intro b4 o4 A2 c2 h2 bl2 bh2 A3 c3 h3 bl3 bh3 hr4
 refine enter @Tryz.func59 @Tryz.ntmps59 rfl rfl ?_
 refine zent ?_
 refine zS <| za zeh fun b5 => Qa rfl <| zN <| Qm rfl <| Qm rfl <| Qm rfl <| zp rfl (fun w hw => c_spec_l05Move r p move (ok_ hw) (ok_ hw)) ?_
 intro u6 x6 A7 c7 h7 bl7 bh7 A8 c8 h8 bl8 bh8 A9 c9 h9 bl9 bh9
 refine Qm rfl <| Qx rfl rfl <| Qx rfl rfl <| Qx rfl rfl <| za zeh fun b10 => zw 0 rfl rfl rfl ?_
 refine Qa rfl <| Qa rfl <| zJ <| zS <| Qm rfl <| Qd rfl rfl <| JL.nil ?_
 refine zi (fun h11 h11' => ?_) fun h11 h11' => ?_
 ·
  have hD := M.make_sow (r := r) (p := p) (move := move) (by simpa using h11)
  have hq0 : 0 = ((M.make r p move).1).move := by first | (rw [hD]; done) | (rw [hD]; rfl)
  have hq1 : 0 = ((M.make r p move).1).gain := by first | (rw [hD]; done) | (rw [hD]; rfl)
  have hq2 : false = ((M.make r p move).1).again := by first | (rw [hD]; done) | (rw [hD]; rfl)
  have hq3 : [] = (((M.make r p move).1).next).pits := by first | (rw [hD]; done) | (rw [hD]; rfl)
  have hq4 : [] = (((M.make r p move).1).next).stores := by first | (rw [hD]; done) | (rw [hD]; rfl)
  have hq5 : 0 = (((M.make r p move).1).next).player := by first | (rw [hD]; done) | (rw [hD]; rfl)
  have hq6 : ((M.sowMove r p move).1) = (M.make r p move).2 := by first | (rw [hD]; done) | (rw [hD]; rfl)
  refine zS <| Qb ?_
  refine Qm rfl <| zw 1 rfl rfl rfl ?_
  refine Qa rfl <| JL.nil ?_
  exact zro x6
 have hz : (M.sowMove r p move).1 = 0 := by simpa using h11
 obtain ⟨hok, m0, m1, hG, q0, q1, hsum⟩ := M.sowMove_ok hz
 obtain ⟨g1, g2, g3, g4, g5, g6, g7⟩ := M.okP_bd hok
 have hG2 := (M.take_keeps g7 hG q1).1
 have hao := M.Good.ok hG2
 have hl2 := hG2.lp
 have hl3 := hG2.ls
 have hs1 := hG2.store p.player
 have hs2 := (M.Good.of_ok hok).store p.player
 simp only [M.getI] at hs2
 refine Js.skip <| Js.seq <| zS <| Qm rfl <| Qc rfl <| Qf fh rfl <| QC ((hr1.vis x6.vis) 8 _ rfl) rfl <| Qe rfl rfl <| Qm rfl <| zg (Gd.t1 rfl rfl rfl) (fun hc => p_move rfl) <| zg (Gd.t1 rfl rfl rfl) (fun hc => p_move rfl) <| zg (Gd.t1 rfl rfl rfl) (fun hc => p_nilCheck (gh hc rfl)) <| zg (Gd.t1 rfl rfl rfl) (fun hc => p_fieldAddr fld_39_2.h (gh hc rfl)) <| zgq (Gd.t1 rfl rfl rfl) (fun hc => q_load1 ty_2.h (gh hc rfl) (Mem.pub ((hr4.vis x6.vis) 2 _ rfl))) ?_
 refine zgv (Gd.t1 rfl rfl rfl) (fun hc => (opds_3 (gh hc rfl) rfl (gh hc rfl))) (fun hc => (fun w hw => c_spec_l06Slam r ((M.sowMove r p move).2.1) p.player (ok_ hw) (ok_ hw) (r0 := (by have hc9 := hc; (try simp only [decide_eq_true_eq] at hc9); omega)) (r1 := (by have hc9 := hc; (try simp only [decide_eq_true_eq] at hc9); omega)) (r2 := (by have hc9 := hc; (try simp only [decide_eq_true_eq] at hc9); omega)) (r3 := hG) (r4 := (by have hc9 := hc; (try simp only [decide_eq_true_eq] at hc9); omega)) (r5 := (by have hc9 := hc; (try simp only [decide_eq_true_eq] at hc9); omega)))) ?_
 refine Qq (p_pickAnd rfl rfl rfl) <| JL.nil ?_
 refine zi (fun h12 h12' => ?_) fun h12 h12' => ?_
 ·
  have hD := M.make_slam hz (by simpa using h12)
  have hq0 : 0 = ((M.make r p move).1).move := by first | (rw [hD]; done) | (rw [hD]; rfl)
  have hq1 : 0 = ((M.make r p move).1).gain := by first | (rw [hD]; done) | (rw [hD]; rfl)
  have hq2 : false = ((M.make r p move).1).again := by first | (rw [hD]; done) | (rw [hD]; rfl)
  have hq3 : [] = (((M.make r p move).1).next).pits := by first | (rw [hD]; done) | (rw [hD]; rfl)
  have hq4 : [] = (((M.make r p move).1).next).stores := by first | (rw [hD]; done) | (rw [hD]; rfl)
  have hq5 : 0 = (((M.make r p move).1).next).player := by first | (rw [hD]; done) | (rw [hD]; rfl)
  have hq6 : 9 = (M.make r p move).2 := by first | (rw [hD]; done) | (rw [hD]; rfl)
  refine zS <| Qb ?_
  refine zw 1 rfl rfl rfl ?_
  refine Qa rfl <| JL.nil ?_
  exact zro x6
 have hns : ¬ (r.slam = 1 ∧ M.slams r (M.sowMove r p move).2.1 p.player = true) := by simpa using h12
 refine Js.skip <| zS <| Qm rfl <| Qm rfl <| Qc rfl <| Qf fh rfl <| QC ((hr4.vis x6.vis) 2 _ rfl) rfl <| zc rfl (fun w hw => c_spec_l06Take r ((M.sowMove r p move).2.1) p.player (ok_ hw) (ok_ hw) (r3 := hG)) ?_
 intro A14 c14 bl14 bh14 A15 c15 bl15 bh15
 refine za zeh fun b16 => zw 0 rfl rfl rfl ?_
 refine zJ <| Js.seq ?_
 refine zdr [] ?_
 refine JH.p 0 rfl (p_move rfl) ?_
 refine JH.p 1 rfl (p_move rfl) ?_
 refine y1 2 ?_
 refine yv rfl rfl (fun w hw => c_spec_l07Feed r p (ok_ hw) (ok_ hw) (r0 := hok)) ?_
 refine JH.p 3 rfl (p_move rfl) ?_
 refine JH.pg 4 rfl (Gd.t1 rfl rfl rfl) (fun hc => p_move rfl) ?_
 refine JH.pg 5 rfl (Gd.t1 rfl rfl rfl) (fun hc => p_fieldAddr fld_162_0.h rfl) ?_
 refine JH.qg 6 rfl (Gd.t1 rfl rfl rfl) (fun hc => q_load1 ty_27.h (gvt rfl hc) (Mem.box (i := 0) rfl rfl)) ?_
 refine JH.pg 7 rfl (Gd.t1 rfl rfl rfl) (fun hc => p_move rfl) ?_
 refine JH.pg 8 rfl (Gd.t1 rfl rfl rfl) (fun hc => p_nilCheck (gvt rfl hc)) ?_
 refine JH.pg 9 rfl (Gd.t1 rfl rfl rfl) (fun hc => p_fieldAddr fld_39_2.h (gvt rfl hc)) ?_
 refine JH.wg 10 rfl (Gd.t1 rfl rfl rfl) (fun hc os' u' hv => q_load1 ty_2.h (gvt rfl hc) (Mem.pub ((hr4.vis (x6.vis.trans hv)) 2 _ rfl))) ?_
 refine JH.pg 11 rfl (Gd.t1 rfl rfl rfl) (fun hc => p_sub rfl (gvt rfl hc) (IntWalk.i64_in _ (by omega))) ?_
 refine y1 12 ?_
 refine JHo.ge rfl (Gd.t1 rfl rfl rfl) (fun hc => e_callV fn_121.h (opds_3 (gvt rfl hc) (gvt rfl hc) (gvt rfl hc)) (fun w hw => c_spec_l04Side r ((M.take r ((M.sowMove r p move).2.1) p.player).pits) (1 - p.player) (ok_ hw) (ok_ hw) (r4 := hao.1))) ?_
 refine JH.pg 13 rfl (Gd.t1 rfl rfl rfl) (fun hc => p_eql (gvt rfl hc) rfl) ?_
 refine JH.p 14 rfl (p_pickAnd rfl rfl rfl) ?_
 refine yd ?_
 refine zi (fun h17 h17' => ?_) fun h17 h17' => ?_
 ·
  have hD := M.make_feed hz hns (by simpa using h17)
  have hq0 : 0 = ((M.make r p move).1).move := by first | (rw [hD]; done) | (rw [hD]; rfl)
  have hq1 : 0 = ((M.make r p move).1).gain := by first | (rw [hD]; done) | (rw [hD]; rfl)
  have hq2 : false = ((M.make r p move).1).again := by first | (rw [hD]; done) | (rw [hD]; rfl)
  have hq3 : [] = (((M.make r p move).1).next).pits := by first | (rw [hD]; done) | (rw [hD]; rfl)
  have hq4 : [] = (((M.make r p move).1).next).stores := by first | (rw [hD]; done) | (rw [hD]; rfl)
  have hq5 : 0 = (((M.make r p move).1).next).player := by first | (rw [hD]; done) | (rw [hD]; rfl)
  have hq6 : 9 = (M.make r p move).2 := by first | (rw [hD]; done) | (rw [hD]; rfl)
  refine zS <| Qb ?_
  refine zw 4 rfl rfl rfl ?_
  refine Qa rfl <| JL.nil ?_
  exact zro x6
 have hD := M.make_go hz hns (by simpa using h17)
 refine Js.skip <| Js.seq ?_
 refine zk [1, 6, 11] (fun F U l os u => ∃ (b21 b19 : Nat), l = F [(12, .pointer (some ⟨b21, 0, none⟩))] ∧ os = [boxO b21 [.int .i64 move, .int .i64 ((M.getI ((M.take r ((M.sowMove r p move).2.1) p.player).stores) p.player) - (M.nth p.stores p.player.toNat)), .bool (r.again && (decide ((M.take r ((M.sowMove r p move).2.1) p.player).last = (-1)))), .slice none 0 0, .slice none 0 0, .int .i64 0] 101] ++ U [some (boxO b16 [.slice A14 (((M.take r ((M.sowMove r p move).2.1) p.player).pits).length) c14, .slice (some ⟨b19, 0, none⟩) (((M.take r ((M.sowMove r p move).2.1) p.player).stores).length) c15, .int .i64 ((M.take r ((M.sowMove r p move).2.1) p.player).last), .int .i64 ((M.take r ((M.sowMove r p move).2.1) p.player).laps)] 162), some (rowO 2 1 (.slice (some ⟨b19, 0, none⟩) (((M.take r ((M.sowMove r p move).2.1) p.player).stores).length) c15) (((M.take r ((M.sowMove r p move).2.1) p.player).stores).length) (ints_ ((M.take r ((M.sowMove r p move).2.1) p.player).stores)) [])]) ?_ ?_
 ·
  refine zdr [31] ?_
  refine JH.p 0 rfl (p_move rfl) ?_
  refine JH.p 1 rfl (p_fieldAddr fld_162_1.h rfl) ?_
  refine JH.q 2 rfl (q_load1 ty_27.h rfl (Mem.box (i := 0) rfl rfl)) ?_
  refine JH.p 3 rfl (p_move rfl) ?_
  refine JH.p 4 rfl (p_nilCheck rfl) ?_
  refine JH.p 5 rfl (p_fieldAddr fld_39_2.h rfl) ?_
  refine JH.w 6 rfl (fun os' u' hv => q_load1 ty_2.h rfl (Mem.pub ((hr4.vis (x6.vis.trans hv)) 2 _ rfl))) ?_
  refine JH.fact (row_some (i := 1) rfl (by omega)) (fun hf25 => ?_)
  obtain ⟨b25, rfl⟩ := hf25
  refine JH.p 7 rfl (p_indexAddr el_27 rfl rfl (by omega) (by omega) rfl) ?_
  refine JH.q 8 rfl (q_load1 ty_2.h rfl (Mem.row (i := 1) rfl (ints_getI (i := p.player) (by omega)))) ?_
  refine JH.p 9 rfl (p_move rfl) ?_
  refine JH.p 10 rfl (p_nilCheck rfl) ?_
  refine JH.p 11 rfl (p_fieldAddr fld_39_1.h rfl) ?_
  refine JH.w 12 rfl (fun os' u' hv => q_load1 ty_27.h rfl (Mem.pub ((hr4.vis (x6.vis.trans hv)) 1 _ rfl))) ?_
  refine JH.p 13 rfl (p_move rfl) ?_
  refine JH.p 14 rfl (p_nilCheck rfl) ?_
  refine JH.p 15 rfl (p_fieldAddr fld_39_2.h rfl) ?_
  refine JH.w 16 rfl (fun os' u' hv => q_load1 ty_2.h rfl (Mem.pub ((hr4.vis (x6.vis.trans hv)) 2 _ rfl))) ?_
  obtain ⟨b26, o26, he26, hc26⟩ := ints_elem (Ty.mono _ h3 x6.vis) (i := p.player.toNat) (by omega)
  refine JH.p 17 rfl (p_indexAddr el_27 rfl rfl (by omega) (by omega) he26) ?_
  refine JH.w 18 rfl (fun os' u' hv => q_load1 ty_2.h rfl (Mem.pub (hc26.vis hv))) ?_
  refine JH.p 19 rfl (p_sub rfl rfl (IntWalk.i64_in _ (by omega))) ?_
  refine JH.p 20 rfl (p_move rfl) ?_
  refine JH.p 21 rfl (p_nilCheck rfl) ?_
  refine JH.p 22 rfl (p_fieldAddr fld_34_6.h rfl) ?_
  refine JH.w 23 rfl (fun os' u' hv => q_load1 ty_4.h rfl (Mem.pub ((hr1.vis (x6.vis.trans hv)) 6 _ rfl))) ?_
  refine JH.p 24 rfl (p_move rfl) ?_
  refine JH.pg 25 rfl (Gd.t1 rfl rfl rfl) (fun hc => p_fieldAddr fld_162_2.h rfl) ?_
  refine y2 26 30 ?_ ?_
  ·
   refine JHo.qg rfl (Gd.t1 rfl rfl rfl) (fun hc => q_load1 ty_2.h (gvt rfl hc) (Mem.box (i := 0) rfl rfl)) ?_
   refine JH.pg 27 rfl (Gd.t1 rfl rfl rfl) (fun hc => p_eql (gvt rfl hc) rfl) ?_
   refine JH.p 28 rfl (p_pickAnd rfl rfl rfl) ?_
   refine JH.p 29 rfl (q_bld) ?_
   refine y1 30 ?_
   refine ya rfl fun b27 => ?_
   refine y1 31 ?_
   refine yst rfl rfl rfl ?_
   refine yd ?_
   exact zm ⟨_, _, rfl, rfl⟩ (Up.refl _ _)
  refine ya rfl fun b28 => ?_
  refine y1 26 ?_
  refine JHo.qg rfl (Gd.t1 rfl rfl rfl) (fun hc => q_load1 ty_2.h (gvt rfl hc) (Mem.box (i := 1) rfl rfl)) ?_
  refine JH.pg 27 rfl (Gd.t1 rfl rfl rfl) (fun hc => p_eql (gvt rfl hc) rfl) ?_
  refine JH.p 28 rfl (p_pickAnd rfl rfl rfl) ?_
  refine JH.p 29 rfl (q_bld) ?_
  refine y1 31 ?_
  refine yst rfl rfl rfl ?_
  refine yd ?_
  exact zm ⟨_, _, rfl, rfl⟩ (Up.refl _ _)
 rintro _ _ u23 ⟨b21, b19, rfl, rfl⟩ x23
 refine zn ?_
 refine Js.seq ?_
 refine zdr [11] ?_
 refine JH.p 0 rfl (p_fieldAddr fld_162_0.h rfl) ?_
 refine JH.q 1 rfl (q_load1 ty_27.h rfl (Mem.box (i := 1) rfl rfl)) ?_
 refine JH.p 2 rfl (p_fieldAddr fld_162_1.h rfl) ?_
 refine JH.q 3 rfl (q_load1 ty_27.h rfl (Mem.box (i := 1) rfl rfl)) ?_
 refine JH.p 4 rfl (p_move rfl) ?_
 refine JH.p 5 rfl (p_nilCheck rfl) ?_
 refine JH.p 6 rfl (p_fieldAddr fld_39_2.h rfl) ?_
 refine JH.w 7 rfl (fun os' u' hv => q_load1 ty_2.h rfl (Mem.pub ((hr4.vis ((x6.vis.trans x23.vis).trans hv)) 2 _ rfl))) ?_
 refine JH.p 8 rfl (p_sub rfl rfl (IntWalk.i64_in _ (by omega))) ?_
 refine JH.p 9 rfl (q_bld) ?_
 refine JH.p 10 rfl (p_fieldAddr fld_101_3.h rfl) ?_
 refine y1 11 ?_
 refine yst rfl rfl rfl ?_
 refine yd ?_
 refine Js.seq <| zS <| Qf fh rfl <| Q0 0 rfl rfl rfl <| JL.nil ?_
 refine zi (fun h29 h29' => ?_) fun h29 h29' => ?_
 ·
  unfold M.resOf at hD
  rw [if_pos h29] at hD
  have hq0 : move = ((M.make r p move).1).move := by first | (rw [hD]; done) | (rw [hD]; rfl)
  have hq1 : ((M.getI ((M.take r ((M.sowMove r p move).2.1) p.player).stores) p.player) - (M.nth p.stores p.player.toNat)) = ((M.make r p move).1).gain := by first | (rw [hD]; done) | (rw [hD]; rfl)
  have hq2 : (r.again && (decide ((M.take r ((M.sowMove r p move).2.1) p.player).last = (-1)))) = ((M.make r p move).1).again := by first | (rw [hD]; done) | (rw [hD]; rfl)
  have hq3 : ((M.take r ((M.sowMove r p move).2.1) p.player).pits) = (((M.make r p move).1).next).pits := by first | (rw [hD]; done) | (rw [hD]; rfl)
  have hq4 : ((M.take r ((M.sowMove r p move).2.1) p.player).stores) = (((M.make r p move).1).next).stores := by first | (rw [hD]; done) | (rw [hD]; rfl)
  have hq5 : p.player = (((M.make r p move).1).next).player := by first | (rw [hD]; done) | (rw [hD]; rfl)
  have hq6 : 0 = (M.make r p move).2 := by first | (rw [hD]; done) | (rw [hD]; rfl)
  refine Js.region <| Qm rfl <| Qc rfl <| Qf fh rfl <| QC ((hr4.vis (x6.vis.trans x23.vis)) 2 _ rfl) rfl <| Qf fh rfl <| Qf fh rfl <| zw 0 rfl rfl rfl ?_
  refine zN <| Q9 0 rfl rfl ?_
  refine zw 5 rfl rfl rfl ?_
  refine Qa rfl <| JL.nil ?_
  exact zro (x6.trans x23)
 unfold M.resOf at hD
 rw [if_neg (by simpa using h29)] at hD
 have hq0 : move = ((M.make r p move).1).move := by first | (rw [hD]; done) | (rw [hD]; rfl)
 have hq1 : ((M.getI ((M.take r ((M.sowMove r p move).2.1) p.player).stores) p.player) - (M.nth p.stores p.player.toNat)) = ((M.make r p move).1).gain := by first | (rw [hD]; done) | (rw [hD]; rfl)
 have hq2 : (r.again && (decide ((M.take r ((M.sowMove r p move).2.1) p.player).last = (-1)))) = ((M.make r p move).1).again := by first | (rw [hD]; done) | (rw [hD]; rfl)
 have hq3 : ((M.take r ((M.sowMove r p move).2.1) p.player).pits) = (((M.make r p move).1).next).pits := by first | (rw [hD]; done) | (rw [hD]; rfl)
 have hq4 : ((M.take r ((M.sowMove r p move).2.1) p.player).stores) = (((M.make r p move).1).next).stores := by first | (rw [hD]; done) | (rw [hD]; rfl)
 have hq5 : (1 - p.player) = (((M.make r p move).1).next).player := by first | (rw [hD]; done) | (rw [hD]; rfl)
 have hq6 : 0 = (M.make r p move).2 := by first | (rw [hD]; done) | (rw [hD]; rfl)
 refine Js.skip <| zS <| Q9 0 rfl rfl ?_
 refine zw 5 rfl rfl rfl ?_
 refine Qa rfl <| JL.nil ?_
 exact zro (x6.trans x23)

end Go.Proofs.YtcmfnlleikcpnaaGreat

namespace Go.Proofs.YtcmfnlleikcpnaaGreat
open Go.RowKit

end Go.Proofs.YtcmfnlleikcpnaaGreat

namespace Go.Proofs.YtcmfnlleikcpnaaGreat
open Go.RowKit

set_option maxHeartbeats 1000000 in
theorem c_spec_l04Lists (a : List Int) {v_a : Value} (b : List Int) {v_b : Value} {w : World} (h_a : (Ty.ints 2 a).ok w v_a) (h_b : (Ty.ints 2 b).ok w v_b) (r0 : a.length ≤ 4194304 := by exact om_) (r1 : b.length ≤ 4194304 := by exact om_) : RetV Tryz.prog 114 [v_a, v_b] w (.int .i64 (M.cmpL a b)) := by
 revert v_a; apply opn
 intro A1 c1 h1 bl1 bh1
 have h_a := h1
 revert v_b; apply opn
 intro A2 c2 h2 bl2 bh2
 have h_b := h2
 refine enter @Tryz.func114 @Tryz.ntmps114 rfl rfl ?_
 refine zent ?_
 refine zS <| Qa rfl <| zJ <| zS <| Qa rfl <| JL.nil <| Js.block ?_
 refine zl [0, 1] (fun F U l os u m => ∃ (k : Nat), l = F [(5, .int .i64 (k : Int))] ∧ os = U [] ∧ (M.cmpL (a.drop k) (b.drop k) = M.cmpL a b) ∧ (k ≤ a.length) ∧ (k ≤ b.length) ∧ m = a.length - k) ⟨0, rfl, rfl, by rfl, zt, zt, rfl⟩ ?_
 rintro _ _ u3 _ ⟨k, rfl, rfl, hC, hka, hkb, rfl⟩ x3
 refine zn ?_
 refine Js.seq <| zS <| Qm rfl <| Qm rfl <| Qz rfl <| Ql rfl rfl <| Qm rfl <| zg (Gd.t1 rfl rfl rfl) (fun hc => p_move rfl) <| zg (Gd.t1 rfl rfl rfl) (fun hc => p_move rfl) <| zg (Gd.t1 rfl rfl rfl) (fun hc => p_len el_27 (gh hc rfl)) <| zg (Gd.t1 rfl rfl rfl) (fun hc => p_lss (gh hc rfl) (gh hc rfl)) <| Qq (p_pickAnd rfl rfl rfl) <| JL.nil ?_
 refine zi (fun h4 h4' => ?_) fun h4 h4' => ?_
 ·
  have hab : k < a.length ∧ k < b.length := by have := h4'; omega
  refine Js.skip <| Js.seq <| Js.block <| Js.seq <| Js.seq ?_
  refine zdr [] ?_
  refine JH.p 0 rfl (p_move rfl) ?_
  refine JH.p 1 rfl (p_move rfl) ?_
  obtain ⟨b5, o5, he5, hc5⟩ := ints_elem (Ty.mono _ h1 x3.vis) (i := k) (by omega)
  refine JH.p 2 rfl (p_indexAddr el_27 rfl rfl (by omega) (by omega) he5) ?_
  refine JH.w 3 rfl (fun os' u' hv => q_load1 ty_2.h rfl (Mem.pub (hc5.vis hv))) ?_
  refine JH.p 4 rfl (p_move rfl) ?_
  refine JH.p 5 rfl (p_move rfl) ?_
  obtain ⟨b6, o6, he6, hc6⟩ := ints_elem (Ty.mono _ h2 x3.vis) (i := k) (by omega)
  refine JH.p 6 rfl (p_indexAddr el_27 rfl rfl (by omega) (by omega) he6) ?_
  refine JH.w 7 rfl (fun os' u' hv => q_load1 ty_2.h rfl (Mem.pub (hc6.vis hv))) ?_
  refine JH.p 8 rfl (p_lss rfl rfl) ?_
  refine yd ?_
  refine zi (fun h7 h7' => ?_) fun h7 h7' => ?_
  ·
   have hE := M.cmpL_lt hC hab.1 hab.2 (by have := h7'; omega)
   refine zS <| Qa rfl <| JL.nil ?_
   refine zR x3 ?_
   first | (rw [hE]; done) | (rw [hE]; rfl)
  have h1_ : ¬ M.nth a k < M.nth b k := by have := h7'; omega
  refine Js.skip <| Js.seq ?_
  refine zdr [] ?_
  refine JH.p 0 rfl (p_move rfl) ?_
  refine JH.p 1 rfl (p_move rfl) ?_
  obtain ⟨b8, o8, he8, hc8⟩ := ints_elem (Ty.mono _ h1 x3.vis) (i := k) (by omega)
  refine JH.p 2 rfl (p_indexAddr el_27 rfl rfl (by omega) (by omega) he8) ?_
  refine JH.w 3 rfl (fun os' u' hv => q_load1 ty_2.h rfl (Mem.pub (hc8.vis hv))) ?_
  refine JH.p 4 rfl (p_move rfl) ?_
  refine JH.p 5 rfl (p_move rfl) ?_
  obtain ⟨b9, o9, he9, hc9⟩ := ints_elem (Ty.mono _ h2 x3.vis) (i := k) (by omega)
  refine JH.p 6 rfl (p_indexAddr el_27 rfl rfl (by omega) (by omega) he9) ?_
  refine JH.w 7 rfl (fun os' u' hv => q_load1 ty_2.h rfl (Mem.pub (hc9.vis hv))) ?_
  refine JH.p 8 rfl (p_gtr rfl rfl) ?_
  refine yd ?_
  refine zi (fun h10 h10' => ?_) fun h10 h10' => ?_
  ·
   have hE := M.cmpL_gt hC hab.1 hab.2 (by have := h10'; omega)
   refine zS <| Qa rfl <| JL.nil ?_
   refine zR x3 ?_
   first | (rw [hE]; done) | (rw [hE]; rfl)
  have hC2 := M.cmpL_step hC hab.1 hab.2 h1_ (by have := h10'; omega)
  refine Js.skip <| Js.blockEnd <| Js.region <| Qm rfl <| Qp rfl rfl <| Qa rfl <| JL.nil ?_
  exact zag ⟨k + 1, rfl, rfl, by exact hC2, zt, zt, rfl⟩ x3
 have hE := M.cmpL_end hC (by have := h4'; omega) hka hkb
 refine zx ?_
 refine Js.seq <| zS <| Qm rfl <| Qz rfl <| Qm rfl <| Qz rfl <| Ql rfl rfl <| JL.nil ?_
 refine zi (fun h11 h11' => ?_) fun h11 h11' => ?_
 ·
  rw [if_pos (by have := h11'; omega)] at hE
  refine zS <| Qa rfl <| JL.nil ?_
  refine zR x3 ?_
  first | (rw [hE]; done) | (rw [hE]; rfl)
 rw [if_neg (by have := h11'; omega)] at hE
 refine Js.skip <| Js.seq <| zS <| Qm rfl <| Qz rfl <| Qm rfl <| Qz rfl <| Qg rfl rfl <| JL.nil ?_
 refine zi (fun h12 h12' => ?_) fun h12 h12' => ?_
 ·
  rw [if_pos (by have := h12'; omega)] at hE
  refine zS <| Qa rfl <| JL.nil ?_
  refine zR x3 ?_
  first | (rw [hE]; done) | (rw [hE]; rfl)
 rw [if_neg (by have := h12'; omega)] at hE
 refine Js.skip <| zS <| Qa rfl <| JL.nil ?_
 refine zR x3 ?_
 first | (rw [hE]; done) | (rw [hE]; rfl)

set_option maxHeartbeats 1000000 in
theorem c_spec_l20Pos (p : List Int) {Ap_0 : Option Addr} {cp_0 : Nat} {w : World}  : Ret Tryz.prog 143 [.slice Ap_0 p.length cp_0] w (Ty.agg [Ty.val (.slice Ap_0 p.length cp_0), Ty.ints 2 [0, 0], Ty.int 0]) := by
 refine enter @Tryz.func143 @Tryz.ntmps143 rfl rfl ?_
 refine zent ?_
 refine zS <| za zeh fun b1 => zN <| Qm rfl <| zbs fun b2 => ?_
 refine Qb ?_
 refine zw 1 rfl rfl rfl ?_
 refine JL.nil ?_
 exact zro (Up.refl _ _)

set_option maxHeartbeats 1000000 in
theorem c_spec_MoveFault (r : M.Rul) {v_r : Value} (p : M.Pos) {v_p : Value} (move : Int) {w : World} (h_r : (Ty.agg (cRules r)).ok w v_r) (h_p : (Ty.agg (cPosition p)).ok w v_p) (r0 : p.pits.length ≤ 4194304 := by exact om_) (r1 : p.stores.length ≤ 4194304 := by exact om_) : RetV Tryz.prog 71 [v_r, v_p, .int .i64 move] w (.int .i64 ((M.make r p move).2)) := by
 revert v_r; apply opn
 revert v_p; apply opn
 intro A1 c1 h1 bl1 bh1 A2 c2 h2 bl2 bh2
 refine enter @Tryz.func71 @Tryz.ntmps71 rfl rfl ?_
 refine zent ?_
 refine zS <| zb rfl fun b3 => zb rfl fun b4 => Qa rfl <| zN <| Qm rfl <| zp rfl (fun w hw => c_spec_l07Make r p move (ok_ hw) (ok_ hw)) ?_
 intro u5 x5 A6 c6 h6 bl6 bh6 A7 c7 h7 bl7 bh7
 refine Qm rfl <| Qx rfl rfl <| Qx rfl rfl <| za zeh fun b8 => zw 0 rfl rfl rfl ?_
 refine Qa rfl <| zN <| Qm rfl <| Qa rfl <| JL.nil ?_
 exact zr x5

set_option maxHeartbeats 4000000 in
theorem c_spec_l20Entry (r : M.Rul) {v_r : Value} (e : M.Ent) {v_e : Value} {w : World} (h_r : (Ty.ref (cRules r)).ok w v_r) (h_e : (Ty.ref (cBookEntry e)).ok w v_e) (r0 : e.pits.length ≤ 4194304 := by exact om_) (r1 : e.choices.length ≤ 4194304 := by exact om_) : RetV Tryz.prog 113 [v_r, v_e] w (.bool (M.okE r e)) := by
 have p5 : (M.posE e.pits).stores.length ≤ 4194304 := (by decide : ([0, 0] : List Int).length ≤ 4194304)
 have p6 : (M.posE e.pits).pits.length ≤ 4194304 := r0
 revert v_r; apply opn
 intro b1 o1 hr1
 revert v_e; apply opn
 intro b4 o4 A2 c2 h2 bl2 bh2 A3 c3 h3 bl3 bh3 hr4
 refine enter @Tryz.func113 @Tryz.ntmps113 rfl rfl ?_
 refine zent ?_
 refine zS <| Qa rfl <| zN <| Qm rfl <| Qc rfl <| Qf fh rfl <| QC (hr4 0 _ rfl) rfl <| zc rfl (fun w hw => c_spec_l20Pos e.pits) ?_
 intro A5 c5 bl5 bh5
 refine za zeh fun b6 => zw 0 rfl rfl rfl ?_
 refine zJ <| zS <| Qm rfl <| zv rfl (fun w hw => c_spec_l04Ok r (M.Pos.mk e.pits [0, 0] 0) (ok_ hw) (ok_ hw)) <| Qt rfl <| Qm rfl <| zg (Gd.f1 rfl rfl rfl) (fun hc => p_move rfl) <| zg (Gd.f1 rfl rfl rfl) (fun hc => p_nilCheck (gh hc rfl)) <| zg (Gd.f1 rfl rfl rfl) (fun hc => p_fieldAddr fld_89_1.h (gh hc rfl)) <| zgq (Gd.f1 rfl rfl rfl) (fun hc => q_load1 ty_67.h (gh hc rfl) (Mem.pub (hr4 1 _ rfl))) <| zg (Gd.f1 rfl rfl rfl) (fun hc => p_len el_67 (gh hc rfl)) <| zg (Gd.f1 rfl rfl rfl) (fun hc => p_eql (gh hc rfl) rfl) <| Qq (p_pickOr rfl rfl rfl) <| JL.nil ?_
 refine zi (fun h7 h7' => ?_) fun h7 h7' => ?_
 ·
  have hE := M.okE_p (r := r) (e := e) (by have h9 := h7; simp only [Bool.or_eq_true, Bool.not_eq_true', decide_eq_true_eq] at h9; exact h9.imp id (fun h => by omega))
  refine zS <| Qa rfl <| JL.nil ?_
  refine zR (Up.refl _ _) ?_
  first | (rw [hE, hE2]; rfl) | (rw [hE]; rfl)
 have h9 := h7
 simp at h9
 have hE := M.okE_cs h9.1 (by omega)
 refine Js.skip <| Js.seq <| zS <| Qa rfl <| JL.nil <| Js.block ?_
 refine zl [0, 1, 5] (fun F U l os u m => ∃ (k : Nat), l = F [(6, .int .i64 (k : Int))] ∧ os = U [] ∧ (M.AllB (M.chAt r (M.posE e.pits) e.choices) k) ∧ (k ≤ e.choices.length) ∧ m = e.choices.length - k) ⟨0, rfl, rfl, by exact M.AllB.zero _, zt, rfl⟩ ?_
 rintro _ _ u8 _ ⟨k, rfl, rfl, hA, hk, rfl⟩ x8
 refine zn ?_
 refine Js.seq <| zS <| Qm rfl <| Qm rfl <| Qc rfl <| Qf fh rfl <| QC ((hr4.vis x8.vis) 1 _ rfl) rfl <| Qz rfl <| Ql rfl rfl <| JL.nil ?_
 refine zi (fun h9 h9' => ?_) fun h9 h9' => ?_
 ·
  have hy10 : e.choices[k]? = some (M.cho e.choices k) := M.cho_get (by omega)
  obtain ⟨b10, o10, he10, hr10⟩ := elem_Choice (Ty.mono _ h3 x8.vis) hy10
  refine Js.skip <| Js.seq <| Js.block <| zS <| Qm rfl <| Qc rfl <| Qf fh rfl <| QC ((hr4.vis x8.vis) 1 _ rfl) rfl <| Qm rfl <| Qq (p_indexAddr el_67 rfl rfl (by omega) (by omega) he10) <| Qa rfl <| zJ <| Js.seq ?_
  refine zdr [] ?_
  refine JH.p 0 rfl (p_move rfl) ?_
  refine JH.p 1 rfl (p_gtr rfl rfl) ?_
  refine JH.p 2 rfl (p_move rfl) ?_
  refine JH.pg 3 rfl (Gd.t1 rfl rfl rfl) (fun hc => p_move rfl) ?_
  refine JH.pg 4 rfl (Gd.t1 rfl rfl rfl) (fun hc => p_nilCheck (gvt rfl hc)) ?_
  refine JH.pg 5 rfl (Gd.t1 rfl rfl rfl) (fun hc => p_fieldAddr fld_81_0.h (gvt rfl hc)) ?_
  refine JH.wg 6 rfl (Gd.t1 rfl rfl rfl) (fun hc os' u' hv => q_load1 ty_2.h (gvt rfl hc) (Mem.pub ((hr10.vis hv) 0 _ rfl))) ?_
  refine JH.pg 7 rfl (Gd.t1 rfl rfl rfl) (fun hc => p_move rfl) ?_
  refine JH.pg 8 rfl (Gd.t1 rfl rfl rfl) (fun hc => p_nilCheck (gvt rfl hc)) ?_
  refine JH.pg 9 rfl (Gd.t1 rfl rfl rfl) (fun hc => p_fieldAddr fld_89_1.h (gvt rfl hc)) ?_
  refine JH.wg 10 rfl (Gd.t1 rfl rfl rfl) (fun hc os' u' hv => q_load1 ty_67.h (gvt rfl hc) (Mem.pub ((hr4.vis (x8.vis.trans hv)) 1 _ rfl))) ?_
  refine JH.pg 11 rfl (Gd.t1 rfl rfl rfl) (fun hc => p_move rfl) ?_
  refine JH.pg 12 rfl (Gd.t1 rfl rfl rfl) (fun hc => p_sub (gvt rfl hc) rfl (IntWalk.i64_in _ (by have hc9 := hc; (try simp only [decide_eq_true_eq] at hc9); omega))) ?_
  have hy11 : e.choices[((k : Int) - 1).toNat]? = some (M.cho e.choices (((k : Int) - 1).toNat)) := M.cho_get (by omega)
  obtain ⟨b11, o11, he11, hr11⟩ := elem_Choice (Ty.mono _ h3 x8.vis) hy11
  refine JH.pg 13 rfl (Gd.t1 rfl rfl rfl) (fun hc => p_indexAddr el_67 (gvt rfl hc) (gvt rfl hc) (by have hc9 := hc; (try simp only [decide_eq_true_eq] at hc9); omega) (by have hc9 := hc; (try simp only [decide_eq_true_eq] at hc9); omega) he11) ?_
  refine JH.pg 14 rfl (Gd.t1 rfl rfl rfl) (fun hc => p_fieldAddr fld_81_0.h (gvt rfl hc)) ?_
  refine JH.wg 15 rfl (Gd.t1 rfl rfl rfl) (fun hc os' u' hv => q_load1 ty_2.h (gvt rfl hc) (Mem.pub ((hr11.vis hv) 0 _ rfl))) ?_
  refine JH.pg 16 rfl (Gd.t1 rfl rfl rfl) (fun hc => p_leq (gvt rfl hc) (gvt rfl hc)) ?_
  refine JH.p 17 rfl (p_pickAnd rfl rfl rfl) ?_
  refine JH.p 18 rfl (p_move rfl) ?_
  refine JH.pg 19 rfl (Gd.f1 rfl rfl rfl) (fun hc => p_move rfl) ?_
  refine JH.pg 20 rfl (Gd.f1 rfl rfl rfl) (fun hc => p_nilCheck (gvt rfl hc)) ?_
  refine JH.pg 21 rfl (Gd.f1 rfl rfl rfl) (fun hc => p_fieldAddr fld_81_1.h (gvt rfl hc)) ?_
  refine JH.wg 22 rfl (Gd.f1 rfl rfl rfl) (fun hc os' u' hv => q_load1 ty_2.h (gvt rfl hc) (Mem.pub ((hr10.vis hv) 1 _ rfl))) ?_
  refine y1 23 ?_
  refine JHo.ge rfl (Gd.f1 rfl rfl rfl) (fun hc => e_callV fn_56.h (opds_3 (gvt rfl hc) rfl rfl) (fun w hw => c_spec_l00In ((M.cho e.choices k).games) 1 1000000)) ?_
  refine JH.pg 24 rfl (Gd.f1 rfl rfl rfl) (fun hc => p_not (gvt rfl hc)) ?_
  refine JH.p 25 rfl (p_pickOr rfl rfl rfl) ?_
  refine JH.p 26 rfl (p_move rfl) ?_
  refine JH.pg 27 rfl (Gd.f1 rfl rfl rfl) (fun hc => p_move rfl) ?_
  refine JH.pg 28 rfl (Gd.f1 rfl rfl rfl) (fun hc => p_nilCheck (gvt rfl hc)) ?_
  refine JH.pg 29 rfl (Gd.f1 rfl rfl rfl) (fun hc => p_fieldAddr fld_81_2.h (gvt rfl hc)) ?_
  refine JH.wg 30 rfl (Gd.f1 rfl rfl rfl) (fun hc os' u' hv => q_load1 ty_2.h (gvt rfl hc) (Mem.pub ((hr10.vis hv) 2 _ rfl))) ?_
  refine JH.pg 31 rfl (Gd.f1 rfl rfl rfl) (fun hc => p_move rfl) ?_
  refine JH.pg 32 rfl (Gd.f1 rfl rfl rfl) (fun hc => p_nilCheck (gvt rfl hc)) ?_
  refine JH.pg 33 rfl (Gd.f1 rfl rfl rfl) (fun hc => p_fieldAddr fld_81_1.h (gvt rfl hc)) ?_
  refine JH.wg 34 rfl (Gd.f1 rfl rfl rfl) (fun hc os' u' hv => q_load1 ty_2.h (gvt rfl hc) (Mem.pub ((hr10.vis hv) 1 _ rfl))) ?_
  refine JH.pg 35 rfl (Gd.f1 rfl rfl rfl) (fun hc => p_mul rfl (gvt rfl hc) (IntWalk.i64_in _ (by have hc9 := hc; simp only [Bool.not_eq_true', Bool.or_eq_false_iff, Bool.not_eq_false'] at hc9; have h8 := M.betw_iff.1 hc9.2; omega))) ?_
  refine y1 36 ?_
  refine JHo.ge rfl (Gd.f1 rfl rfl rfl) (fun hc => e_callV fn_56.h (opds_3 (gvt rfl hc) rfl (gvt rfl hc)) (fun w hw => c_spec_l00In ((M.cho e.choices k).score) 0 (2 * ((M.cho e.choices k).games)))) ?_
  refine JH.pg 37 rfl (Gd.f1 rfl rfl rfl) (fun hc => p_not (gvt rfl hc)) ?_
  refine JH.p 38 rfl (p_pickOr rfl rfl rfl) ?_
  refine yd ?_
  refine zi (fun h12 h12' => ?_) fun h12 h12' => ?_
  ·
   have hN : M.chAt r (M.posE e.pits) e.choices k = false := M.chAt_18 (by exact h12)
   have hE2 : M.okCs r (M.posE e.pits) e.choices = false := M.all_no (by omega) hN
   refine zS <| Qa rfl <| JL.nil ?_
   refine zR x8 ?_
   first | (rw [hE, hE2]; rfl) | (rw [hE]; rfl)
  have h18 : M.ch18 e.choices k = false := h12
  refine Js.skip <| Js.seq ?_
  refine zdr [] ?_
  refine JH.p 0 rfl (p_move rfl) ?_
  refine JH.p 1 rfl (p_nilCheck rfl) ?_
  refine JH.w 2 rfl (fun os' u' hv => LS 0 (hr1.vis (x8.vis.trans hv)) rfl) ?_
  refine JH.q 3 rfl (L9 0 rfl rfl) ?_
  refine JH.p 4 rfl (p_move rfl) ?_
  refine JH.p 5 rfl (p_nilCheck rfl) ?_
  refine JH.p 6 rfl (p_fieldAddr fld_81_0.h rfl) ?_
  refine JH.w 7 rfl (fun os' u' hv => q_load1 ty_2.h rfl (Mem.pub ((hr10.vis hv) 0 _ rfl))) ?_
  refine y1 8 ?_
  refine yv rfl rfl (fun w hw => c_spec_MoveFault r (M.Pos.mk e.pits [0, 0] 0) ((M.cho e.choices k).move) (ok_ hw) (ok_ hw)) ?_
  refine JH.p 9 rfl (p_neq rfl rfl) ?_
  refine yd ?_
  refine zi (fun h13 h13' => ?_) fun h13 h13' => ?_
  ·
   have hN : M.chAt r (M.posE e.pits) e.choices k = false := M.chAt_21 (by simpa using h13)
   have hE2 : M.okCs r (M.posE e.pits) e.choices = false := M.all_no (by omega) hN
   refine zS <| Qa rfl <| JL.nil ?_
   refine zR x8 ?_
   first | (rw [hE, hE2]; rfl) | (rw [hE]; rfl)
  have hN : M.chAt r (M.posE e.pits) e.choices k = true := M.chAt_all h18 (by simpa using h13)
  refine Js.skip <| Js.blockEnd <| Js.region <| Qm rfl <| Qp rfl rfl <| Qa rfl <| JL.nil ?_
  exact zag ⟨k + 1, rfl, rfl, by exact hA.step hN, zt, rfl⟩ x8
 have hE2 : M.okCs r (M.posE e.pits) e.choices = true := M.all_yes hA (by have := h9'; omega)
 refine zx ?_
 refine zS <| Qa rfl <| JL.nil ?_
 refine zR x8 ?_
 first | (rw [hE, hE2]; rfl) | (rw [hE]; rfl)

set_option maxHeartbeats 4000000 in
theorem c_spec_l20Ok (b : M.Boo) {v_b : Value} {w : World} (h_b : (Ty.ref (cBook b)).ok w v_b) (r0 : b.entries.length ≤ 4194304 := by exact om_) (r1 : ∀ x ∈ b.entries, x.pits.length ≤ 4194304 ∧ x.choices.length ≤ 4194304 := by exact om_) : RetV Tryz.prog 54 [v_b] w (.bool (M.okB b)) := by
 revert v_b; apply opn
 intro b2 o2 A1 c1 h1 bl1 bh1 hr2
 refine enter @Tryz.func54 @Tryz.ntmps54 rfl rfl ?_
 refine zent ?_
 refine zS <| Qa rfl <| zJ <| zS <| Qm rfl <| Qc rfl <| Qf fh rfl <| zv rfl (fun w hw => c_spec_l02Ok b.rules (ok_ hw)) <| Qt rfl <| Qm rfl <| zg (Gd.f1 rfl rfl rfl) (fun hc => p_move rfl) <| zg (Gd.f1 rfl rfl rfl) (fun hc => p_nilCheck (gh hc rfl)) <| zg (Gd.f1 rfl rfl rfl) (fun hc => p_fieldAddr fld_37_1.h (gh hc rfl)) <| zgq (Gd.f1 rfl rfl rfl) (fun hc => q_load1 ty_35.h (gh hc rfl) (Mem.pub (hr2 9 _ rfl))) ?_
 refine zg (Gd.f1 rfl rfl rfl) (fun hc => p_len el_35 (gh hc rfl)) <| zg (Gd.f1 rfl rfl rfl) (fun hc => p_gtr (gh hc rfl) rfl) <| Qq (p_pickOr rfl rfl rfl) <| JL.nil ?_
 refine zi (fun h3 h3' => ?_) fun h3 h3' => ?_
 ·
  have hE := M.okB_r (b := b) (by have h9 := h3; simp only [Bool.or_eq_true, Bool.not_eq_true', decide_eq_true_eq] at h9; exact h9.imp id (fun h => by omega))
  refine zS <| Qa rfl <| JL.nil ?_
  refine zR (Up.refl _ _) ?_
  first | (rw [hE, hE2]; rfl) | (rw [hE]; rfl)
 have h9 := h3
 simp only [Bool.or_eq_false_iff, Bool.not_eq_false', decide_eq_false_iff_not] at h9
 have hE := M.okB_es h9.1 (by omega)
 refine Js.skip <| Js.seq <| zS <| Qa rfl <| JL.nil <| Js.block ?_
 refine zl [0] (fun F U l os u m => ∃ (k : Nat), l = F [(3, .int .i64 (k : Int))] ∧ os = U [] ∧ (M.AllB (M.entAt b.rules b.entries) k) ∧ (k ≤ b.entries.length) ∧ m = b.entries.length - k) ⟨0, rfl, rfl, by exact M.AllB.zero _, zt, rfl⟩ ?_
 rintro _ _ u4 _ ⟨k, rfl, rfl, hA, hk, rfl⟩ x4
 refine zn ?_
 refine Js.seq <| zS <| Qm rfl <| Qm rfl <| Qc rfl <| Qf fh rfl <| QC ((hr2.vis x4.vis) 9 _ rfl) rfl <| Qz rfl <| Ql rfl rfl <| JL.nil ?_
 refine zi (fun h5 h5' => ?_) fun h5 h5' => ?_
 ·
  have hkk : k < b.entries.length := by have := h5'; omega
  obtain ⟨e1_, e2_⟩ := r1 _ (M.ent_mem (es := b.entries) (k := k) (by omega))
  obtain ⟨e3_, e4_⟩ := r1 _ (M.ent_mem (es := b.entries) (k := (((k : Int) - 1).toNat)) (by omega))
  refine Js.skip <| Js.seq <| Js.block <| Js.seq ?_
  refine zdr [] ?_
  refine JH.p 0 rfl (p_move rfl) ?_
  refine JH.p 1 rfl (p_nilCheck rfl) ?_
  refine JH.p 2 rfl (p_fieldAddr fld_37_0.h rfl) ?_
  refine JH.p 3 rfl (p_move rfl) ?_
  refine JH.p 4 rfl (p_nilCheck rfl) ?_
  refine JH.p 5 rfl (p_fieldAddr fld_37_1.h rfl) ?_
  refine JH.w 6 rfl (fun os' u' hv => q_load1 ty_35.h rfl (Mem.pub ((hr2.vis (x4.vis.trans hv)) 9 _ rfl))) ?_
  refine JH.p 7 rfl (p_move rfl) ?_
  have hy6 : b.entries[k]? = some (M.ent b.entries k) := M.ent_get (by omega)
  obtain ⟨b6, o6, A6_0, c6_0, A6_1, c6_1, he6, hr6, h6_0, h6_1, bl6_0, bh6_0, bl6_1, bh6_1⟩ := elem_BookEntry (Ty.mono _ h1 x4.vis) hy6
  refine JH.p 8 rfl (p_indexAddr el_35 rfl rfl (by omega) (by omega) he6) ?_
  refine y1 9 ?_
  refine yv rfl rfl (fun w hw => c_spec_l20Entry b.rules (M.ent b.entries k) (ok_ hw) (ok_ hw)) ?_
  refine JH.p 10 rfl (p_not rfl) ?_
  refine JH.p 11 rfl (p_move rfl) ?_
  refine JH.pg 12 rfl (Gd.f1 rfl rfl rfl) (fun hc => p_move rfl) ?_
  refine JH.pg 13 rfl (Gd.f1 rfl rfl rfl) (fun hc => p_gtr (gvt rfl hc) rfl) ?_
  refine JH.pg 14 rfl (Gd.f1 rfl rfl rfl) (fun hc => p_move (gvt rfl hc)) ?_
  refine JH.pg 15 rfl (Gd.t2 rfl rfl rfl) (fun hc => p_move rfl) ?_
  refine JH.pg 16 rfl (Gd.t2 rfl rfl rfl) (fun hc => p_nilCheck (gvt rfl hc)) ?_
  refine JH.pg 17 rfl (Gd.t2 rfl rfl rfl) (fun hc => p_fieldAddr fld_37_1.h (gvt rfl hc)) ?_
  refine JH.wg 18 rfl (Gd.t2 rfl rfl rfl) (fun hc os' u' hv => q_load1 ty_35.h (gvt rfl hc) (Mem.pub ((hr2.vis (x4.vis.trans hv)) 9 _ rfl))) ?_
  refine JH.pg 19 rfl (Gd.t2 rfl rfl rfl) (fun hc => p_move rfl) ?_
  refine JH.pg 20 rfl (Gd.t2 rfl rfl rfl) (fun hc => p_sub (gvt rfl hc) rfl (IntWalk.i64_in _ (by have hc9 := hc; (try simp only [Bool.and_eq_true, Bool.not_eq_true', Bool.not_eq_false', decide_eq_true_eq] at hc9); omega))) ?_
  have hy7 : b.entries[((k : Int) - 1).toNat]? = some (M.ent b.entries (((k : Int) - 1).toNat)) := M.ent_get (by omega)
  obtain ⟨b7, o7, A7_0, c7_0, A7_1, c7_1, he7, hr7, h7_0, h7_1, bl7_0, bh7_0, bl7_1, bh7_1⟩ := elem_BookEntry (Ty.mono _ h1 x4.vis) hy7
  refine JH.pg 21 rfl (Gd.t2 rfl rfl rfl) (fun hc => p_indexAddr el_35 (gvt rfl hc) (gvt rfl hc) (by have hc9 := hc; (try simp only [Bool.and_eq_true, Bool.not_eq_true', Bool.not_eq_false', decide_eq_true_eq] at hc9); omega) (by have hc9 := hc; (try simp only [Bool.and_eq_true, Bool.not_eq_true', Bool.not_eq_false', decide_eq_true_eq] at hc9); omega) he7) ?_
  refine JH.pg 22 rfl (Gd.t2 rfl rfl rfl) (fun hc => p_fieldAddr fld_89_0.h (gvt rfl hc)) ?_
  refine JH.wg 23 rfl (Gd.t2 rfl rfl rfl) (fun hc os' u' hv => q_load1 ty_27.h (gvt rfl hc) (Mem.pub ((hr7.vis hv) 0 _ rfl))) ?_
  refine JH.pg 24 rfl (Gd.t2 rfl rfl rfl) (fun hc => p_move rfl) ?_
  refine JH.pg 25 rfl (Gd.t2 rfl rfl rfl) (fun hc => p_nilCheck (gvt rfl hc)) ?_
  refine JH.pg 26 rfl (Gd.t2 rfl rfl rfl) (fun hc => p_fieldAddr fld_37_1.h (gvt rfl hc)) ?_
  refine JH.wg 27 rfl (Gd.t2 rfl rfl rfl) (fun hc os' u' hv => q_load1 ty_35.h (gvt rfl hc) (Mem.pub ((hr2.vis (x4.vis.trans hv)) 9 _ rfl))) ?_
  refine JH.pg 28 rfl (Gd.t2 rfl rfl rfl) (fun hc => p_move rfl) ?_
  have hy8 : b.entries[k]? = some (M.ent b.entries k) := M.ent_get (by omega)
  obtain ⟨b8, o8, A8_0, c8_0, A8_1, c8_1, he8, hr8, h8_0, h8_1, bl8_0, bh8_0, bl8_1, bh8_1⟩ := elem_BookEntry (Ty.mono _ h1 x4.vis) hy8
  refine JH.pg 29 rfl (Gd.t2 rfl rfl rfl) (fun hc => p_indexAddr el_35 (gvt rfl hc) (gvt rfl hc) (by have hc9 := hc; (try simp only [Bool.and_eq_true, Bool.not_eq_true', Bool.not_eq_false', decide_eq_true_eq] at hc9); omega) (by have hc9 := hc; (try simp only [Bool.and_eq_true, Bool.not_eq_true', Bool.not_eq_false', decide_eq_true_eq] at hc9); omega) he8) ?_
  refine JH.pg 30 rfl (Gd.t2 rfl rfl rfl) (fun hc => p_fieldAddr fld_89_0.h (gvt rfl hc)) ?_
  refine JH.wg 31 rfl (Gd.t2 rfl rfl rfl) (fun hc os' u' hv => q_load1 ty_27.h (gvt rfl hc) (Mem.pub ((hr8.vis hv) 0 _ rfl))) ?_
  refine y1 32 ?_
  refine JHo.ge rfl (Gd.t2 rfl rfl rfl) (fun hc => e_callV fn_114.h (opds_2 (gvt rfl hc) (gvt rfl hc)) (fun w hw => c_spec_l04Lists ((M.ent b.entries (((k : Int) - 1).toNat)).pits) ((M.ent b.entries k).pits) (ok_ hw) (ok_ hw) (r0 := (by have hc9 := hc; (try simp only [Bool.and_eq_true, Bool.not_eq_true', Bool.not_eq_false', decide_eq_true_eq] at hc9); omega)) (r1 := (by have hc9 := hc; (try simp only [Bool.and_eq_true, Bool.not_eq_true', Bool.not_eq_false', decide_eq_true_eq] at hc9); omega)))) ?_
  refine JH.pg 33 rfl (Gd.t2 rfl rfl rfl) (fun hc => p_geq (gvt rfl hc) rfl) ?_
  refine JH.pg 34 rfl (Gd.f1 rfl rfl rfl) (fun hc => p_pickAnd (gvt rfl hc) (gvl rfl hc) rfl) ?_
  refine JH.p 35 rfl (p_pickOr rfl rfl rfl) ?_
  refine yd ?_
  refine zi (fun h9 h9' => ?_) fun h9 h9' => ?_
  ·
   have hN : M.entAt b.rules b.entries k = false := M.entAt_no' (by exact h9)
   have hE2 : (List.range b.entries.length).all (M.entAt b.rules b.entries) = false := M.all_no (by omega) hN
   refine zS <| Qa rfl <| JL.nil ?_
   refine zR x4 ?_
   first | (rw [hE, hE2]; rfl) | (rw [hE]; rfl)
  have hN : M.entAt b.rules b.entries k = true := M.entAt_yes' (by exact h9)
  refine Js.skip <| Js.blockEnd <| Js.region <| Qm rfl <| Qp rfl rfl <| Qa rfl <| JL.nil ?_
  exact zag ⟨k + 1, rfl, rfl, by exact hA.step hN, zt, rfl⟩ x4
 have hE2 : (List.range b.entries.length).all (M.entAt b.rules b.entries) = true := M.all_yes hA (by have := h5'; omega)
 refine zx ?_
 refine zS <| Qa rfl <| JL.nil ?_
 refine zR x4 ?_
 first | (rw [hE, hE2]; rfl) | (rw [hE]; rfl)

end Go.Proofs.YtcmfnlleikcpnaaGreat

namespace Go.Proofs.YtcmfnlleikcpnaaGreat
open Go.RowKit

set_option maxHeartbeats 12000000 in
theorem c_spec_l04Turn (r : M.Rul) {v_r : Value} (p : M.Pos) {v_p : Value} {w : World} (h_r : (Ty.ref (cRules r)).ok w v_r) (h_p : (Ty.ref (cPosition p)).ok w v_p) (r0 : M.okP r p = true := by exact om_) : Ret Tryz.prog 132 [v_r, v_p] w (Ty.agg (cPosition (M.turnP r p))) := by
 obtain ⟨g1, g2, g3, g4, g5, g6, g7⟩ := M.okP_bd r0
 revert v_r; apply opn
 intro b1 o1 hr1
 revert v_p; apply opn
 intro b4 o4 A2 c2 h2 bl2 bh2 A3 c3 h3 bl3 bh3 hr4
 refine enter @Tryz.func132 @Tryz.ntmps132 rfl rfl ?_
 refine zent ?_
 refine zS <| za zeh fun b5 => zJ ?_
 refine zdr [] ?_
 refine JH.p 0 rfl (p_move rfl) ?_
 refine JH.p 1 rfl (p_nilCheck rfl) ?_
 refine JH.p 2 rfl (p_fieldAddr fld_39_0.h rfl) ?_
 refine JH.w 3 rfl (fun os' u' hv => q_load1 ty_27.h rfl (Mem.pub ((hr4.vis hv) 0 _ rfl))) ?_
 refine JH.p 4 rfl (p_move rfl) ?_
 refine JH.p 5 rfl (p_nilCheck rfl) ?_
 refine JH.p 6 rfl (p_fieldAddr fld_34_0.h rfl) ?_
 refine JH.w 7 rfl (fun os' u' hv => q_load1 ty_2.h rfl (Mem.pub ((hr1.vis hv) 0 _ rfl))) ?_
 have hs6 := ints_cut (a := r.pits.toNat) (b := p.pits.length) (m := c2) h2 (by omega) (by omega) (by omega) (by omega)
 have hl6 : ((p.pits.drop r.pits.toNat).take (p.pits.length - r.pits.toNat)).length = p.pits.length - r.pits.toNat := by rw [List.length_take, List.length_drop]; omega
 refine JH.p 8 rfl (p_slice (lo' := r.pits.toNat) (hi' := p.pits.length) (mx' := c2) el_27 rfl rfl ⟨rfl, rfl⟩ ⟨_, by rw [Int.toNat_of_nonneg (by omega)]; exact rfl, by omega⟩) ?_
 refine y1 9 ?_
 refine ycs rfl rfl (fun w hw => c_spec_l00Own ((p.pits.drop r.pits.toNat).take (p.pits.length - r.pits.toNat)) (ok_ hw)) ?_
 intro A7 c7 bl7 bh7
 refine JH.p 10 rfl (p_assign rfl) ?_
 refine yd ?_
 refine Js.seq ?_
 refine zk [4] (fun F U l os u => ∃ (b14 : Nat) (A13 : Option Addr) (c13 : Nat) (g12 : List Nat), l = F [] ∧ os = [rowO 2 1 (.slice (some ⟨b14, 0, none⟩) 2 2) 2 [.int .i64 (M.nth p.stores 1), .int .i64 (M.nth p.stores 0)] []] ++ U [some (rowO 2 1 (.slice A13 ((((p.pits.drop r.pits.toNat).take (p.pits.length - r.pits.toNat)) ++ ((p.pits.drop 0).take (r.pits.toNat - 0))).length) c13) ((((p.pits.drop r.pits.toNat).take (p.pits.length - r.pits.toNat)) ++ ((p.pits.drop 0).take (r.pits.toNat - 0))).length) (ints_ (((p.pits.drop r.pits.toNat).take (p.pits.length - r.pits.toNat)) ++ ((p.pits.drop 0).take (r.pits.toNat - 0)))) g12), some (boxO b5 [.slice A13 ((((p.pits.drop r.pits.toNat).take (p.pits.length - r.pits.toNat)) ++ ((p.pits.drop 0).take (r.pits.toNat - 0))).length) c13, .slice (some ⟨b14, 0, none⟩) 2 2, .int .i64 (1 - p.player)] 39)] ∧ ((((p.pits.drop r.pits.toNat).take (p.pits.length - r.pits.toNat)) ++ ((p.pits.drop 0).take (r.pits.toNat - 0))).length ≤ c13) ∧ (c13 ≤ 9223372036854775807)) ?_ ?_
 ·
  refine zdr [10, 30] ?_
  refine JH.p 0 rfl (p_move rfl) ?_
  refine JH.p 1 rfl (p_move rfl) ?_
  refine JH.p 2 rfl (p_nilCheck rfl) ?_
  refine JH.p 3 rfl (p_fieldAddr fld_39_0.h rfl) ?_
  refine JH.w 4 rfl (fun os' u' hv => q_load1 ty_27.h rfl (Mem.pub ((hr4.vis hv) 0 _ rfl))) ?_
  refine JH.p 5 rfl (p_move rfl) ?_
  refine JH.p 6 rfl (p_nilCheck rfl) ?_
  refine JH.p 7 rfl (p_fieldAddr fld_34_0.h rfl) ?_
  refine JH.w 8 rfl (fun os' u' hv => q_load1 ty_2.h rfl (Mem.pub ((hr1.vis hv) 0 _ rfl))) ?_
  have hs22 := ints_cut (a := 0) (b := r.pits.toNat) (m := c2) h2 (by omega) (by omega) (by omega) (by omega)
  have hl22 : ((p.pits.drop 0).take (r.pits.toNat - 0)).length = r.pits.toNat - 0 := by rw [List.length_take, List.length_drop]; omega
  refine JH.p 9 rfl (p_slice (lo' := 0) (hi' := r.pits.toNat) (mx' := c2) el_27 rfl rfl ⟨_, by rw [Int.toNat_of_nonneg (by omega)]; exact rfl, by omega⟩ rfl) ?_
  refine JH.p 11 rfl (p_move rfl) ?_
  refine JH.p 12 rfl (p_nilCheck rfl) ?_
  refine JH.p 13 rfl (p_fieldAddr fld_39_1.h rfl) ?_
  refine JH.w 14 rfl (fun os' u' hv => q_load1 ty_27.h rfl (Mem.pub ((hr4.vis hv) 1 _ rfl))) ?_
  obtain ⟨b23, o23, he23, hc23⟩ := ints_elem h3 (i := 1) (by omega)
  refine JH.p 15 rfl (p_indexAddr el_27 rfl rfl (by omega) (by omega) he23) ?_
  refine JH.w 16 rfl (fun os' u' hv => q_load1 ty_2.h rfl (Mem.pub (hc23.vis hv))) ?_
  refine JH.p 17 rfl (p_move rfl) ?_
  refine JH.p 18 rfl (p_nilCheck rfl) ?_
  refine JH.p 19 rfl (p_fieldAddr fld_39_1.h rfl) ?_
  refine JH.w 20 rfl (fun os' u' hv => q_load1 ty_27.h rfl (Mem.pub ((hr4.vis hv) 1 _ rfl))) ?_
  obtain ⟨b24, o24, he24, hc24⟩ := ints_elem h3 (i := 0) (by omega)
  refine JH.p 21 rfl (p_indexAddr el_27 rfl rfl (by omega) (by omega) he24) ?_
  refine JH.w 22 rfl (fun os' u' hv => q_load1 ty_2.h rfl (Mem.pub (hc24.vis hv))) ?_
  refine JH.p 24 rfl (p_move rfl) ?_
  refine JH.p 25 rfl (p_nilCheck rfl) ?_
  refine JH.p 26 rfl (p_fieldAddr fld_39_2.h rfl) ?_
  refine JH.w 27 rfl (fun os' u' hv => q_load1 ty_2.h rfl (Mem.pub ((hr4.vis hv) 2 _ rfl))) ?_
  refine JH.p 28 rfl (p_sub rfl rfl (IntWalk.i64_in _ (by omega))) ?_
  refine y2 10 23 ?_ ?_
  ·
   refine JHo.e rfl (e_append (i := 0) (n' := (((p.pits.drop r.pits.toNat).take (p.pits.length - r.pits.toNat)) ++ ((p.pits.drop 0).take (r.pits.toNat - 0))).length) (vs' := ints_ (((p.pits.drop r.pits.toNat).take (p.pits.length - r.pits.toNat)) ++ ((p.pits.drop 0).take (r.pits.toNat - 0)))) el_27 rfl rfl rfl rfl (src_intsN und_27 hl22 hs22) (by omega) (by omega) (by first | omega | (simp only [List.length_append, List.length_cons, List.length_nil] <;> omega)) (by simp [ints_])) (.inr rfl) ?_
   rintro v25 _ _ ⟨⟨g26, rfl⟩, rfl⟩ _
   refine JH.fact (row_form' (i := 0) rfl) (fun hf27 => ?_)
   obtain ⟨A27, c27, rfl, bl27, bh27⟩ := hf27
   refine znh ?_
   refine y1 23 ?_
   refine ybs rfl fun b28 => ?_
   refine JH.p 29 rfl (q_bld) ?_
   refine y1 30 ?_
   refine yst rfl rfl rfl ?_
   refine yd ?_
   exact zm ⟨_, _, _, _, rfl, rfl, zt, zt⟩ (Up.refl _ _)
  refine ybs rfl fun b30 => ?_
  refine y1 10 ?_
  refine JHo.e rfl (e_append (i := 1) (n' := (((p.pits.drop r.pits.toNat).take (p.pits.length - r.pits.toNat)) ++ ((p.pits.drop 0).take (r.pits.toNat - 0))).length) (vs' := ints_ (((p.pits.drop r.pits.toNat).take (p.pits.length - r.pits.toNat)) ++ ((p.pits.drop 0).take (r.pits.toNat - 0)))) el_27 rfl rfl rfl rfl (src_intsN und_27 hl22 hs22) (by omega) (by omega) (by first | omega | (simp only [List.length_append, List.length_cons, List.length_nil] <;> omega)) (by simp [ints_])) (.inr rfl) ?_
  rintro v32 _ _ ⟨⟨g33, rfl⟩, rfl⟩ _
  refine JH.fact (row_form' (i := 1) rfl) (fun hf34 => ?_)
  obtain ⟨A34, c34, rfl, bl34, bh34⟩ := hf34
  refine znh ?_
  refine JH.p 29 rfl (q_bld) ?_
  refine y1 30 ?_
  refine yst rfl rfl rfl ?_
  refine yd ?_
  exact zm ⟨_, _, _, _, rfl, rfl, zt, zt⟩ (Up.refl _ _)
 rintro _ _ u21 ⟨b14, A13, c13, g12, rfl, rfl, f21_0, f21_1⟩ x21
 refine zn ?_
 have hq0 : (((p.pits.drop r.pits.toNat).take (p.pits.length - r.pits.toNat)) ++ ((p.pits.drop 0).take (r.pits.toNat - 0))) = (M.turnP r p).pits := by first | rfl | (simp [M.turnP, List.take_of_length_le]; done) | (unfold M.turnP; simp; omega)
 have hq1 : [(M.nth p.stores 1), (M.nth p.stores 0)] = (M.turnP r p).stores := by first | rfl | (simp [M.turnP, List.take_of_length_le]; done) | (unfold M.turnP; simp; omega)
 have hq2 : (1 - p.player) = (M.turnP r p).player := by first | rfl | (simp [M.turnP, List.take_of_length_le]; done) | (unfold M.turnP; simp; omega)
 exact zro x21

set_option maxHeartbeats 1000000 in
theorem c_spec_l04View (r : M.Rul) {v_r : Value} (p : M.Pos) {v_p : Value} {w : World} (h_r : (Ty.ref (cRules r)).ok w v_r) (h_p : (Ty.ref (cPosition p)).ok w v_p) (r0 : M.okV r p := by exact om_) : Ret Tryz.prog 74 [v_r, v_p] w (Ty.agg (cPosition (M.viewP r p))) := by
 have hl := M.okV_len r0
 have hpl := M.okV_pl r0
 revert v_r; apply opn
 intro b1 o1 hr1
 revert v_p; apply opn
 intro b4 o4 A2 c2 h2 bl2 bh2 A3 c3 h3 bl3 bh3 hr4
 refine enter @Tryz.func74 @Tryz.ntmps74 rfl rfl ?_
 refine zent ?_
 refine zS <| za zeh fun b5 => zJ <| zS <| Qm rfl <| Qc rfl <| Qf fh rfl <| QC (hr4 2 _ rfl) rfl <| Qe rfl rfl <| JL.nil ?_
 refine zi (fun h6 h6' => ?_) fun h6 h6' => ?_
 ·
  have hn0 : ¬ p.player = 0 := by have := h6'; omega
  have hK := M.okV_turn r0 hn0
  have hE := M.viewP_1 (r := r) hn0
  refine zS <| Qm rfl <| Qm rfl <| zc rfl (fun w hw => c_spec_l04Turn r p (ok_ hw) (ok_ hw) (r0 := hK)) ?_
  intro A8 c8 bl8 bh8 A9 c9 bl9 bh9
  have hq0 : ((M.turnP r p).pits) = (M.viewP r p).pits := by rw [hE]
  have hq1 : ((M.turnP r p).stores) = (M.viewP r p).stores := by rw [hE]
  have hq2 : ((M.turnP r p).player) = (M.viewP r p).player := by rw [hE]
  refine zw 2 rfl rfl rfl ?_
  refine JL.nil ?_
  exact zro (Up.refl _ _)
 have hE := M.viewP_0 (r := r) (p := p) (by have := h6'; omega)
 refine Js.skip <| zS <| Qm rfl <| zc rfl (fun w hw => c_spec_l04Own p (ok_ hw)) ?_
 intro A11 c11 bl11 bh11 A12 c12 bl12 bh12
 have hq0 : p.pits = (M.viewP r p).pits := by rw [hE]
 have hq1 : p.stores = (M.viewP r p).stores := by rw [hE]
 have hq2 : p.player = (M.viewP r p).player := by rw [hE]
 refine zw 2 rfl rfl rfl ?_
 refine JL.nil ?_
 exact zro (Up.refl _ _)

set_option maxHeartbeats 1000000 in
theorem c_spec_l20Find (b : M.Boo) {v_b : Value} (q : List Int) {v_q : Value} {w : World} (h_b : (Ty.ref (cBook b)).ok w v_b) (h_q : (Ty.ints 2 q).ok w v_q) (r0 : b.entries.length ≤ 4194304 := by exact om_) (r1 : ∀ x ∈ b.entries, x.pits.length ≤ 4194304 ∧ x.choices.length ≤ 4194304 := by exact om_) (r2 : q.length ≤ 4194304 := by exact om_) : RetV Tryz.prog 130 [v_b, v_q] w (.tuple #[.int .i64 (M.findE b.entries q : Int), .bool (M.hasE b.entries q)]) := by
 revert v_b; apply opn
 intro b2 o2 A1 c1 h1 bl1 bh1 hr2
 revert v_q; apply opn
 intro A3 c3 h3 bl3 bh3
 have h_q := h3
 refine enter @Tryz.func130 @Tryz.ntmps130 rfl rfl ?_
 refine zent ?_
 refine zS <| Qa rfl <| Qa rfl <| zJ <| zS <| Qa rfl <| JL.nil <| Js.block ?_
 refine zl [0, 1] (fun F U l os u m => ∃ (k : Nat), l = F [(6, .int .i64 (k : Int))] ∧ os = U [] ∧ (k + M.findE (b.entries.drop k) q = M.findE b.entries q) ∧ (k ≤ b.entries.length) ∧ m = b.entries.length - k) ⟨0, rfl, rfl, by simp, zt, rfl⟩ ?_
 rintro _ _ u4 _ ⟨k, rfl, rfl, hL, hk, rfl⟩ x4
 refine zn ?_
 refine Js.seq <| zS <| Qm rfl <| Qm rfl <| Qc rfl <| Qf fh rfl <| QC ((hr2.vis x4.vis) 9 _ rfl) rfl <| Qz rfl <| Ql rfl rfl <| JL.nil ?_
 refine zi (fun h5 h5' => ?_) fun h5 h5' => ?_
 ·
  have hkk : k < b.entries.length := by have := h5'; omega
  obtain ⟨e1_, e2_⟩ := r1 _ (M.ent_mem (es := b.entries) (k := k) hkk)
  have hy6 : b.entries[k]? = some (M.ent b.entries k) := M.ent_get (by omega)
  obtain ⟨b6, o6, A6_0, c6_0, A6_1, c6_1, he6, hr6, h6_0, h6_1, bl6_0, bh6_0, bl6_1, bh6_1⟩ := elem_BookEntry (Ty.mono _ h1 x4.vis) hy6
  refine Js.skip <| Js.seq <| Js.block <| zS <| Qm rfl <| Qc rfl <| Qf fh rfl <| QC ((hr2.vis x4.vis) 9 _ rfl) rfl <| Qm rfl <| Qq (p_indexAddr el_35 rfl rfl (by omega) (by omega) he6) <| Qf fh rfl <| QC (hr6 0 _ rfl) rfl <| Qm rfl <| zv rfl (fun w hw => c_spec_l04Lists ((M.ent b.entries k).pits) q (ok_ hw) (ok_ hw)) ?_
  refine Qa rfl <| zN <| Qm rfl <| Qh rfl rfl <| JL.nil ?_
  refine zi (fun h7 h7' => ?_) fun h7 h7' => ?_
  ·
   have hE := M.findE_hit hL hkk (by have := h7'; omega)
   have hE2 := M.hasE_hit hE hkk
   refine zS <| Qm rfl <| Qm rfl <| Qe rfl rfl <| Qa rfl <| Qa rfl <| JL.nil ?_
   refine zR x4 ?_
   rw [hE, hE2]; rfl
  have hL2 := M.findE_step hL hkk (by have := h7'; omega)
  refine Js.skip <| Js.blockEnd <| Js.region <| Qm rfl <| Qp rfl rfl <| Qa rfl <| JL.nil ?_
  exact zag ⟨k + 1, rfl, rfl, by exact hL2, zt, rfl⟩ x4
 have hE := M.findE_end hL (by have := h5'; omega) hk
 have hE2 := M.hasE_end hE
 refine zx ?_
 refine zS <| Qm rfl <| Qc rfl <| Qf fh rfl <| QC ((hr2.vis x4.vis) 9 _ rfl) rfl <| Qz rfl <| Qa rfl <| Qa rfl <| JL.nil ?_
 refine zR x4 ?_
 rw [hE, hE2]; rfl

set_option maxHeartbeats 1000000 in
theorem c_spec_l20Choices (b : M.Boo) {bb_p ob_p : Nat} {Ab_9 : Option Addr} {cb_9 : Nat} (p : M.Pos) {v_p : Value} {w : World} (heb_9 : (Ty.sl 89 2 b.entries.length (lBookEntry b.entries)).ok w (.slice Ab_9 b.entries.length cb_9)) (hrb : RowAt w bb_p ob_p [.int .i64 b.rules.pits, .int .i64 b.rules.seeds, .bool b.rules.stores, .bool b.rules.skip, .bool b.rules.relay, .bool b.rules.feed, .bool b.rules.again, .int .i64 b.rules.capture, .int .i64 b.rules.slam, .slice Ab_9 b.entries.length cb_9]) (h_p : (Ty.ref (cPosition p)).ok w v_p) (bd0 : b.entries.length ≤ cb_9 := by exact om_) (bd1 : cb_9 ≤ 9223372036854775807 := by exact om_) (r0 : b.entries.length ≤ 4194304 := by exact om_) (r1 : ∀ x ∈ b.entries, x.pits.length ≤ 4194304 ∧ x.choices.length ≤ 4194304 := by exact om_) (r2 : M.okV b.rules p := by exact om_) : RetX Tryz.prog 90 [.pointer (some ⟨bb_p, ob_p, none⟩), v_p] w (fun v => ∃ x, v = .tuple #[x, .bool (M.hasE b.entries (M.viewP b.rules p).pits)] ∧ (M.hasE b.entries (M.viewP b.rules p).pits = false → x = .slice none 0 0) ∧ (M.hasE b.entries (M.viewP b.rules p).pits = true → ∃ y, EltAt w 2 Ab_9 b.entries.length cb_9 (M.findE b.entries (M.viewP b.rules p).pits) [y, x])) := by
 have hv := M.viewP_lenV r2
 have hb1 : (M.Boo.mk b.rules b.entries) = b := rfl
 revert v_p; apply opn
 intro b3 o3 A1 c1 h1 bl1 bh1 A2 c2 h2 bl2 bh2 hr3
 refine enter @Tryz.func90 @Tryz.ntmps90 rfl rfl ?_
 refine zent ?_
 refine zS <| Qa rfl <| Qa rfl <| zN <| Qm rfl <| Qm rfl <| Qc rfl <| Qf fh rfl <| Qm rfl <| zc rfl (fun w hw => c_spec_l04View b.rules p (ok_ hw) (ok_ hw) (r0 := r2)) ?_
 intro A5 c5 bl5 bh5 A6 c6 bl6 bh6
 refine Qi fh rfl rfl <| zv rfl (fun w hw => c_spec_l20Find b ((M.viewP b.rules p).pits) (ok_ hw) (ok_ hw) (r1 := r1)) <| Qm rfl <| Qx rfl rfl <| Qx rfl rfl <| Qa rfl <| Qa rfl <| zJ <| zS <| Qm rfl <| Qt rfl <| JL.nil ?_
 refine zi (fun h7 h7' => ?_) fun h7 h7' => ?_
 ·
  have hno : M.hasE b.entries (M.viewP b.rules p).pits = false := by simpa using h7
  refine zS <| Qa rfl <| Qa rfl <| JL.nil ?_
  refine zX (Up.refl _ _) ?_
  exact ⟨_, by rw [hno], fun _ => rfl, fun h => absurd (hno.symm.trans h) (by decide)⟩
 have hyes : M.hasE b.entries (M.viewP b.rules p).pits = true := by simpa using h7
 have hlt := M.hasE_lt hyes
 have hy8 : b.entries[(M.findE b.entries ((M.viewP b.rules p).pits) : Int).toNat]? = some (M.ent b.entries ((M.findE b.entries ((M.viewP b.rules p).pits) : Int).toNat)) := M.ent_get (by omega)
 obtain ⟨b8, o8, A8_0, c8_0, A8_1, c8_1, he8, hr8, h8_0, h8_1, bl8_0, bh8_0, bl8_1, bh8_1⟩ := elem_BookEntry heb_9 hy8
 refine Js.skip <| zS <| Qm rfl <| Qc rfl <| Qf fh rfl <| QC (hrb 9 _ rfl) rfl <| Qm rfl <| Qq (p_indexAddr el_35 rfl rfl (by omega) (by omega) he8) <| Qf fh rfl <| QC (hr8 1 _ rfl) rfl <| Qa rfl <| Qa rfl <| JL.nil ?_
 refine zX (Up.refl _ _) ?_
 exact ⟨_, by rw [hyes], fun h => absurd (hyes.symm.trans h) (by decide), fun _ => ⟨_, _, _, he8, hr8⟩⟩

set_option maxHeartbeats 1000000 in
theorem c_spec_l20Better (c : M.Cho) {v_c : Value} (t : M.Cho) {v_t : Value} {w : World} (h_c : (Ty.agg (cChoice c)).ok w v_c) (h_t : (Ty.agg (cChoice t)).ok w v_t) (r0 : 0 ≤ c.score := by exact om_) (r1 : c.score ≤ 2000000 := by exact om_) (r2 : 1 ≤ c.games := by exact om_) (r3 : c.games ≤ 1000000 := by exact om_) (r4 : 0 ≤ t.score := by exact om_) (r5 : t.score ≤ 2000000 := by exact om_) (r6 : 1 ≤ t.games := by exact om_) (r7 : t.games ≤ 1000000 := by exact om_) : RetV Tryz.prog 116 [v_c, v_t] w (.bool (M.better c t)) := by
 have m1 := M.mulC_bd r0 r1 r6 r7
 have m2 := M.mulC_bd r4 r5 r2 r3
 revert v_c; apply opn
 revert v_t; apply opn
 refine enter @Tryz.func116 @Tryz.ntmps116 rfl rfl ?_
 refine zent ?_
 refine zS <| zb rfl fun b1 => zb rfl fun b2 => Qa rfl <| zN <| Qf fh rfl <| Q0 1 rfl rfl rfl <| Qf fh rfl <| Q0 0 rfl rfl rfl <| Qu rfl rfl <| Qa rfl <| zN <| Qf fh rfl <| Q0 0 rfl rfl rfl ?_
 refine Qf fh rfl <| Q0 1 rfl rfl rfl <| Qu rfl rfl <| Qa rfl <| zN <| Qm rfl <| Qm rfl <| Qg rfl rfl <| Qm rfl <| zg (Gd.f1 rfl rfl rfl) (fun hc => p_move rfl) <| zg (Gd.f1 rfl rfl rfl) (fun hc => p_move rfl) <| zg (Gd.f1 rfl rfl rfl) (fun hc => p_eql (gh hc rfl) (gh hc rfl)) <| zg (Gd.f1 rfl rfl rfl) (fun hc => p_move (gh hc rfl)) <| zg (Gd.t2 rfl rfl rfl) (fun hc => p_fieldAddr fld_81_1.h rfl) ?_
 refine zgq (Gd.t2 rfl rfl rfl) (fun hc => q_load1 ty_2.h (gh hc rfl) (Mem.box (i := 1) rfl rfl)) <| zg (Gd.t2 rfl rfl rfl) (fun hc => p_fieldAddr fld_81_1.h rfl) <| zgq (Gd.t2 rfl rfl rfl) (fun hc => q_load1 ty_2.h (gh hc rfl) (Mem.box (i := 0) rfl rfl)) <| zg (Gd.t2 rfl rfl rfl) (fun hc => p_gtr (gh hc rfl) (gh hc rfl)) <| zg (Gd.f1 rfl rfl rfl) (fun hc => p_pickAnd (gh hc rfl) (gvl rfl hc) rfl) <| Qq (p_pickOr rfl rfl rfl) <| Qa rfl <| JL.nil ?_
 refine zR (Up.refl _ _) ?_
 rfl

set_option maxHeartbeats 1000000 in
theorem c_spec_l20Choose (b : M.Boo) {v_b : Value} (p : M.Pos) {v_p : Value} {w : World} (h_b : (Ty.ref (cBook b)).ok w v_b) (h_p : (Ty.ref (cPosition p)).ok w v_p) (r0 : b.entries.length ≤ 4194304 := by exact om_) (r1 : ∀ x ∈ b.entries, x.pits.length ≤ 4194304 ∧ x.choices.length ≤ 4194304 := by exact om_) (r2 : M.okV b.rules p := by exact om_) (r3 : M.okB b = true := by exact om_) : RetV Tryz.prog 58 [v_b, v_p] w (.tuple #[.int .i64 ((M.cbest (M.lookE b.entries (M.viewP b.rules p).pits)).move), .bool (M.hasE b.entries (M.viewP b.rules p).pits)]) := by
 have hcb := M.lookE_b r3 (M.viewP b.rules p).pits
 have hel := M.lookE_mem (pits := (M.viewP b.rules p).pits) (n := 4194304) (fun x hx => (r1 x hx).2)
 revert v_b; apply opn
 intro b2 o2 A1 c1 h1 bl1 bh1 hr2
 revert v_p; apply opn
 intro b5 o5 A3 c3 h3 bl3 bh3 A4 c4 h4 bl4 bh4 hr5
 refine enter @Tryz.func58 @Tryz.ntmps58 rfl rfl ?_
 refine zent ?_
 refine zS <| Qa rfl <| Qa rfl <| zN <| Qm rfl <| Qm rfl <| zxc (fun v => ∃ x, v = .tuple #[x, .bool (M.hasE (b).entries (M.viewP (b).rules p).pits)] ∧ (M.hasE (b).entries (M.viewP (b).rules p).pits = false → x = .slice none 0 0) ∧ (M.hasE (b).entries (M.viewP (b).rules p).pits = true → ∃ A c, x = .slice A (M.lookE (b).entries (M.viewP (b).rules p).pits).length c ∧ (Ty.sl 81 3 (M.lookE (b).entries (M.viewP (b).rules p).pits).length (lChoice (M.lookE (b).entries (M.viewP (b).rules p).pits))).ok w (.slice A (M.lookE (b).entries (M.viewP (b).rules p).pits).length c) ∧ (M.lookE (b).entries (M.viewP (b).rules p).pits).length ≤ c ∧ c ≤ 9223372036854775807)) rfl (fun w hw => c_spec_l20Choices b p (Ty.mono _ h1 hw.vis) (hr2.vis hw.vis) (ok_ hw) (r1 := r1) (r2 := r2)) (fun w9 v9 hw9 ⟨x, g1_, g2_, g3_⟩ => ⟨x, g1_, g2_, fun hh => by obtain ⟨y, g4_⟩ := g3_ hh; rw [M.hasE_look hh]; exact alias_ent hw9 h1 (M.hasE_lt hh) g4_⟩) ?_
 rintro _ ⟨x6, rfl, hz6, ho6⟩
 refine Qm rfl <| Qx rfl rfl <| Qx rfl rfl <| Qa rfl <| Qa rfl <| zJ <| zS <| Qm rfl <| Qt rfl <| JL.nil ?_
 refine zi (fun h7 h7' => ?_) fun h7 h7' => ?_
 ·
  have hh : M.hasE b.entries (M.viewP b.rules p).pits = false := by simpa using h7
  refine zS <| Qa rfl <| Qa rfl <| JL.nil ?_
  refine zR (Up.refl _ _) ?_
  first | (rw [hh, M.look_none (M.okB_sort r3) hh]; rfl) | (rw [hh, hE]; rfl)
 have hh : M.hasE b.entries (M.viewP b.rules p).pits = true := by simpa using h7
 have hpos := M.has_len r3 hh
 obtain ⟨A8, c8, rfl, hf8, bl8, bh8⟩ := ho6 (by simpa using h7)
 obtain ⟨b1_, b2_, b3_, b4_⟩ := hcb _ (M.cho_mem hpos)
 have hy9 : (M.lookE (b).entries (M.viewP (b).rules p).pits)[0]? = some (M.cho (M.lookE (b).entries (M.viewP (b).rules p).pits) 0) := M.cho_get (by omega)
 obtain ⟨b9, o9, he9, hr9⟩ := elem_Choice hf8 hy9
 refine Js.skip <| zS <| Qm rfl <| Qq (p_indexAddr el_67 rfl rfl (by omega) (by omega) he9) <| QS 0 hr9 rfl ?_
 refine za zeh fun b10 => zw 0 rfl rfl rfl ?_
 refine zJ <| zS <| Qa rfl <| JL.nil <| Js.block ?_
 refine zl [6, 8] (fun F U l os u m => ∃ (k : Nat) (x : M.Cho), l = F [(9, .int .i64 (k : Int))] ∧ os = U [some (boxO b10 [.int .i64 x.move, .int .i64 x.games, .int .i64 x.score] 81)] ∧ (M.cbF x ((M.lookE b.entries (M.viewP b.rules p).pits).drop k) = M.cbest (M.lookE b.entries (M.viewP b.rules p).pits)) ∧ (k ≤ (M.lookE b.entries (M.viewP b.rules p).pits).length) ∧ (1 ≤ k) ∧ (1 ≤ x.games) ∧ (x.games ≤ 1000000) ∧ (0 ≤ x.score) ∧ (x.score ≤ 2000000) ∧ m = (M.lookE b.entries (M.viewP b.rules p).pits).length - k) ⟨1, (M.cho (M.lookE (b).entries (M.viewP (b).rules p).pits) 0), rfl, rfl, by exact M.cbest_one hpos, zt, zt, zt, zt, zt, zt, rfl⟩ ?_
 rintro _ _ u11 _ ⟨k, x, rfl, rfl, hB, hk, hk1, x1_, x2_, x3_, x4_, rfl⟩ x11
 refine zn ?_
 refine Js.seq <| zS <| Qm rfl <| Qm rfl <| Qz rfl <| Ql rfl rfl <| JL.nil ?_
 refine zi (fun h12 h12' => ?_) fun h12 h12' => ?_
 ·
  have hkk : k < (M.lookE b.entries (M.viewP b.rules p).pits).length := by have := h12'; omega
  obtain ⟨c1_, c2_, c3_, c4_⟩ := hcb _ (M.cho_mem hkk)
  refine Js.skip <| Js.seq <| Js.block <| Js.seq ?_
  refine zdr [] ?_
  refine JH.p 0 rfl (p_move rfl) ?_
  refine JH.p 1 rfl (p_move rfl) ?_
  have hy13 : (M.lookE (b).entries (M.viewP (b).rules p).pits)[k]? = some (M.cho (M.lookE (b).entries (M.viewP (b).rules p).pits) k) := M.cho_get (by omega)
  obtain ⟨b13, o13, he13, hr13⟩ := elem_Choice (Ty.mono _ hf8 x11.vis) hy13
  refine JH.p 2 rfl (p_indexAddr el_67 rfl rfl (by omega) (by omega) he13) ?_
  refine JH.w 3 rfl (fun os' u' hv => LS 0 (hr13.vis hv) rfl) ?_
  refine JH.q 4 rfl (L9 0 rfl rfl) ?_
  refine y1 5 ?_
  refine yv rfl rfl (fun w hw => c_spec_l20Better (M.cho (M.lookE (b).entries (M.viewP (b).rules p).pits) k) x (ok_ hw) (ok_ hw)) ?_
  refine yd ?_
  refine zi (fun h14 h14' => ?_) fun h14 h14' => ?_
  ·
   have hB2 := M.cbF_yes hB hkk h14
   have hy15 : (M.lookE (b).entries (M.viewP (b).rules p).pits)[k]? = some (M.cho (M.lookE (b).entries (M.viewP (b).rules p).pits) k) := M.cho_get (by omega)
   obtain ⟨b15, o15, he15, hr15⟩ := elem_Choice (Ty.mono _ hf8 x11.vis) hy15
   refine Js.region <| Qm rfl <| Qm rfl <| Qq (p_indexAddr el_67 rfl rfl (by omega) (by omega) he15) <| QS 0 hr15 rfl ?_
   refine zw 0 rfl rfl rfl ?_
   refine JL.nil <| Js.blockEnd <| Js.region <| Qm rfl <| Qp rfl rfl <| Qa rfl <| JL.nil ?_
   exact zag ⟨k + 1, (M.cho (M.lookE (b).entries (M.viewP (b).rules p).pits) k), rfl, rfl, by exact hB2, zt, zt, zt, zt, zt, zt, rfl⟩ x11
  have hB2 := M.cbF_no hB hkk h14
  refine Js.skip <| Js.blockEnd <| Js.region <| Qm rfl <| Qp rfl rfl <| Qa rfl <| JL.nil ?_
  exact zag ⟨k + 1, x, rfl, rfl, by exact hB2, zt, zt, zt, zt, zt, zt, rfl⟩ x11
 have hE := M.cbF_end hB (by have := h12'; omega)
 refine zx ?_
 refine zS <| Qf fh rfl <| Q0 0 rfl rfl rfl <| Qa rfl <| Qa rfl <| JL.nil ?_
 refine zR x11 ?_
 first | (rw [hh, M.look_none (M.okB_sort r3) hh]; rfl) | (rw [hh, hE]; rfl)

end Go.Proofs.YtcmfnlleikcpnaaGreat

namespace Go.Proofs.YtcmfnlleikcpnaaGreat
open Go.RowKit

set_option maxHeartbeats 1000000 in
theorem c_spec_BookLine (b : M.Boo) {v_b : Value} (p : M.Pos) {v_p : Value} (n : Int) {w : World} (h_b : (Ty.agg (cBook b)).ok w v_b) (h_p : (Ty.agg (cPosition p)).ok w v_p) (r0 : b.entries.length ≤ 4194304 := by exact om_) (r1 : ∀ x ∈ b.entries, x.pits.length ≤ 4194304 ∧ x.choices.length ≤ 4194304 := by exact om_) (r2 : p.pits.length ≤ 4194304 := by exact om_) (r3 : p.stores.length ≤ 4194304 := by exact om_) : Ret Tryz.prog 10 [v_b, v_p, .int .i64 n] w (Ty.tup [Ty.ints 2 (M.blR b p n), Ty.int (M.blC b p n)]) := by
 revert v_b; apply opn
 intro A1 c1 h1 bl1 bh1
 revert v_p; apply opn
 intro A2 c2 h2 bl2 bh2 A3 c3 h3 bl3 bh3
 refine enter @Tryz.func10 @Tryz.ntmps10 rfl rfl ?_
 refine zent ?_
 refine zS <| zb rfl fun b4 => zb rfl fun b5 => Qa rfl <| Qa rfl <| zJ <| zS <| zv rfl (fun w hw => c_spec_l20Ok b (ok_ hw) (r1 := r1)) <| Qt rfl <| Qm rfl <| zg (Gd.f1 rfl rfl rfl) (fun hc => p_fieldAddr fld_37_0.h rfl) <| zgv (Gd.f1 rfl rfl rfl) (fun hc => (opds_2 (gh hc rfl) rfl)) (fun hc => (fun w hw => c_spec_l04Ok b.rules p ⟨_, _, [.int .i64 b.rules.pits, .int .i64 b.rules.seeds, .bool b.rules.stores, .bool b.rules.skip, .bool b.rules.relay, .bool b.rules.feed, .bool b.rules.again, .int .i64 b.rules.capture, .int .i64 b.rules.slam], rfl, ⟨rfl, rfl, rfl, rfl, rfl, rfl, rfl, rfl, rfl, trivial⟩, Mem.boxR (i := 1) rfl 0 9 _ hw⟩ (ok_ hw) (r0 := (by have hc9 := hc; (try simp only [Bool.not_eq_true', Bool.not_eq_false'] at hc9); omega)) (r1 := (by have hc9 := hc; (try simp only [Bool.not_eq_true', Bool.not_eq_false'] at hc9); omega)))) ?_
 refine zg (Gd.f1 rfl rfl rfl) (fun hc => p_not (gh hc rfl)) <| Qq (p_pickOr rfl rfl rfl) <| JL.nil ?_
 refine zi (fun h6 h6' => ?_) fun h6 h6' => ?_
 ·
  have hno : ¬ (M.okB b = true ∧ M.okP b.rules p = true) := by have h9 := h6; rintro ⟨a1, a2⟩; rw [a1, a2] at h9; simp at h9
  obtain ⟨hE, hC⟩ := M.bl_no (n := n) hno
  have hq0 : [] = M.blR b p n := by first | (rw [hE]; done) | (rw [hC]; done)
  have hq1 : 1 = M.blC b p n := by first | (rw [hE]; done) | (rw [hC]; done)
  refine zS <| Qa rfl <| Qa rfl <| JL.nil ?_
  exact zro (Up.refl _ _)
 have hok : M.okB b = true ∧ M.okP b.rules p = true := by have h9 := h6; simpa using h9
 refine Js.skip <| Js.seq <| zS <| Qm rfl <| zv rfl (fun w hw => c_spec_l00In n 0 20) <| Qt rfl <| JL.nil ?_
 refine zi (fun h7 h7' => ?_) fun h7 h7' => ?_
 ·
  obtain ⟨hE, hC⟩ := M.bl_2 (n := n) hok (by simpa using h7)
  have hq0 : [] = M.blR b p n := by first | (rw [hE]; done) | (rw [hC]; done)
  have hq1 : 2 = M.blC b p n := by first | (rw [hE]; done) | (rw [hC]; done)
  refine zS <| Qa rfl <| Qa rfl <| JL.nil ?_
  exact zro (Up.refl _ _)
 have hbt : M.betw n 0 20 = true := by simpa using h7
 obtain ⟨hE, hC⟩ := M.bl_0 hok hbt
 have hn9 : 0 ≤ n ∧ n ≤ 20 := by simpa [M.betw] using hbt
 refine Js.skip <| zS <| zbs fun b8 => ?_
 refine Qa rfl <| zN <| zp rfl (fun w hw => c_spec_l04Own p (ok_ hw)) ?_
 intro u10 x10 A11 c11 h11 bl11 bh11 A12 c12 h12 bl12 bh12
 refine za zeh fun b13 => zw 0 rfl rfl rfl ?_
 refine zJ <| Js.block ?_
 refine zl [2, 3, 9] (fun F U l os u m => ∃ (out : List Int) (q : M.Pos) (A14_8 : Option Addr) (c14_8 : Nat) (g14_8 : List Nat) (A14_9_0 : Option Addr) (c14_9_0 : Nat) (A14_9_1 : Option Addr) (c14_9_1 : Nat), l = F [(8, .slice A14_8 out.length c14_8)] ∧ os = U [some (boxO b13 [.slice A14_9_0 q.pits.length c14_9_0, .slice A14_9_1 q.stores.length c14_9_1, .int .i64 q.player] 39), some (rowO 2 1 (.slice A14_8 out.length c14_8) out.length (ints_ out) g14_8)] ∧ (out ++ M.bookL b (n.toNat - out.length) q = M.bookL b n.toNat p) ∧ (M.okV b.rules q) ∧ (out.length ≤ n.toNat) ∧ (out.length ≤ c14_8) ∧ (c14_8 ≤ 9223372036854775807) ∧ ((Ty.ints 2 q.pits).ok u (.slice A14_9_0 q.pits.length c14_9_0)) ∧ (q.pits.length ≤ c14_9_0) ∧ (c14_9_0 ≤ 9223372036854775807) ∧ ((Ty.ints 2 q.stores).ok u (.slice A14_9_1 q.stores.length c14_9_1)) ∧ (q.stores.length ≤ c14_9_1) ∧ (c14_9_1 ≤ 9223372036854775807) ∧ m = n.toNat - out.length) ⟨[], p, _, _, _, _, _, _, _, rfl, rfl, by rfl, by exact Or.inl hok.2, by simp, zu, zu, h11, zu, zu, h12, zu, zu, rfl⟩ ?_
 rintro _ _ u14 _ ⟨out, q, A14_8, c14_8, g14_8, A14_9_0, c14_9_0, A14_9_1, c14_9_1, rfl, rfl, hL, hv, hk, f14_3, f14_4, f14_5, f14_6, f14_7, f14_8, f14_9, f14_10, rfl⟩ x14
 refine zn ?_
 have hvl := M.okV_len hv
 refine Js.seq <| zS <| Qm rfl <| Qz rfl <| Qm rfl <| Ql rfl rfl <| JL.nil ?_
 refine zi (fun h15 h15' => ?_) fun h15 h15' => ?_
 ·
  refine Js.skip <| Js.block <| zS <| zv rfl (fun w hw => c_spec_l20Choose b q (ok_ hw) (ok_ hw) (r1 := r1) (r2 := hv) (r3 := hok.1)) <| Qm rfl <| Qx rfl rfl <| Qx rfl rfl <| Qa rfl <| Qa rfl <| zJ <| zS <| Qm rfl <| Qt rfl <| JL.nil ?_
  refine zi (fun h16 h16' => ?_) fun h16 h16' => ?_
  ·
   have hh : M.hasE b.entries (M.viewP b.rules q).pits = false := by simpa using h16
   have hnil := M.look_none (M.okB_sort hok.1) hh
   have hX := M.bookL_stop hL (by show List.length (M.lookE b.entries (M.viewP b.rules q).pits) = 0; rw [hnil]; rfl)
   rw [hX] at hE
   refine zx ?_
   have hq0 : out = M.blR b p n := by first | (rw [hE]; done) | (rw [hC]; done)
   have hq1 : 0 = M.blC b p n := by first | (rw [hE]; done) | (rw [hC]; done)
   refine zS <| Qm rfl <| Qa rfl <| Qa rfl <| JL.nil ?_
   exact zro (x10.trans x14)
  have hh : M.hasE b.entries (M.viewP b.rules q).pits = true := by simpa using h16
  have hpos := M.has_len hok.1 hh
  have h0 : ¬ (M.lookE b.entries (M.viewP b.rules q).pits).length = 0 := by have := hpos; omega
  have hL2 := M.bookL_step hL (by omega) h0
  have hL3 : (out ++ [(M.cbest (M.lookE b.entries (M.viewP b.rules q).pits)).move]).length = out.length + 1 := by simp
  refine Js.skip <| zS <| Qf fh rfl <| Qm rfl <| zp rfl (fun w hw => c_spec_l07Make b.rules q ((M.cbest (M.lookE b.entries (M.viewP b.rules q).pits)).move) ⟨_, _, [.int .i64 b.rules.pits, .int .i64 b.rules.seeds, .bool b.rules.stores, .bool b.rules.skip, .bool b.rules.relay, .bool b.rules.feed, .bool b.rules.again, .int .i64 b.rules.capture, .int .i64 b.rules.slam], rfl, ⟨rfl, rfl, rfl, rfl, rfl, rfl, rfl, rfl, rfl, trivial⟩, Mem.boxR (i := 3) rfl 0 9 _ hw⟩ (ok_ hw)) ?_
  intro u17 x17 A18 c18 h18 bl18 bh18 A19 c19 h19 bl19 bh19
  refine Qm rfl <| Qx rfl rfl <| Qx rfl rfl <| za zeh fun b20 => zw 0 rfl rfl rfl ?_
  refine Qa rfl <| zN <| Qm rfl <| Qm rfl <| zbs fun b21 => ?_
  refine JL.e (e_append (i := 3) (n' := (out ++ [((M.cbest (M.lookE b.entries (M.viewP b.rules q).pits)).move)]).length) (vs' := ints_ (out ++ [((M.cbest (M.lookE b.entries (M.viewP b.rules q).pits)).move)])) el_27 rfl rfl rfl rfl (src_row (i := 0) und_27 rfl rfl) (by omega) (by omega) (by first | omega | (simp only [List.length_append, List.length_cons, List.length_nil] <;> omega)) (by simp [ints_])) ?_
  rintro v23 _ _ ⟨⟨g24, rfl⟩, rfl⟩ _
  refine JL.fact (row_form' (i := 3) rfl) (fun hf25 => ?_)
  obtain ⟨A25, c25, rfl, bl25, bh25⟩ := hf25
  refine znl ?_
  refine Qa rfl <| zG <| Qf fh rfl <| Q9 1 rfl rfl ?_
  refine zw 2 rfl rfl rfl ?_
  refine JL.nil <| Js.blockEnd ?_
  refine zd [2, 2, 2, 2] rfl fun u26 x26 => ?_
  exact zag ⟨out ++ [((M.cbest (M.lookE b.entries (M.viewP b.rules q).pits)).move)], (((M.make b.rules q ((M.cbest (M.lookE b.entries (M.viewP b.rules q).pits)).move)).1).next), _, _, _, _, _, _, _, rfl, rfl, by exact hL2, by exact M.okV_next _ _ _, by simp; omega, zu, zu, (Ty.mono _ h18 x26.vis), zu, zu, (Ty.mono _ h19 x26.vis), zu, zu, rfl⟩ ((x14.trans x17).trans x26)
 have hX := M.bookL_end hL (by have := h15'; omega)
 rw [hX] at hE
 refine zx ?_
 have hq0 : out = M.blR b p n := by first | (rw [hE]; done) | (rw [hC]; done)
 have hq1 : 0 = M.blC b p n := by first | (rw [hE]; done) | (rw [hC]; done)
 refine zS <| Qm rfl <| Qa rfl <| Qa rfl <| JL.nil ?_
 exact zro (x10.trans x14)

end Go.Proofs.YtcmfnlleikcpnaaGreat

namespace Go.Proofs.YtcmfnlleikcpnaaGreat
open Go.RowKit

set_option maxHeartbeats 1000000 in
theorem c_laws_szInt64S (a : List Int) {v_a : Value} (left : Int) {w : World} (h_a : (Ty.ints 2 a).ok w v_a) (r0 : -1 ≤ left := by exact om_) (r1 : left ≤ 1048576 := by exact om_) : RetV Tryz.prog 53 [v_a, .int .i64 left] w (.int .i64 (M.szL a.length left)) := by
 have q1 := M.szL_cases a.length left
 revert v_a; apply opn
 intro A1 c1 h1 bl1 bh1
 have h_a := h1
 refine enter @Tryz.func53 @Tryz.ntmps53 rfl rfl ?_
 refine zent ?_
 refine zS <| Qa rfl <| zN <| Qm rfl <| Qm rfl <| Qz rfl <| Qs rfl rfl <| Qa rfl <| zJ <| zS <| Qm rfl <| Ql rfl rfl <| JL.nil ?_
 refine zi (fun h2 h2' => ?_) fun h2 h2' => ?_
 ·
  refine zS <| Qa rfl <| JL.nil ?_
  refine zR (Up.refl _ _) ?_
  refine congrArg (fun n => Ending.returned (Value.int .i64 n)) ?_; omega
 refine Js.skip <| zS <| Qm rfl <| Qa rfl <| JL.nil ?_
 refine zR (Up.refl _ _) ?_
 refine congrArg (fun n => Ending.returned (Value.int .i64 n)) ?_; omega

set_option maxHeartbeats 1000000 in
theorem c_laws_szPosition (a : M.Pos) {v_a : Value} (left : Int) {w : World} (h_a : (Ty.agg (cPosition a)).ok w v_a) (r0 : -1 ≤ left := by exact om_) (r1 : left ≤ 1048576 := by exact om_) : RetV Tryz.prog 9 [v_a, .int .i64 left] w (.int .i64 (M.szP a left)) := by
 have q1 := M.szL_cases a.pits.length left
 have q2 := M.szL_cases a.stores.length (M.szL a.pits.length left)
 have q3 := M.szL_cases (a.pits.length + a.stores.length) left
 revert v_a; apply opn
 intro A1 c1 h1 bl1 bh1 A2 c2 h2 bl2 bh2
 refine enter @Tryz.func9 @Tryz.ntmps9 rfl rfl ?_
 refine zent ?_
 refine zS <| zb rfl fun b3 => Qa rfl <| zN <| Qf fh rfl <| Q0 0 rfl rfl rfl <| Qm rfl <| zv rfl (fun w hw => c_laws_szInt64S a.pits left (ok_ hw)) <| Qa rfl <| zJ <| zS <| Qm rfl <| Ql rfl rfl <| JL.nil ?_
 refine zi (fun h4 h4' => ?_) fun h4 h4' => ?_
 ·
  refine zS <| Qa rfl <| JL.nil ?_
  refine zR (Up.refl _ _) ?_
  refine congrArg (fun n => Ending.returned (Value.int .i64 n)) ?_; unfold M.szP; omega
 refine Js.skip <| zS <| Qf fh rfl <| Q0 0 rfl rfl rfl <| Qm rfl <| zv rfl (fun w hw => c_laws_szInt64S a.stores (M.szL a.pits.length left) (ok_ hw)) <| Qa rfl <| zJ <| zS <| Qm rfl <| Ql rfl rfl <| JL.nil ?_
 refine zi (fun h5 h5' => ?_) fun h5 h5' => ?_
 ·
  refine zS <| Qa rfl <| JL.nil ?_
  refine zR (Up.refl _ _) ?_
  refine congrArg (fun n => Ending.returned (Value.int .i64 n)) ?_; unfold M.szP; omega
 refine Js.skip <| zS <| Qm rfl <| Qa rfl <| JL.nil ?_
 refine zR (Up.refl _ _) ?_
 refine congrArg (fun n => Ending.returned (Value.int .i64 n)) ?_; unfold M.szP; omega

set_option maxHeartbeats 1000000 in
theorem c_laws_toInt64S (a : List Int) {v_a : Value} {w : World} (h_a : (Ty.ints 2 a).ok w v_a) (r0 : a.length ≤ 4194304 := by exact om_) : Ret Tryz.prog 62 [v_a] w (Ty.ints 2 a) := by
 revert v_a; apply opn
 intro A1 c1 h1 bl1 bh1
 have h_a := h1
 refine enter @Tryz.func62 @Tryz.ntmps62 rfl rfl ?_
 refine zent ?_
 refine zS <| Qa rfl <| zN <| Qm rfl <| Qz rfl <| zmk (a0 := (a.length : Int)) (m := a.length) (by omega) (by omega) fun b2 => Qa rfl <| zJ <| zS <| Qa rfl <| JL.nil <| Js.block ?_
 refine zl [0, 3] (fun F U l os u m => ∃ (k : Nat) (xs : List Int), l = F [(4, .int .i64 (k : Int))] ∧ os = U [some (rowO 2 1 (.slice (some ⟨b2, 0, none⟩) a.length a.length) a.length (ints_ xs) [])] ∧ (xs = M.cp a k) ∧ (k ≤ a.length) ∧ (xs.length = a.length) ∧ m = a.length - k) ⟨0, List.replicate a.length 0, rfl, rfl, by exact M.cp_zero a, zt, by simp, rfl⟩ ?_
 rintro _ _ u3 _ ⟨k, xs, rfl, rfl, hX, hk, hl, rfl⟩ x3
 refine zn ?_
 refine Js.seq <| zS <| Qm rfl <| Qm rfl <| Qz rfl <| Ql rfl rfl <| JL.nil ?_
 refine zi (fun h4 h4' => ?_) fun h4 h4' => ?_
 ·
  obtain ⟨b5, o5, he5, hc5⟩ := ints_elem (Ty.mono _ h1 x3.vis) (i := k) (by omega)
  refine Js.skip <| Js.seq <| Js.block <| Js.region <| Qm rfl <| Qm rfl <| Qm rfl <| Qm rfl <| Qq (p_indexAddr el_27 rfl rfl (by omega) (by omega) he5) <| QC hc5 rfl <| Qq (p_indexAddr el_27 rfl rfl (by omega) (by omega) rfl) ?_
  refine JL.s (e_storeRow (i := 0) (xs' := ints_ (xs.set k (M.nth a k))) ty_2.h rfl rfl rfl rfl rfl rfl (ints_lt (i := k) (by omega)) (ints_setL (i := k) (by omega))) ?_
  rintro _ _ _ ⟨rfl, rfl⟩ _
  refine znl ?_
  refine JL.nil <| Js.blockEnd <| Js.region <| Qm rfl <| Qp rfl rfl <| Qa rfl <| JL.nil ?_
  exact zag ⟨k + 1, xs.set k (M.nth a k), rfl, rfl, by rw [hX]; exact M.cp_step (by omega), zt, by rw [List.length_set]; exact hl, rfl⟩ x3
 have hE : xs = a := by rw [hX]; exact M.cp_all a (by have := h4'; omega)
 refine zx ?_
 have hq0 : xs = a := by exact hE
 refine zS <| Qm rfl <| Qa rfl <| JL.nil ?_
 exact zro x3

set_option maxHeartbeats 1000000 in
theorem c_laws_toPosition (a : M.Pos) {v_a : Value} {w : World} (h_a : (Ty.agg (cPosition a)).ok w v_a) (r0 : a.pits.length ≤ 4194304 := by exact om_) (r1 : a.stores.length ≤ 4194304 := by exact om_) : Ret Tryz.prog 12 [v_a] w (Ty.agg (cPosition a)) := by
 revert v_a; apply opn
 intro A1 c1 h1 bl1 bh1 A2 c2 h2 bl2 bh2
 refine enter @Tryz.func12 @Tryz.ntmps12 rfl rfl ?_
 refine zent ?_
 refine zS <| zb rfl fun b3 => za zeh fun b4 => zN <| za zeh fun b5 => zN <| Qf fh rfl <| Q0 2 rfl rfl rfl <| zcs rfl (fun w hw => c_laws_toInt64S a.pits (ok_ hw)) ?_
 intro A6 c6 bl6 bh6
 refine Qf fh rfl <| zw 1 rfl rfl rfl ?_
 refine zN <| Qf fh rfl <| Q0 3 rfl rfl rfl <| zcs rfl (fun w hw => c_laws_toInt64S a.stores (ok_ hw)) ?_
 intro A7 c7 bl7 bh7
 refine Qf fh rfl <| zw 2 rfl rfl rfl ?_
 refine zN <| Qf fh rfl <| Q0 4 rfl rfl rfl <| Qf fh rfl <| zw 2 rfl rfl rfl ?_
 refine zN <| Q9 2 rfl rfl ?_
 refine zw 3 rfl rfl rfl ?_
 refine JL.nil ?_
 exact zro (Up.refl _ _)

set_option maxHeartbeats 8000000 in
theorem c_laws_toRules (a : M.Rul) {v_a : Value} {w : World} (h_a : (Ty.agg (cRules a)).ok w v_a) : Ret Tryz.prog 60 [v_a] w (Ty.agg (cRules a)) := by
 revert v_a; apply opn
 refine enter @Tryz.func60 @Tryz.ntmps60 rfl rfl ?_
 refine zent ?_
 refine zS <| zb rfl fun b1 => za zeh fun b2 => zN <| za zeh fun b3 => zN <| Qf fh rfl <| Q0 2 rfl rfl rfl <| Qf fh rfl <| zw 0 rfl rfl rfl ?_
 refine zN <| Qf fh rfl <| Q0 2 rfl rfl rfl <| Qf fh rfl <| zw 0 rfl rfl rfl ?_
 refine zN <| Qf fh rfl <| Q0 2 rfl rfl rfl <| Qf fh rfl <| zw 0 rfl rfl rfl ?_
 refine zN <| Qf fh rfl <| Q0 2 rfl rfl rfl <| Qf fh rfl <| zw 0 rfl rfl rfl ?_
 refine zN <| Qf fh rfl <| Q0 2 rfl rfl rfl <| Qf fh rfl <| zw 0 rfl rfl rfl ?_
 refine zN <| Qf fh rfl <| Q0 2 rfl rfl rfl <| Qf fh rfl <| zw 0 rfl rfl rfl ?_
 refine zN <| Qf fh rfl <| Q0 2 rfl rfl rfl <| Qf fh rfl <| zw 0 rfl rfl rfl ?_
 refine zN <| Qf fh rfl <| Q0 2 rfl rfl rfl <| Qf fh rfl <| zw 0 rfl rfl rfl ?_
 refine zN <| Qf fh rfl <| Q0 2 rfl rfl rfl <| Qf fh rfl <| zw 0 rfl rfl rfl ?_
 refine zN <| Q9 0 rfl rfl ?_
 refine zw 1 rfl rfl rfl ?_
 refine JL.nil ?_
 exact zro (Up.refl _ _)

set_option maxHeartbeats 1000000 in
theorem c_laws_eqInt64S (a : List Int) {v_a : Value} (b : List Int) {v_b : Value} {w : World} (h_a : (Ty.ints 2 a).ok w v_a) (h_b : (Ty.ints 2 b).ok w v_b) (r0 : a.length ≤ 4194304 := by exact om_) (r1 : b.length ≤ 4194304 := by exact om_) : RetV Tryz.prog 14 [v_a, v_b] w (.bool (decide (a = b))) := by
 revert v_a; apply opn
 intro A1 c1 h1 bl1 bh1
 have h_a := h1
 revert v_b; apply opn
 intro A2 c2 h2 bl2 bh2
 have h_b := h2
 refine enter @Tryz.func14 @Tryz.ntmps14 rfl rfl ?_
 refine zent ?_
 refine zS <| Qa rfl <| zJ <| zS <| Qm rfl <| Qz rfl <| Qm rfl <| Qz rfl <| Qd rfl rfl <| JL.nil ?_
 refine zi (fun h3 h3' => ?_) fun h3 h3' => ?_
 ·
  have e1 : decide (a = b) = false := by simp; rintro rfl; simp at h3
  refine zS <| Qa rfl <| JL.nil ?_
  refine zR (Up.refl _ _) ?_
  simp [outV, e1]
 have hlen : a.length = b.length := by have := h3'; omega
 refine Js.skip <| Js.seq <| zS <| Qa rfl <| JL.nil <| Js.block ?_
 refine zl [0, 1] (fun F U l os u m => ∃ (k : Nat), l = F [(5, .int .i64 (k : Int))] ∧ os = U [] ∧ (k ≤ a.length) ∧ (M.Upto a b k) ∧ m = a.length - k) ⟨0, rfl, rfl, zt, by exact M.Upto.zero _ _, rfl⟩ ?_
 rintro _ _ u4 _ ⟨k, rfl, rfl, hk, hU, rfl⟩ x4
 refine zn ?_
 refine Js.seq <| zS <| Qm rfl <| Qm rfl <| Qz rfl <| Ql rfl rfl <| JL.nil ?_
 refine zi (fun h5 h5' => ?_) fun h5 h5' => ?_
 ·
  refine Js.skip <| Js.seq <| Js.block <| Js.seq ?_
  refine zdr [] ?_
  refine JH.p 0 rfl (p_move rfl) ?_
  refine JH.p 1 rfl (p_move rfl) ?_
  obtain ⟨b6, o6, he6, hc6⟩ := ints_elem (Ty.mono _ h1 x4.vis) (i := k) (by omega)
  refine JH.p 2 rfl (p_indexAddr el_27 rfl rfl (by omega) (by omega) he6) ?_
  refine JH.w 3 rfl (fun os' u' hv => q_load1 ty_2.h rfl (Mem.pub (hc6.vis hv))) ?_
  refine JH.p 4 rfl (p_move rfl) ?_
  refine JH.p 5 rfl (p_move rfl) ?_
  obtain ⟨b7, o7, he7, hc7⟩ := ints_elem (Ty.mono _ h2 x4.vis) (i := k) (by omega)
  refine JH.p 6 rfl (p_indexAddr el_27 rfl rfl (by omega) (by omega) he7) ?_
  refine JH.w 7 rfl (fun os' u' hv => q_load1 ty_2.h rfl (Mem.pub (hc7.vis hv))) ?_
  refine JH.p 8 rfl (p_neq rfl rfl) ?_
  refine yd ?_
  refine zi (fun h8 h8' => ?_) fun h8 h8' => ?_
  ·
   have e1 : decide (a = b) = false := by simpa using M.ne_of_nth (a := a) (b := b) (k := k) (by simpa using h8)
   refine zS <| Qa rfl <| JL.nil ?_
   refine zR x4 ?_
   simp [outV, e1]
  have hab : M.nth a k = M.nth b k := by simpa using h8
  refine Js.skip <| Js.blockEnd <| Js.region <| Qm rfl <| Qp rfl rfl <| Qa rfl <| JL.nil ?_
  exact zag ⟨k + 1, rfl, rfl, zt, by exact hU.step (by omega) (by omega) hab, rfl⟩ x4
 have e1 : a = b := hU.done (by omega) (by omega)
 refine zx ?_
 refine zS <| Qa rfl <| JL.nil ?_
 refine zR x4 ?_
 simp [outV, e1]

set_option maxHeartbeats 1000000 in
theorem c_laws_eqPosition (a : M.Pos) {v_a : Value} (b : M.Pos) {v_b : Value} {w : World} (h_a : (Ty.agg (cPosition a)).ok w v_a) (h_b : (Ty.agg (cPosition b)).ok w v_b) (r0 : a.pits.length ≤ 4194304 := by exact om_) (r1 : a.stores.length ≤ 4194304 := by exact om_) (r2 : b.pits.length ≤ 4194304 := by exact om_) (r3 : b.stores.length ≤ 4194304 := by exact om_) : RetV Tryz.prog 16 [v_a, v_b] w (.bool (decide (a = b))) := by
 revert v_a; apply opn
 intro A1 c1 h1 bl1 bh1 A2 c2 h2 bl2 bh2
 revert v_b; apply opn
 intro A3 c3 h3 bl3 bh3 A4 c4 h4 bl4 bh4
 refine enter @Tryz.func16 @Tryz.ntmps16 rfl rfl ?_
 refine zent ?_
 refine zS <| zb rfl fun b5 => zb rfl fun b6 => Qa rfl <| zJ <| zS <| Qf fh rfl <| Q0 1 rfl rfl rfl <| Qf fh rfl <| Q0 0 rfl rfl rfl <| zv rfl (fun w hw => c_laws_eqInt64S a.pits b.pits (ok_ hw) (ok_ hw)) <| Qt rfl <| JL.nil ?_
 refine zi (fun h7 h7' => ?_) fun h7 h7' => ?_
 ·
  have hne : a ≠ b := by rintro rfl; simp at h7
  refine zS <| Qa rfl <| JL.nil ?_
  refine zR (Up.refl _ _) ?_
  first | (rw [decide_eq_false hne]; rfl) | (rw [decide_eq_true (M.pos_ext q0 q1 q2)]; rfl)
 have q0 : a.pits = b.pits := by simpa using h7
 refine Js.skip <| Js.seq <| zS <| Qf fh rfl <| Q0 1 rfl rfl rfl <| Qf fh rfl <| Q0 0 rfl rfl rfl <| zv rfl (fun w hw => c_laws_eqInt64S a.stores b.stores (ok_ hw) (ok_ hw)) <| Qt rfl <| JL.nil ?_
 refine zi (fun h8 h8' => ?_) fun h8 h8' => ?_
 ·
  have hne : a ≠ b := by rintro rfl; simp at h8
  refine zS <| Qa rfl <| JL.nil ?_
  refine zR (Up.refl _ _) ?_
  first | (rw [decide_eq_false hne]; rfl) | (rw [decide_eq_true (M.pos_ext q0 q1 q2)]; rfl)
 have q1 : a.stores = b.stores := by simpa using h8
 refine Js.skip <| Js.seq <| zS <| Qf fh rfl <| Q0 1 rfl rfl rfl <| Qf fh rfl <| Q0 0 rfl rfl rfl <| Qd rfl rfl <| JL.nil ?_
 refine zi (fun h9 h9' => ?_) fun h9 h9' => ?_
 ·
  have hne : a ≠ b := by rintro rfl; simp at h9
  refine zS <| Qa rfl <| JL.nil ?_
  refine zR (Up.refl _ _) ?_
  first | (rw [decide_eq_false hne]; rfl) | (rw [decide_eq_true (M.pos_ext q0 q1 q2)]; rfl)
 have q2 : a.player = b.player := by simpa using h9
 refine Js.skip <| zS <| Qa rfl <| JL.nil ?_
 refine zR (Up.refl _ _) ?_
 first | (rw [decide_eq_false hne]; rfl) | (rw [decide_eq_true (M.pos_ext q0 q1 q2)]; rfl)

set_option maxHeartbeats 1000000 in
theorem c_laws_eqRules (a : M.Rul) {v_a : Value} (b : M.Rul) {v_b : Value} {w : World} (h_a : (Ty.agg (cRules a)).ok w v_a) (h_b : (Ty.agg (cRules b)).ok w v_b) : RetV Tryz.prog 68 [v_a, v_b] w (.bool (decide (a = b))) := by
 revert v_a; apply opn
 revert v_b; apply opn
 refine enter @Tryz.func68 @Tryz.ntmps68 rfl rfl ?_
 refine zent ?_
 refine zS <| zb rfl fun b1 => zb rfl fun b2 => Qa rfl <| zJ <| zS <| Qf fh rfl <| Q0 1 rfl rfl rfl <| Qf fh rfl <| Q0 0 rfl rfl rfl <| Qd rfl rfl <| JL.nil ?_
 refine zi (fun h3 h3' => ?_) fun h3 h3' => ?_
 ·
  have hne : a ≠ b := by rintro rfl; simp at h3
  refine zS <| Qa rfl <| JL.nil ?_
  refine zR (Up.refl _ _) ?_
  first | (rw [decide_eq_false hne]; rfl) | (rw [decide_eq_true (M.rul_ext q0 q1 q2 q3 q4 q5 q6 q7 q8)]; rfl)
 have q0 : a.pits = b.pits := by simpa using h3
 refine Js.skip <| Js.seq <| zS <| Qf fh rfl <| Q0 1 rfl rfl rfl <| Qf fh rfl <| Q0 0 rfl rfl rfl <| Qd rfl rfl <| JL.nil ?_
 refine zi (fun h4 h4' => ?_) fun h4 h4' => ?_
 ·
  have hne : a ≠ b := by rintro rfl; simp at h4
  refine zS <| Qa rfl <| JL.nil ?_
  refine zR (Up.refl _ _) ?_
  first | (rw [decide_eq_false hne]; rfl) | (rw [decide_eq_true (M.rul_ext q0 q1 q2 q3 q4 q5 q6 q7 q8)]; rfl)
 have q1 : a.seeds = b.seeds := by simpa using h4
 refine Js.skip <| Js.seq <| zS <| Qf fh rfl <| Q0 1 rfl rfl rfl <| Qf fh rfl <| Q0 0 rfl rfl rfl <| Qq (p_neqB und_4 rfl rfl) <| JL.nil ?_
 refine zi (fun h5 h5' => ?_) fun h5 h5' => ?_
 ·
  have hne : a ≠ b := by rintro rfl; simp at h5
  refine zS <| Qa rfl <| JL.nil ?_
  refine zR (Up.refl _ _) ?_
  first | (rw [decide_eq_false hne]; rfl) | (rw [decide_eq_true (M.rul_ext q0 q1 q2 q3 q4 q5 q6 q7 q8)]; rfl)
 have q2 : a.stores = b.stores := by simpa using h5
 refine Js.skip <| Js.seq <| zS <| Qf fh rfl <| Q0 1 rfl rfl rfl <| Qf fh rfl <| Q0 0 rfl rfl rfl <| Qq (p_neqB und_4 rfl rfl) <| JL.nil ?_
 refine zi (fun h6 h6' => ?_) fun h6 h6' => ?_
 ·
  have hne : a ≠ b := by rintro rfl; simp at h6
  refine zS <| Qa rfl <| JL.nil ?_
  refine zR (Up.refl _ _) ?_
  first | (rw [decide_eq_false hne]; rfl) | (rw [decide_eq_true (M.rul_ext q0 q1 q2 q3 q4 q5 q6 q7 q8)]; rfl)
 have q3 : a.skip = b.skip := by simpa using h6
 refine Js.skip <| Js.seq <| zS <| Qf fh rfl <| Q0 1 rfl rfl rfl <| Qf fh rfl <| Q0 0 rfl rfl rfl <| Qq (p_neqB und_4 rfl rfl) <| JL.nil ?_
 refine zi (fun h7 h7' => ?_) fun h7 h7' => ?_
 ·
  have hne : a ≠ b := by rintro rfl; simp at h7
  refine zS <| Qa rfl <| JL.nil ?_
  refine zR (Up.refl _ _) ?_
  first | (rw [decide_eq_false hne]; rfl) | (rw [decide_eq_true (M.rul_ext q0 q1 q2 q3 q4 q5 q6 q7 q8)]; rfl)
 have q4 : a.relay = b.relay := by simpa using h7
 refine Js.skip <| Js.seq <| zS <| Qf fh rfl <| Q0 1 rfl rfl rfl <| Qf fh rfl <| Q0 0 rfl rfl rfl <| Qq (p_neqB und_4 rfl rfl) <| JL.nil ?_
 refine zi (fun h8 h8' => ?_) fun h8 h8' => ?_
 ·
  have hne : a ≠ b := by rintro rfl; simp at h8
  refine zS <| Qa rfl <| JL.nil ?_
  refine zR (Up.refl _ _) ?_
  first | (rw [decide_eq_false hne]; rfl) | (rw [decide_eq_true (M.rul_ext q0 q1 q2 q3 q4 q5 q6 q7 q8)]; rfl)
 have q5 : a.feed = b.feed := by simpa using h8
 refine Js.skip <| Js.seq <| zS <| Qf fh rfl <| Q0 1 rfl rfl rfl <| Qf fh rfl <| Q0 0 rfl rfl rfl <| Qq (p_neqB und_4 rfl rfl) <| JL.nil ?_
 refine zi (fun h9 h9' => ?_) fun h9 h9' => ?_
 ·
  have hne : a ≠ b := by rintro rfl; simp at h9
  refine zS <| Qa rfl <| JL.nil ?_
  refine zR (Up.refl _ _) ?_
  first | (rw [decide_eq_false hne]; rfl) | (rw [decide_eq_true (M.rul_ext q0 q1 q2 q3 q4 q5 q6 q7 q8)]; rfl)
 have q6 : a.again = b.again := by simpa using h9
 refine Js.skip <| Js.seq <| zS <| Qf fh rfl <| Q0 1 rfl rfl rfl <| Qf fh rfl <| Q0 0 rfl rfl rfl <| Qd rfl rfl <| JL.nil ?_
 refine zi (fun h10 h10' => ?_) fun h10 h10' => ?_
 ·
  have hne : a ≠ b := by rintro rfl; simp at h10
  refine zS <| Qa rfl <| JL.nil ?_
  refine zR (Up.refl _ _) ?_
  first | (rw [decide_eq_false hne]; rfl) | (rw [decide_eq_true (M.rul_ext q0 q1 q2 q3 q4 q5 q6 q7 q8)]; rfl)
 have q7 : a.capture = b.capture := by simpa using h10
 refine Js.skip <| Js.seq <| zS <| Qf fh rfl <| Q0 1 rfl rfl rfl <| Qf fh rfl <| Q0 0 rfl rfl rfl <| Qd rfl rfl <| JL.nil ?_
 refine zi (fun h11 h11' => ?_) fun h11 h11' => ?_
 ·
  have hne : a ≠ b := by rintro rfl; simp at h11
  refine zS <| Qa rfl <| JL.nil ?_
  refine zR (Up.refl _ _) ?_
  first | (rw [decide_eq_false hne]; rfl) | (rw [decide_eq_true (M.rul_ext q0 q1 q2 q3 q4 q5 q6 q7 q8)]; rfl)
 have q8 : a.slam = b.slam := by simpa using h11
 refine Js.skip <| zS <| Qa rfl <| JL.nil ?_
 refine zR (Up.refl _ _) ?_
 first | (rw [decide_eq_false hne]; rfl) | (rw [decide_eq_true (M.rul_ext q0 q1 q2 q3 q4 q5 q6 q7 q8)]; rfl)

end Go.Proofs.YtcmfnlleikcpnaaGreat

namespace Go.Proofs.YtcmfnlleikcpnaaGreat
open Go.RowKit

set_option maxHeartbeats 1000000 in
theorem c_laws_markInt64S (a : List Int) {Aa_0 : Option Addr} {ca_0 : Nat} {ga_0 : List Nat} (k : Int) {w : World} (hb : Bw w [rowO 2 1 (.slice Aa_0 a.length ca_0) a.length (ints_ a) ga_0]) (bd0 : a.length ≤ ca_0 := by exact om_) (bd1 : ca_0 ≤ 9223372036854775807 := by exact om_) (r0 : a.length ≤ 4194304 := by exact om_) (r1 : 0 ≤ k := by exact om_) (r2 : k ≤ 100000000 := by exact om_) : RetB Tryz.prog 19 [.slice Aa_0 a.length ca_0, .int .i64 k] w [rowO 2 1 (.slice Aa_0 a.length ca_0) a.length (ints_ a) ga_0] (fun v bs' => v = .int .i64 (k + (a.length : Int)) ∧ bs' = [rowO 2 1 (.slice Aa_0 a.length ca_0) a.length (ints_ (M.up k a.length)) ga_0]) := by
 refine enterB hb @Tryz.func19 @Tryz.ntmps19 rfl rfl ?_
 refine zent ?_
 refine Js.trashE ?_
 refine zn ?_
 refine zS <| Qa rfl <| zJ <| zS <| Qa rfl <| JL.nil <| Js.block ?_
 refine zl [0] (fun F U l os u m => ∃ (i : Nat) (kk : Int) (xs : List Int) (G1_1 : List Nat), l = F [(1, .int .i64 kk), (5, .int .i64 (i : Int))] ∧ os = U [some (rowO 2 1 (.slice Aa_0 a.length ca_0) a.length (ints_ xs) ga_0), some (anyO G1_1)] ∧ (xs = M.mkd a k i) ∧ (i ≤ a.length) ∧ (xs.length = a.length) ∧ (kk = k + (i : Int)) ∧ m = a.length - i) ⟨0, k, a, _, rfl, rfl, by exact M.mkd_zero a k, zt, by rfl, by simp, rfl⟩ ?_
 rintro _ _ u1 _ ⟨i, kk, xs, G1_1, rfl, rfl, hX, hi, hl, hkk, rfl⟩ x1
 refine zn ?_
 refine Js.seq <| zS <| Qm rfl <| Qm rfl <| Qz rfl <| Ql rfl rfl <| JL.nil ?_
 refine zi (fun h2 h2' => ?_) fun h2 h2' => ?_
 ·
  refine Js.skip <| Js.seq <| Js.block <| zS <| Qm rfl <| Qm rfl <| Qm rfl ?_
  refine JL.fact (row_some (i := 0) rfl (by omega)) (fun hf4 => ?_)
  obtain ⟨b4, rfl⟩ := hf4
  refine Qq (p_indexAddr el_27 rfl rfl (by omega) (by omega) rfl) ?_
  refine JL.s (e_storeRow (i := 0) (xs' := ints_ (xs.set i kk)) ty_2.h rfl rfl rfl rfl rfl rfl (ints_lt (i := i) (by omega)) (ints_setL (i := i) (by omega))) ?_
  rintro _ _ _ ⟨rfl, rfl⟩ _
  refine znl ?_
  refine zG <| Qm rfl <| Qp rfl rfl <| Qa rfl <| JL.nil <| Js.blockEnd <| Js.region <| Qm rfl <| Qp rfl rfl <| Qa rfl <| JL.nil ?_
  exact zag ⟨i + 1, kk + 1, xs.set i kk, _, rfl, rfl, by rw [hX, hkk]; exact M.mkd_step (by omega), zt, by rw [List.length_set]; exact hl, zt, rfl⟩ x1
 have hi2 : i = a.length := by have := h2'; omega
 have hM : M.up k a.length = xs := by rw [hX]; exact (M.mkd_end hi2).symm
 refine zx ?_
 refine zS <| Qm rfl <| Qa rfl <| JL.nil ?_
 refine zrb [0] hb x1 ?_
 have hE : (.int .i64 kk : Value) = .int .i64 (k + (a.length : Int)) := by first | exact hM | (refine congrArg (Value.int .i64) ?_; omega)
 have hE1 : M.up k a.length = xs := by first | exact hM | (refine congrArg (Value.int .i64) ?_; omega)
 refine ⟨hE, ?_⟩
 · rw [hE1]

set_option maxHeartbeats 1000000 in
theorem c_laws_heldInt64S (a : List Int) {v_a : Value} (k : Int) {w : World} (h_a : (Ty.ints 2 a).ok w v_a) (r0 : a.length ≤ 4194304 := by exact om_) (r1 : 0 ≤ k := by exact om_) (r2 : k ≤ 100000000 := by exact om_) : RetV Tryz.prog 20 [v_a, .int .i64 k] w (.int .i64 (M.held a k)) := by
 revert v_a; apply opn
 intro A1 c1 h1 bl1 bh1
 have h_a := h1
 refine enter @Tryz.func20 @Tryz.ntmps20 rfl rfl ?_
 refine zent ?_
 refine zS <| Qa rfl <| zJ <| zS <| Qa rfl <| JL.nil <| Js.block ?_
 refine zl [0] (fun F U l os u m => ∃ (i : Nat) (kk : Int), l = F [(1, .int .i64 kk), (5, .int .i64 (i : Int))] ∧ os = U [] ∧ (a.take i = M.up k i) ∧ (i ≤ a.length) ∧ (kk = k + (i : Int)) ∧ m = a.length - i) ⟨0, k, rfl, rfl, by rfl, zt, by simp, rfl⟩ ?_
 rintro _ _ u2 _ ⟨i, kk, rfl, rfl, hU, hi, hkk, rfl⟩ x2
 refine zn ?_
 refine Js.seq <| zS <| Qm rfl <| Qm rfl <| Qz rfl <| Ql rfl rfl <| JL.nil ?_
 refine zi (fun h3 h3' => ?_) fun h3 h3' => ?_
 ·
  obtain ⟨b4, o4, he4, hc4⟩ := ints_elem (Ty.mono _ h1 x2.vis) (i := i) (by omega)
  refine Js.skip <| Js.seq <| Js.block <| Js.seq <| zS <| Qm rfl <| Qm rfl <| Qq (p_indexAddr el_27 rfl rfl (by omega) (by omega) he4) <| QC hc4 rfl <| Qm rfl <| Qd rfl rfl <| JL.nil ?_
  refine zi (fun h5 h5' => ?_) fun h5 h5' => ?_
  ·
   have hE := M.held_no (a := a) (k := k) (i := i) (by omega) (by rw [← hkk]; simpa using h5)
   refine zS <| Qa rfl <| JL.nil ?_
   refine zR x2 ?_
   first | (rw [hE]; rfl) | (rw [hE, hkk]; rfl)
  have he : M.nth a i = k + (i : Int) := by rw [← hkk]; simpa using h5
  refine Js.skip <| Js.region <| Qm rfl <| Qp rfl rfl <| Qa rfl <| JL.nil <| Js.blockEnd <| Js.region <| Qm rfl <| Qp rfl rfl <| Qa rfl <| JL.nil ?_
  exact zag ⟨i + 1, kk + 1, rfl, rfl, by exact M.held_step (by omega) hU he, zt, zt, rfl⟩ x2
 have hE := M.held_yes (a := a) (k := k) (i := i) (by have := h3'; omega) hU
 refine zx ?_
 refine zS <| Qm rfl <| Qa rfl <| JL.nil ?_
 refine zR x2 ?_
 first | (rw [hE]; rfl) | (rw [hE, hkk]; rfl)

set_option maxHeartbeats 1000000 in
theorem c_laws_markPosition (a_pits a_stores : List Int) (a_player : Int) {Aa_0 : Option Addr} {ca_0 : Nat} {ga_0 : List Nat} {Aa_1 : Option Addr} {ca_1 : Nat} {ga_1 : List Nat} (k : Int) {w : World} (hb : Bw w [rowO 2 1 (.slice Aa_0 a_pits.length ca_0) a_pits.length (ints_ a_pits) ga_0, rowO 2 1 (.slice Aa_1 a_stores.length ca_1) a_stores.length (ints_ a_stores) ga_1]) (bd0 : a_pits.length ≤ ca_0 := by exact om_) (bd1 : ca_0 ≤ 9223372036854775807 := by exact om_) (bd2 : a_stores.length ≤ ca_1 := by exact om_) (bd3 : ca_1 ≤ 9223372036854775807 := by exact om_) (r0 : a_pits.length ≤ 4194304 := by exact om_) (r1 : a_stores.length ≤ 4194304 := by exact om_) (r2 : 0 ≤ k := by exact om_) (r3 : k ≤ 50000000 := by exact om_) : RetB Tryz.prog 18 [.agg #[.slice Aa_0 a_pits.length ca_0, .slice Aa_1 a_stores.length ca_1, .int .i64 a_player], .int .i64 k] w [rowO 2 1 (.slice Aa_0 a_pits.length ca_0) a_pits.length (ints_ a_pits) ga_0, rowO 2 1 (.slice Aa_1 a_stores.length ca_1) a_stores.length (ints_ a_stores) ga_1] (fun v bs' => v = .int .i64 (k + (a_pits.length : Int) + (a_stores.length : Int)) ∧ bs' = [rowO 2 1 (.slice Aa_0 a_pits.length ca_0) a_pits.length (ints_ (M.up k a_pits.length)) ga_0, rowO 2 1 (.slice Aa_1 a_stores.length ca_1) a_stores.length (ints_ (M.up (k + (a_pits.length : Int)) a_stores.length)) ga_1]) := by
 refine enterB hb @Tryz.func18 @Tryz.ntmps18 rfl rfl ?_
 refine zent ?_
 refine Js.trashE ?_
 refine zn ?_
 refine zS <| zb rfl fun b1 => Qa rfl <| zN <| Qf fh rfl <| Q0 0 rfl rfl rfl <| Qm rfl ?_
 refine zhl [1] ?_
 refine zBB 1 sp_ rfl (fun w hb _ hw => c_laws_markInt64S a_pits k hb) ?_
 rintro _ _ G2 ⟨rfl, rfl⟩
 refine znl ?_
 refine Qa rfl <| zN <| Qf fh rfl <| Q0 2 rfl rfl rfl <| Qm rfl ?_
 refine zhl [3] ?_
 refine zBB 1 sp_ rfl (fun w hb _ hw => c_laws_markInt64S a_stores (k + (a_pits.length : Int)) hb) ?_
 rintro _ _ G3 ⟨rfl, rfl⟩
 refine znl ?_
 refine Qa rfl <| zN <| Qm rfl <| Qa rfl <| JL.nil ?_
 refine zrb [2, 0] hb (Up.refl _ _) ?_
 have hE : (.int .i64 ((k + (a_pits.length : Int)) + (a_stores.length : Int)) : Value) = .int .i64 (k + (a_pits.length : Int) + (a_stores.length : Int)) := by rfl
 exact ⟨hE, rfl⟩

end Go.Proofs.YtcmfnlleikcpnaaGreat


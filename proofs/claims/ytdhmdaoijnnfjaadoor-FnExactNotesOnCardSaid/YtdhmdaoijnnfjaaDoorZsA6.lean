/- Walks: K3. -/
import Derived.Test.YtdhmdaoijnnfjaaDoorZsA2
import Derived.Test.YtdhmdaoijnnfjaaDoorZsA5
import Derived.Test.YtdhmdaoijnnfjaaDoorZsA3
import Derived.Test.YtdhmdaoijnnfjaaDoorZsA4
set_option linter.unusedSimpArgs false
set_option linter.unusedVariables false
set_option maxRecDepth 100000
attribute [local irreducible] Go.Proofs.YtdhmdaoijnnfjaaDoor.gv
namespace Go.Proofs.YtdhmdaoijnnfjaaDoor
open Go.RowKit

set_option maxHeartbeats 1000000 in
theorem c_spec_l06Raw (r : M.Rul) {v_r : Value} (s : M.Sw) {v_s : Value} (player : Int) {w : World} (h_r : (Ty.ref (cRules r)).ok w v_r) (h_s : (Ty.ref (cSown s)).ok w v_s) (r0 : 2 ≤ r.pits := by exact om_) (r1 : r.pits ≤ 8 := by exact om_) (r2 : player = 0 ∨ player = 1 := by exact om_) (r3 : M.Good r s.pits s.stores 0 := by exact om_) (r4 : -1 ≤ s.last := by exact om_) (r5 : s.last < 2 * r.pits := by exact om_) : Ret Tryd.prog 97 [v_r, v_s, .int .i64 player] w (Ty.ints 2 (M.taken r s player)) := by
 have l1 := r3.lp
 have l2 := r3.ls
 have hv9 := r3.pit s.last
 revert v_r; apply opn
 intro b1 o1 hr1
 revert v_s; apply opn
 intro b4 o4 A2 c2 h2 bl2 bh2 A3 c3 h3 bl3 bh3 hr4
 refine enter @Tryd.func97 @Tryd.ntmps97 rfl rfl ?_
 refine zent ?_
 obtain ⟨b5, o5, rfl⟩ := ints_some h2 (by omega)
 refine zS <| Qa rfl <| zN <| zbs fun b6 => ?_
 refine Qa rfl <| zN <| Qm rfl <| Qc rfl <| Qf fh rfl <| QC (hr4 2 _ rfl) rfl <| Qa rfl <| zJ <| zS <| Qm rfl <| Ql rfl rfl <| JL.nil ?_
 refine zi (fun h8 h8' => ?_) fun h8 h8' => ?_
 ·
  have hR : M.taken r s player = [] := by unfold M.taken; rw [if_pos (by simpa using h8)]
  have hq0 : [] = M.taken r s player := by rw [hR]
  refine zS <| Qm rfl <| Qa rfl <| JL.nil ?_
  exact zro (Up.refl _ _)
 have hl0 : ¬ s.last < 0 := by simpa using h8
 refine Js.skip <| zS <| Qm rfl <| Qm rfl <| zv rfl (fun w hw => c_spec_l02Owner r s.last (ok_ hw)) <| Qm rfl <| Qe rfl rfl <| Qa rfl <| zJ <| zS <| Qm rfl <| Qc rfl <| Qf fh rfl <| QC (hr1 7 _ rfl) rfl ?_
 refine JL.nil <| Js.block <| zS <| Qe rfl rfl <| Qa rfl <| JL.nil ?_
 refine zi (fun h9 h9' => ?_) fun h9 h9' => ?_
 ·
  have hcap : r.capture = 1 := by simpa using h9
  refine Js.block ?_
  refine zl [0, 1, 2] (fun F U l os u m => ∃ (k : Int) (out : List Int) (A10_7 : Option Addr) (c10_7 : Nat) (g10_7 : List Nat), l = F [(7, .slice A10_7 out.length c10_7), (8, .int .i64 k)] ∧ os = U [some (rowO 2 1 (.slice A10_7 out.length c10_7) out.length (ints_ out) g10_7)] ∧ (out ++ M.ttI r player s.pits k = M.ttI r player s.pits s.last) ∧ (-1 ≤ k) ∧ (k < 2 * r.pits) ∧ ((out.length : Int) + k = s.last) ∧ (out.length ≤ c10_7) ∧ (c10_7 ≤ 9223372036854775807) ∧ m = (k + 1).toNat) ⟨s.last, [], _, _, _, rfl, rfl, by rfl, zt, zt, by simp, zu, zu, rfl⟩ ?_
  rintro _ _ u10 _ ⟨k, out, A10_7, c10_7, g10_7, rfl, rfl, hS, k0, k1, hl, f10_4, f10_5, rfl⟩ x10
  refine zn ?_
  refine Js.seq <| zS <| Qm rfl <| Qh rfl rfl <| Qm rfl <| zg (Gd.t1 rfl rfl rfl) (fun hc => p_move rfl) <| zg (Gd.t1 rfl rfl rfl) (fun hc => p_move rfl) <| zgv (Gd.t1 rfl rfl rfl) (fun hc => (opds_2 (gh hc rfl) (gh hc rfl))) (fun hc => (fun w hw => c_spec_l02Owner r k (ok_ hw) (r0 := (by have hc9 := hc; (try simp only [decide_eq_true_eq] at hc9); omega)) (r1 := (by have hc9 := hc; (try simp only [decide_eq_true_eq] at hc9); omega)) (r2 := (by have hc9 := hc; (try simp only [decide_eq_true_eq] at hc9); omega)) (r3 := (by have hc9 := hc; (try simp only [decide_eq_true_eq] at hc9); omega)))) ?_
  refine zg (Gd.t1 rfl rfl rfl) (fun hc => p_move rfl) <| zg (Gd.t1 rfl rfl rfl) (fun hc => p_neq (gh hc rfl) (gh hc rfl)) <| Qq (p_pickAnd rfl rfl rfl) <| Qm rfl <| zg (Gd.t1 rfl rfl rfl) (fun hc => p_move rfl) <| zg (Gd.t1 rfl rfl rfl) (fun hc => p_nilCheck (gh hc rfl)) <| zg (Gd.t1 rfl rfl rfl) (fun hc => p_fieldAddr fld_137_0.h (gh hc rfl)) <| zgq (Gd.t1 rfl rfl rfl) (fun hc => q_load1 ty_24.h (gh hc rfl) (Mem.pub ((hr4.vis x10.vis) 0 _ rfl))) <| zg (Gd.t1 rfl rfl rfl) (fun hc => p_move rfl) <| zg (Gd.t1 rfl rfl rfl) (fun hc => p_indexAddr el_24 (gh hc rfl) (gh hc rfl) (by have hc9 := hc; (try simp only [Bool.and_eq_true, decide_eq_true_eq, Bool.not_eq_true', decide_eq_false_iff_not] at hc9); omega) (by have hc9 := hc; (try simp only [Bool.and_eq_true, decide_eq_true_eq, Bool.not_eq_true', decide_eq_false_iff_not] at hc9); omega) rfl) ?_
  refine zgq (Gd.t1 rfl rfl rfl) (fun hc => q_load1 ty_2.h (gh hc rfl) (Mem.pub (ints_cellI (i := k) (Ty.mono _ h2 x10.vis) (by have hc9 := hc; (try simp only [Bool.and_eq_true, decide_eq_true_eq, Bool.not_eq_true', decide_eq_false_iff_not] at hc9); omega)))) ?_
  refine zgv (Gd.t1 rfl rfl rfl) (fun hc => (opds_3 (gh hc rfl) rfl rfl)) (fun hc => (fun w hw => c_spec_l00In (M.getI s.pits k) 2 3)) ?_
  refine Qq (p_pickAnd rfl rfl rfl) <| JL.nil ?_
  refine zi (fun h12 h12' => ?_) fun h12 h12' => ?_
  ·
   obtain ⟨⟨c0, c1⟩, c2⟩ : (0 ≤ k ∧ ¬ M.owner r k = player) ∧ M.betw (M.getI s.pits k) 2 3 = true := by simpa using h12
   have hS2 : (out ++ [k]) ++ M.ttI r player s.pits (k - 1) = M.ttI r player s.pits s.last := by rw [← hS, M.ttI_yes c0 c1 c2]; simp
   refine Js.skip <| Js.block <| zS <| Qm rfl <| Qm rfl <| zbs fun b13 => ?_
   refine JL.e (e_append (i := 1) (n' := (out ++ [k]).length) (vs' := ints_ (out ++ [k])) el_24 rfl rfl rfl rfl (src_row (i := 0) und_24 rfl rfl) (by omega) (by omega) (by first | omega | (simp only [List.length_append, List.length_cons, List.length_nil] <;> omega)) (by simp [ints_])) ?_
   rintro v15 _ _ ⟨⟨g16, rfl⟩, rfl⟩ _
   refine JL.fact (row_form' (i := 1) rfl) (fun hf17 => ?_)
   obtain ⟨A17, c17, rfl, bl17, bh17⟩ := hf17
   refine znl ?_
   refine Qa rfl <| zG <| Qm rfl <| Qs rfl rfl <| Qa rfl <| JL.nil <| Js.blockEnd ?_
   refine zd [1] rfl fun u18 x18 => ?_
   exact zag ⟨k - 1, out ++ [k], _, _, _, rfl, rfl, by exact hS2, zt, zt, by simp only [List.length_append, List.length_cons, List.length_nil]; omega, zu, zu, rfl⟩ (x10.trans x18)
  have hF : M.ttI r player s.pits k = [] := by rcases h12' with (h | h) | h; exact M.ttI_neg h; exact M.ttI_no (.inl h); exact M.ttI_no (.inr h)
  rw [hF, List.append_nil] at hS
  have hR : M.taken r s player = out := by unfold M.taken; rw [if_neg hl0, if_pos hcap, hS]; simp [M.ttI, hl0]
  refine zx ?_
  have hq0 : out = M.taken r s player := by rw [hR]
  refine Js.blockEnd <| zS <| Qm rfl <| Qa rfl <| JL.nil ?_
  exact zro x10
 have hcap1 : ¬ r.capture = 1 := by simpa using h9
 refine zS <| Qe rfl rfl <| Qa rfl <| JL.nil ?_
 refine zi (fun h19 h19' => ?_) fun h19 h19' => ?_
 ·
  have hcap : r.capture = 2 := by simpa using h19
  have ho : M.opp r s.last = 2 * r.pits - 1 - s.last := rfl
  refine Js.seq ?_
  refine zdr [] ?_
  refine JH.p 0 rfl (p_move rfl) ?_
  refine JH.p 1 rfl (p_move rfl) ?_
  refine JH.pg 2 rfl (Gd.t1 rfl rfl rfl) (fun hc => p_move rfl) ?_
  refine JH.pg 3 rfl (Gd.t1 rfl rfl rfl) (fun hc => p_nilCheck (gvt rfl hc)) ?_
  refine JH.pg 4 rfl (Gd.t1 rfl rfl rfl) (fun hc => p_fieldAddr fld_137_0.h (gvt rfl hc)) ?_
  refine JH.wg 5 rfl (Gd.t1 rfl rfl rfl) (fun hc os' u' hv => q_load1 ty_24.h (gvt rfl hc) (Mem.pub ((hr4.vis hv) 0 _ rfl))) ?_
  refine JH.pg 6 rfl (Gd.t1 rfl rfl rfl) (fun hc => p_move rfl) ?_
  refine JH.pg 7 rfl (Gd.t1 rfl rfl rfl) (fun hc => p_indexAddr el_24 (gvt rfl hc) (gvt rfl hc) (by have hc9 := hc; (try simp only [decide_eq_true_eq] at hc9); omega) (by have hc9 := hc; (try simp only [decide_eq_true_eq] at hc9); omega) rfl) ?_
  refine JH.wg 8 rfl (Gd.t1 rfl rfl rfl) (fun hc os' u' hv => q_load1 ty_2.h (gvt rfl hc) (Mem.pub (ints_cellI (i := s.last) (Ty.mono _ h2 hv) (by have hc9 := hc; (try simp only [decide_eq_true_eq] at hc9); omega)))) ?_
  refine JH.pg 9 rfl (Gd.t1 rfl rfl rfl) (fun hc => p_eql (gvt rfl hc) rfl) ?_
  refine JH.p 10 rfl (p_pickAnd rfl rfl rfl) ?_
  refine JH.p 11 rfl (p_move rfl) ?_
  refine JH.pg 12 rfl (Gd.t1 rfl rfl rfl) (fun hc => p_move rfl) ?_
  refine JH.pg 13 rfl (Gd.t1 rfl rfl rfl) (fun hc => p_nilCheck (gvt rfl hc)) ?_
  refine JH.pg 14 rfl (Gd.t1 rfl rfl rfl) (fun hc => p_fieldAddr fld_137_0.h (gvt rfl hc)) ?_
  refine JH.wg 15 rfl (Gd.t1 rfl rfl rfl) (fun hc os' u' hv => q_load1 ty_24.h (gvt rfl hc) (Mem.pub ((hr4.vis hv) 0 _ rfl))) ?_
  refine JH.pg 16 rfl (Gd.t1 rfl rfl rfl) (fun hc => p_move rfl) ?_
  refine JH.pg 17 rfl (Gd.t1 rfl rfl rfl) (fun hc => p_move rfl) ?_
  refine y1 18 ?_
  refine JHo.ge rfl (Gd.t1 rfl rfl rfl) (fun hc => e_callV fn_138.h (opds_2 (gvt rfl hc) (gvt rfl hc)) (fun w hw => c_spec_l02Opposite r s.last (ok_ hw) (r0 := (by have hc9 := hc; (try simp only [Bool.and_eq_true, decide_eq_true_eq] at hc9); omega)) (r1 := (by have hc9 := hc; (try simp only [Bool.and_eq_true, decide_eq_true_eq] at hc9); omega)) (r2 := (by have hc9 := hc; (try simp only [Bool.and_eq_true, decide_eq_true_eq] at hc9); omega)) (r3 := (by have hc9 := hc; (try simp only [Bool.and_eq_true, decide_eq_true_eq] at hc9); omega)))) ?_
  refine JH.pg 19 rfl (Gd.t1 rfl rfl rfl) (fun hc => p_indexAddr el_24 (gvt rfl hc) (gvt rfl hc) (by have hc9 := hc; (try simp only [Bool.and_eq_true, decide_eq_true_eq] at hc9); omega) (by have hc9 := hc; (try simp only [Bool.and_eq_true, decide_eq_true_eq] at hc9); omega) rfl) ?_
  refine JH.wg 20 rfl (Gd.t1 rfl rfl rfl) (fun hc os' u' hv => q_load1 ty_2.h (gvt rfl hc) (Mem.pub (ints_cellI (i := M.opp r s.last) (Ty.mono _ h2 hv) (by have hc9 := hc; (try simp only [Bool.and_eq_true, decide_eq_true_eq] at hc9); omega)))) ?_
  refine JH.pg 21 rfl (Gd.t1 rfl rfl rfl) (fun hc => p_gtr (gvt rfl hc) rfl) ?_
  refine JH.p 22 rfl (p_pickAnd rfl rfl rfl) ?_
  refine yd ?_
  refine zi (fun h22 h22' => ?_) fun h22 h22' => ?_
  ·
   have hR : M.taken r s player = [s.last, M.opp r s.last] := by unfold M.taken; rw [if_neg hl0, if_neg hcap1, if_pos hcap, if_pos (by simpa [and_assoc] using h22)]
   refine Js.region <| Qm rfl <| Qm rfl <| Qm rfl <| Qm rfl <| zv rfl (fun w hw => c_spec_l02Opposite r s.last (ok_ hw)) <| zbs fun b23 => ?_
   refine JL.e (e_append (i := 1) (n' := 2) (vs' := ints_ [s.last, (M.opp r s.last)]) el_24 rfl rfl rfl rfl (src_row (i := 0) und_24 rfl rfl) (by omega) (by omega) (by first | omega | (simp only [List.length_append, List.length_cons, List.length_nil] <;> omega)) (by simp [ints_])) ?_
   rintro v25 _ _ ⟨⟨g26, rfl⟩, rfl⟩ _
   refine JL.fact (row_form' (i := 1) rfl) (fun hf27 => ?_)
   obtain ⟨A27, c27, rfl, bl27, bh27⟩ := hf27
   refine znl ?_
   have hq0 : [s.last, (M.opp r s.last)] = M.taken r s player := by rw [hR]
   refine Qa rfl <| JL.nil <| Js.blockEnd <| zS <| Qm rfl <| Qa rfl <| JL.nil ?_
   exact zro (Up.refl _ _)
  have hR : M.taken r s player = [] := by unfold M.taken; rw [if_neg hl0, if_neg hcap1, if_pos hcap, if_neg (by simpa [and_assoc] using h22)]
  have hq0 : [] = M.taken r s player := by rw [hR]
  refine Js.skip <| Js.blockEnd <| zS <| Qm rfl <| Qa rfl <| JL.nil ?_
  exact zro (Up.refl _ _)
 have hcap2 : ¬ r.capture = 2 := by simpa using h19
 refine zS <| Qe rfl rfl <| Qa rfl <| JL.nil ?_
 refine zi (fun h28 h28' => ?_) fun h28 h28' => ?_
 ·
  have hcap : r.capture = 3 := by simpa using h28
  refine zS <| Qm rfl <| Qt rfl <| Qm rfl <| zg (Gd.t1 rfl rfl rfl) (fun hc => p_move rfl) <| zg (Gd.t1 rfl rfl rfl) (fun hc => p_nilCheck (gh hc rfl)) <| zg (Gd.t1 rfl rfl rfl) (fun hc => p_fieldAddr fld_137_0.h (gh hc rfl)) <| zgq (Gd.t1 rfl rfl rfl) (fun hc => q_load1 ty_24.h (gh hc rfl) (Mem.pub (hr4 0 _ rfl))) <| zg (Gd.t1 rfl rfl rfl) (fun hc => p_move rfl) <| zg (Gd.t1 rfl rfl rfl) (fun hc => p_indexAddr el_24 (gh hc rfl) (gh hc rfl) (by have hc9 := hc; (try simp only [Bool.not_eq_true', decide_eq_false_iff_not] at hc9); omega) (by have hc9 := hc; (try simp only [Bool.not_eq_true', decide_eq_false_iff_not] at hc9); omega) rfl) ?_
  refine zgq (Gd.t1 rfl rfl rfl) (fun hc => q_load1 ty_2.h (gh hc rfl) (Mem.pub (ints_cellI (i := s.last) h2 (by have hc9 := hc; (try simp only [Bool.not_eq_true', decide_eq_false_iff_not] at hc9); omega)))) ?_
  refine zg (Gd.t1 rfl rfl rfl) (fun hc => p_rem (gh hc rfl) rfl (by have hc9 := hc; (try simp only [Bool.not_eq_true', decide_eq_false_iff_not] at hc9); omega) (Int.tmod_eq_emod_of_nonneg (by have hc9 := hc; (try simp only [Bool.not_eq_true', decide_eq_false_iff_not] at hc9); omega))) ?_
  refine zg (Gd.t1 rfl rfl rfl) (fun hc => p_eql (gh hc rfl) rfl) <| Qq (p_pickAnd rfl rfl rfl) <| JL.nil ?_
  refine zi (fun h30 h30' => ?_) fun h30 h30' => ?_
  ·
   have hR : M.taken r s player = [s.last] := by unfold M.taken; rw [if_neg hl0, if_neg hcap1, if_neg hcap2, if_pos hcap, if_pos (by simpa using h30)]
   refine Js.region <| Qm rfl <| Qm rfl <| zbs fun b31 => ?_
   refine JL.e (e_append (i := 1) (n' := 1) (vs' := ints_ [s.last]) el_24 rfl rfl rfl rfl (src_row (i := 0) und_24 rfl rfl) (by omega) (by omega) (by first | omega | (simp only [List.length_append, List.length_cons, List.length_nil] <;> omega)) (by simp [ints_])) ?_
   rintro v33 _ _ ⟨⟨g34, rfl⟩, rfl⟩ _
   refine JL.fact (row_form' (i := 1) rfl) (fun hf35 => ?_)
   obtain ⟨A35, c35, rfl, bl35, bh35⟩ := hf35
   refine znl ?_
   have hq0 : [s.last] = M.taken r s player := by rw [hR]
   refine Qa rfl <| JL.nil <| Js.blockEnd <| zS <| Qm rfl <| Qa rfl <| JL.nil ?_
   exact zro (Up.refl _ _)
  have hR : M.taken r s player = [] := by unfold M.taken; rw [if_neg hl0, if_neg hcap1, if_neg hcap2, if_pos hcap, if_neg (by simpa using h30)]
  have hq0 : [] = M.taken r s player := by rw [hR]
  refine Js.skip <| Js.blockEnd <| zS <| Qm rfl <| Qa rfl <| JL.nil ?_
  exact zro (Up.refl _ _)
 have hcap3 : ¬ r.capture = 3 := by simpa using h28
 have hR : M.taken r s player = [] := by unfold M.taken; rw [if_neg hl0, if_neg hcap1, if_neg hcap2, if_neg hcap3]
 have hq0 : [] = M.taken r s player := by rw [hR]
 refine Js.skip <| Js.blockEnd <| zS <| Qm rfl <| Qa rfl <| JL.nil ?_
 exact zro (Up.refl _ _)

set_option maxHeartbeats 1000000 in
theorem c_spec_l06Sum (s : M.Sw) {v_s : Value} (list : List Int) {v_list : Value} {w : World} (h_s : (Ty.ref (cSown s)).ok w v_s) (h_list : (Ty.ints 2 list).ok w v_list) (r0 : s.pits.length ≤ 16 := by exact om_) (r1 : list.length ≤ 16 := by exact om_) (r2 : ∀ x ∈ list, 0 ≤ x ∧ x < s.pits.length := by exact om_) (r3 : ∀ k : Int, 0 ≤ M.getI s.pits k ∧ M.getI s.pits k ≤ 96 := by exact om_) : RetV Tryd.prog 98 [v_s, v_list] w (.int .i64 (M.isum (list.map (M.getI s.pits)))) := by
 revert v_s; apply opn
 intro b3 o3 A1 c1 h1 bl1 bh1 A2 c2 h2 bl2 bh2 hr3
 revert v_list; apply opn
 intro A4 c4 h4 bl4 bh4
 have h_list := h4
 refine enter @Tryd.func98 @Tryd.ntmps98 rfl rfl ?_
 refine zent ?_
 refine zS <| Qa rfl <| zN <| Qa rfl <| zJ <| zS <| Qa rfl <| JL.nil <| Js.block ?_
 refine zl [0, 1] (fun F U l os u m => ∃ (k : Nat) (t : Int), l = F [(5, .int .i64 t), (6, .int .i64 (k : Int))] ∧ os = U [] ∧ (t + M.isum ((list.drop k).map (M.getI s.pits)) = M.isum (list.map (M.getI s.pits))) ∧ (k ≤ list.length) ∧ (0 ≤ t) ∧ (t ≤ 96 * k) ∧ m = list.length - k) ⟨0, 0, rfl, rfl, by simp, zt, zt, zt, rfl⟩ ?_
 rintro _ _ u5 _ ⟨k, t, rfl, rfl, hS, hk, t0, t1, rfl⟩ x5
 refine zn ?_
 refine Js.seq <| zS <| Qm rfl <| Qm rfl <| Qz rfl <| Ql rfl rfl <| JL.nil ?_
 refine zi (fun h6 h6' => ?_) fun h6 h6' => ?_
 ·
  have hk2 : k < list.length := by have := h6'; omega
  have hx := r2 _ (M.nth_mem hk2)
  have hv := r3 (M.nth list k)
  simp only [M.getI] at hv
  have hS2 := hS
  rw [M.drop_nth hk2, List.map_cons, M.isum_cons, ← Int.add_assoc] at hS2
  refine Js.skip <| Js.seq <| Js.block ?_
  refine zdr [] ?_
  refine JH.p 0 rfl (p_move rfl) ?_
  refine JH.p 1 rfl (p_move rfl) ?_
  refine JH.p 2 rfl (p_nilCheck rfl) ?_
  refine JH.p 3 rfl (p_fieldAddr fld_137_0.h rfl) ?_
  refine JH.w 4 rfl (fun os' u' hv => q_load1 ty_24.h rfl (Mem.pub ((hr3.vis (x5.vis.trans hv)) 0 _ rfl))) ?_
  refine JH.p 5 rfl (p_move rfl) ?_
  refine JH.p 6 rfl (p_move rfl) ?_
  obtain ⟨b7, o7, he7, hc7⟩ := ints_elem (Ty.mono _ h4 x5.vis) (i := k) (by omega)
  refine JH.p 7 rfl (p_indexAddr el_24 rfl rfl (by omega) (by omega) he7) ?_
  refine JH.w 8 rfl (fun os' u' hv => q_load1 ty_2.h rfl (Mem.pub (hc7.vis hv))) ?_
  obtain ⟨b8, o8, he8, hc8⟩ := ints_elem (Ty.mono _ h1 x5.vis) (i := (M.nth list k).toNat) (by omega)
  refine JH.p 9 rfl (p_indexAddr el_24 rfl rfl (by omega) (by omega) he8) ?_
  refine JH.w 10 rfl (fun os' u' hv => q_load1 ty_2.h rfl (Mem.pub (hc8.vis hv))) ?_
  refine JH.p 11 rfl (p_add rfl rfl (IntWalk.i64_in _ (by omega))) ?_
  refine JH.p 12 rfl (p_assign rfl) ?_
  refine yd ?_
  refine Js.blockEnd <| Js.region <| Qm rfl <| Qp rfl rfl <| Qa rfl <| JL.nil ?_
  exact zag ⟨k + 1, t + (M.nth s.pits ((M.nth list k).toNat)), rfl, rfl, by exact hS2, zt, zt, zt, rfl⟩ x5
 have hT : M.isum (list.map (M.getI s.pits)) = t := by rw [← hS, List.drop_eq_nil_of_le (by have := h6'; omega)]; simp
 refine zx ?_
 refine zS <| Qm rfl <| Qa rfl <| JL.nil ?_
 refine zR x5 ?_
 rw [hT]; rfl

set_option maxHeartbeats 1000000 in
theorem c_spec_l06Slam (r : M.Rul) {v_r : Value} (s : M.Sw) {v_s : Value} (player : Int) {w : World} (h_r : (Ty.ref (cRules r)).ok w v_r) (h_s : (Ty.ref (cSown s)).ok w v_s) (r0 : 2 ≤ r.pits := by exact om_) (r1 : r.pits ≤ 8 := by exact om_) (r2 : player = 0 ∨ player = 1 := by exact om_) (r3 : M.Good r s.pits s.stores 0 := by exact om_) (r4 : -1 ≤ s.last := by exact om_) (r5 : s.last < 2 * r.pits := by exact om_) : RetV Tryd.prog 94 [v_r, v_s, .int .i64 player] w (.bool (M.slams r s player)) := by
 have l1 := r3.lp
 have l2 := r3.ls
 have hao := M.Good.ok r3
 have hlen := M.taken_len (s := s) (player := player) r5 r1
 revert v_r; apply opn
 intro b1 o1 hr1
 revert v_s; apply opn
 intro b4 o4 A2 c2 h2 bl2 bh2 A3 c3 h3 bl3 bh3 hr4
 refine enter @Tryd.func94 @Tryd.ntmps94 rfl rfl ?_
 refine zent ?_
 obtain ⟨b5, o5, rfl⟩ := ints_some h2 (by omega)
 refine zS <| Qa rfl <| zN <| Qm rfl <| Qm rfl <| Qm rfl <| zp rfl (fun w hw => c_spec_l06Raw r s player (ok_ hw) (ok_ hw) (r3 := r3)) ?_
 intro u6 x6 A7 c7 h7 bl7 bh7
 refine Qa rfl <| zN <| Qa rfl <| zJ <| zS <| Qa rfl <| JL.nil <| Js.block ?_
 refine zl [0, 1, 2, 7] (fun F U l os u m => ∃ (k : Nat) (g : Int), l = F [(8, .int .i64 g), (9, .int .i64 (k : Int))] ∧ os = U [] ∧ (g + M.gone r s player ((M.taken r s player).drop k) = M.gone r s player (M.taken r s player)) ∧ (k ≤ (M.taken r s player).length) ∧ (0 ≤ g) ∧ (g ≤ 96 * k) ∧ m = (M.taken r s player).length - k) ⟨0, 0, rfl, rfl, by simp, zt, zt, zt, rfl⟩ ?_
 rintro _ _ u8 _ ⟨k, g, rfl, rfl, hS, hk, g0, g1, rfl⟩ x8
 refine zn ?_
 refine Js.seq <| zS <| Qm rfl <| Qm rfl <| Qz rfl <| Ql rfl rfl <| JL.nil ?_
 refine zi (fun h9 h9' => ?_) fun h9 h9' => ?_
 ·
  have hk2 : k < (M.taken r s player).length := by have := h9'; omega
  have hx := M.taken_mem (r := r) (s := s) (player := player) r5 (M.nth_mem hk2)
  have hvx := r3.pit (M.nth (M.taken r s player) k)
  have hS1 := hS
  rw [M.drop_nth hk2, M.gone_cons] at hS1
  obtain ⟨b10, o10, he10, hc10⟩ := ints_elem (Ty.mono _ h7 x8.vis) (i := k) (by omega)
  refine Js.skip <| Js.seq <| Js.block <| zS <| Qm rfl <| Qm rfl <| Qm rfl <| Qq (p_indexAddr el_24 rfl rfl (by omega) (by omega) he10) <| QC hc10 rfl <| zv rfl (fun w hw => c_spec_l02Owner r (M.nth (M.taken r s player) k) (ok_ hw)) <| Qm rfl <| Qd rfl rfl <| JL.nil ?_
  refine zi (fun h11 h11' => ?_) fun h11 h11' => ?_
  ·
   have hS2 : (g + M.getI s.pits (M.nth (M.taken r s player) k)) + M.gone r s player ((M.taken r s player).drop (k + 1)) = M.gone r s player (M.taken r s player) := by rw [if_neg (by simpa using h11)] at hS1; omega
   refine zdr [] ?_
   refine JH.p 0 rfl (p_move rfl) ?_
   refine JH.p 1 rfl (p_move rfl) ?_
   refine JH.p 2 rfl (p_nilCheck rfl) ?_
   refine JH.p 3 rfl (p_fieldAddr fld_137_0.h rfl) ?_
   refine JH.w 4 rfl (fun os' u' hv => q_load1 ty_24.h rfl (Mem.pub ((hr4.vis ((x6.vis.trans x8.vis).trans hv)) 0 _ rfl))) ?_
   refine JH.p 5 rfl (p_move rfl) ?_
   refine JH.p 6 rfl (p_move rfl) ?_
   obtain ⟨b12, o12, he12, hc12⟩ := ints_elem (Ty.mono _ h7 x8.vis) (i := k) (by omega)
   refine JH.p 7 rfl (p_indexAddr el_24 rfl rfl (by omega) (by omega) he12) ?_
   refine JH.w 8 rfl (fun os' u' hv => q_load1 ty_2.h rfl (Mem.pub (hc12.vis hv))) ?_
   refine JH.p 9 rfl (p_indexAddr el_24 rfl rfl (by omega) (by omega) rfl) ?_
   refine JH.w 10 rfl (fun os' u' hv => q_load1 ty_2.h rfl (Mem.pub (ints_cellI (i := M.nth (M.taken r s player) k) (Ty.mono _ h2 ((x6.vis.trans x8.vis).trans hv)) (by omega)))) ?_
   refine JH.p 11 rfl (p_add rfl rfl (IntWalk.i64_in _ (by omega))) ?_
   refine JH.p 12 rfl (p_assign rfl) ?_
   refine yd ?_
   refine Js.blockEnd <| Js.region <| Qm rfl <| Qp rfl rfl <| Qa rfl <| JL.nil ?_
   exact zag ⟨k + 1, g + (M.getI s.pits (M.nth (M.taken r s player) k)), rfl, rfl, by exact hS2, zt, zt, zt, rfl⟩ x8
  have hS2 : g + M.gone r s player ((M.taken r s player).drop (k + 1)) = M.gone r s player (M.taken r s player) := by rw [if_pos (by simpa using h11)] at hS1; omega
  refine Js.skip <| Js.blockEnd <| Js.region <| Qm rfl <| Qp rfl rfl <| Qa rfl <| JL.nil ?_
  exact zag ⟨k + 1, g, rfl, rfl, by exact hS2, zt, zt, zt, rfl⟩ x8
 have hg : g = M.gone r s player (M.taken r s player) := by rw [← hS, List.drop_eq_nil_of_le (by have := h9'; omega), M.gone_nil]; omega
 refine zx ?_
 refine zS <| Qm rfl <| Qg rfl rfl <| Qm rfl <| zg (Gd.t1 rfl rfl rfl) (fun hc => p_move rfl) <| zg (Gd.t1 rfl rfl rfl) (fun hc => p_move rfl) <| zg (Gd.t1 rfl rfl rfl) (fun hc => p_move rfl) <| zg (Gd.t1 rfl rfl rfl) (fun hc => p_nilCheck (gh hc rfl)) <| zg (Gd.t1 rfl rfl rfl) (fun hc => p_fieldAddr fld_137_0.h (gh hc rfl)) <| zgq (Gd.t1 rfl rfl rfl) (fun hc => q_load1 ty_24.h (gh hc rfl) (Mem.pub ((hr4.vis (x6.vis.trans x8.vis)) 0 _ rfl))) <| zg (Gd.t1 rfl rfl rfl) (fun hc => p_move rfl) <| zg (Gd.t1 rfl rfl rfl) (fun hc => p_sub rfl (gh hc rfl) (IntWalk.i64_in _ (by have hc9 := hc; (try simp only [decide_eq_true_eq] at hc9); omega))) ?_
 refine zgv (Gd.t1 rfl rfl rfl) (fun hc => (opds_3 (gh hc rfl) (gh hc rfl) (gh hc rfl))) (fun hc => (fun w hw => c_spec_l04Side r s.pits (1 - player) (ok_ hw) (ok_ hw) (r0 := (by have hc9 := hc; (try simp only [decide_eq_true_eq] at hc9); omega)) (r1 := (by have hc9 := hc; (try simp only [decide_eq_true_eq] at hc9); omega)) (r2 := (by have hc9 := hc; (try simp only [decide_eq_true_eq] at hc9); omega)) (r3 := (by have hc9 := hc; (try simp only [decide_eq_true_eq] at hc9); omega)) (r4 := hao.1))) ?_
 refine zg (Gd.t1 rfl rfl rfl) (fun hc => p_eql (gh hc rfl) (gh hc rfl)) <| Qq (p_pickAnd rfl rfl rfl) <| Qa rfl <| JL.nil ?_
 refine zR (x6.trans x8) ?_
 subst hg; simp [outV, M.slams, eq_comm]

set_option maxHeartbeats 1000000 in
theorem c_spec_l06Pits (r : M.Rul) {v_r : Value} (s : M.Sw) {v_s : Value} (player : Int) {w : World} (h_r : (Ty.ref (cRules r)).ok w v_r) (h_s : (Ty.ref (cSown s)).ok w v_s) (r0 : 2 ≤ r.pits := by exact om_) (r1 : r.pits ≤ 8 := by exact om_) (r2 : player = 0 ∨ player = 1 := by exact om_) (r3 : M.Good r s.pits s.stores 0 := by exact om_) (r4 : -1 ≤ s.last := by exact om_) (r5 : s.last < 2 * r.pits := by exact om_) : Ret Tryd.prog 96 [v_r, v_s, .int .i64 player] w (Ty.ints 2 (M.captured r s player)) := by
 revert v_r; apply opn
 intro b1 o1 hr1
 revert v_s; apply opn
 intro b4 o4 A2 c2 h2 bl2 bh2 A3 c3 h3 bl3 bh3 hr4
 refine enter @Tryd.func96 @Tryd.ntmps96 rfl rfl ?_
 refine zent ?_
 refine zS <| Qa rfl <| zJ <| zS <| Qm rfl <| Qc rfl <| Qf fh rfl <| QC (hr1 8 _ rfl) rfl <| Qe rfl rfl <| Qm rfl <| zg (Gd.t1 rfl rfl rfl) (fun hc => p_move rfl) <| zg (Gd.t1 rfl rfl rfl) (fun hc => p_move rfl) <| zg (Gd.t1 rfl rfl rfl) (fun hc => p_move rfl) <| zgv (Gd.t1 rfl rfl rfl) (fun hc => (opds_3 (gh hc rfl) (gh hc rfl) (gh hc rfl))) (fun hc => (fun w hw => c_spec_l06Slam r s player (ok_ hw) (ok_ hw) (r0 := (by have hc9 := hc; (try simp only [decide_eq_true_eq] at hc9); omega)) (r1 := (by have hc9 := hc; (try simp only [decide_eq_true_eq] at hc9); omega)) (r2 := (by have hc9 := hc; (try simp only [decide_eq_true_eq] at hc9); omega)) (r3 := r3) (r4 := (by have hc9 := hc; (try simp only [decide_eq_true_eq] at hc9); omega)) (r5 := (by have hc9 := hc; (try simp only [decide_eq_true_eq] at hc9); omega)))) ?_
 refine Qq (p_pickAnd rfl rfl rfl) <| JL.nil ?_
 refine zi (fun h5 h5' => ?_) fun h5 h5' => ?_
 ·
  have hR : M.captured r s player = [] := by unfold M.captured; rw [if_pos (by simpa using h5)]
  have hq0 : [] = M.captured r s player := by rw [hR]
  refine zS <| zbs fun b6 => ?_
  refine Qa rfl <| JL.nil ?_
  exact zro (Up.refl _ _)
 have hR : M.captured r s player = M.taken r s player := by unfold M.captured; rw [if_neg (by simpa using h5)]
 refine Js.skip <| zS <| Qm rfl <| Qm rfl <| Qm rfl <| zcs rfl (fun w hw => c_spec_l06Raw r s player (ok_ hw) (ok_ hw) (r3 := r3)) ?_
 intro A8 c8 bl8 bh8
 have hq0 : (M.taken r s player) = M.captured r s player := by rw [hR]
 refine Qa rfl <| JL.nil ?_
 exact zro (Up.refl _ _)

set_option maxHeartbeats 1000000 in
theorem c_spec_l06Take (r : M.Rul) {v_r : Value} (s : M.Sw) {v_s : Value} (player : Int) {w : World} (h_r : (Ty.ref (cRules r)).ok w v_r) (h_s : (Ty.ref (cSown s)).ok w v_s) (r0 : 2 ≤ r.pits := by exact om_) (r1 : r.pits ≤ 8 := by exact om_) (r2 : player = 0 ∨ player = 1 := by exact om_) (r3 : M.Good r s.pits s.stores 0 := by exact om_) (r4 : -1 ≤ s.last := by exact om_) (r5 : s.last < 2 * r.pits := by exact om_) : Ret Tryd.prog 127 [v_r, v_s, .int .i64 player] w (Ty.agg (cSown (M.take r s player))) := by
 have l1 := r3.lp
 have l2 := r3.ls
 have hlen := M.captured_len (s := s) (player := player) r5 r1
 have hmem : ∀ x ∈ (M.captured r s player), 0 ≤ x ∧ x < s.pits.length := fun x hx => by have := M.captured_mem r5 hx; omega
 have hbs := r3.store player
 have hbi := M.cap_sum (r := r) (s := s) (player := player) r3 r5
 revert v_r; apply opn
 intro b1 o1 hr1
 revert v_s; apply opn
 intro b4 o4 A2 c2 h2 bl2 bh2 A3 c3 h3 bl3 bh3 hr4
 refine enter @Tryd.func127 @Tryd.ntmps127 rfl rfl ?_
 refine zent ?_
 obtain ⟨b5, o5, rfl⟩ := ints_some h2 (by omega)
 obtain ⟨b6, o6, rfl⟩ := ints_some h3 (by omega)
 refine zS <| za zeh fun b7 => zN <| Qm rfl <| Qm rfl <| Qm rfl <| zp rfl (fun w hw => c_spec_l06Pits r s player (ok_ hw) (ok_ hw) (r3 := r3)) ?_
 intro u8 x8 A9 c9 h9 bl9 bh9
 refine Qa rfl <| zJ ?_
 refine zk [1, 2, 6, 7] (fun F U l os u => ∃ (b12 : Nat) (A10 : Option Addr) (c10 : Nat) (A11 : Option Addr) (c11 : Nat), l = F [(8, .pointer (some ⟨b12, 0, none⟩))] ∧ os = [boxO b12 [.slice A10 s.pits.length c10, .slice A11 s.stores.length c11, .int .i64 s.last, .int .i64 s.laps] 137, rowO 2 1 (.slice A11 s.stores.length c11) s.stores.length (ints_ s.stores) [], rowO 2 1 (.slice A10 s.pits.length c10) s.pits.length (ints_ s.pits) []] ++ U [] ∧ (s.pits.length ≤ c10) ∧ (c10 ≤ 9223372036854775807) ∧ (s.stores.length ≤ c11) ∧ (c11 ≤ 9223372036854775807)) ?_ ?_
 ·
  refine zdr [20] ?_
  refine JH.p 0 rfl (p_move rfl) ?_
  refine JH.p 1 rfl (p_nilCheck rfl) ?_
  refine JH.p 2 rfl (p_fieldAddr fld_137_0.h rfl) ?_
  refine JH.w 3 rfl (fun os' u' hv => q_load1 ty_24.h rfl (Mem.pub ((hr4.vis (x8.vis.trans hv)) 0 _ rfl))) ?_
  refine JH.p 5 rfl (p_move rfl) ?_
  refine JH.p 6 rfl (p_nilCheck rfl) ?_
  refine JH.p 7 rfl (p_fieldAddr fld_137_1.h rfl) ?_
  refine JH.w 8 rfl (fun os' u' hv => q_load1 ty_24.h rfl (Mem.pub ((hr4.vis (x8.vis.trans hv)) 1 _ rfl))) ?_
  refine JH.p 10 rfl (p_move rfl) ?_
  refine JH.p 11 rfl (p_nilCheck rfl) ?_
  refine JH.p 12 rfl (p_fieldAddr fld_137_2.h rfl) ?_
  refine JH.w 13 rfl (fun os' u' hv => q_load1 ty_2.h rfl (Mem.pub ((hr4.vis (x8.vis.trans hv)) 2 _ rfl))) ?_
  refine JH.p 14 rfl (p_move rfl) ?_
  refine JH.p 15 rfl (p_nilCheck rfl) ?_
  refine JH.p 16 rfl (p_fieldAddr fld_137_3.h rfl) ?_
  refine JH.w 17 rfl (fun os' u' hv => q_load1 ty_2.h rfl (Mem.pub ((hr4.vis (x8.vis.trans hv)) 3 _ rfl))) ?_
  refine y2 4 19 ?_ ?_
  ·
   refine ycs rfl rfl (fun w hw => c_spec_l00Own s.pits (ok_ hw)) ?_
   intro A19 c19 bl19 bh19
   refine y2 9 19 ?_ ?_
   ·
    refine ycs rfl rfl (fun w hw => c_spec_l00Own s.stores (ok_ hw)) ?_
    intro A20 c20 bl20 bh20
    refine JH.p 18 rfl (q_bld) ?_
    refine y1 19 ?_
    refine ya rfl fun b21 => ?_
    refine y1 20 ?_
    refine yst rfl rfl rfl ?_
    refine yd ?_
    exact zm ⟨_, _, _, _, _, rfl, rfl, zt, zt, zt, zt⟩ (Up.refl _ _)
   refine ya rfl fun b22 => ?_
   refine y1 9 ?_
   refine ycs rfl rfl (fun w hw => c_spec_l00Own s.stores (ok_ hw)) ?_
   intro A23 c23 bl23 bh23
   refine JH.p 18 rfl (q_bld) ?_
   refine y1 20 ?_
   refine yst rfl rfl rfl ?_
   refine yd ?_
   refine zh [1, 0, 0, 0] ?_
   exact zm ⟨_, _, _, _, _, rfl, rfl, zt, zt, zt, zt⟩ (Up.refl _ _)
  refine ya rfl fun b24 => ?_
  refine y1 4 ?_
  refine ycs rfl rfl (fun w hw => c_spec_l00Own s.pits (ok_ hw)) ?_
  intro A25 c25 bl25 bh25
  refine y1 9 ?_
  refine ycs rfl rfl (fun w hw => c_spec_l00Own s.stores (ok_ hw)) ?_
  intro A26 c26 bl26 bh26
  refine JH.p 18 rfl (q_bld) ?_
  refine y1 20 ?_
  refine yst rfl rfl rfl ?_
  refine yd ?_
  refine zh [2, 0, 0, 0] ?_
  exact zm ⟨_, _, _, _, _, rfl, rfl, zt, zt, zt, zt⟩ (Up.refl _ _)
 rintro _ _ u18 ⟨b12, A10, c10, A11, c11, rfl, rfl, f18_0, f18_1, f18_2, f18_3⟩ x18
 refine zn ?_
 refine Js.fact (row_some (i := 1) rfl (by omega)) (fun hf27 => ?_)
 obtain ⟨b27, rfl⟩ := hf27
 refine Js.fact (row_some (i := 2) rfl (by omega)) (fun hf28 => ?_)
 obtain ⟨b28, rfl⟩ := hf28
 refine Js.seq ?_
 refine zdr [10] ?_
 refine JH.p 0 rfl (p_fieldAddr fld_137_1.h rfl) ?_
 refine JH.q 1 rfl (q_load1 ty_24.h rfl (Mem.box (i := 0) rfl rfl)) ?_
 refine JH.p 2 rfl (p_move rfl) ?_
 refine JH.p 3 rfl (p_indexAddr el_24 rfl rfl (by omega) (by omega) rfl) ?_
 refine JH.q 4 rfl (q_load1 ty_2.h rfl (Mem.row (i := 1) rfl (ints_getI (i := player) (by omega)))) ?_
 refine JH.p 5 rfl (p_move rfl) ?_
 refine JH.p 6 rfl (p_move rfl) ?_
 refine y1 7 ?_
 refine yv rfl rfl (fun w hw => c_spec_l06Sum s (M.captured r s player) (ok_ hw) (ok_ hw) (r2 := hmem) (r3 := r3.pit)) ?_
 refine JH.p 8 rfl (p_add rfl rfl (IntWalk.i64_in _ (by omega))) ?_
 refine JH.p 9 rfl (p_indexAddr el_24 rfl rfl (by omega) (by omega) rfl) ?_
 refine y1 10 ?_
 refine JHo.s rfl (e_storeRow (i := 1) (xs' := ints_ (M.setI s.stores player ((M.getI s.stores player) + (M.isum ((M.captured r s player).map (M.getI s.pits)))))) ty_2.h rfl rfl rfl rfl rfl rfl (ints_lt (i := player.toNat) (by omega)) (ints_setL (i := player.toNat) (by omega))) (.inr rfl) ?_
 rintro _ _ _ ⟨rfl, rfl⟩ _
 refine znh ?_
 refine yd ?_
 refine Js.seq <| zS <| Qa rfl <| JL.nil <| Js.block ?_
 refine zl [6, 7, 8] (fun F U l os u m => ∃ (k : Nat) (ps : List Int), l = F [(9, .int .i64 (k : Int))] ∧ os = U [nO, nO, some (rowO 2 1 (.slice (some ⟨b28, 0, none⟩) s.pits.length c10) s.pits.length (ints_ ps) [])] ∧ (ps = M.zeros ((M.captured r s player).take k) s.pits) ∧ (k ≤ (M.captured r s player).length) ∧ (ps.length = s.pits.length) ∧ m = (M.captured r s player).length - k) ⟨0, s.pits, rfl, rfl, by rfl, zt, by rfl, rfl⟩ ?_
 rintro _ _ u31 _ ⟨k, ps, rfl, rfl, hP, hk, hpl, rfl⟩ x31
 refine zn ?_
 refine Js.seq <| zS <| Qm rfl <| Qm rfl <| Qz rfl <| Ql rfl rfl <| JL.nil ?_
 refine zi (fun h32 h32' => ?_) fun h32 h32' => ?_
 ·
  have hk2 : k < (M.captured r s player).length := by have := h32'; omega
  have hx := hmem _ (M.nth_mem hk2)
  refine Js.skip <| Js.seq <| Js.block ?_
  refine zdr [7] ?_
  refine JH.p 0 rfl (p_fieldAddr fld_137_0.h rfl) ?_
  refine JH.q 1 rfl (q_load1 ty_24.h rfl (Mem.box (i := 0) rfl rfl)) ?_
  refine JH.p 2 rfl (p_move rfl) ?_
  refine JH.p 3 rfl (p_move rfl) ?_
  obtain ⟨b33, o33, he33, hc33⟩ := ints_elem (Ty.mono _ h9 (x18.vis.trans x31.vis)) (i := k) (by omega)
  refine JH.p 4 rfl (p_indexAddr el_24 rfl rfl (by omega) (by omega) he33) ?_
  refine JH.w 5 rfl (fun os' u' hv => q_load1 ty_2.h rfl (Mem.pub (hc33.vis hv))) ?_
  refine JH.p 6 rfl (p_indexAddr el_24 rfl rfl (by omega) (by omega) rfl) ?_
  refine y1 7 ?_
  refine JHo.s rfl (e_storeRow (i := 2) (xs' := ints_ (M.setI ps (M.nth (M.captured r s player) k) 0)) ty_2.h rfl rfl rfl rfl rfl rfl (ints_lt (i := (M.nth (M.captured r s player) k).toNat) (by omega)) (ints_setL (i := (M.nth (M.captured r s player) k).toNat) (by omega))) (.inr rfl) ?_
  rintro _ _ _ ⟨rfl, rfl⟩ _
  refine znh ?_
  refine yd ?_
  refine Js.blockEnd <| Js.region <| Qm rfl <| Qp rfl rfl <| Qa rfl <| JL.nil ?_
  exact zag ⟨k + 1, M.setI ps (M.nth (M.captured r s player) k) 0, rfl, rfl, by rw [hP]; exact (M.zeros_step hk2 _).symm, zt, by rw [M.setI_length]; exact hpl, rfl⟩ x31
 have hR : ps = (M.take r s player).pits := by rw [hP, List.take_of_length_le (by have := h32'; omega)]; rfl
 refine zx ?_
 have hq0 : ps = (M.take r s player).pits := by first | exact hR | rfl
 have hq1 : (M.setI s.stores player ((M.getI s.stores player) + (M.isum ((M.captured r s player).map (M.getI s.pits))))) = (M.take r s player).stores := by first | exact hR | rfl
 have hq2 : s.last = (M.take r s player).last := by first | exact hR | rfl
 have hq3 : s.laps = (M.take r s player).laps := by first | exact hR | rfl
 refine zS <| Q9 0 rfl rfl ?_
 refine zw 3 rfl rfl rfl ?_
 refine JL.nil ?_
 exact zro ((x8.trans x18).trans x31)

set_option maxHeartbeats 1000000 in
theorem c_spec_l07Feed (r : M.Rul) {v_r : Value} (p : M.Pos) {v_p : Value} {w : World} (h_r : (Ty.ref (cRules r)).ok w v_r) (h_p : (Ty.ref (cPosition p)).ok w v_p) (r0 : M.okP r p = true := by exact om_) : RetV Tryd.prog 128 [v_r, v_p] w (.bool (M.mustFeed r p)) := by
 obtain ⟨g1, g2, g3, g4, g5, g6, g7⟩ := M.okP_bd r0
 revert v_r; apply opn
 intro b1 o1 hr1
 revert v_p; apply opn
 intro b4 o4 A2 c2 h2 bl2 bh2 A3 c3 h3 bl3 bh3 hr4
 refine enter @Tryd.func128 @Tryd.ntmps128 rfl rfl ?_
 refine zent ?_
 refine zS <| Qa rfl <| zJ ?_
 refine zdr [] ?_
 refine JH.p 0 rfl (p_move rfl) ?_
 refine JH.p 1 rfl (p_nilCheck rfl) ?_
 refine JH.p 2 rfl (p_fieldAddr fld_33_5.h rfl) ?_
 refine JH.w 3 rfl (fun os' u' hv => q_load1 ty_4.h rfl (Mem.pub ((hr1.vis hv) 5 _ rfl))) ?_
 refine JH.p 4 rfl (p_move rfl) ?_
 refine JH.pg 5 rfl (Gd.t1 rfl rfl rfl) (fun hc => p_move rfl) ?_
 refine JH.pg 6 rfl (Gd.t1 rfl rfl rfl) (fun hc => p_move rfl) ?_
 refine JH.pg 7 rfl (Gd.t1 rfl rfl rfl) (fun hc => p_nilCheck (gvt rfl hc)) ?_
 refine JH.pg 8 rfl (Gd.t1 rfl rfl rfl) (fun hc => p_fieldAddr fld_34_0.h (gvt rfl hc)) ?_
 refine JH.wg 9 rfl (Gd.t1 rfl rfl rfl) (fun hc os' u' hv => q_load1 ty_24.h (gvt rfl hc) (Mem.pub ((hr4.vis hv) 0 _ rfl))) ?_
 refine JH.pg 10 rfl (Gd.t1 rfl rfl rfl) (fun hc => p_move rfl) ?_
 refine JH.pg 11 rfl (Gd.t1 rfl rfl rfl) (fun hc => p_nilCheck (gvt rfl hc)) ?_
 refine JH.pg 12 rfl (Gd.t1 rfl rfl rfl) (fun hc => p_fieldAddr fld_34_2.h (gvt rfl hc)) ?_
 refine JH.wg 13 rfl (Gd.t1 rfl rfl rfl) (fun hc os' u' hv => q_load1 ty_2.h (gvt rfl hc) (Mem.pub ((hr4.vis hv) 2 _ rfl))) ?_
 refine JH.pg 14 rfl (Gd.t1 rfl rfl rfl) (fun hc => p_sub rfl (gvt rfl hc) (IntWalk.i64_in _ (by omega))) ?_
 refine y1 15 ?_
 refine JHo.ge rfl (Gd.t1 rfl rfl rfl) (fun hc => e_callV fn_129.h (opds_3 (gvt rfl hc) (gvt rfl hc) (gvt rfl hc)) (fun w hw => c_spec_l04Side r p.pits (1 - p.player) (ok_ hw) (ok_ hw) (r4 := g5))) ?_
 refine JH.pg 16 rfl (Gd.t1 rfl rfl rfl) (fun hc => p_eql (gvt rfl hc) rfl) ?_
 refine JH.p 17 rfl (p_pickAnd rfl rfl rfl) ?_
 refine JH.p 18 rfl (p_assign rfl) ?_
 refine yd ?_
 refine zR (Up.refl _ _) ?_
 simp [outV, M.mustFeed]

set_option maxHeartbeats 1000000 in
theorem c_spec_l07Make (r : M.Rul) {v_r : Value} (p : M.Pos) {v_p : Value} (move : Int) {w : World} (h_r : (Ty.ref (cRules r)).ok w v_r) (h_p : (Ty.ref (cPosition p)).ok w v_p) (r0 : p.pits.length ≤ 4194304 := by exact om_) (r1 : p.stores.length ≤ 4194304 := by exact om_) : Ret Tryd.prog 88 [v_r, v_p, .int .i64 move] w (Ty.tup [Ty.agg (cResult ((M.make r p move).1)), Ty.int ((M.make r p move).2)]) := by
 revert v_r; apply opn
 intro b1 o1 hr1
 revert v_p; apply opn
 intro b4 o4 A2 c2 h2 bl2 bh2 A3 c3 h3 bl3 bh3 hr4
 refine enter @Tryd.func88 @Tryd.ntmps88 rfl rfl ?_
 refine zent ?_
 refine zS <| za zeh fun b5 => Qa rfl <| zN <| Qm rfl <| Qm rfl <| Qm rfl <| zp rfl (fun w hw => c_spec_l05Move r p move (ok_ hw) (ok_ hw)) ?_
 intro u6 x6 A7 c7 h7 bl7 bh7 A8 c8 h8 bl8 bh8 A9 c9 h9 bl9 bh9
 refine Qm rfl <| Qx rfl rfl <| Qx rfl rfl <| Qx rfl rfl <| za zeh fun b10 => zw 0 rfl rfl rfl ?_
 refine Qa rfl <| Qa rfl <| zJ <| zS <| Qm rfl <| Qd rfl rfl <| JL.nil ?_
 refine zi (fun h11 h11' => ?_) fun h11 h11' => ?_
 ·
  have hD := M.make_sow (r := r) (p := p) (move := move) (by simpa using h11)
  have hq0 : 0 = ((M.make r p move).1).move := by first | (rw [hD]; done) | (rw [hD]; rfl)
  have hq1 : 0 = ((M.make r p move).1).gain := by first | (rw [hD]; done) | (rw [hD]; rfl)
  have hq2 : false = ((M.make r p move).1).again := by first | (rw [hD]; done) | (rw [hD]; rfl)
  have hq3 : [] = (((M.make r p move).1).next).pits := by first | (rw [hD]; done) | (rw [hD]; rfl)
  have hq4 : [] = (((M.make r p move).1).next).stores := by first | (rw [hD]; done) | (rw [hD]; rfl)
  have hq5 : 0 = (((M.make r p move).1).next).player := by first | (rw [hD]; done) | (rw [hD]; rfl)
  have hq6 : ((M.sowMove r p move).1) = (M.make r p move).2 := by first | (rw [hD]; done) | (rw [hD]; rfl)
  refine zS <| Qb ?_
  refine Qm rfl <| zw 1 rfl rfl rfl ?_
  refine Qa rfl <| JL.nil ?_
  exact zro x6
 have hz : (M.sowMove r p move).1 = 0 := by simpa using h11
 obtain ⟨hok, m0, m1, hG, q0, q1, hsum⟩ := M.sowMove_ok hz
 obtain ⟨g1, g2, g3, g4, g5, g6, g7⟩ := M.okP_bd hok
 have hG2 := (M.take_keeps g7 hG q1).1
 have hao := M.Good.ok hG2
 have hl2 := hG2.lp
 have hl3 := hG2.ls
 have hs1 := hG2.store p.player
 have hs2 := (M.Good.of_ok hok).store p.player
 simp only [M.getI] at hs2
 refine Js.skip <| Js.seq <| zS <| Qm rfl <| Qc rfl <| Qf fh rfl <| QC ((hr1.vis x6.vis) 8 _ rfl) rfl <| Qe rfl rfl <| Qm rfl <| zg (Gd.t1 rfl rfl rfl) (fun hc => p_move rfl) <| zg (Gd.t1 rfl rfl rfl) (fun hc => p_move rfl) <| zg (Gd.t1 rfl rfl rfl) (fun hc => p_nilCheck (gh hc rfl)) <| zg (Gd.t1 rfl rfl rfl) (fun hc => p_fieldAddr fld_34_2.h (gh hc rfl)) <| zgq (Gd.t1 rfl rfl rfl) (fun hc => q_load1 ty_2.h (gh hc rfl) (Mem.pub ((hr4.vis x6.vis) 2 _ rfl))) ?_
 refine zgv (Gd.t1 rfl rfl rfl) (fun hc => (opds_3 (gh hc rfl) rfl (gh hc rfl))) (fun hc => (fun w hw => c_spec_l06Slam r ((M.sowMove r p move).2.1) p.player (ok_ hw) (ok_ hw) (r0 := (by have hc9 := hc; (try simp only [decide_eq_true_eq] at hc9); omega)) (r1 := (by have hc9 := hc; (try simp only [decide_eq_true_eq] at hc9); omega)) (r2 := (by have hc9 := hc; (try simp only [decide_eq_true_eq] at hc9); omega)) (r3 := hG) (r4 := (by have hc9 := hc; (try simp only [decide_eq_true_eq] at hc9); omega)) (r5 := (by have hc9 := hc; (try simp only [decide_eq_true_eq] at hc9); omega)))) ?_
 refine Qq (p_pickAnd rfl rfl rfl) <| JL.nil ?_
 refine zi (fun h12 h12' => ?_) fun h12 h12' => ?_
 ·
  have hD := M.make_slam hz (by simpa using h12)
  have hq0 : 0 = ((M.make r p move).1).move := by first | (rw [hD]; done) | (rw [hD]; rfl)
  have hq1 : 0 = ((M.make r p move).1).gain := by first | (rw [hD]; done) | (rw [hD]; rfl)
  have hq2 : false = ((M.make r p move).1).again := by first | (rw [hD]; done) | (rw [hD]; rfl)
  have hq3 : [] = (((M.make r p move).1).next).pits := by first | (rw [hD]; done) | (rw [hD]; rfl)
  have hq4 : [] = (((M.make r p move).1).next).stores := by first | (rw [hD]; done) | (rw [hD]; rfl)
  have hq5 : 0 = (((M.make r p move).1).next).player := by first | (rw [hD]; done) | (rw [hD]; rfl)
  have hq6 : 9 = (M.make r p move).2 := by first | (rw [hD]; done) | (rw [hD]; rfl)
  refine zS <| Qb ?_
  refine zw 1 rfl rfl rfl ?_
  refine Qa rfl <| JL.nil ?_
  exact zro x6
 have hns : ¬ (r.slam = 1 ∧ M.slams r (M.sowMove r p move).2.1 p.player = true) := by simpa using h12
 refine Js.skip <| zS <| Qm rfl <| Qm rfl <| Qc rfl <| Qf fh rfl <| QC ((hr4.vis x6.vis) 2 _ rfl) rfl <| zc rfl (fun w hw => c_spec_l06Take r ((M.sowMove r p move).2.1) p.player (ok_ hw) (ok_ hw) (r3 := hG)) ?_
 intro A14 c14 bl14 bh14 A15 c15 bl15 bh15
 refine za zeh fun b16 => zw 0 rfl rfl rfl ?_
 refine zJ <| Js.seq ?_
 refine zdr [] ?_
 refine JH.p 0 rfl (p_move rfl) ?_
 refine JH.p 1 rfl (p_move rfl) ?_
 refine y1 2 ?_
 refine yv rfl rfl (fun w hw => c_spec_l07Feed r p (ok_ hw) (ok_ hw) (r0 := hok)) ?_
 refine JH.p 3 rfl (p_move rfl) ?_
 refine JH.pg 4 rfl (Gd.t1 rfl rfl rfl) (fun hc => p_move rfl) ?_
 refine JH.pg 5 rfl (Gd.t1 rfl rfl rfl) (fun hc => p_fieldAddr fld_137_0.h rfl) ?_
 refine JH.qg 6 rfl (Gd.t1 rfl rfl rfl) (fun hc => q_load1 ty_24.h (gvt rfl hc) (Mem.box (i := 0) rfl rfl)) ?_
 refine JH.pg 7 rfl (Gd.t1 rfl rfl rfl) (fun hc => p_move rfl) ?_
 refine JH.pg 8 rfl (Gd.t1 rfl rfl rfl) (fun hc => p_nilCheck (gvt rfl hc)) ?_
 refine JH.pg 9 rfl (Gd.t1 rfl rfl rfl) (fun hc => p_fieldAddr fld_34_2.h (gvt rfl hc)) ?_
 refine JH.wg 10 rfl (Gd.t1 rfl rfl rfl) (fun hc os' u' hv => q_load1 ty_2.h (gvt rfl hc) (Mem.pub ((hr4.vis (x6.vis.trans hv)) 2 _ rfl))) ?_
 refine JH.pg 11 rfl (Gd.t1 rfl rfl rfl) (fun hc => p_sub rfl (gvt rfl hc) (IntWalk.i64_in _ (by omega))) ?_
 refine y1 12 ?_
 refine JHo.ge rfl (Gd.t1 rfl rfl rfl) (fun hc => e_callV fn_129.h (opds_3 (gvt rfl hc) (gvt rfl hc) (gvt rfl hc)) (fun w hw => c_spec_l04Side r ((M.take r ((M.sowMove r p move).2.1) p.player).pits) (1 - p.player) (ok_ hw) (ok_ hw) (r4 := hao.1))) ?_
 refine JH.pg 13 rfl (Gd.t1 rfl rfl rfl) (fun hc => p_eql (gvt rfl hc) rfl) ?_
 refine JH.p 14 rfl (p_pickAnd rfl rfl rfl) ?_
 refine yd ?_
 refine zi (fun h17 h17' => ?_) fun h17 h17' => ?_
 ·
  have hD := M.make_feed hz hns (by simpa using h17)
  have hq0 : 0 = ((M.make r p move).1).move := by first | (rw [hD]; done) | (rw [hD]; rfl)
  have hq1 : 0 = ((M.make r p move).1).gain := by first | (rw [hD]; done) | (rw [hD]; rfl)
  have hq2 : false = ((M.make r p move).1).again := by first | (rw [hD]; done) | (rw [hD]; rfl)
  have hq3 : [] = (((M.make r p move).1).next).pits := by first | (rw [hD]; done) | (rw [hD]; rfl)
  have hq4 : [] = (((M.make r p move).1).next).stores := by first | (rw [hD]; done) | (rw [hD]; rfl)
  have hq5 : 0 = (((M.make r p move).1).next).player := by first | (rw [hD]; done) | (rw [hD]; rfl)
  have hq6 : 9 = (M.make r p move).2 := by first | (rw [hD]; done) | (rw [hD]; rfl)
  refine zS <| Qb ?_
  refine zw 4 rfl rfl rfl ?_
  refine Qa rfl <| JL.nil ?_
  exact zro x6
 have hD := M.make_go hz hns (by simpa using h17)
 refine Js.skip <| Js.seq ?_
 refine zk [1, 6, 11] (fun F U l os u => ∃ (b21 b19 : Nat), l = F [(12, .pointer (some ⟨b21, 0, none⟩))] ∧ os = [boxO b21 [.int .i64 move, .int .i64 ((M.getI ((M.take r ((M.sowMove r p move).2.1) p.player).stores) p.player) - (M.nth p.stores p.player.toNat)), .bool (r.again && (decide ((M.take r ((M.sowMove r p move).2.1) p.player).last = (-1)))), .slice none 0 0, .slice none 0 0, .int .i64 0] 87] ++ U [some (boxO b16 [.slice A14 (((M.take r ((M.sowMove r p move).2.1) p.player).pits).length) c14, .slice (some ⟨b19, 0, none⟩) (((M.take r ((M.sowMove r p move).2.1) p.player).stores).length) c15, .int .i64 ((M.take r ((M.sowMove r p move).2.1) p.player).last), .int .i64 ((M.take r ((M.sowMove r p move).2.1) p.player).laps)] 137), some (rowO 2 1 (.slice (some ⟨b19, 0, none⟩) (((M.take r ((M.sowMove r p move).2.1) p.player).stores).length) c15) (((M.take r ((M.sowMove r p move).2.1) p.player).stores).length) (ints_ ((M.take r ((M.sowMove r p move).2.1) p.player).stores)) [])]) ?_ ?_
 ·
  refine zdr [31] ?_
  refine JH.p 0 rfl (p_move rfl) ?_
  refine JH.p 1 rfl (p_fieldAddr fld_137_1.h rfl) ?_
  refine JH.q 2 rfl (q_load1 ty_24.h rfl (Mem.box (i := 0) rfl rfl)) ?_
  refine JH.p 3 rfl (p_move rfl) ?_
  refine JH.p 4 rfl (p_nilCheck rfl) ?_
  refine JH.p 5 rfl (p_fieldAddr fld_34_2.h rfl) ?_
  refine JH.w 6 rfl (fun os' u' hv => q_load1 ty_2.h rfl (Mem.pub ((hr4.vis (x6.vis.trans hv)) 2 _ rfl))) ?_
  refine JH.fact (row_some (i := 1) rfl (by omega)) (fun hf25 => ?_)
  obtain ⟨b25, rfl⟩ := hf25
  refine JH.p 7 rfl (p_indexAddr el_24 rfl rfl (by omega) (by omega) rfl) ?_
  refine JH.q 8 rfl (q_load1 ty_2.h rfl (Mem.row (i := 1) rfl (ints_getI (i := p.player) (by omega)))) ?_
  refine JH.p 9 rfl (p_move rfl) ?_
  refine JH.p 10 rfl (p_nilCheck rfl) ?_
  refine JH.p 11 rfl (p_fieldAddr fld_34_1.h rfl) ?_
  refine JH.w 12 rfl (fun os' u' hv => q_load1 ty_24.h rfl (Mem.pub ((hr4.vis (x6.vis.trans hv)) 1 _ rfl))) ?_
  refine JH.p 13 rfl (p_move rfl) ?_
  refine JH.p 14 rfl (p_nilCheck rfl) ?_
  refine JH.p 15 rfl (p_fieldAddr fld_34_2.h rfl) ?_
  refine JH.w 16 rfl (fun os' u' hv => q_load1 ty_2.h rfl (Mem.pub ((hr4.vis (x6.vis.trans hv)) 2 _ rfl))) ?_
  obtain ⟨b26, o26, he26, hc26⟩ := ints_elem (Ty.mono _ h3 x6.vis) (i := p.player.toNat) (by omega)
  refine JH.p 17 rfl (p_indexAddr el_24 rfl rfl (by omega) (by omega) he26) ?_
  refine JH.w 18 rfl (fun os' u' hv => q_load1 ty_2.h rfl (Mem.pub (hc26.vis hv))) ?_
  refine JH.p 19 rfl (p_sub rfl rfl (IntWalk.i64_in _ (by omega))) ?_
  refine JH.p 20 rfl (p_move rfl) ?_
  refine JH.p 21 rfl (p_nilCheck rfl) ?_
  refine JH.p 22 rfl (p_fieldAddr fld_33_6.h rfl) ?_
  refine JH.w 23 rfl (fun os' u' hv => q_load1 ty_4.h rfl (Mem.pub ((hr1.vis (x6.vis.trans hv)) 6 _ rfl))) ?_
  refine JH.p 24 rfl (p_move rfl) ?_
  refine JH.pg 25 rfl (Gd.t1 rfl rfl rfl) (fun hc => p_fieldAddr fld_137_2.h rfl) ?_
  refine y2 26 30 ?_ ?_
  ·
   refine JHo.qg rfl (Gd.t1 rfl rfl rfl) (fun hc => q_load1 ty_2.h (gvt rfl hc) (Mem.box (i := 0) rfl rfl)) ?_
   refine JH.pg 27 rfl (Gd.t1 rfl rfl rfl) (fun hc => p_eql (gvt rfl hc) rfl) ?_
   refine JH.p 28 rfl (p_pickAnd rfl rfl rfl) ?_
   refine JH.p 29 rfl (q_bld) ?_
   refine y1 30 ?_
   refine ya rfl fun b27 => ?_
   refine y1 31 ?_
   refine yst rfl rfl rfl ?_
   refine yd ?_
   exact zm ⟨_, _, rfl, rfl⟩ (Up.refl _ _)
  refine ya rfl fun b28 => ?_
  refine y1 26 ?_
  refine JHo.qg rfl (Gd.t1 rfl rfl rfl) (fun hc => q_load1 ty_2.h (gvt rfl hc) (Mem.box (i := 1) rfl rfl)) ?_
  refine JH.pg 27 rfl (Gd.t1 rfl rfl rfl) (fun hc => p_eql (gvt rfl hc) rfl) ?_
  refine JH.p 28 rfl (p_pickAnd rfl rfl rfl) ?_
  refine JH.p 29 rfl (q_bld) ?_
  refine y1 31 ?_
  refine yst rfl rfl rfl ?_
  refine yd ?_
  exact zm ⟨_, _, rfl, rfl⟩ (Up.refl _ _)
 rintro _ _ u23 ⟨b21, b19, rfl, rfl⟩ x23
 refine zn ?_
 refine Js.seq ?_
 refine zdr [11] ?_
 refine JH.p 0 rfl (p_fieldAddr fld_137_0.h rfl) ?_
 refine JH.q 1 rfl (q_load1 ty_24.h rfl (Mem.box (i := 1) rfl rfl)) ?_
 refine JH.p 2 rfl (p_fieldAddr fld_137_1.h rfl) ?_
 refine JH.q 3 rfl (q_load1 ty_24.h rfl (Mem.box (i := 1) rfl rfl)) ?_
 refine JH.p 4 rfl (p_move rfl) ?_
 refine JH.p 5 rfl (p_nilCheck rfl) ?_
 refine JH.p 6 rfl (p_fieldAddr fld_34_2.h rfl) ?_
 refine JH.w 7 rfl (fun os' u' hv => q_load1 ty_2.h rfl (Mem.pub ((hr4.vis ((x6.vis.trans x23.vis).trans hv)) 2 _ rfl))) ?_
 refine JH.p 8 rfl (p_sub rfl rfl (IntWalk.i64_in _ (by omega))) ?_
 refine JH.p 9 rfl (q_bld) ?_
 refine JH.p 10 rfl (p_fieldAddr fld_87_3.h rfl) ?_
 refine y1 11 ?_
 refine yst rfl rfl rfl ?_
 refine yd ?_
 refine Js.seq <| zS <| Qf fh rfl <| Q0 0 rfl rfl rfl <| JL.nil ?_
 refine zi (fun h29 h29' => ?_) fun h29 h29' => ?_
 ·
  unfold M.resOf at hD
  rw [if_pos h29] at hD
  have hq0 : move = ((M.make r p move).1).move := by first | (rw [hD]; done) | (rw [hD]; rfl)
  have hq1 : ((M.getI ((M.take r ((M.sowMove r p move).2.1) p.player).stores) p.player) - (M.nth p.stores p.player.toNat)) = ((M.make r p move).1).gain := by first | (rw [hD]; done) | (rw [hD]; rfl)
  have hq2 : (r.again && (decide ((M.take r ((M.sowMove r p move).2.1) p.player).last = (-1)))) = ((M.make r p move).1).again := by first | (rw [hD]; done) | (rw [hD]; rfl)
  have hq3 : ((M.take r ((M.sowMove r p move).2.1) p.player).pits) = (((M.make r p move).1).next).pits := by first | (rw [hD]; done) | (rw [hD]; rfl)
  have hq4 : ((M.take r ((M.sowMove r p move).2.1) p.player).stores) = (((M.make r p move).1).next).stores := by first | (rw [hD]; done) | (rw [hD]; rfl)
  have hq5 : p.player = (((M.make r p move).1).next).player := by first | (rw [hD]; done) | (rw [hD]; rfl)
  have hq6 : 0 = (M.make r p move).2 := by first | (rw [hD]; done) | (rw [hD]; rfl)
  refine Js.region <| Qm rfl <| Qc rfl <| Qf fh rfl <| QC ((hr4.vis (x6.vis.trans x23.vis)) 2 _ rfl) rfl <| Qf fh rfl <| Qf fh rfl <| zw 0 rfl rfl rfl ?_
  refine zN <| Q9 0 rfl rfl ?_
  refine zw 5 rfl rfl rfl ?_
  refine Qa rfl <| JL.nil ?_
  exact zro (x6.trans x23)
 unfold M.resOf at hD
 rw [if_neg (by simpa using h29)] at hD
 have hq0 : move = ((M.make r p move).1).move := by first | (rw [hD]; done) | (rw [hD]; rfl)
 have hq1 : ((M.getI ((M.take r ((M.sowMove r p move).2.1) p.player).stores) p.player) - (M.nth p.stores p.player.toNat)) = ((M.make r p move).1).gain := by first | (rw [hD]; done) | (rw [hD]; rfl)
 have hq2 : (r.again && (decide ((M.take r ((M.sowMove r p move).2.1) p.player).last = (-1)))) = ((M.make r p move).1).again := by first | (rw [hD]; done) | (rw [hD]; rfl)
 have hq3 : ((M.take r ((M.sowMove r p move).2.1) p.player).pits) = (((M.make r p move).1).next).pits := by first | (rw [hD]; done) | (rw [hD]; rfl)
 have hq4 : ((M.take r ((M.sowMove r p move).2.1) p.player).stores) = (((M.make r p move).1).next).stores := by first | (rw [hD]; done) | (rw [hD]; rfl)
 have hq5 : (1 - p.player) = (((M.make r p move).1).next).player := by first | (rw [hD]; done) | (rw [hD]; rfl)
 have hq6 : 0 = (M.make r p move).2 := by first | (rw [hD]; done) | (rw [hD]; rfl)
 refine Js.skip <| zS <| Q9 0 rfl rfl ?_
 refine zw 5 rfl rfl rfl ?_
 refine Qa rfl <| JL.nil ?_
 exact zro (x6.trans x23)

end Go.Proofs.YtdhmdaoijnnfjaaDoor

namespace Go.Proofs.YtdhmdaoijnnfjaaDoor
open Go.RowKit

set_option maxHeartbeats 1000000 in
theorem c_spec_l08Run (r : M.Rul) {v_r : Value} (p : M.Pos) {v_p : Value} (moves : List Int) {v_moves : Value} {w : World} (h_r : (Ty.ref (cRules r)).ok w v_r) (h_p : (Ty.ref (cPosition p)).ok w v_p) (h_moves : (Ty.ints 2 moves).ok w v_moves) (r0 : p.pits.length ≤ 4194304 := by exact om_) (r1 : p.stores.length ≤ 4194304 := by exact om_) (r2 : moves.length ≤ 4194304 := by exact om_) : Ret Tryd.prog 47 [v_r, v_p, v_moves] w (Ty.tup [Ty.sl 34 3 (M.hist p (M.runs r p moves)).length (lPosition (M.hist p (M.runs r p moves))), Ty.ints 2 (M.gains (M.runs r p moves))]) := by
 revert v_r; apply opn
 intro b1 o1 hr1
 revert v_p; apply opn
 intro b4 o4 A2 c2 h2 bl2 bh2 A3 c3 h3 bl3 bh3 hr4
 revert v_moves; apply opn
 intro A5 c5 h5 bl5 bh5
 have h_moves := h5
 refine enter @Tryd.func47 @Tryd.ntmps47 rfl rfl ?_
 refine zent ?_
 refine zS <| Qa rfl <| Qa rfl <| zN <| Qm rfl <| zcs rfl (fun w hw => c_spec_l04Own p (ok_ hw)) ?_
 intro A6_0 c6_0 bl6_0 bh6_0 A6_1 c6_1 bl6_1 bh6_1 f6
 refine zbs fun b7 => ?_
 refine Qa rfl <| zN <| zbs fun b9 => ?_
 refine Qa rfl <| zN <| Qm rfl <| zp rfl (fun w hw => c_spec_l04Own p (ok_ hw)) ?_
 intro u11 x11 A12 c12 h12 bl12 bh12 A13 c13 h13 bl13 bh13
 refine za zeh fun b14 => zw 0 rfl rfl rfl ?_
 refine zJ <| zS <| Qa rfl <| JL.nil <| Js.block ?_
 refine Js.vals (Ts := lPosition []) (vs := []) (fun w => rfl) ?_
 refine Js.joinL (i := 0) (j := 3) (Vs := lPosition ([] ++ [p])) rfl rfl (lPosition_snoc _ _) (fun f17 => ?_)
 refine zn ?_
 refine zl [0, 2, 10] (fun F U l os u m => ∃ (k : Nat) (now : M.Pos) (made : List M.Res) (out : List M.Pos) (gains : List Int) (A15_8 : Option Addr) (c15_8 : Nat) (g15_8 : List Nat) (vs15_8 : List Value) (fl15_8 : List Nat) (A15_9 : Option Addr) (c15_9 : Nat) (g15_9 : List Nat) (A15_10_0 : Option Addr) (c15_10_0 : Nat) (A15_10_1 : Option Addr) (c15_10_1 : Nat), l = F [(8, .slice A15_8 out.length c15_8), (9, .slice A15_9 gains.length c15_9), (11, .int .i64 (k : Int))] ∧ os = U [some (ownC (lPosition out) vs15_8 fl15_8), some (boxO b14 [.slice A15_10_0 now.pits.length c15_10_0, .slice A15_10_1 now.stores.length c15_10_1, .int .i64 now.player] 34), some (rowO 2 1 (.slice A15_9 gains.length c15_9) gains.length (ints_ gains) g15_9), some (rowO 34 3 (.slice A15_8 out.length c15_8) out.length vs15_8 g15_8)] ∧ (M.Run r p moves k now made) ∧ (out = M.hist p made) ∧ (gains = M.gains made) ∧ (now.pits.length ≤ 4194304) ∧ (now.stores.length ≤ 4194304) ∧ (out.length ≤ c15_8) ∧ (c15_8 ≤ 9223372036854775807) ∧ (gains.length ≤ c15_9) ∧ (c15_9 ≤ 9223372036854775807) ∧ ((Ty.ints 2 now.pits).ok u (.slice A15_10_0 now.pits.length c15_10_0)) ∧ (now.pits.length ≤ c15_10_0) ∧ (c15_10_0 ≤ 9223372036854775807) ∧ ((Ty.ints 2 now.stores).ok u (.slice A15_10_1 now.stores.length c15_10_1)) ∧ (now.stores.length ≤ c15_10_1) ∧ (c15_10_1 ≤ 9223372036854775807) ∧ m = moves.length - k) ⟨0, p, [], [p], [], _, _, _, _, _, _, _, _, _, _, _, _, rfl, rfl, by exact M.Run.zero _ _ _, by rfl, by rfl, zt, zt, zu, zu, zu, zu, h12, zu, zu, h13, zu, zu, rfl⟩ ?_
 rintro _ _ u15 _ ⟨k, now, made, out, gains, A15_8, c15_8, g15_8, vs15_8, fl15_8, A15_9, c15_9, g15_9, A15_10_0, c15_10_0, A15_10_1, c15_10_1, rfl, rfl, hR, hO, hGn, n0, n1, f15_5, f15_6, f15_7, f15_8, f15_9, f15_10, f15_11, f15_12, f15_13, f15_14, rfl⟩ x15
 refine zn ?_
 have hl1 := hR.len
 have hl3 := hR.le
 have hlO : out.length = made.length + 1 := by rw [hO]; simp
 have hlG : gains.length = made.length := by rw [hGn]; simp [M.gains]
 refine Js.seq <| zS <| Qm rfl <| Qm rfl <| Qz rfl <| Ql rfl rfl <| JL.nil ?_
 refine zi (fun h18 h18' => ?_) fun h18 h18' => ?_
 ·
  obtain ⟨b19, o19, he19, hc19⟩ := ints_elem (Ty.mono _ h5 (x11.vis.trans x15.vis)) (i := k) (by omega)
  refine Js.skip <| Js.seq <| Js.block <| zS <| Qm rfl <| Qm rfl <| Qm rfl <| Qq (p_indexAddr el_24 rfl rfl (by omega) (by omega) he19) <| QC hc19 rfl <| zp rfl (fun w hw => c_spec_l07Make r now (M.nth moves k) (ok_ hw) (ok_ hw)) ?_
  intro u20 x20 A21 c21 h21 bl21 bh21 A22 c22 h22 bl22 bh22
  refine Qm rfl <| Qx rfl rfl <| Qx rfl rfl <| za zeh fun b23 => zw 0 rfl rfl rfl ?_
  refine Qa rfl <| zJ <| zS <| Qm rfl <| Qd rfl rfl <| JL.nil ?_
  refine zi (fun h24 h24' => ?_) fun h24 h24' => ?_
  ·
   have hE := (hR.fail (by omega) (by simpa using h24)).1
   have hq0 : out = M.hist p (M.runs r p moves) := by first | (rw [hE]; exact hO) | (rw [hE]; exact hGn)
   have hq1 : gains = M.gains (M.runs r p moves) := by first | (rw [hE]; exact hO) | (rw [hE]; exact hGn)
   refine zS <| Qm rfl <| Qm rfl <| Qa rfl <| Qa rfl <| JL.nil ?_
   exact zro ((x11.trans x15).trans x20)
  have hm : (M.make r now (M.nth moves k)).2 = 0 := by simpa using h24
  have hR2 := hR.step (by omega) hm
  have hl2 := M.okP_len (M.make_ok hm).2.2.2.1
  refine Js.skip <| zS <| Qf fh rfl <| Q9 0 rfl rfl ?_
  refine zw 2 rfl rfl rfl ?_
  refine zN <| Qm rfl <| zcs rfl (fun w hw => c_spec_l04Own (((M.make r now (M.nth moves k)).1).next) (ok_ hw)) ?_
  intro A25_0 c25_0 bl25_0 bh25_0 A25_1 c25_1 bl25_1 bh25_1 f25
  refine zbs fun b26 => ?_
  refine JL.e (e_append (i := 6) (n' := (out ++ [(((M.make r now (M.nth moves k)).1).next)]).length) (vs' := vs15_8 ++ [.slice A25_0 (((((M.make r now (M.nth moves k)).1).next).pits).length) c25_0, .slice A25_1 (((((M.make r now (M.nth moves k)).1).next).stores).length) c25_1, .int .i64 ((((M.make r now (M.nth moves k)).1).next).player)]) el_75 rfl rfl rfl rfl (src_row (i := 0) und_75 rfl rfl) (by omega) (by omega) (by first | omega | (simp only [List.length_append, List.length_cons, List.length_nil] <;> omega)) (rfl)) ?_
  rintro v28 _ _ ⟨⟨g29, rfl⟩, rfl⟩ _
  refine JL.fact (row_form' (i := 6) rfl) (fun hf30 => ?_)
  obtain ⟨A30, c30, rfl, bl30, bh30⟩ := hf30
  refine znl ?_
  refine Qa rfl <| JL.nil ?_
  refine Js.joinL (i := 3) (j := 1) (Vs := lPosition (out ++ [(((M.make r now (M.nth moves k)).1).next)])) rfl rfl (lPosition_snoc _ _) (fun f32 => ?_)
  refine zn ?_
  refine Js.region <| Qm rfl <| Qf fh rfl <| Q0 2 rfl rfl rfl <| zbs fun b33 => ?_
  refine JL.e (e_append (i := 5) (n' := (gains ++ [(((M.make r now (M.nth moves k)).1).gain)]).length) (vs' := ints_ (gains ++ [(((M.make r now (M.nth moves k)).1).gain)])) el_24 rfl rfl rfl rfl (src_row (i := 0) und_24 rfl rfl) (by omega) (by omega) (by first | omega | (simp only [List.length_append, List.length_cons, List.length_nil] <;> omega)) (by simp [ints_])) ?_
  rintro v35 _ _ ⟨⟨g36, rfl⟩, rfl⟩ _
  refine JL.fact (row_form' (i := 5) rfl) (fun hf37 => ?_)
  obtain ⟨A37, c37, rfl, bl37, bh37⟩ := hf37
  refine znl ?_
  refine Qa rfl <| JL.nil <| Js.blockEnd <| Js.region <| Qm rfl <| Qp rfl rfl <| Qa rfl <| JL.nil ?_
  refine zd [1, 3, 3, 3] rfl fun u38 x38 => ?_
  exact zag ⟨k + 1, (((M.make r now (M.nth moves k)).1).next), made ++ [(M.make r now (M.nth moves k)).1], out ++ [(((M.make r now (M.nth moves k)).1).next)], gains ++ [(((M.make r now (M.nth moves k)).1).gain)], _, _, _, _, _, _, _, _, _, _, _, _, rfl, rfl, by exact hR2, by rw [hO]; exact (M.hist_snoc _ _ _).symm, by rw [hGn]; simp [M.gains], by exact hl2.1, by exact hl2.2, zu, zu, zu, zu, (Ty.mono _ h21 x38.vis), zu, zu, (Ty.mono _ h22 x38.vis), zu, zu, rfl⟩ ((x15.trans x20).trans x38)
 have hE := (hR.done (by have := h18'; omega)).1
 refine zx ?_
 have hq0 : out = M.hist p (M.runs r p moves) := by first | (rw [hE]; exact hO) | (rw [hE]; exact hGn)
 have hq1 : gains = M.gains (M.runs r p moves) := by first | (rw [hE]; exact hO) | (rw [hE]; exact hGn)
 refine zS <| Qm rfl <| Qm rfl <| Qa rfl <| Qa rfl <| JL.nil ?_
 exact zro (x11.trans x15)

set_option maxHeartbeats 1000000 in
theorem c_spec_l08Ok (g : M.Gam) {v_g : Value} {w : World} (h_g : (Ty.ref (cGame g)).ok w v_g) (r0 : g.start.pits.length ≤ 4194304 := by exact om_) (r1 : g.start.stores.length ≤ 4194304 := by exact om_) (r2 : g.moves.length ≤ 4194304 := by exact om_) (r3 : g.now.pits.length ≤ 4194304 := by exact om_) (r4 : g.now.stores.length ≤ 4194304 := by exact om_) : RetV Tryd.prog 46 [v_g] w (.bool (M.okG g)) := by
 revert v_g; apply opn
 intro b6 o6 A1 c1 h1 bl1 bh1 A2 c2 h2 bl2 bh2 A3 c3 h3 bl3 bh3 A4 c4 h4 bl4 bh4 A5 c5 h5 bl5 bh5 hr6
 refine enter @Tryd.func46 @Tryd.ntmps46 rfl rfl ?_
 refine zent ?_
 refine zS <| Qa rfl <| zJ <| Js.seq ?_
 refine zdr [] ?_
 refine JH.p 0 rfl (p_move rfl) ?_
 refine JH.p 1 rfl (p_nilCheck rfl) ?_
 refine JH.p 2 rfl (p_fieldAddr fld_36_0.h rfl) ?_
 refine JH.p 3 rfl (p_move rfl) ?_
 refine JH.p 4 rfl (p_nilCheck rfl) ?_
 refine JH.p 5 rfl (p_fieldAddr fld_36_1.h rfl) ?_
 refine y1 6 ?_
 refine yv rfl rfl (fun w hw => c_spec_l04Ok g.rules g.start (ok_ hw) (ok_ hw)) ?_
 refine JH.p 7 rfl (p_not rfl) ?_
 refine JH.p 8 rfl (p_move rfl) ?_
 refine JH.pg 9 rfl (Gd.f1 rfl rfl rfl) (fun hc => p_move rfl) ?_
 refine JH.pg 10 rfl (Gd.f1 rfl rfl rfl) (fun hc => p_nilCheck (gvt rfl hc)) ?_
 refine JH.pg 11 rfl (Gd.f1 rfl rfl rfl) (fun hc => p_fieldAddr fld_36_2.h (gvt rfl hc)) ?_
 refine JH.wg 12 rfl (Gd.f1 rfl rfl rfl) (fun hc os' u' hv => q_load1 ty_24.h (gvt rfl hc) (Mem.pub ((hr6.vis hv) 12 _ rfl))) ?_
 refine JH.pg 13 rfl (Gd.f1 rfl rfl rfl) (fun hc => p_len el_24 (gvt rfl hc)) ?_
 refine JH.pg 14 rfl (Gd.f1 rfl rfl rfl) (fun hc => p_gtr (gvt rfl hc) rfl) ?_
 refine JH.p 15 rfl (p_pickOr rfl rfl rfl) ?_
 refine JH.p 16 rfl (p_move rfl) ?_
 refine JH.pg 17 rfl (Gd.f1 rfl rfl rfl) (fun hc => p_move rfl) ?_
 refine JH.pg 18 rfl (Gd.f1 rfl rfl rfl) (fun hc => p_nilCheck (gvt rfl hc)) ?_
 refine JH.pg 19 rfl (Gd.f1 rfl rfl rfl) (fun hc => p_fieldAddr fld_36_4.h (gvt rfl hc)) ?_
 refine JH.wg 20 rfl (Gd.f1 rfl rfl rfl) (fun hc os' u' hv => q_load1 ty_2.h (gvt rfl hc) (Mem.pub ((hr6.vis hv) 16 _ rfl))) ?_
 refine y1 21 ?_
 refine JHo.ge rfl (Gd.f1 rfl rfl rfl) (fun hc => e_callV fn_82.h (opds_3 (gvt rfl hc) rfl rfl) (fun w hw => c_spec_l00In g.resigned (-1) 1)) ?_
 refine JH.pg 22 rfl (Gd.f1 rfl rfl rfl) (fun hc => p_not (gvt rfl hc)) ?_
 refine JH.p 23 rfl (p_pickOr rfl rfl rfl) ?_
 refine yd ?_
 refine zi (fun h7 h7' => ?_) fun h7 h7' => ?_
 ·
  refine zS <| Qa rfl <| JL.nil ?_
  refine zR (Up.refl _ _) ?_
  exact congrArg (fun b => Ending.returned (.bool b)) (M.okG_no (by simpa [or_assoc] using h7)).symm
 have ho : M.okP g.rules g.start = true ∧ (g.moves.length : Int) ≤ 120 ∧ M.betw g.resigned (-1) 1 = true := by simpa [and_assoc] using h7
 have hl3 := M.okP_len (M.lastPos_ok _ _ ho.1 (M.runs_ok g.moves _ ho.1))
 have hrl := M.runs_len g.rules g.moves g.start
 have hhl := M.hist_length g.start (M.runs g.rules g.start g.moves)
 refine Js.skip <| Js.seq ?_
 refine zdr [] ?_
 refine JH.p 0 rfl (p_move rfl) ?_
 refine JH.p 1 rfl (p_nilCheck rfl) ?_
 refine JH.p 2 rfl (p_fieldAddr fld_36_0.h rfl) ?_
 refine JH.p 3 rfl (p_move rfl) ?_
 refine JH.p 4 rfl (p_nilCheck rfl) ?_
 refine JH.p 5 rfl (p_fieldAddr fld_36_1.h rfl) ?_
 refine JH.p 6 rfl (p_move rfl) ?_
 refine JH.p 7 rfl (p_nilCheck rfl) ?_
 refine JH.p 8 rfl (p_fieldAddr fld_36_2.h rfl) ?_
 refine JH.w 9 rfl (fun os' u' hv => q_load1 ty_24.h rfl (Mem.pub ((hr6.vis hv) 12 _ rfl))) ?_
 refine y1 10 ?_
 refine yp rfl rfl (fun w hw => c_spec_l08Run g.rules g.start g.moves (ok_ hw) (ok_ hw) (ok_ hw)) ?_
 intro u8 x8 A9 c9 h9 bl9 bh9 A10 c10 h10 bl10 bh10
 refine JH.p 11 rfl (p_move rfl) ?_
 refine JH.p 12 rfl (p_extract rfl rfl) ?_
 refine JH.p 13 rfl (p_extract rfl rfl) ?_
 refine JH.p 14 rfl (p_assign rfl) ?_
 refine JH.p 15 rfl (p_assign rfl) ?_
 refine yd ?_
 refine Js.seq ?_
 refine zdr [] ?_
 refine JH.p 0 rfl (p_move rfl) ?_
 refine JH.p 1 rfl (p_len el_24 rfl) ?_
 refine JH.p 2 rfl (p_move rfl) ?_
 refine JH.p 3 rfl (p_nilCheck rfl) ?_
 refine JH.p 4 rfl (p_fieldAddr fld_36_2.h rfl) ?_
 refine JH.w 5 rfl (fun os' u' hv => q_load1 ty_24.h rfl (Mem.pub ((hr6.vis (x8.vis.trans hv)) 12 _ rfl))) ?_
 refine JH.p 6 rfl (p_len el_24 rfl) ?_
 refine JH.p 7 rfl (p_eql rfl rfl) ?_
 refine JH.p 8 rfl (p_move rfl) ?_
 refine JH.pg 9 rfl (Gd.t1 rfl rfl rfl) (fun hc => p_move rfl) ?_
 refine JH.pg 10 rfl (Gd.t1 rfl rfl rfl) (fun hc => p_move rfl) ?_
 refine JH.pg 11 rfl (Gd.t1 rfl rfl rfl) (fun hc => p_len el_75 (gvt rfl hc)) ?_
 refine JH.pg 12 rfl (Gd.t1 rfl rfl rfl) (fun hc => p_sub (gvt rfl hc) rfl (IntWalk.i64_in _ (by have hc9 := hc; (try simp only [decide_eq_true_eq] at hc9); omega))) ?_
 obtain ⟨y11, hy11⟩ : ∃ x, (M.hist g.start (M.runs g.rules g.start g.moves))[((((M.hist g.start (M.runs g.rules g.start g.moves)).length) : Int) - 1).toNat]? = some x := ⟨_, List.getElem?_eq_getElem (by omega)⟩
 obtain ⟨b11, o11, A11_0, c11_0, A11_1, c11_1, he11, hr11, h11_0, h11_1, bl11_0, bh11_0, bl11_1, bh11_1⟩ := elem_Position h9 hy11
 refine JH.pg 13 rfl (Gd.t1 rfl rfl rfl) (fun hc => p_indexAddr el_75 (gvt rfl hc) (gvt rfl hc) (by omega) (by omega) he11) ?_
 refine JH.pg 14 rfl (Gd.t1 rfl rfl rfl) (fun hc => p_move rfl) ?_
 refine JH.pg 15 rfl (Gd.t1 rfl rfl rfl) (fun hc => p_nilCheck (gvt rfl hc)) ?_
 refine JH.pg 16 rfl (Gd.t1 rfl rfl rfl) (fun hc => p_fieldAddr fld_36_3.h (gvt rfl hc)) ?_
 refine y1 17 ?_
 refine JHo.ge rfl (Gd.t1 rfl rfl rfl) (fun hc => e_callV fn_86.h (opds_2 (gvt rfl hc) (gvt rfl hc)) (fun w hw => c_spec_l04Same y11 g.now (ok_ hw) (ok_ hw) (r0 := (M.last_len (M.hist_last g.start (M.runs g.rules g.start g.moves)) hy11 (by omega) hl3).1) (r1 := (M.last_len (M.hist_last g.start (M.runs g.rules g.start g.moves)) hy11 (by omega) hl3).2) (r2 := (by have hc9 := hc; (try simp only [decide_eq_true_eq] at hc9); omega)) (r3 := (by have hc9 := hc; (try simp only [decide_eq_true_eq] at hc9); omega)))) ?_
 refine JH.p 18 rfl (p_pickAnd rfl rfl rfl) ?_
 refine JH.p 19 rfl (p_assign rfl) ?_
 refine yd ?_
 refine zR x8 ?_
 simp only [outV, M.gains_length]; rw [M.okG_spec ho.1 ho.2.1 ho.2.2 (by assumption) (by omega)]

end Go.Proofs.YtdhmdaoijnnfjaaDoor

namespace Go.Proofs.YtdhmdaoijnnfjaaDoor
open Go.RowKit

set_option maxHeartbeats 1000000 in
theorem c_spec_l01Dec (n : Int) {w : World} (r0 : -9223372036854775808 ≤ n := by exact om_) (r1 : n ≤ 9223372036854775807 := by exact om_) : RetV Tryd.prog 84 [.int .i64 n] w (.string (sB (M.dec n))) := by
 refine enter @Tryd.func84 @Tryd.ntmps84 rfl rfl ?_
 refine zent ?_
 refine zS <| Qa rfl <| zN <| zbs fun b1 => ?_
 refine Qa rfl <| zJ <| zS <| Qm rfl <| Qa rfl <| JL.nil <| Js.block ?_
 refine zl [0] (fun F U l os u m => ∃ (k : Int) (out : List UInt8) (A3_3 : Option Addr) (c3_3 : Nat) (g3_3 : List Nat), l = F [(3, .slice A3_3 out.length c3_3), (4, .int .i64 k)] ∧ os = U [some (rowO 5 1 (.slice A3_3 out.length c3_3) out.length (byt_ out) g3_3)] ∧ (M.DecI n k out) ∧ (-9223372036854775808 ≤ k) ∧ (k ≤ 9223372036854775807) ∧ (out.length ≤ c3_3) ∧ (c3_3 ≤ 9223372036854775807) ∧ m = k.natAbs) ⟨n, ([] : List UInt8), _, _, _, rfl, rfl, by exact M.DecI.zero n, zt, zt, zu, zu, rfl⟩ ?_
 rintro _ _ u3 _ ⟨k, out, A3_3, c3_3, g3_3, rfl, rfl, hD, hk0, hk1, f3_3, f3_4, rfl⟩ x3
 refine zn ?_
 obtain ⟨t1, t2, t3, t4⟩ := M.tdiv10_bd hk0 hk1
 have hol := hD.len r0 r1
 obtain ⟨t5, t6⟩ := M.tdiv10 k
 refine Js.seq <| zS <| Qm rfl <| Qd rfl rfl <| JL.nil ?_
 refine zi (fun h4 h4' => ?_) fun h4 h4' => ?_
 ·
  have hkn : k ≠ 0 := by simpa using h4
  refine Js.skip <| Js.seq <| Js.block <| zS <| Qm rfl <| Qq (p_rem rfl rfl (by omega) rfl) <| Qa rfl <| zJ <| zS <| Qm rfl <| Ql rfl rfl <| JL.nil ?_
  refine zi (fun h5 h5' => ?_) fun h5 h5' => ?_
  ·
   have hd9 := h5'
   have hD2 := hD.step (d := -k.tmod 10) hkn (by omega)
   have hu8 : ((M.u8 (48 + (-(k.tmod 10)))).toNat : Int) = 48 + (-(k.tmod 10)) := M.u8_val (by omega) (by omega)
   refine Js.region <| Qm rfl <| Qq (p_neg (r := -(k.tmod 10)) rfl (by rw [Int.zero_sub]; exact IntWalk.i64_in _ (by omega))) <| Qa rfl <| zG <| Qm rfl <| Qp rfl rfl <| Qq (p_conv @Tryd.underlying2 @Tryd.underlying5 rfl (IntWalk.u8_in _ (by omega))) <| zbs fun b6 => ?_
   refine Qm rfl ?_
   refine JL.e (e_append (i := 0) (n' := (([M.u8 (48 + (-(k.tmod 10)))] : List UInt8) ++ out).length) (vs' := byt_ (([M.u8 (48 + (-(k.tmod 10)))] : List UInt8) ++ out)) el_57 rfl rfl rfl rfl (src_rowG (i := 1) und_57 rfl (byt_one _)) (by omega) (by omega) (by first | omega | (simp only [List.length_append, List.length_cons, List.length_nil] <;> omega)) (by first | rfl | (simp [byt_, hu8]; done))) ?_
   rintro v9 _ _ ⟨⟨g10, rfl⟩, rfl⟩ _
   refine JL.fact (row_form' (i := 0) rfl) (fun hf11 => ?_)
   obtain ⟨A11, c11, rfl, bl11, bh11⟩ := hf11
   refine znl ?_
   refine Qa rfl <| JL.nil <| Js.blockEnd <| Js.region <| Qm rfl <| Qq (p_quo rfl rfl (by omega) (IntWalk.i64_in _ (by omega))) <| Qa rfl <| JL.nil ?_
   refine zd [0] rfl fun u12 x12 => ?_
   exact zag ⟨k.tdiv 10, ([M.u8 (48 + (-(k.tmod 10)))] : List UInt8) ++ out, _, _, _, rfl, rfl, by exact hD2, zt, zt, zu, zu, rfl⟩ (x3.trans x12)
  have hd9 := h5'
  have hD2 := hD.step (d := k.tmod 10) hkn (by omega)
  have hu15 : ((M.u8 (48 + (k.tmod 10))).toNat : Int) = 48 + (k.tmod 10) := M.u8_val (by omega) (by omega)
  refine Js.skip <| Js.region <| Qm rfl <| Qp rfl rfl <| Qq (p_conv @Tryd.underlying2 @Tryd.underlying5 rfl (IntWalk.u8_in _ (by omega))) <| zbs fun b13 => ?_
  refine Qm rfl ?_
  refine JL.e (e_append (i := 0) (n' := (([M.u8 (48 + (k.tmod 10))] : List UInt8) ++ out).length) (vs' := byt_ (([M.u8 (48 + (k.tmod 10))] : List UInt8) ++ out)) el_57 rfl rfl rfl rfl (src_rowG (i := 1) und_57 rfl (byt_one _)) (by omega) (by omega) (by first | omega | (simp only [List.length_append, List.length_cons, List.length_nil] <;> omega)) (by first | rfl | (simp [byt_, hu15]; done))) ?_
  rintro v16 _ _ ⟨⟨g17, rfl⟩, rfl⟩ _
  refine JL.fact (row_form' (i := 0) rfl) (fun hf18 => ?_)
  obtain ⟨A18, c18, rfl, bl18, bh18⟩ := hf18
  refine znl ?_
  refine Qa rfl <| JL.nil <| Js.blockEnd <| Js.region <| Qm rfl <| Qq (p_quo rfl rfl (by omega) (IntWalk.i64_in _ (by omega))) <| Qa rfl <| JL.nil ?_
  refine zd [0] rfl fun u19 x19 => ?_
  exact zag ⟨k.tdiv 10, ([M.u8 (48 + (k.tmod 10))] : List UInt8) ++ out, _, _, _, rfl, rfl, by exact hD2, zt, zt, zu, zu, rfl⟩ (x3.trans x19)
 have hk9 : k = 0 := by simpa using h4
 subst hk9
 refine zx ?_
 refine Js.seq <| zS <| Qm rfl <| Qz rfl <| Qe rfl rfl <| JL.nil ?_
 refine zi (fun h20 h20' => ?_) fun h20 h20' => ?_
 ·
  have hE := hD.done0 (by have := h20'; omega) r0 r1
  refine zS <| Qa rfl <| JL.nil ?_
  refine zR x3 ?_
  rw [hE]; rfl
 have hl9 : out.length ≠ 0 := by have := h20'; omega
 have lb9 : LenB out 20 := ⟨hol⟩
 refine Js.skip <| Js.seq <| zS <| Qm rfl <| Ql rfl rfl <| JL.nil ?_
 refine zi (fun h21 h21' => ?_) fun h21 h21' => ?_
 ·
  have hE := hD.neg hl9 (by simpa using h21) r0 r1
  refine zS <| Qm rfl <| Qw (q_toStr (i := 0) und_57 @Tryd.underlying5 und_9 rfl rfl) <| Qq (q_cat rfl rfl) <| Qa rfl <| JL.nil ?_
  refine zR x3 ?_
  rw [hE]; rfl
 have hE := hD.pos hl9 (by simpa using h21) r0 r1
 refine Js.skip <| zS <| Qm rfl <| Qw (q_toStr (i := 0) und_57 @Tryd.underlying5 und_9 rfl rfl) <| Qa rfl <| JL.nil ?_
 refine zR x3 ?_
 rw [hE]; rfl

end Go.Proofs.YtdhmdaoijnnfjaaDoor

namespace Go.Proofs.YtdhmdaoijnnfjaaDoor
open Go.RowKit

set_option maxHeartbeats 1000000 in
theorem c_spec_l10Note (pl mv gn : Int) (ag : Bool) {w : World} (r0 : 0 ≤ pl := by exact om_) (r1 : pl ≤ 1 := by exact om_) (r2 : 0 ≤ mv := by exact om_) (r3 : mv ≤ 8 := by exact om_) (r4 : -96 ≤ gn := by exact om_) (r5 : gn ≤ 96 := by exact om_) : RetV Tryd.prog 48 [.int .i64 pl, .int .i64 mv, .int .i64 gn, .bool ag] w (.string (sB (M.noteT pl mv gn ag))) := by
 refine enter @Tryd.func48 @Tryd.ntmps48 rfl rfl ?_
 refine zent ?_
 refine zS <| Qa rfl <| zN <| Qm rfl <| zv rfl (fun w hw => c_spec_l01Dec pl) <| Qq (q_cat rfl rfl) <| Qq (q_cat rfl rfl) <| Qm rfl <| zv rfl (fun w hw => c_spec_l01Dec mv) <| Qq (q_cat rfl rfl) <| Qa rfl <| zJ <| zS <| Qm rfl ?_
 refine Qg rfl rfl <| JL.nil ?_
 refine zi (fun h1 h1' => ?_) fun h1 h1' => ?_
 ·
  have e1 := h1'
  refine Js.region <| Qm rfl <| Qm rfl <| zv rfl (fun w hw => c_spec_l01Dec gn) <| Qq (q_cat rfl rfl) <| Qq (q_cat rfl rfl) <| Qa rfl <| zJ <| zS <| Qm rfl <| JL.nil ?_
  refine zi (fun h2 h2' => ?_) fun h2 h2' => ?_
  ·
   have e2 : ag = true := h2
   refine Js.region <| Qm rfl <| Qq (q_cat rfl rfl) <| Qa rfl <| zN <| Qm rfl <| Qa rfl <| JL.nil ?_
   refine zR (Up.refl _ _) ?_
   first | (rw [M.noteT, if_pos e2, if_pos e1]; rfl) | (rw [M.noteT, if_pos e2, if_neg e1]; rfl) | (rw [M.noteT, if_neg e2, if_pos e1]; rfl) | (rw [M.noteT, if_neg e2, if_neg e1]; rfl)
  have e2 : ¬ ag = true := by simpa using h2
  refine Js.skip <| zS <| Qm rfl <| Qa rfl <| JL.nil ?_
  refine zR (Up.refl _ _) ?_
  first | (rw [M.noteT, if_pos e2, if_pos e1]; rfl) | (rw [M.noteT, if_pos e2, if_neg e1]; rfl) | (rw [M.noteT, if_neg e2, if_pos e1]; rfl) | (rw [M.noteT, if_neg e2, if_neg e1]; rfl)
 have e1 : ¬ 0 < gn := by have := h1'; omega
 refine Js.skip <| Js.seq <| zS <| Qm rfl <| JL.nil ?_
 refine zi (fun h3 h3' => ?_) fun h3 h3' => ?_
 ·
  have e2 : ag = true := h3
  refine Js.region <| Qm rfl <| Qq (q_cat rfl rfl) <| Qa rfl <| zN <| Qm rfl <| Qa rfl <| JL.nil ?_
  refine zR (Up.refl _ _) ?_
  first | (rw [M.noteT, if_pos e2, if_pos e1]; rfl) | (rw [M.noteT, if_pos e2, if_neg e1]; rfl) | (rw [M.noteT, if_neg e2, if_pos e1]; rfl) | (rw [M.noteT, if_neg e2, if_neg e1]; rfl)
 have e2 : ¬ ag = true := by simpa using h3
 refine Js.skip <| zS <| Qm rfl <| Qa rfl <| JL.nil ?_
 refine zR (Up.refl _ _) ?_
 first | (rw [M.noteT, if_pos e2, if_pos e1]; rfl) | (rw [M.noteT, if_pos e2, if_neg e1]; rfl) | (rw [M.noteT, if_neg e2, if_pos e1]; rfl) | (rw [M.noteT, if_neg e2, if_neg e1]; rfl)

set_option maxHeartbeats 4000000 in
theorem c_spec_NotesOn (g : M.Gam) {v_g : Value} {w : World} (h_g : (Ty.agg (cGame g)).ok w v_g) (r0 : g.start.pits.length ≤ 4194304 := by exact om_) (r1 : g.start.stores.length ≤ 4194304 := by exact om_) (r2 : g.moves.length ≤ 4194304 := by exact om_) (r3 : g.now.pits.length ≤ 4194304 := by exact om_) (r4 : g.now.stores.length ≤ 4194304 := by exact om_) : Ret Tryd.prog 8 [v_g] w (Ty.tup [Ty.strs 9 (M.gameNotesR g), Ty.int (M.okC g)]) := by
 revert v_g; apply opn
 intro A1 c1 h1 bl1 bh1 A2 c2 h2 bl2 bh2 A3 c3 h3 bl3 bh3 A4 c4 h4 bl4 bh4 A5 c5 h5 bl5 bh5
 refine enter @Tryd.func8 @Tryd.ntmps8 rfl rfl ?_
 refine zent ?_
 refine zS <| zb rfl fun b6 => Qa rfl <| Qa rfl <| zJ <| zS <| zv rfl (fun w hw => c_spec_l08Ok g (ok_ hw)) <| Qt rfl <| JL.nil ?_
 refine zi (fun h7 h7' => ?_) fun h7 h7' => ?_
 ·
  have hno : M.okG g = false := by simpa using h7
  have hC := M.okC_no hno
  have hE := M.gameNotesR_no hno
  have hq0 : [] = M.gameNotesR g := by first | (rw [hE]; done) | (rw [hC]; done)
  have hq1 : 1 = M.okC g := by first | (rw [hE]; done) | (rw [hC]; done)
  refine zS <| Qa rfl <| Qa rfl <| JL.nil ?_
  exact zro (Up.refl _ _) (g := by exact (gv_tup (gvc (gv_strsN (by first | rfl | assumption)) (gvc gv_ gvn))))
 have hok : M.okG g = true := by simpa using h7
 have hC := M.okC_yes hok
 obtain ⟨k1, k2, k3, k4, k5, k6, k7, k8, k9⟩ := M.okG_parts hok
 have kh : (M.hist g.start (M.runs g.rules g.start g.moves)).length = g.moves.length + 1 := by rw [M.hist_length, k8]
 have kl := M.okP_len k1
 have kg : (M.gains (M.runs g.rules g.start g.moves)).length = g.moves.length := by rw [M.gains_length, k8]
 refine Js.skip <| zS <| Qf fh rfl <| Qf fh rfl <| Qf fh rfl <| Q0 0 rfl rfl rfl <| zp rfl (fun w hw => c_spec_l08Run g.rules g.start g.moves ⟨_, _, [.int .i64 g.rules.pits, .int .i64 g.rules.seeds, .bool g.rules.stores, .bool g.rules.skip, .bool g.rules.relay, .bool g.rules.feed, .bool g.rules.again, .int .i64 g.rules.capture, .int .i64 g.rules.slam], rfl, ⟨rfl, rfl, rfl, rfl, rfl, rfl, rfl, rfl, rfl, trivial⟩, Mem.boxR (i := 0) rfl 0 9 _ hw⟩ ⟨_, _, [.slice A1 g.start.pits.length c1, .slice A2 g.start.stores.length c2, .int .i64 g.start.player], rfl, ⟨(ok_ hw), (ok_ hw), rfl, trivial⟩, Mem.boxR (i := 0) rfl 9 3 _ hw⟩ (ok_ hw)) ?_
 intro u8 x8 A9 c9 h9 bl9 bh9 A10 c10 h10 bl10 bh10
 refine Qm rfl <| Qx rfl rfl <| Qx rfl rfl <| Qa rfl <| Qa rfl <| zN <| zbs fun b11 => ?_
 refine Qa rfl <| zJ <| zS <| Qa rfl <| JL.nil <| Js.block ?_
 refine zl [1, 4, 5] (fun F U l os u m => ∃ (k : Nat) (out : List (List UInt8)) (A13_6 : Option Addr) (c13_6 : Nat) (g13_6 : List Nat), l = F [(6, .slice A13_6 out.length c13_6), (7, .int .i64 (k : Int))] ∧ os = U [some (rowO 9 1 (.slice A13_6 out.length c13_6) out.length (txs_ out) g13_6)] ∧ (out = M.notes (((M.hist g.start (M.runs g.rules g.start g.moves)).zip (M.runs g.rules g.start g.moves)).take k)) ∧ (k ≤ g.moves.length) ∧ (out.length = k) ∧ (out.length ≤ c13_6) ∧ (c13_6 ≤ 9223372036854775807) ∧ m = g.moves.length - k) ⟨0, [], _, _, _, rfl, rfl, by rfl, zt, by rfl, zu, zu, rfl⟩ ?_
 rintro _ _ u13 _ ⟨k, out, A13_6, c13_6, g13_6, rfl, rfl, hJ, hk, hl, f13_3, f13_4, rfl⟩ x13
 refine zn ?_
 refine Js.seq <| zS <| Qm rfl <| Qm rfl <| Qz rfl <| Ql rfl rfl <| JL.nil ?_
 refine zi (fun h14 h14' => ?_) fun h14 h14' => ?_
 ·
  obtain ⟨ye15, hye15⟩ : ∃ x, (M.hist g.start (M.runs g.rules g.start g.moves))[k]? = some x := ⟨_, List.getElem?_eq_getElem (by omega)⟩
  have hP := hye15
  obtain ⟨ye16, hye16⟩ : ∃ x, (M.hist g.start (M.runs g.rules g.start g.moves))[k + 1]? = some x := ⟨_, List.getElem?_eq_getElem (by omega)⟩
  obtain ⟨x9, hX, hN⟩ := M.hist_next hye16
  obtain ⟨n1, n2, n3, n4, n5, n6, n7⟩ := M.note_at hP hX
  have hg9 := (M.gains_nth hX).symm
  rw [n6] at n2 n3
  rw [hg9] at n4 n5
  refine Js.skip <| Js.seq <| Js.block <| Js.seq ?_
  refine zdr [] ?_
  refine JH.p 0 rfl (p_move rfl) ?_
  refine JH.p 1 rfl (p_move rfl) ?_
  have hy17 := hye15
  obtain ⟨b17, o17, A17_0, c17_0, A17_1, c17_1, he17, hr17, h17_0, h17_1, bl17_0, bh17_0, bl17_1, bh17_1⟩ := elem_Position (Ty.mono _ h9 x13.vis) hy17
  refine JH.p 2 rfl (p_indexAddr el_75 rfl rfl (by omega) (by omega) he17) ?_
  refine JH.p 3 rfl (p_fieldAddr fld_34_2.h rfl) ?_
  refine JH.w 4 rfl (fun os' u' hv => q_load1 ty_2.h rfl (Mem.pub ((hr17.vis hv) 2 _ rfl))) ?_
  refine JH.p 5 rfl (p_move rfl) ?_
  refine JH.p 6 rfl (p_move rfl) ?_
  refine JH.p 7 rfl (p_add rfl rfl (IntWalk.i64_in _ (by omega))) ?_
  have hy18 := hye16
  obtain ⟨b18, o18, A18_0, c18_0, A18_1, c18_1, he18, hr18, h18_0, h18_1, bl18_0, bh18_0, bl18_1, bh18_1⟩ := elem_Position (Ty.mono _ h9 x13.vis) hy18
  refine JH.p 8 rfl (p_indexAddr el_75 rfl rfl (by omega) (by omega) he18) ?_
  refine JH.p 9 rfl (p_fieldAddr fld_34_2.h rfl) ?_
  refine JH.w 10 rfl (fun os' u' hv => q_load1 ty_2.h rfl (Mem.pub ((hr18.vis hv) 2 _ rfl))) ?_
  refine JH.p 11 rfl (p_eql rfl rfl) ?_
  refine JH.p 12 rfl (p_assign rfl) ?_
  refine yd ?_
  refine zdr [18] ?_
  refine JH.p 0 rfl (p_move rfl) ?_
  refine JH.p 1 rfl (p_move rfl) ?_
  refine JH.p 2 rfl (p_move rfl) ?_
  have hy19 := hye15
  obtain ⟨b19, o19, A19_0, c19_0, A19_1, c19_1, he19, hr19, h19_0, h19_1, bl19_0, bh19_0, bl19_1, bh19_1⟩ := elem_Position (Ty.mono _ h9 x13.vis) hy19
  refine JH.p 3 rfl (p_indexAddr el_75 rfl rfl (by omega) (by omega) he19) ?_
  refine JH.p 4 rfl (p_fieldAddr fld_34_2.h rfl) ?_
  refine JH.w 5 rfl (fun os' u' hv => q_load1 ty_2.h rfl (Mem.pub ((hr19.vis hv) 2 _ rfl))) ?_
  refine JH.p 6 rfl (p_fieldAddr fld_36_2.h rfl) ?_
  refine JH.q 7 rfl (q_load1 ty_24.h rfl (Mem.box (i := 1) rfl rfl)) ?_
  refine JH.p 8 rfl (p_move rfl) ?_
  obtain ⟨b20, o20, he20, hc20⟩ := ints_elem (Ty.mono _ h3 (x8.vis.trans x13.vis)) (i := k) (by omega)
  refine JH.p 9 rfl (p_indexAddr el_24 rfl rfl (by omega) (by omega) he20) ?_
  refine JH.w 10 rfl (fun os' u' hv => q_load1 ty_2.h rfl (Mem.pub (hc20.vis hv))) ?_
  refine JH.p 11 rfl (p_move rfl) ?_
  refine JH.p 12 rfl (p_move rfl) ?_
  obtain ⟨b21, o21, he21, hc21⟩ := ints_elem (Ty.mono _ h10 x13.vis) (i := k) (by omega)
  refine JH.p 13 rfl (p_indexAddr el_24 rfl rfl (by omega) (by omega) he21) ?_
  refine JH.w 14 rfl (fun os' u' hv => q_load1 ty_2.h rfl (Mem.pub (hc21.vis hv))) ?_
  refine JH.p 15 rfl (p_move rfl) ?_
  refine y1 16 ?_
  refine yv rfl rfl (fun w hw => c_spec_l10Note ye15.player (M.nth g.moves k) (M.nth (M.gains (M.runs g.rules g.start g.moves)) k) (decide (ye15.player = ye16.player))) ?_
  refine y1 17 ?_
  refine ybs rfl fun b22 => ?_
  refine y1 18 ?_
  refine JHo.e rfl (e_append (i := 1) (n' := (out ++ [M.noteT ye15.player (M.nth g.moves k) (M.nth (M.gains (M.runs g.rules g.start g.moves)) k) (decide (ye15.player = ye16.player))]).length) (vs' := txs_ (out ++ [M.noteT ye15.player (M.nth g.moves k) (M.nth (M.gains (M.runs g.rules g.start g.moves)) k) (decide (ye15.player = ye16.player))])) el_30 rfl rfl rfl rfl (src_row (i := 0) und_30 rfl rfl) (by omega) (by omega) (by first | omega | (simp only [List.length_append, List.length_cons, List.length_nil] <;> omega)) (by first | rfl | (simp [txs_]; done))) (.inr rfl) ?_
  rintro v24 _ _ ⟨⟨g25, rfl⟩, rfl⟩ _
  refine JH.fact (row_form' (i := 1) rfl) (fun hf26 => ?_)
  obtain ⟨A26, c26, rfl, bl26, bh26⟩ := hf26
  refine znh ?_
  refine JH.p 19 rfl (p_assign rfl) ?_
  refine yd ?_
  refine Js.blockEnd <| Js.region <| Qm rfl <| Qp rfl rfl <| Qa rfl <| JL.nil ?_
  refine zd [1, 1] rfl fun u27 x27 => ?_
  exact zag ⟨k + 1, out ++ [M.noteT ye15.player (M.nth g.moves k) (M.nth (M.gains (M.runs g.rules g.start g.moves)) k) (decide (ye15.player = ye16.player))], _, _, _, rfl, rfl, by rw [← M.notes_step hJ hP hX, n6, hg9, n7, hN], zt, by simp [hl], zu, zu, rfl⟩ (x13.trans x27)
 have hE := (M.notes_end hok hJ (by have := h14'; omega)).symm
 refine zx ?_
 have hq0 : out = M.gameNotesR g := by first | (rw [hE]; done) | (rw [hC]; done)
 have hq1 : 0 = M.okC g := by first | (rw [hE]; done) | (rw [hC]; done)
 refine zS <| Qm rfl <| Qa rfl <| Qa rfl <| JL.nil ?_
 exact zro (x8.trans x13) (g := by exact (gv_tup (gvc (gv_strsE (ys := out) po_ (by assumption) (by rfl)) (gvc gv_ gvn))))

end Go.Proofs.YtdhmdaoijnnfjaaDoor

namespace Go.Proofs.YtdhmdaoijnnfjaaDoor
open Go.RowKit

set_option maxHeartbeats 1000000 in
theorem c_laws_szInt64S (a : List Int) {v_a : Value} (left : Int) {w : World} (h_a : (Ty.ints 2 a).ok w v_a) (r0 : -1 ≤ left := by exact om_) (r1 : left ≤ 1048576 := by exact om_) : RetV Tryd.prog 45 [v_a, .int .i64 left] w (.int .i64 (M.szL a.length left)) := by
 have q1 := M.szL_cases a.length left
 revert v_a; apply opn
 intro A1 c1 h1 bl1 bh1
 have h_a := h1
 refine enter @Tryd.func45 @Tryd.ntmps45 rfl rfl ?_
 refine zent ?_
 refine zS <| Qa rfl <| zN <| Qm rfl <| Qm rfl <| Qz rfl <| Qs rfl rfl <| Qa rfl <| zJ <| zS <| Qm rfl <| Ql rfl rfl <| JL.nil ?_
 refine zi (fun h2 h2' => ?_) fun h2 h2' => ?_
 ·
  refine zS <| Qa rfl <| JL.nil ?_
  refine zR (Up.refl _ _) ?_
  refine congrArg (fun n => Ending.returned (Value.int .i64 n)) ?_; omega
 refine Js.skip <| zS <| Qm rfl <| Qa rfl <| JL.nil ?_
 refine zR (Up.refl _ _) ?_
 refine congrArg (fun n => Ending.returned (Value.int .i64 n)) ?_; omega

set_option maxHeartbeats 1000000 in
theorem c_laws_szPosition (a : M.Pos) {v_a : Value} (left : Int) {w : World} (h_a : (Ty.agg (cPosition a)).ok w v_a) (r0 : -1 ≤ left := by exact om_) (r1 : left ≤ 1048576 := by exact om_) : RetV Tryd.prog 16 [v_a, .int .i64 left] w (.int .i64 (M.szP a left)) := by
 have q1 := M.szL_cases a.pits.length left
 have q2 := M.szL_cases a.stores.length (M.szL a.pits.length left)
 have q3 := M.szL_cases (a.pits.length + a.stores.length) left
 revert v_a; apply opn
 intro A1 c1 h1 bl1 bh1 A2 c2 h2 bl2 bh2
 refine enter @Tryd.func16 @Tryd.ntmps16 rfl rfl ?_
 refine zent ?_
 refine zS <| zb rfl fun b3 => Qa rfl <| zN <| Qf fh rfl <| Q0 0 rfl rfl rfl <| Qm rfl <| zv rfl (fun w hw => c_laws_szInt64S a.pits left (ok_ hw)) <| Qa rfl <| zJ <| zS <| Qm rfl <| Ql rfl rfl <| JL.nil ?_
 refine zi (fun h4 h4' => ?_) fun h4 h4' => ?_
 ·
  refine zS <| Qa rfl <| JL.nil ?_
  refine zR (Up.refl _ _) ?_
  refine congrArg (fun n => Ending.returned (Value.int .i64 n)) ?_; unfold M.szP; omega
 refine Js.skip <| zS <| Qf fh rfl <| Q0 0 rfl rfl rfl <| Qm rfl <| zv rfl (fun w hw => c_laws_szInt64S a.stores (M.szL a.pits.length left) (ok_ hw)) <| Qa rfl <| zJ <| zS <| Qm rfl <| Ql rfl rfl <| JL.nil ?_
 refine zi (fun h5 h5' => ?_) fun h5 h5' => ?_
 ·
  refine zS <| Qa rfl <| JL.nil ?_
  refine zR (Up.refl _ _) ?_
  refine congrArg (fun n => Ending.returned (Value.int .i64 n)) ?_; unfold M.szP; omega
 refine Js.skip <| zS <| Qm rfl <| Qa rfl <| JL.nil ?_
 refine zR (Up.refl _ _) ?_
 refine congrArg (fun n => Ending.returned (Value.int .i64 n)) ?_; unfold M.szP; omega

set_option maxHeartbeats 1000000 in
theorem c_laws_szGame (a : M.Gam) {v_a : Value} (left : Int) {w : World} (h_a : (Ty.agg (cGame a)).ok w v_a) (r0 : -1 ≤ left := by exact om_) (r1 : left ≤ 1048576 := by exact om_) : RetV Tryd.prog 7 [v_a, .int .i64 left] w (.int .i64 (M.szG a left)) := by
 have q1 := M.szL_cases (a.start.pits.length + a.start.stores.length) left
 have q2 := M.szL_cases a.moves.length (M.szP a.start left)
 have q3 := M.szL_cases (a.now.pits.length + a.now.stores.length) (M.szL a.moves.length (M.szP a.start left))
 have q4 := M.szL_cases (a.start.pits.length + a.start.stores.length + a.moves.length + a.now.pits.length + a.now.stores.length) left
 change (left < _ ∧ M.szP a.start left = -1) ∨ (_ ≤ left ∧ M.szP a.start left = left - _) at q1
 change (_ < _ ∧ M.szP a.now _ = -1) ∨ (_ ≤ _ ∧ M.szP a.now _ = _) at q3
 revert v_a; apply opn
 intro A1 c1 h1 bl1 bh1 A2 c2 h2 bl2 bh2 A3 c3 h3 bl3 bh3 A4 c4 h4 bl4 bh4 A5 c5 h5 bl5 bh5
 refine enter @Tryd.func7 @Tryd.ntmps7 rfl rfl ?_
 refine zent ?_
 refine zS <| zb rfl fun b6 => Qa rfl <| zN <| Qf fh rfl <| Q9 0 rfl rfl ?_
 refine Qm rfl <| zv rfl (fun w hw => c_laws_szPosition a.start left (ok_ hw)) <| Qa rfl <| zJ <| zS <| Qm rfl <| Ql rfl rfl <| JL.nil ?_
 refine zi (fun h7 h7' => ?_) fun h7 h7' => ?_
 ·
  refine zS <| Qa rfl <| JL.nil ?_
  refine zR (Up.refl _ _) ?_
  refine congrArg (fun n => Ending.returned (Value.int .i64 n)) ?_; unfold M.szG; omega
 refine Js.skip <| zS <| Qf fh rfl <| Q0 0 rfl rfl rfl <| Qm rfl <| zv rfl (fun w hw => c_laws_szInt64S a.moves (M.szP a.start left) (ok_ hw)) <| Qa rfl <| zJ <| zS <| Qm rfl <| Ql rfl rfl <| JL.nil ?_
 refine zi (fun h8 h8' => ?_) fun h8 h8' => ?_
 ·
  refine zS <| Qa rfl <| JL.nil ?_
  refine zR (Up.refl _ _) ?_
  refine congrArg (fun n => Ending.returned (Value.int .i64 n)) ?_; unfold M.szG; omega
 refine Js.skip <| zS <| Qf fh rfl <| Q9 0 rfl rfl ?_
 refine Qm rfl <| zv rfl (fun w hw => c_laws_szPosition a.now (M.szL a.moves.length (M.szP a.start left)) (ok_ hw)) <| Qa rfl <| zJ <| zS <| Qm rfl <| Ql rfl rfl <| JL.nil ?_
 refine zi (fun h9 h9' => ?_) fun h9 h9' => ?_
 ·
  refine zS <| Qa rfl <| JL.nil ?_
  refine zR (Up.refl _ _) ?_
  refine congrArg (fun n => Ending.returned (Value.int .i64 n)) ?_; unfold M.szG; omega
 refine Js.skip <| zS <| Qm rfl <| Qa rfl <| JL.nil ?_
 refine zR (Up.refl _ _) ?_
 refine congrArg (fun n => Ending.returned (Value.int .i64 n)) ?_; unfold M.szG; omega

set_option maxHeartbeats 1000000 in
theorem c_laws_toInt64S (a : List Int) {v_a : Value} {w : World} (h_a : (Ty.ints 2 a).ok w v_a) (r0 : a.length ≤ 4194304 := by exact om_) : Ret Tryd.prog 49 [v_a] w (Ty.ints 2 a) := by
 revert v_a; apply opn
 intro A1 c1 h1 bl1 bh1
 have h_a := h1
 refine enter @Tryd.func49 @Tryd.ntmps49 rfl rfl ?_
 refine zent ?_
 refine zS <| Qa rfl <| zN <| Qm rfl <| Qz rfl <| zmk (a0 := (a.length : Int)) (m := a.length) (by omega) (by omega) fun b2 => Qa rfl <| zJ <| zS <| Qa rfl <| JL.nil <| Js.block ?_
 refine zl [0, 3] (fun F U l os u m => ∃ (k : Nat) (xs : List Int), l = F [(4, .int .i64 (k : Int))] ∧ os = U [some (rowO 2 1 (.slice (some ⟨b2, 0, none⟩) a.length a.length) a.length (ints_ xs) [])] ∧ (xs = M.cp a k) ∧ (k ≤ a.length) ∧ (xs.length = a.length) ∧ m = a.length - k) ⟨0, List.replicate a.length 0, rfl, rfl, by exact M.cp_zero a, zt, by simp, rfl⟩ ?_
 rintro _ _ u3 _ ⟨k, xs, rfl, rfl, hX, hk, hl, rfl⟩ x3
 refine zn ?_
 refine Js.seq <| zS <| Qm rfl <| Qm rfl <| Qz rfl <| Ql rfl rfl <| JL.nil ?_
 refine zi (fun h4 h4' => ?_) fun h4 h4' => ?_
 ·
  obtain ⟨b5, o5, he5, hc5⟩ := ints_elem (Ty.mono _ h1 x3.vis) (i := k) (by omega)
  refine Js.skip <| Js.seq <| Js.block <| Js.region <| Qm rfl <| Qm rfl <| Qm rfl <| Qm rfl <| Qq (p_indexAddr el_24 rfl rfl (by omega) (by omega) he5) <| QC hc5 rfl <| Qq (p_indexAddr el_24 rfl rfl (by omega) (by omega) rfl) ?_
  refine JL.s (e_storeRow (i := 0) (xs' := ints_ (xs.set k (M.nth a k))) ty_2.h rfl rfl rfl rfl rfl rfl (ints_lt (i := k) (by omega)) (ints_setL (i := k) (by omega))) ?_
  rintro _ _ _ ⟨rfl, rfl⟩ _
  refine znl ?_
  refine JL.nil <| Js.blockEnd <| Js.region <| Qm rfl <| Qp rfl rfl <| Qa rfl <| JL.nil ?_
  exact zag ⟨k + 1, xs.set k (M.nth a k), rfl, rfl, by rw [hX]; exact M.cp_step (by omega), zt, by rw [List.length_set]; exact hl, rfl⟩ x3
 have hE : xs = a := by rw [hX]; exact M.cp_all a (by have := h4'; omega)
 refine zx ?_
 have hq0 : xs = a := by exact hE
 refine zS <| Qm rfl <| Qa rfl <| JL.nil ?_
 exact zro x3

set_option maxHeartbeats 1000000 in
theorem c_laws_toPosition (a : M.Pos) {v_a : Value} {w : World} (h_a : (Ty.agg (cPosition a)).ok w v_a) (r0 : a.pits.length ≤ 4194304 := by exact om_) (r1 : a.stores.length ≤ 4194304 := by exact om_) : Ret Tryd.prog 19 [v_a] w (Ty.agg (cPosition a)) := by
 revert v_a; apply opn
 intro A1 c1 h1 bl1 bh1 A2 c2 h2 bl2 bh2
 refine enter @Tryd.func19 @Tryd.ntmps19 rfl rfl ?_
 refine zent ?_
 refine zS <| zb rfl fun b3 => za zeh fun b4 => zN <| za zeh fun b5 => zN <| Qf fh rfl <| Q0 2 rfl rfl rfl <| zcs rfl (fun w hw => c_laws_toInt64S a.pits (ok_ hw)) ?_
 intro A6 c6 bl6 bh6
 refine Qf fh rfl <| zw 1 rfl rfl rfl ?_
 refine zN <| Qf fh rfl <| Q0 3 rfl rfl rfl <| zcs rfl (fun w hw => c_laws_toInt64S a.stores (ok_ hw)) ?_
 intro A7 c7 bl7 bh7
 refine Qf fh rfl <| zw 2 rfl rfl rfl ?_
 refine zN <| Qf fh rfl <| Q0 4 rfl rfl rfl <| Qf fh rfl <| zw 2 rfl rfl rfl ?_
 refine zN <| Q9 2 rfl rfl ?_
 refine zw 3 rfl rfl rfl ?_
 refine JL.nil ?_
 exact zro (Up.refl _ _)

set_option maxHeartbeats 8000000 in
theorem c_laws_toRules (a : M.Rul) {v_a : Value} {w : World} (h_a : (Ty.agg (cRules a)).ok w v_a) : Ret Tryd.prog 18 [v_a] w (Ty.agg (cRules a)) := by
 revert v_a; apply opn
 refine enter @Tryd.func18 @Tryd.ntmps18 rfl rfl ?_
 refine zent ?_
 refine zS <| zb rfl fun b1 => za zeh fun b2 => zN <| za zeh fun b3 => zN <| Qf fh rfl <| Q0 2 rfl rfl rfl <| Qf fh rfl <| zw 0 rfl rfl rfl ?_
 refine zN <| Qf fh rfl <| Q0 2 rfl rfl rfl <| Qf fh rfl <| zw 0 rfl rfl rfl ?_
 refine zN <| Qf fh rfl <| Q0 2 rfl rfl rfl <| Qf fh rfl <| zw 0 rfl rfl rfl ?_
 refine zN <| Qf fh rfl <| Q0 2 rfl rfl rfl <| Qf fh rfl <| zw 0 rfl rfl rfl ?_
 refine zN <| Qf fh rfl <| Q0 2 rfl rfl rfl <| Qf fh rfl <| zw 0 rfl rfl rfl ?_
 refine zN <| Qf fh rfl <| Q0 2 rfl rfl rfl <| Qf fh rfl <| zw 0 rfl rfl rfl ?_
 refine zN <| Qf fh rfl <| Q0 2 rfl rfl rfl <| Qf fh rfl <| zw 0 rfl rfl rfl ?_
 refine zN <| Qf fh rfl <| Q0 2 rfl rfl rfl <| Qf fh rfl <| zw 0 rfl rfl rfl ?_
 refine zN <| Qf fh rfl <| Q0 2 rfl rfl rfl <| Qf fh rfl <| zw 0 rfl rfl rfl ?_
 refine zN <| Q9 0 rfl rfl ?_
 refine zw 1 rfl rfl rfl ?_
 refine JL.nil ?_
 exact zro (Up.refl _ _)

set_option maxHeartbeats 1000000 in
theorem c_laws_toGame (a : M.Gam) {v_a : Value} {w : World} (h_a : (Ty.agg (cGame a)).ok w v_a) (r0 : a.start.pits.length ≤ 4194304 := by exact om_) (r1 : a.start.stores.length ≤ 4194304 := by exact om_) (r2 : a.moves.length ≤ 4194304 := by exact om_) (r3 : a.now.pits.length ≤ 4194304 := by exact om_) (r4 : a.now.stores.length ≤ 4194304 := by exact om_) : Ret Tryd.prog 9 [v_a] w (Ty.agg (cGame a)) := by
 revert v_a; apply opn
 intro A1 c1 h1 bl1 bh1 A2 c2 h2 bl2 bh2 A3 c3 h3 bl3 bh3 A4 c4 h4 bl4 bh4 A5 c5 h5 bl5 bh5
 refine enter @Tryd.func9 @Tryd.ntmps9 rfl rfl ?_
 refine zent ?_
 refine zS <| zb rfl fun b6 => za zeh fun b7 => zN <| za zeh fun b8 => zN <| Qf fh rfl <| Q9 2 rfl rfl ?_
 refine zc rfl (fun w hw => c_laws_toRules a.rules (ok_ hw)) <| Qf fh rfl <| zw 0 rfl rfl rfl ?_
 refine zN <| Qf fh rfl <| Q9 2 rfl rfl ?_
 refine zc rfl (fun w hw => c_laws_toPosition a.start (ok_ hw)) ?_
 intro A11 c11 bl11 bh11 A12 c12 bl12 bh12
 refine Qf fh rfl <| zw 2 rfl rfl rfl ?_
 refine zN <| Qf fh rfl <| Q0 4 rfl rfl rfl <| zcs rfl (fun w hw => c_laws_toInt64S a.moves (ok_ hw)) ?_
 intro A13 c13 bl13 bh13
 refine Qf fh rfl <| zw 3 rfl rfl rfl ?_
 refine zN <| Qf fh rfl <| Q9 5 rfl rfl ?_
 refine zc rfl (fun w hw => c_laws_toPosition a.now (ok_ hw)) ?_
 intro A15 c15 bl15 bh15 A16 c16 bl16 bh16
 refine Qf fh rfl <| zw 5 rfl rfl rfl ?_
 refine zN <| Qf fh rfl <| Q0 7 rfl rfl rfl <| Qf fh rfl <| zw 5 rfl rfl rfl ?_
 refine zN <| Q9 5 rfl rfl ?_
 refine zw 6 rfl rfl rfl ?_
 refine JL.nil ?_
 exact zro (Up.refl _ _)

set_option maxHeartbeats 1000000 in
theorem c_laws_eqInt64S (a : List Int) {v_a : Value} (b : List Int) {v_b : Value} {w : World} (h_a : (Ty.ints 2 a).ok w v_a) (h_b : (Ty.ints 2 b).ok w v_b) (r0 : a.length ≤ 4194304 := by exact om_) (r1 : b.length ≤ 4194304 := by exact om_) : RetV Tryd.prog 53 [v_a, v_b] w (.bool (decide (a = b))) := by
 revert v_a; apply opn
 intro A1 c1 h1 bl1 bh1
 have h_a := h1
 revert v_b; apply opn
 intro A2 c2 h2 bl2 bh2
 have h_b := h2
 refine enter @Tryd.func53 @Tryd.ntmps53 rfl rfl ?_
 refine zent ?_
 refine zS <| Qa rfl <| zJ <| zS <| Qm rfl <| Qz rfl <| Qm rfl <| Qz rfl <| Qd rfl rfl <| JL.nil ?_
 refine zi (fun h3 h3' => ?_) fun h3 h3' => ?_
 ·
  have e1 : decide (a = b) = false := by simp; rintro rfl; simp at h3
  refine zS <| Qa rfl <| JL.nil ?_
  refine zR (Up.refl _ _) ?_
  simp [outV, e1]
 have hlen : a.length = b.length := by have := h3'; omega
 refine Js.skip <| Js.seq <| zS <| Qa rfl <| JL.nil <| Js.block ?_
 refine zl [0, 1] (fun F U l os u m => ∃ (k : Nat), l = F [(5, .int .i64 (k : Int))] ∧ os = U [] ∧ (k ≤ a.length) ∧ (M.Upto a b k) ∧ m = a.length - k) ⟨0, rfl, rfl, zt, by exact M.Upto.zero _ _, rfl⟩ ?_
 rintro _ _ u4 _ ⟨k, rfl, rfl, hk, hU, rfl⟩ x4
 refine zn ?_
 refine Js.seq <| zS <| Qm rfl <| Qm rfl <| Qz rfl <| Ql rfl rfl <| JL.nil ?_
 refine zi (fun h5 h5' => ?_) fun h5 h5' => ?_
 ·
  refine Js.skip <| Js.seq <| Js.block <| Js.seq ?_
  refine zdr [] ?_
  refine JH.p 0 rfl (p_move rfl) ?_
  refine JH.p 1 rfl (p_move rfl) ?_
  obtain ⟨b6, o6, he6, hc6⟩ := ints_elem (Ty.mono _ h1 x4.vis) (i := k) (by omega)
  refine JH.p 2 rfl (p_indexAddr el_24 rfl rfl (by omega) (by omega) he6) ?_
  refine JH.w 3 rfl (fun os' u' hv => q_load1 ty_2.h rfl (Mem.pub (hc6.vis hv))) ?_
  refine JH.p 4 rfl (p_move rfl) ?_
  refine JH.p 5 rfl (p_move rfl) ?_
  obtain ⟨b7, o7, he7, hc7⟩ := ints_elem (Ty.mono _ h2 x4.vis) (i := k) (by omega)
  refine JH.p 6 rfl (p_indexAddr el_24 rfl rfl (by omega) (by omega) he7) ?_
  refine JH.w 7 rfl (fun os' u' hv => q_load1 ty_2.h rfl (Mem.pub (hc7.vis hv))) ?_
  refine JH.p 8 rfl (p_neq rfl rfl) ?_
  refine yd ?_
  refine zi (fun h8 h8' => ?_) fun h8 h8' => ?_
  ·
   have e1 : decide (a = b) = false := by simpa using M.ne_of_nth (a := a) (b := b) (k := k) (by simpa using h8)
   refine zS <| Qa rfl <| JL.nil ?_
   refine zR x4 ?_
   simp [outV, e1]
  have hab : M.nth a k = M.nth b k := by simpa using h8
  refine Js.skip <| Js.blockEnd <| Js.region <| Qm rfl <| Qp rfl rfl <| Qa rfl <| JL.nil ?_
  exact zag ⟨k + 1, rfl, rfl, zt, by exact hU.step (by omega) (by omega) hab, rfl⟩ x4
 have e1 : a = b := hU.done (by omega) (by omega)
 refine zx ?_
 refine zS <| Qa rfl <| JL.nil ?_
 refine zR x4 ?_
 simp [outV, e1]

set_option maxHeartbeats 1000000 in
theorem c_laws_eqPosition (a : M.Pos) {v_a : Value} (b : M.Pos) {v_b : Value} {w : World} (h_a : (Ty.agg (cPosition a)).ok w v_a) (h_b : (Ty.agg (cPosition b)).ok w v_b) (r0 : a.pits.length ≤ 4194304 := by exact om_) (r1 : a.stores.length ≤ 4194304 := by exact om_) (r2 : b.pits.length ≤ 4194304 := by exact om_) (r3 : b.stores.length ≤ 4194304 := by exact om_) : RetV Tryd.prog 21 [v_a, v_b] w (.bool (decide (a = b))) := by
 revert v_a; apply opn
 intro A1 c1 h1 bl1 bh1 A2 c2 h2 bl2 bh2
 revert v_b; apply opn
 intro A3 c3 h3 bl3 bh3 A4 c4 h4 bl4 bh4
 refine enter @Tryd.func21 @Tryd.ntmps21 rfl rfl ?_
 refine zent ?_
 refine zS <| zb rfl fun b5 => zb rfl fun b6 => Qa rfl <| zJ <| zS <| Qf fh rfl <| Q0 1 rfl rfl rfl <| Qf fh rfl <| Q0 0 rfl rfl rfl <| zv rfl (fun w hw => c_laws_eqInt64S a.pits b.pits (ok_ hw) (ok_ hw)) <| Qt rfl <| JL.nil ?_
 refine zi (fun h7 h7' => ?_) fun h7 h7' => ?_
 ·
  have hne : a ≠ b := by rintro rfl; simp at h7
  refine zS <| Qa rfl <| JL.nil ?_
  refine zR (Up.refl _ _) ?_
  first | (rw [decide_eq_false hne]; rfl) | (rw [decide_eq_true (M.pos_ext q0 q1 q2)]; rfl)
 have q0 : a.pits = b.pits := by simpa using h7
 refine Js.skip <| Js.seq <| zS <| Qf fh rfl <| Q0 1 rfl rfl rfl <| Qf fh rfl <| Q0 0 rfl rfl rfl <| zv rfl (fun w hw => c_laws_eqInt64S a.stores b.stores (ok_ hw) (ok_ hw)) <| Qt rfl <| JL.nil ?_
 refine zi (fun h8 h8' => ?_) fun h8 h8' => ?_
 ·
  have hne : a ≠ b := by rintro rfl; simp at h8
  refine zS <| Qa rfl <| JL.nil ?_
  refine zR (Up.refl _ _) ?_
  first | (rw [decide_eq_false hne]; rfl) | (rw [decide_eq_true (M.pos_ext q0 q1 q2)]; rfl)
 have q1 : a.stores = b.stores := by simpa using h8
 refine Js.skip <| Js.seq <| zS <| Qf fh rfl <| Q0 1 rfl rfl rfl <| Qf fh rfl <| Q0 0 rfl rfl rfl <| Qd rfl rfl <| JL.nil ?_
 refine zi (fun h9 h9' => ?_) fun h9 h9' => ?_
 ·
  have hne : a ≠ b := by rintro rfl; simp at h9
  refine zS <| Qa rfl <| JL.nil ?_
  refine zR (Up.refl _ _) ?_
  first | (rw [decide_eq_false hne]; rfl) | (rw [decide_eq_true (M.pos_ext q0 q1 q2)]; rfl)
 have q2 : a.player = b.player := by simpa using h9
 refine Js.skip <| zS <| Qa rfl <| JL.nil ?_
 refine zR (Up.refl _ _) ?_
 first | (rw [decide_eq_false hne]; rfl) | (rw [decide_eq_true (M.pos_ext q0 q1 q2)]; rfl)

set_option maxHeartbeats 1000000 in
theorem c_laws_eqRules (a : M.Rul) {v_a : Value} (b : M.Rul) {v_b : Value} {w : World} (h_a : (Ty.agg (cRules a)).ok w v_a) (h_b : (Ty.agg (cRules b)).ok w v_b) : RetV Tryd.prog 25 [v_a, v_b] w (.bool (decide (a = b))) := by
 revert v_a; apply opn
 revert v_b; apply opn
 refine enter @Tryd.func25 @Tryd.ntmps25 rfl rfl ?_
 refine zent ?_
 refine zS <| zb rfl fun b1 => zb rfl fun b2 => Qa rfl <| zJ <| zS <| Qf fh rfl <| Q0 1 rfl rfl rfl <| Qf fh rfl <| Q0 0 rfl rfl rfl <| Qd rfl rfl <| JL.nil ?_
 refine zi (fun h3 h3' => ?_) fun h3 h3' => ?_
 ·
  have hne : a ≠ b := by rintro rfl; simp at h3
  refine zS <| Qa rfl <| JL.nil ?_
  refine zR (Up.refl _ _) ?_
  first | (rw [decide_eq_false hne]; rfl) | (rw [decide_eq_true (M.rul_ext q0 q1 q2 q3 q4 q5 q6 q7 q8)]; rfl)
 have q0 : a.pits = b.pits := by simpa using h3
 refine Js.skip <| Js.seq <| zS <| Qf fh rfl <| Q0 1 rfl rfl rfl <| Qf fh rfl <| Q0 0 rfl rfl rfl <| Qd rfl rfl <| JL.nil ?_
 refine zi (fun h4 h4' => ?_) fun h4 h4' => ?_
 ·
  have hne : a ≠ b := by rintro rfl; simp at h4
  refine zS <| Qa rfl <| JL.nil ?_
  refine zR (Up.refl _ _) ?_
  first | (rw [decide_eq_false hne]; rfl) | (rw [decide_eq_true (M.rul_ext q0 q1 q2 q3 q4 q5 q6 q7 q8)]; rfl)
 have q1 : a.seeds = b.seeds := by simpa using h4
 refine Js.skip <| Js.seq <| zS <| Qf fh rfl <| Q0 1 rfl rfl rfl <| Qf fh rfl <| Q0 0 rfl rfl rfl <| Qq (p_neqB und_4 rfl rfl) <| JL.nil ?_
 refine zi (fun h5 h5' => ?_) fun h5 h5' => ?_
 ·
  have hne : a ≠ b := by rintro rfl; simp at h5
  refine zS <| Qa rfl <| JL.nil ?_
  refine zR (Up.refl _ _) ?_
  first | (rw [decide_eq_false hne]; rfl) | (rw [decide_eq_true (M.rul_ext q0 q1 q2 q3 q4 q5 q6 q7 q8)]; rfl)
 have q2 : a.stores = b.stores := by simpa using h5
 refine Js.skip <| Js.seq <| zS <| Qf fh rfl <| Q0 1 rfl rfl rfl <| Qf fh rfl <| Q0 0 rfl rfl rfl <| Qq (p_neqB und_4 rfl rfl) <| JL.nil ?_
 refine zi (fun h6 h6' => ?_) fun h6 h6' => ?_
 ·
  have hne : a ≠ b := by rintro rfl; simp at h6
  refine zS <| Qa rfl <| JL.nil ?_
  refine zR (Up.refl _ _) ?_
  first | (rw [decide_eq_false hne]; rfl) | (rw [decide_eq_true (M.rul_ext q0 q1 q2 q3 q4 q5 q6 q7 q8)]; rfl)
 have q3 : a.skip = b.skip := by simpa using h6
 refine Js.skip <| Js.seq <| zS <| Qf fh rfl <| Q0 1 rfl rfl rfl <| Qf fh rfl <| Q0 0 rfl rfl rfl <| Qq (p_neqB und_4 rfl rfl) <| JL.nil ?_
 refine zi (fun h7 h7' => ?_) fun h7 h7' => ?_
 ·
  have hne : a ≠ b := by rintro rfl; simp at h7
  refine zS <| Qa rfl <| JL.nil ?_
  refine zR (Up.refl _ _) ?_
  first | (rw [decide_eq_false hne]; rfl) | (rw [decide_eq_true (M.rul_ext q0 q1 q2 q3 q4 q5 q6 q7 q8)]; rfl)
 have q4 : a.relay = b.relay := by simpa using h7
 refine Js.skip <| Js.seq <| zS <| Qf fh rfl <| Q0 1 rfl rfl rfl <| Qf fh rfl <| Q0 0 rfl rfl rfl <| Qq (p_neqB und_4 rfl rfl) <| JL.nil ?_
 refine zi (fun h8 h8' => ?_) fun h8 h8' => ?_
 ·
  have hne : a ≠ b := by rintro rfl; simp at h8
  refine zS <| Qa rfl <| JL.nil ?_
  refine zR (Up.refl _ _) ?_
  first | (rw [decide_eq_false hne]; rfl) | (rw [decide_eq_true (M.rul_ext q0 q1 q2 q3 q4 q5 q6 q7 q8)]; rfl)
 have q5 : a.feed = b.feed := by simpa using h8
 refine Js.skip <| Js.seq <| zS <| Qf fh rfl <| Q0 1 rfl rfl rfl <| Qf fh rfl <| Q0 0 rfl rfl rfl <| Qq (p_neqB und_4 rfl rfl) <| JL.nil ?_
 refine zi (fun h9 h9' => ?_) fun h9 h9' => ?_
 ·
  have hne : a ≠ b := by rintro rfl; simp at h9
  refine zS <| Qa rfl <| JL.nil ?_
  refine zR (Up.refl _ _) ?_
  first | (rw [decide_eq_false hne]; rfl) | (rw [decide_eq_true (M.rul_ext q0 q1 q2 q3 q4 q5 q6 q7 q8)]; rfl)
 have q6 : a.again = b.again := by simpa using h9
 refine Js.skip <| Js.seq <| zS <| Qf fh rfl <| Q0 1 rfl rfl rfl <| Qf fh rfl <| Q0 0 rfl rfl rfl <| Qd rfl rfl <| JL.nil ?_
 refine zi (fun h10 h10' => ?_) fun h10 h10' => ?_
 ·
  have hne : a ≠ b := by rintro rfl; simp at h10
  refine zS <| Qa rfl <| JL.nil ?_
  refine zR (Up.refl _ _) ?_
  first | (rw [decide_eq_false hne]; rfl) | (rw [decide_eq_true (M.rul_ext q0 q1 q2 q3 q4 q5 q6 q7 q8)]; rfl)
 have q7 : a.capture = b.capture := by simpa using h10
 refine Js.skip <| Js.seq <| zS <| Qf fh rfl <| Q0 1 rfl rfl rfl <| Qf fh rfl <| Q0 0 rfl rfl rfl <| Qd rfl rfl <| JL.nil ?_
 refine zi (fun h11 h11' => ?_) fun h11 h11' => ?_
 ·
  have hne : a ≠ b := by rintro rfl; simp at h11
  refine zS <| Qa rfl <| JL.nil ?_
  refine zR (Up.refl _ _) ?_
  first | (rw [decide_eq_false hne]; rfl) | (rw [decide_eq_true (M.rul_ext q0 q1 q2 q3 q4 q5 q6 q7 q8)]; rfl)
 have q8 : a.slam = b.slam := by simpa using h11
 refine Js.skip <| zS <| Qa rfl <| JL.nil ?_
 refine zR (Up.refl _ _) ?_
 first | (rw [decide_eq_false hne]; rfl) | (rw [decide_eq_true (M.rul_ext q0 q1 q2 q3 q4 q5 q6 q7 q8)]; rfl)

set_option maxHeartbeats 1000000 in
theorem c_laws_eqGame (a : M.Gam) {v_a : Value} (b : M.Gam) {v_b : Value} {w : World} (h_a : (Ty.agg (cGame a)).ok w v_a) (h_b : (Ty.agg (cGame b)).ok w v_b) (r0 : a.start.pits.length ≤ 4194304 := by exact om_) (r1 : a.start.stores.length ≤ 4194304 := by exact om_) (r2 : a.moves.length ≤ 4194304 := by exact om_) (r3 : a.now.pits.length ≤ 4194304 := by exact om_) (r4 : a.now.stores.length ≤ 4194304 := by exact om_) (r5 : b.start.pits.length ≤ 4194304 := by exact om_) (r6 : b.start.stores.length ≤ 4194304 := by exact om_) (r7 : b.moves.length ≤ 4194304 := by exact om_) (r8 : b.now.pits.length ≤ 4194304 := by exact om_) (r9 : b.now.stores.length ≤ 4194304 := by exact om_) : RetV Tryd.prog 12 [v_a, v_b] w (.bool (decide (a = b))) := by
 revert v_a; apply opn
 intro A1 c1 h1 bl1 bh1 A2 c2 h2 bl2 bh2 A3 c3 h3 bl3 bh3 A4 c4 h4 bl4 bh4 A5 c5 h5 bl5 bh5
 revert v_b; apply opn
 intro A6 c6 h6 bl6 bh6 A7 c7 h7 bl7 bh7 A8 c8 h8 bl8 bh8 A9 c9 h9 bl9 bh9 A10 c10 h10 bl10 bh10
 refine enter @Tryd.func12 @Tryd.ntmps12 rfl rfl ?_
 refine zent ?_
 refine zS <| zb rfl fun b11 => zb rfl fun b12 => Qa rfl <| zJ <| zS <| Qf fh rfl <| Q9 1 rfl rfl ?_
 refine Qf fh rfl <| Q9 0 rfl rfl ?_
 refine zv rfl (fun w hw => c_laws_eqRules a.rules b.rules (ok_ hw) (ok_ hw)) <| Qt rfl <| JL.nil ?_
 refine zi (fun h13 h13' => ?_) fun h13 h13' => ?_
 ·
  have hne : a ≠ b := by rintro rfl; simp at h13
  refine zS <| Qa rfl <| JL.nil ?_
  refine zR (Up.refl _ _) ?_
  first | (rw [decide_eq_false hne]; rfl) | (rw [decide_eq_true (M.gam_ext q0 q1 q2 q3 q4)]; rfl)
 have q0 : a.rules = b.rules := by simpa using h13
 refine Js.skip <| Js.seq <| zS <| Qf fh rfl <| Q9 1 rfl rfl ?_
 refine Qf fh rfl <| Q9 0 rfl rfl ?_
 refine zv rfl (fun w hw => c_laws_eqPosition a.start b.start (ok_ hw) (ok_ hw)) <| Qt rfl <| JL.nil ?_
 refine zi (fun h14 h14' => ?_) fun h14 h14' => ?_
 ·
  have hne : a ≠ b := by rintro rfl; simp at h14
  refine zS <| Qa rfl <| JL.nil ?_
  refine zR (Up.refl _ _) ?_
  first | (rw [decide_eq_false hne]; rfl) | (rw [decide_eq_true (M.gam_ext q0 q1 q2 q3 q4)]; rfl)
 have q1 : a.start = b.start := by simpa using h14
 refine Js.skip <| Js.seq <| zS <| Qf fh rfl <| Q0 1 rfl rfl rfl <| Qf fh rfl <| Q0 0 rfl rfl rfl <| zv rfl (fun w hw => c_laws_eqInt64S a.moves b.moves (ok_ hw) (ok_ hw)) <| Qt rfl <| JL.nil ?_
 refine zi (fun h15 h15' => ?_) fun h15 h15' => ?_
 ·
  have hne : a ≠ b := by rintro rfl; simp at h15
  refine zS <| Qa rfl <| JL.nil ?_
  refine zR (Up.refl _ _) ?_
  first | (rw [decide_eq_false hne]; rfl) | (rw [decide_eq_true (M.gam_ext q0 q1 q2 q3 q4)]; rfl)
 have q2 : a.moves = b.moves := by simpa using h15
 refine Js.skip <| Js.seq <| zS <| Qf fh rfl <| Q9 1 rfl rfl ?_
 refine Qf fh rfl <| Q9 0 rfl rfl ?_
 refine zv rfl (fun w hw => c_laws_eqPosition a.now b.now (ok_ hw) (ok_ hw)) <| Qt rfl <| JL.nil ?_
 refine zi (fun h16 h16' => ?_) fun h16 h16' => ?_
 ·
  have hne : a ≠ b := by rintro rfl; simp at h16
  refine zS <| Qa rfl <| JL.nil ?_
  refine zR (Up.refl _ _) ?_
  first | (rw [decide_eq_false hne]; rfl) | (rw [decide_eq_true (M.gam_ext q0 q1 q2 q3 q4)]; rfl)
 have q3 : a.now = b.now := by simpa using h16
 refine Js.skip <| Js.seq <| zS <| Qf fh rfl <| Q0 1 rfl rfl rfl <| Qf fh rfl <| Q0 0 rfl rfl rfl <| Qd rfl rfl <| JL.nil ?_
 refine zi (fun h17 h17' => ?_) fun h17 h17' => ?_
 ·
  have hne : a ≠ b := by rintro rfl; simp at h17
  refine zS <| Qa rfl <| JL.nil ?_
  refine zR (Up.refl _ _) ?_
  first | (rw [decide_eq_false hne]; rfl) | (rw [decide_eq_true (M.gam_ext q0 q1 q2 q3 q4)]; rfl)
 have q4 : a.resigned = b.resigned := by simpa using h17
 refine Js.skip <| zS <| Qa rfl <| JL.nil ?_
 refine zR (Up.refl _ _) ?_
 first | (rw [decide_eq_false hne]; rfl) | (rw [decide_eq_true (M.gam_ext q0 q1 q2 q3 q4)]; rfl)

end Go.Proofs.YtdhmdaoijnnfjaaDoor

namespace Go.Proofs.YtdhmdaoijnnfjaaDoor
open Go.RowKit

set_option maxHeartbeats 1000000 in
theorem c_laws_markInt64S (a : List Int) {Aa_0 : Option Addr} {ca_0 : Nat} {ga_0 : List Nat} (k : Int) {w : World} (hb : Bw w [rowO 2 1 (.slice Aa_0 a.length ca_0) a.length (ints_ a) ga_0]) (bd0 : a.length ≤ ca_0 := by exact om_) (bd1 : ca_0 ≤ 9223372036854775807 := by exact om_) (r0 : a.length ≤ 4194304 := by exact om_) (r1 : 0 ≤ k := by exact om_) (r2 : k ≤ 100000000 := by exact om_) : RetB Tryd.prog 54 [.slice Aa_0 a.length ca_0, .int .i64 k] w [rowO 2 1 (.slice Aa_0 a.length ca_0) a.length (ints_ a) ga_0] (fun v bs' => v = .int .i64 (k + (a.length : Int)) ∧ bs' = [rowO 2 1 (.slice Aa_0 a.length ca_0) a.length (ints_ (M.up k a.length)) ga_0]) := by
 refine enterB hb @Tryd.func54 @Tryd.ntmps54 rfl rfl ?_
 refine zent ?_
 refine Js.trashE ?_
 refine zn ?_
 refine zS <| Qa rfl <| zJ <| zS <| Qa rfl <| JL.nil <| Js.block ?_
 refine zl [0] (fun F U l os u m => ∃ (i : Nat) (kk : Int) (xs : List Int) (G1_1 : List Nat), l = F [(1, .int .i64 kk), (5, .int .i64 (i : Int))] ∧ os = U [some (rowO 2 1 (.slice Aa_0 a.length ca_0) a.length (ints_ xs) ga_0), some (anyO G1_1)] ∧ (xs = M.mkd a k i) ∧ (i ≤ a.length) ∧ (xs.length = a.length) ∧ (kk = k + (i : Int)) ∧ m = a.length - i) ⟨0, k, a, _, rfl, rfl, by exact M.mkd_zero a k, zt, by rfl, by simp, rfl⟩ ?_
 rintro _ _ u1 _ ⟨i, kk, xs, G1_1, rfl, rfl, hX, hi, hl, hkk, rfl⟩ x1
 refine zn ?_
 refine Js.seq <| zS <| Qm rfl <| Qm rfl <| Qz rfl <| Ql rfl rfl <| JL.nil ?_
 refine zi (fun h2 h2' => ?_) fun h2 h2' => ?_
 ·
  refine Js.skip <| Js.seq <| Js.block <| zS <| Qm rfl <| Qm rfl <| Qm rfl ?_
  refine JL.fact (row_some (i := 0) rfl (by omega)) (fun hf4 => ?_)
  obtain ⟨b4, rfl⟩ := hf4
  refine Qq (p_indexAddr el_24 rfl rfl (by omega) (by omega) rfl) ?_
  refine JL.s (e_storeRow (i := 0) (xs' := ints_ (xs.set i kk)) ty_2.h rfl rfl rfl rfl rfl rfl (ints_lt (i := i) (by omega)) (ints_setL (i := i) (by omega))) ?_
  rintro _ _ _ ⟨rfl, rfl⟩ _
  refine znl ?_
  refine zG <| Qm rfl <| Qp rfl rfl <| Qa rfl <| JL.nil <| Js.blockEnd <| Js.region <| Qm rfl <| Qp rfl rfl <| Qa rfl <| JL.nil ?_
  exact zag ⟨i + 1, kk + 1, xs.set i kk, _, rfl, rfl, by rw [hX, hkk]; exact M.mkd_step (by omega), zt, by rw [List.length_set]; exact hl, zt, rfl⟩ x1
 have hi2 : i = a.length := by have := h2'; omega
 have hM : M.up k a.length = xs := by rw [hX]; exact (M.mkd_end hi2).symm
 refine zx ?_
 refine zS <| Qm rfl <| Qa rfl <| JL.nil ?_
 refine zrb [0] hb x1 ?_
 have hE : (.int .i64 kk : Value) = .int .i64 (k + (a.length : Int)) := by first | exact hM | (refine congrArg (Value.int .i64) ?_; omega)
 have hE1 : M.up k a.length = xs := by first | exact hM | (refine congrArg (Value.int .i64) ?_; omega)
 refine ⟨hE, ?_⟩
 · rw [hE1]

set_option maxHeartbeats 1000000 in
theorem c_laws_markPosition (a_pits a_stores : List Int) (a_player : Int) {Aa_0 : Option Addr} {ca_0 : Nat} {ga_0 : List Nat} {Aa_1 : Option Addr} {ca_1 : Nat} {ga_1 : List Nat} (k : Int) {w : World} (hb : Bw w [rowO 2 1 (.slice Aa_0 a_pits.length ca_0) a_pits.length (ints_ a_pits) ga_0, rowO 2 1 (.slice Aa_1 a_stores.length ca_1) a_stores.length (ints_ a_stores) ga_1]) (bd0 : a_pits.length ≤ ca_0 := by exact om_) (bd1 : ca_0 ≤ 9223372036854775807 := by exact om_) (bd2 : a_stores.length ≤ ca_1 := by exact om_) (bd3 : ca_1 ≤ 9223372036854775807 := by exact om_) (r0 : a_pits.length ≤ 4194304 := by exact om_) (r1 : a_stores.length ≤ 4194304 := by exact om_) (r2 : 0 ≤ k := by exact om_) (r3 : k ≤ 50000000 := by exact om_) : RetB Tryd.prog 22 [.agg #[.slice Aa_0 a_pits.length ca_0, .slice Aa_1 a_stores.length ca_1, .int .i64 a_player], .int .i64 k] w [rowO 2 1 (.slice Aa_0 a_pits.length ca_0) a_pits.length (ints_ a_pits) ga_0, rowO 2 1 (.slice Aa_1 a_stores.length ca_1) a_stores.length (ints_ a_stores) ga_1] (fun v bs' => v = .int .i64 (k + (a_pits.length : Int) + (a_stores.length : Int)) ∧ bs' = [rowO 2 1 (.slice Aa_0 a_pits.length ca_0) a_pits.length (ints_ (M.up k a_pits.length)) ga_0, rowO 2 1 (.slice Aa_1 a_stores.length ca_1) a_stores.length (ints_ (M.up (k + (a_pits.length : Int)) a_stores.length)) ga_1]) := by
 refine enterB hb @Tryd.func22 @Tryd.ntmps22 rfl rfl ?_
 refine zent ?_
 refine Js.trashE ?_
 refine zn ?_
 refine zS <| zb rfl fun b1 => Qa rfl <| zN <| Qf fh rfl <| Q0 0 rfl rfl rfl <| Qm rfl ?_
 refine zhl [1] ?_
 refine zBB 1 sp_ rfl (fun w hb _ hw => c_laws_markInt64S a_pits k hb) ?_
 rintro _ _ G2 ⟨rfl, rfl⟩
 refine znl ?_
 refine Qa rfl <| zN <| Qf fh rfl <| Q0 2 rfl rfl rfl <| Qm rfl ?_
 refine zhl [3] ?_
 refine zBB 1 sp_ rfl (fun w hb _ hw => c_laws_markInt64S a_stores (k + (a_pits.length : Int)) hb) ?_
 rintro _ _ G3 ⟨rfl, rfl⟩
 refine znl ?_
 refine Qa rfl <| zN <| Qm rfl <| Qa rfl <| JL.nil ?_
 refine zrb [2, 0] hb (Up.refl _ _) ?_
 have hE : (.int .i64 ((k + (a_pits.length : Int)) + (a_stores.length : Int)) : Value) = .int .i64 (k + (a_pits.length : Int) + (a_stores.length : Int)) := by rfl
 exact ⟨hE, rfl⟩

set_option maxHeartbeats 1000000 in
theorem c_laws_markGame (a_rules : M.Rul) (a_start : M.Pos) (a_moves : List Int) (a_now : M.Pos) (a_resigned : Int) {Aa_9 : Option Addr} {ca_9 : Nat} {ga_9 : List Nat} {Aa_10 : Option Addr} {ca_10 : Nat} {ga_10 : List Nat} {Aa_12 : Option Addr} {ca_12 : Nat} {ga_12 : List Nat} {Aa_13 : Option Addr} {ca_13 : Nat} {ga_13 : List Nat} {Aa_14 : Option Addr} {ca_14 : Nat} {ga_14 : List Nat} (k : Int) {w : World} (hb : Bw w [rowO 2 1 (.slice Aa_9 a_start.pits.length ca_9) a_start.pits.length (ints_ a_start.pits) ga_9, rowO 2 1 (.slice Aa_10 a_start.stores.length ca_10) a_start.stores.length (ints_ a_start.stores) ga_10, rowO 2 1 (.slice Aa_12 a_moves.length ca_12) a_moves.length (ints_ a_moves) ga_12, rowO 2 1 (.slice Aa_13 a_now.pits.length ca_13) a_now.pits.length (ints_ a_now.pits) ga_13, rowO 2 1 (.slice Aa_14 a_now.stores.length ca_14) a_now.stores.length (ints_ a_now.stores) ga_14]) (bd0 : a_start.pits.length ≤ ca_9 := by exact om_) (bd1 : ca_9 ≤ 9223372036854775807 := by exact om_) (bd2 : a_start.stores.length ≤ ca_10 := by exact om_) (bd3 : ca_10 ≤ 9223372036854775807 := by exact om_) (bd4 : a_moves.length ≤ ca_12 := by exact om_) (bd5 : ca_12 ≤ 9223372036854775807 := by exact om_) (bd6 : a_now.pits.length ≤ ca_13 := by exact om_) (bd7 : ca_13 ≤ 9223372036854775807 := by exact om_) (bd8 : a_now.stores.length ≤ ca_14 := by exact om_) (bd9 : ca_14 ≤ 9223372036854775807 := by exact om_) (r0 : a_start.pits.length ≤ 4194304 := by exact om_) (r1 : a_start.stores.length ≤ 4194304 := by exact om_) (r2 : a_moves.length ≤ 4194304 := by exact om_) (r3 : a_now.pits.length ≤ 4194304 := by exact om_) (r4 : a_now.stores.length ≤ 4194304 := by exact om_) (r5 : 0 ≤ k := by exact om_) (r6 : k ≤ 10000000 := by exact om_) : RetB Tryd.prog 13 [.agg #[.int .i64 a_rules.pits, .int .i64 a_rules.seeds, .bool a_rules.stores, .bool a_rules.skip, .bool a_rules.relay, .bool a_rules.feed, .bool a_rules.again, .int .i64 a_rules.capture, .int .i64 a_rules.slam, .slice Aa_9 a_start.pits.length ca_9, .slice Aa_10 a_start.stores.length ca_10, .int .i64 a_start.player, .slice Aa_12 a_moves.length ca_12, .slice Aa_13 a_now.pits.length ca_13, .slice Aa_14 a_now.stores.length ca_14, .int .i64 a_now.player, .int .i64 a_resigned], .int .i64 k] w [rowO 2 1 (.slice Aa_9 a_start.pits.length ca_9) a_start.pits.length (ints_ a_start.pits) ga_9, rowO 2 1 (.slice Aa_10 a_start.stores.length ca_10) a_start.stores.length (ints_ a_start.stores) ga_10, rowO 2 1 (.slice Aa_12 a_moves.length ca_12) a_moves.length (ints_ a_moves) ga_12, rowO 2 1 (.slice Aa_13 a_now.pits.length ca_13) a_now.pits.length (ints_ a_now.pits) ga_13, rowO 2 1 (.slice Aa_14 a_now.stores.length ca_14) a_now.stores.length (ints_ a_now.stores) ga_14] (fun v bs' => v = .int .i64 (k + M.szp a_start + (a_moves.length : Int) + M.szp a_now) ∧ bs' = [rowO 2 1 (.slice Aa_9 a_start.pits.length ca_9) a_start.pits.length (ints_ ((M.markP a_start k).pits)) ga_9, rowO 2 1 (.slice Aa_10 a_start.stores.length ca_10) a_start.stores.length (ints_ ((M.markP a_start k).stores)) ga_10, rowO 2 1 (.slice Aa_12 a_moves.length ca_12) a_moves.length (ints_ (M.up (k + M.szp a_start) a_moves.length)) ga_12, rowO 2 1 (.slice Aa_13 a_now.pits.length ca_13) a_now.pits.length (ints_ ((M.markP a_now (k + M.szp a_start + (a_moves.length : Int))).pits)) ga_13, rowO 2 1 (.slice Aa_14 a_now.stores.length ca_14) a_now.stores.length (ints_ ((M.markP a_now (k + M.szp a_start + (a_moves.length : Int))).stores)) ga_14]) := by
 refine enterB hb @Tryd.func13 @Tryd.ntmps13 rfl rfl ?_
 refine zent ?_
 refine Js.trashE ?_
 refine zn ?_
 refine zS <| zb rfl fun b1 => Qa rfl <| zN <| Qf fh rfl <| Q9 0 rfl rfl ?_
 refine Qm rfl ?_
 refine zhl [1, 1] ?_
 refine zBB 2 sp_ rfl (fun w hb _ hw => c_laws_markPosition a_start.pits a_start.stores a_start.player k hb) ?_
 rintro _ _ G2 ⟨rfl, rfl⟩
 refine znl ?_
 refine Qa rfl <| zN <| Qf fh rfl <| Q0 3 rfl rfl rfl <| Qm rfl ?_
 refine zhl [4] ?_
 refine zBB 1 sp_ rfl (fun w hb _ hw => c_laws_markInt64S a_moves (k + (a_start.pits.length : Int) + (a_start.stores.length : Int)) hb) ?_
 rintro _ _ G3 ⟨rfl, rfl⟩
 refine znl ?_
 refine Qa rfl <| zN <| Qf fh rfl <| Q9 5 rfl rfl ?_
 refine Qm rfl ?_
 refine zhl [6, 6] ?_
 refine zBB 2 sp_ rfl (fun w hb _ hw => c_laws_markPosition a_now.pits a_now.stores a_now.player ((k + (a_start.pits.length : Int) + (a_start.stores.length : Int)) + (a_moves.length : Int)) hb) ?_
 rintro _ _ G4 ⟨rfl, rfl⟩
 refine znl ?_
 refine Qa rfl <| zN <| Qm rfl <| Qa rfl <| JL.nil ?_
 refine zrb [5, 5, 3, 0, 0] hb (Up.refl _ _) ?_
 have hE : (.int .i64 (((k + (a_start.pits.length : Int) + (a_start.stores.length : Int)) + (a_moves.length : Int)) + (a_now.pits.length : Int) + (a_now.stores.length : Int)) : Value) = .int .i64 (k + M.szp a_start + (a_moves.length : Int) + M.szp a_now) := by first | rfl | (simp only [M.markP, M.szp, ← Int.add_assoc]; done) | (simp only [M.markP, M.szp, ← Int.add_assoc]; rfl)
 have hE1 : (M.markP a_start k).pits = M.up k a_start.pits.length := by first | rfl | (simp only [M.markP, M.szp, ← Int.add_assoc]; done) | (simp only [M.markP, M.szp, ← Int.add_assoc]; rfl)
 have hE2 : (M.markP a_start k).stores = M.up (k + (a_start.pits.length : Int)) a_start.stores.length := by first | rfl | (simp only [M.markP, M.szp, ← Int.add_assoc]; done) | (simp only [M.markP, M.szp, ← Int.add_assoc]; rfl)
 have hE3 : M.up (k + M.szp a_start) a_moves.length = M.up (k + (a_start.pits.length : Int) + (a_start.stores.length : Int)) a_moves.length := by first | rfl | (simp only [M.markP, M.szp, ← Int.add_assoc]; done) | (simp only [M.markP, M.szp, ← Int.add_assoc]; rfl)
 have hE4 : (M.markP a_now (k + M.szp a_start + (a_moves.length : Int))).pits = M.up ((k + (a_start.pits.length : Int) + (a_start.stores.length : Int)) + (a_moves.length : Int)) a_now.pits.length := by first | rfl | (simp only [M.markP, M.szp, ← Int.add_assoc]; done) | (simp only [M.markP, M.szp, ← Int.add_assoc]; rfl)
 have hE5 : (M.markP a_now (k + M.szp a_start + (a_moves.length : Int))).stores = M.up (((k + (a_start.pits.length : Int) + (a_start.stores.length : Int)) + (a_moves.length : Int)) + (a_now.pits.length : Int)) a_now.stores.length := by first | rfl | (simp only [M.markP, M.szp, ← Int.add_assoc]; done) | (simp only [M.markP, M.szp, ← Int.add_assoc]; rfl)
 refine ⟨hE, ?_⟩
 · rw [hE1, hE2, hE3, hE4, hE5]

end Go.Proofs.YtdhmdaoijnnfjaaDoor

namespace Go.Proofs.YtdhmdaoijnnfjaaDoor
open Go.RowKit

set_option maxHeartbeats 1000000 in
theorem c_laws_markText (k : Int) {w : World} (r0 : k ≤ 1000000000000 := by exact om_) : RetV Tryd.prog 55 [.int .i64 k] w (.string (sB (M.markT k))) := by
 refine enter @Tryd.func55 @Tryd.ntmps55 rfl rfl ?_
 refine zent ?_
 refine zS <| Qa rfl <| zJ <| zS <| Qm rfl <| Qk rfl rfl <| JL.nil ?_
 refine zi (fun h1 h1' => ?_) fun h1 h1' => ?_
 ·
  have hE := M.markT_z (k := k) (by have := h1'; omega)
  refine zS <| Qa rfl <| JL.nil ?_
  refine zR (Up.refl _ _) ?_
  first | (rw [hE]; rfl)
 have hp : 0 < k := by have := h1'; omega
 refine Js.skip <| zS <| Qa rfl <| zJ <| Js.block ?_
 refine zl [] (fun F U l os u m => ∃ (kk : Int) (out : List UInt8), l = F [(0, .int .i64 kk), (3, .string (sB out))] ∧ os = U [] ∧ (M.DecI k kk out) ∧ (0 ≤ kk) ∧ (kk ≤ 1000000000000) ∧ m = kk.toNat) ⟨k, ([] : List UInt8), rfl, rfl, by exact M.DecI.zero k, zt, zt, rfl⟩ ?_
 rintro _ _ u2 _ ⟨kk, out, rfl, rfl, hD, hk0, hk1, rfl⟩ x2
 refine zn ?_
 obtain ⟨t1, t2, t3, t4⟩ := M.tdiv10_bd (k := kk) (by omega) (by omega)
 have t7 : 0 ≤ kk.tmod 10 := Int.tmod_nonneg 10 hk0
 have t9 : 0 ≤ kk.tdiv 10 := Int.tdiv_nonneg hk0 (by omega)
 obtain ⟨t5, t6⟩ := M.tdiv10 kk
 have hol := hD.len (by omega) (by omega)
 have lb9 : LenB out 20 := ⟨hol⟩
 refine Js.seq <| zS <| Qm rfl <| Qg rfl rfl <| JL.nil ?_
 refine zi (fun h3 h3' => ?_) fun h3 h3' => ?_
 ·
  have hkk : kk ≠ 0 := by have := h3'; omega
  have hD2 := hD.step (d := kk.tmod 10) hkk (by omega)
  have hu6 : ((M.u8 (48 + (kk.tmod 10))).toNat : Int) = 48 + (kk.tmod 10) := M.u8_val (by omega) (by omega)
  refine Js.skip <| Js.block <| zS <| Qm rfl <| Qq (p_rem rfl rfl (by omega) rfl) <| Qp rfl rfl <| Qq (p_conv @Tryd.underlying3 @Tryd.underlying5 rfl (IntWalk.u8_in _ (by omega))) <| zbs fun b4 => ?_
  refine Qw (q_toStr1 (i := 0) und_57 @Tryd.underlying5 und_9 rfl rfl hu6) <| Qm rfl <| Qq (q_cat rfl rfl) <| Qa rfl <| zG <| Qm rfl <| Qq (p_quo rfl rfl (by omega) (IntWalk.i64_in _ (by omega))) <| Qa rfl <| JL.nil <| Js.blockEnd ?_
  refine zd [] rfl fun u7 x7 => ?_
  exact zag ⟨kk.tdiv 10, ([M.u8 (48 + (kk.tmod 10))] : List UInt8) ++ out, rfl, rfl, by exact hD2, by omega, by omega, rfl⟩ (x2.trans x7)
 have hk9 : kk = 0 := by have := h3'; omega
 subst hk9
 have hE := M.markT_end hD hp (by omega)
 have lb9 : LenB out 20 := ⟨hD.len (by omega) (by omega)⟩
 refine zx ?_
 refine zS <| Qm rfl <| Qq (q_cat rfl rfl) <| Qa rfl <| JL.nil ?_
 refine zR x2 ?_
 first | (rw [hE]; rfl)

set_option maxHeartbeats 1000000 in
theorem c_laws_eqStringS (a : List (List UInt8)) {v_a : Value} (b : List (List UInt8)) {v_b : Value} {w : World} (h_a : (Ty.strs 9 a).ok w v_a) (h_b : (Ty.strs 9 b).ok w v_b) (r0 : a.length ≤ 4194304 := by exact om_) (r1 : b.length ≤ 4194304 := by exact om_) : RetV Tryd.prog 11 [v_a, v_b] w (.bool (decide (a = b))) := by
 revert v_a; apply opn
 intro A1 c1 h1 bl1 bh1
 have h_a := h1
 revert v_b; apply opn
 intro A2 c2 h2 bl2 bh2
 have h_b := h2
 refine enter @Tryd.func11 @Tryd.ntmps11 rfl rfl ?_
 refine zent ?_
 refine zS <| Qa rfl <| zJ <| zS <| Qm rfl <| Qz rfl <| Qm rfl <| Qz rfl <| Qd rfl rfl <| JL.nil ?_
 refine zi (fun h3 h3' => ?_) fun h3 h3' => ?_
 ·
  have e1 : decide (a = b) = false := by simp; rintro rfl; simp at h3
  refine zS <| Qa rfl <| JL.nil ?_
  refine zR (Up.refl _ _) ?_
  simp [outV, e1]
 have hlen : a.length = b.length := by have := h3'; omega
 refine Js.skip <| Js.seq <| zS <| Qa rfl <| JL.nil <| Js.block ?_
 refine zl [0, 1] (fun F U l os u m => ∃ (k : Nat), l = F [(5, .int .i64 (k : Int))] ∧ os = U [] ∧ (k ≤ a.length) ∧ (a.take k = b.take k) ∧ m = a.length - k) ⟨0, rfl, rfl, zt, by rfl, rfl⟩ ?_
 rintro _ _ u4 _ ⟨k, rfl, rfl, hk, hU, rfl⟩ x4
 refine zn ?_
 refine Js.seq <| zS <| Qm rfl <| Qm rfl <| Qz rfl <| Ql rfl rfl <| JL.nil ?_
 refine zi (fun h5 h5' => ?_) fun h5 h5' => ?_
 ·
  obtain ⟨ye6, hye6⟩ : ∃ x, a[k]? = some x := ⟨_, List.getElem?_eq_getElem (by omega)⟩
  have hY := hye6
  obtain ⟨ye7, hye7⟩ : ∃ x, b[k]? = some x := ⟨_, List.getElem?_eq_getElem (by omega)⟩
  have hZ := hye7
  refine Js.skip <| Js.seq <| Js.block <| Js.seq ?_
  refine zdr [] ?_
  refine JH.p 0 rfl (p_move rfl) ?_
  refine JH.p 1 rfl (p_move rfl) ?_
  have hy8 := hye6
  obtain ⟨b8, o8, he8, hc8⟩ := strs_elem (Ty.mono _ h1 x4.vis) hy8
  refine JH.p 2 rfl (p_indexAddr el_30 rfl rfl (by omega) (by omega) he8) ?_
  refine JH.w 3 rfl (fun os' u' hv => q_load1 ty_9.h rfl (Mem.pub (hc8.vis hv))) ?_
  refine JH.p 4 rfl (p_move rfl) ?_
  refine JH.p 5 rfl (p_move rfl) ?_
  have hy9 := hye7
  obtain ⟨b9, o9, he9, hc9⟩ := strs_elem (Ty.mono _ h2 x4.vis) hy9
  refine JH.p 6 rfl (p_indexAddr el_30 rfl rfl (by omega) (by omega) he9) ?_
  refine JH.w 7 rfl (fun os' u' hv => q_load1 ty_9.h rfl (Mem.pub (hc9.vis hv))) ?_
  refine JH.p 8 rfl (p_neqT und_9 rfl rfl) ?_
  refine yd ?_
  refine zi (fun h10 h10' => ?_) fun h10 h10' => ?_
  ·
   have e1 := M.eqT_no hY hZ (by simpa using h10)
   refine zS <| Qa rfl <| JL.nil ?_
   refine zR x4 ?_
   simp [outV, e1]
  have hab := M.not_ne h10
  refine Js.skip <| Js.blockEnd <| Js.region <| Qm rfl <| Qp rfl rfl <| Qa rfl <| JL.nil ?_
  exact zag ⟨k + 1, rfl, rfl, zt, by exact M.eqT_step hU hY hZ hab, rfl⟩ x4
 have e1 : a = b := M.eqT_end hU (by have := h5'; omega) hlen
 refine zx ?_
 refine zS <| Qa rfl <| JL.nil ?_
 refine zR x4 ?_
 simp [outV, e1]

set_option maxHeartbeats 1000000 in
theorem c_laws_heldStringS (a : List (List UInt8)) {v_a : Value} (k : Int) {w : World} (h_a : (Ty.strs 9 a).ok w v_a) (r0 : a.length ≤ 4194304 := by exact om_) (r1 : 0 ≤ k := by exact om_) (r2 : k ≤ 100000000 := by exact om_) : RetV Tryd.prog 15 [v_a, .int .i64 k] w (.int .i64 (M.heldT a k)) := by
 revert v_a; apply opn
 intro A1 c1 h1 bl1 bh1
 have h_a := h1
 refine enter @Tryd.func15 @Tryd.ntmps15 rfl rfl ?_
 refine zent ?_
 refine zS <| Qa rfl <| zJ <| zS <| Qa rfl <| JL.nil <| Js.block ?_
 refine zl [0] (fun F U l os u m => ∃ (i : Nat) (kk : Int), l = F [(1, .int .i64 kk), (5, .int .i64 (i : Int))] ∧ os = U [] ∧ (a.take i = M.upT k i) ∧ (i ≤ a.length) ∧ (kk = k + (i : Int)) ∧ m = a.length - i) ⟨0, k, rfl, rfl, by rfl, zt, by simp, rfl⟩ ?_
 rintro _ _ u2 _ ⟨i, kk, rfl, rfl, hU, hi, hkk, rfl⟩ x2
 refine zn ?_
 refine Js.seq <| zS <| Qm rfl <| Qm rfl <| Qz rfl <| Ql rfl rfl <| JL.nil ?_
 refine zi (fun h3 h3' => ?_) fun h3 h3' => ?_
 ·
  obtain ⟨ye4, hye4⟩ : ∃ x, a[i]? = some x := ⟨_, List.getElem?_eq_getElem (by omega)⟩
  have hY := hye4
  refine Js.skip <| Js.seq <| Js.block <| Js.seq <| Js.seq ?_
  refine zdr [] ?_
  refine JH.p 0 rfl (p_move rfl) ?_
  refine JH.p 1 rfl (p_move rfl) ?_
  have hy5 := hye4
  obtain ⟨b5, o5, he5, hc5⟩ := strs_elem (Ty.mono _ h1 x2.vis) hy5
  refine JH.p 2 rfl (p_indexAddr el_30 rfl rfl (by omega) (by omega) he5) ?_
  refine JH.w 3 rfl (fun os' u' hv => q_load1 ty_9.h rfl (Mem.pub (hc5.vis hv))) ?_
  refine JH.p 4 rfl (p_move rfl) ?_
  refine y1 5 ?_
  refine yv rfl rfl (fun w hw => c_laws_markText kk) ?_
  refine JH.p 6 rfl (p_neqT und_9 rfl rfl) ?_
  refine yd ?_
  refine zi (fun h6 h6' => ?_) fun h6 h6' => ?_
  ·
   have hE := M.heldT_no (k := k) hY (by rw [← hkk]; simpa using h6)
   refine zS <| Qa rfl <| JL.nil ?_
   refine zR x2 ?_
   first | (rw [hE]; rfl) | (rw [hE, hkk]; rfl)
  have he := M.not_ne h6
  rw [hkk] at he
  refine Js.skip <| Js.region <| Qm rfl <| Qp rfl rfl <| Qa rfl <| JL.nil <| Js.blockEnd <| Js.region <| Qm rfl <| Qp rfl rfl <| Qa rfl <| JL.nil ?_
  exact zag ⟨i + 1, kk + 1, rfl, rfl, by exact M.heldT_step hY hU he, zt, zt, rfl⟩ x2
 have hE := M.heldT_yes (a := a) (k := k) (i := i) (by have := h3'; omega) hU
 refine zx ?_
 refine zS <| Qm rfl <| Qa rfl <| JL.nil ?_
 refine zR x2 ?_
 first | (rw [hE]; rfl) | (rw [hE, hkk]; rfl)

set_option maxHeartbeats 1000000 in
theorem c_laws_markStringS (a : List (List UInt8)) {Aa_0 : Option Addr} {ca_0 : Nat} {ga_0 : List Nat} (k : Int) {w : World} (hb : Bw w [rowO 9 1 (.slice Aa_0 a.length ca_0) a.length (txs_ a) ga_0]) (bd0 : a.length ≤ ca_0 := by exact om_) (bd1 : ca_0 ≤ 9223372036854775807 := by exact om_) (r0 : a.length ≤ 4194304 := by exact om_) (r1 : 0 ≤ k := by exact om_) (r2 : k ≤ 100000000 := by exact om_) : RetB Tryd.prog 14 [.slice Aa_0 a.length ca_0, .int .i64 k] w [rowO 9 1 (.slice Aa_0 a.length ca_0) a.length (txs_ a) ga_0] (fun v bs' => v = .int .i64 (k + (a.length : Int)) ∧ bs' = [rowO 9 1 (.slice Aa_0 a.length ca_0) a.length (txs_ (M.upT k a.length)) ga_0]) := by
 refine enterB hb @Tryd.func14 @Tryd.ntmps14 rfl rfl ?_
 refine zent ?_
 refine Js.trashE ?_
 refine zn ?_
 refine zS <| Qa rfl <| zJ <| zS <| Qa rfl <| JL.nil <| Js.block ?_
 refine zl [0] (fun F U l os u m => ∃ (i : Nat) (kk : Int) (xs : List (List UInt8)) (G1_1 : List Nat), l = F [(1, .int .i64 kk), (5, .int .i64 (i : Int))] ∧ os = U [some (rowO 9 1 (.slice Aa_0 a.length ca_0) a.length (txs_ xs) ga_0), some (anyO G1_1)] ∧ (xs = M.mkdT a k i) ∧ (i ≤ a.length) ∧ (xs.length = a.length) ∧ (kk = k + (i : Int)) ∧ m = a.length - i) ⟨0, k, a, _, rfl, rfl, by exact M.mkdT_zero a k, zt, by rfl, by simp, rfl⟩ ?_
 rintro _ _ u1 _ ⟨i, kk, xs, G1_1, rfl, rfl, hX, hi, hl, hkk, rfl⟩ x1
 refine zn ?_
 refine Js.seq <| zS <| Qm rfl <| Qm rfl <| Qz rfl <| Ql rfl rfl <| JL.nil ?_
 refine zi (fun h2 h2' => ?_) fun h2 h2' => ?_
 ·
  refine Js.skip <| Js.seq <| Js.block <| zS <| Qm rfl <| Qm rfl <| Qm rfl <| zv rfl (fun w hw => c_laws_markText kk) ?_
  refine JL.fact (row_some (i := 0) rfl (by omega)) (fun hf4 => ?_)
  obtain ⟨b4, rfl⟩ := hf4
  refine Qq (p_indexAddr el_30 rfl rfl (by omega) (by omega) rfl) ?_
  refine JL.s (e_storeRow (i := 0) (xs' := txs_ (xs.set i (M.markT kk))) ty_9.h rfl rfl rfl rfl rfl rfl (txs_lt (i := i) (by omega)) (txs_setL (i := i) (by omega))) ?_
  rintro _ _ _ ⟨rfl, rfl⟩ _
  refine znl ?_
  refine zG <| Qm rfl <| Qp rfl rfl <| Qa rfl <| JL.nil <| Js.blockEnd <| Js.region <| Qm rfl <| Qp rfl rfl <| Qa rfl <| JL.nil ?_
  exact zag ⟨i + 1, kk + 1, xs.set i (M.markT kk), _, rfl, rfl, by rw [hX, hkk]; exact M.mkdT_step (by omega), zt, by rw [List.length_set]; exact hl, zt, rfl⟩ x1
 have hi2 : i = a.length := by have := h2'; omega
 have hM : M.upT k a.length = xs := by rw [hX]; exact (M.mkdT_end hi2).symm
 refine zx ?_
 refine zS <| Qm rfl <| Qa rfl <| JL.nil ?_
 refine zrb [0] hb x1 ?_
 have hE : (.int .i64 kk : Value) = .int .i64 (k + (a.length : Int)) := by first | exact hM | (refine congrArg (Value.int .i64) ?_; omega)
 have hE1 : M.upT k a.length = xs := by first | exact hM | (refine congrArg (Value.int .i64) ?_; omega)
 refine ⟨hE, ?_⟩
 · rw [hE1]

end Go.Proofs.YtdhmdaoijnnfjaaDoor

namespace Go.Proofs.YtdhmdaoijnnfjaaDoor
open Go.RowKit

set_option maxHeartbeats 4000000 in
theorem c_laws_FnExactNotesOn (aG : M.Gam) {v_aG : Value} {w : World} (h_aG : (Ty.agg (cGame aG)).ok w v_aG) (h_tab : tabT.ok w undef) : RetV Tryd.prog 3 [v_aG] w (.bool true) := by
 have q4 := M.szL_cases (aG.start.pits.length + aG.start.stores.length + aG.moves.length + aG.now.pits.length + aG.now.stores.length) 1048576
 change (1048576 < _ ∧ M.szG aG 1048576 = -1) ∨ (_ ≤ _ ∧ M.szG aG 1048576 = _) at q4
 have z1 := M.szp_nn aG.start
 have z2 := M.szp_nn aG.now
 have z3 := M.gameNotesR_len aG
 have z4 := M.upT_length 1 (M.gameNotesR aG).length
 revert v_aG; apply opn
 intro A1 c1 h1 bl1 bh1 A2 c2 h2 bl2 bh2 A3 c3 h3 bl3 bh3 A4 c4 h4 bl4 bh4 A5 c5 h5 bl5 bh5
 refine enter @Tryd.func3 @Tryd.ntmps3 rfl rfl ?_
 refine zent ?_
 refine zS <| zb rfl fun b6 => Qa rfl <| zN <| Qa rfl <| zN <| Q9 0 rfl rfl ?_
 refine Qm rfl <| zv rfl (fun w hw => c_laws_szGame aG 1048576 (ok_ hw)) <| Qa rfl <| zJ <| zS <| Qm rfl <| Ql rfl rfl <| JL.nil ?_
 refine zi (fun h7 h7' => ?_) fun h7 h7' => ?_
 ·
  refine zS <| Qa rfl <| JL.nil ?_
  exact zr (Up.refl _ _)
 refine Js.skip <| zS <| Q9 0 rfl rfl ?_
 refine zp rfl (fun w hw => c_laws_toGame aG (ok_ hw)) ?_
 intro u8 x8 A9 c9 h9 bl9 bh9 A10 c10 h10 bl10 bh10 A11 c11 h11 bl11 bh11 A12 c12 h12 bl12 bh12 A13 c13 h13 bl13 bh13
 refine zp rfl (fun w hw => c_spec_NotesOn aG (ok_ hw)) ?_
 intro u14 x14 A15 c15 h15 bl15 bh15
 refine Qm rfl <| Qx rfl rfl <| Qx rfl rfl <| Qa rfl <| Qa rfl <| zN <| Q9 0 rfl rfl ?_
 refine zc rfl (fun w hw => c_laws_toGame aG (ok_ hw)) ?_
 intro A17 c17 bl17 bh17 A18 c18 bl18 bh18 A19 c19 bl19 bh19 A20 c20 bl20 bh20 A21 c21 bl21 bh21
 refine za zeh fun b22 => zw 0 rfl rfl rfl ?_
 refine zN <| Q9 0 rfl rfl ?_
 refine zcs rfl (fun w hw => c_impl_NotesOn aG (ok_ hw) (ok_ hw)) ?_
 intro A24 c24 bl24 bh24
 refine Qm rfl <| Qx rfl rfl <| Qx rfl rfl <| Qa rfl <| Qa rfl <| zJ <| zS <| Qm rfl <| Qm rfl <| zv rfl (fun w hw => c_laws_eqStringS (M.gameNotesR aG) (M.gameNotesR aG) (strs_rowok (xs := (M.gameNotesR aG)) (hw.pr (i := 0) rfl)) (ok_ hw)) <| Qt rfl <| Qm rfl <| zg (Gd.f1 rfl rfl rfl) (fun hc => p_move rfl) <| zg (Gd.f1 rfl rfl rfl) (fun hc => p_move rfl) ?_
 refine zg (Gd.f1 rfl rfl rfl) (fun hc => p_neq (gh hc rfl) (gh hc rfl)) <| Qq (p_pickOr rfl rfl rfl) <| JL.nil ?_
 refine zi (fun h25 h25' => ?_) fun h25 h25' => ?_
 · exact absurd h25 (by simp)
 refine Js.skip <| Js.seq <| Js.seq ?_
 refine zdr [] ?_
 refine JH.q 0 rfl (L9 1 rfl rfl) ?_
 refine JH.q 1 rfl (L9 7 rfl rfl) ?_
 refine y1 2 ?_
 refine yp rfl rfl (fun w hw => c_laws_toGame aG (ok_ hw)) ?_
 intro u26 x26 A27 c27 h27 bl27 bh27 A28 c28 h28 bl28 bh28 A29 c29 h29 bl29 bh29 A30 c30 h30 bl30 bh30 A31 c31 h31 bl31 bh31
 refine y1 3 ?_
 refine yv rfl rfl (fun w hw => c_laws_eqGame aG aG (ok_ hw) (ok_ hw)) ?_
 refine JH.p 4 rfl (p_not rfl) ?_
 refine yd ?_
 refine zi (fun h32 h32' => ?_) fun h32 h32' => ?_
 · exact absurd h32 (by simp)
 refine Js.skip <| zS <| Qa rfl <| zN <| Q9 1 rfl rfl ?_
 refine Qm rfl ?_
 refine zhl [6, 5, 4, 3, 2] ?_
 refine zB 5 sp_ rfl (fun w hb hw => c_laws_markGame aG.rules aG.start aG.moves aG.now aG.resigned 1 hb) ?_
 rintro _ _ G33 ⟨rfl, rfl⟩
 refine znl ?_
 refine Qa rfl <| zJ <| zS <| Qm rfl <| Ql rfl rfl <| Qm rfl <| zg (Gd.f1 rfl rfl rfl) (fun hc => p_move rfl) <| zg (Gd.f1 rfl rfl rfl) (fun hc => p_move rfl) <| zgv (Gd.f1 rfl rfl rfl) (fun hc => (opds_2 (gh hc rfl) (gh hc rfl))) (fun hc => (fun w hw => c_laws_eqStringS (M.gameNotesR aG) (M.gameNotesR aG) (strs_rowok (xs := (M.gameNotesR aG)) (hw.pr (i := 6) rfl)) (ok_ hw) (r0 := (by have hc9 := hc; (try simp only [Bool.not_eq_true', decide_eq_false_iff_not, Int.not_lt] at hc9); omega)) (r1 := (by have hc9 := hc; (try simp only [Bool.not_eq_true', decide_eq_false_iff_not, Int.not_lt] at hc9); omega)))) ?_
 refine zg (Gd.f1 rfl rfl rfl) (fun hc => p_not (gh hc rfl)) <| Qq (p_pickOr rfl rfl rfl) <| Qm rfl <| zg (Gd.f1 rfl rfl rfl) (fun hc => p_move rfl) <| zg (Gd.f1 rfl rfl rfl) (fun hc => p_move rfl) <| zg (Gd.f1 rfl rfl rfl) (fun hc => p_neq (gh hc rfl) (gh hc rfl)) <| Qq (p_pickOr rfl rfl rfl) <| JL.nil ?_
 refine zi (fun h34 h34' => ?_) fun h34 h34' => ?_
 · exact absurd h34 (by simp only [decide_true, Bool.not_true, Bool.or_false, decide_eq_true_eq]; omega)
 refine Js.skip <| zS <| Qa rfl <| zN <| Qm rfl <| Qm rfl ?_
 refine zhl [6] ?_
 refine zB 1 sp_ rfl (fun w hb hw => c_laws_markStringS (M.gameNotesR aG) 1 hb) ?_
 rintro _ _ G35 ⟨rfl, rfl⟩
 refine znl ?_
 refine Qa rfl <| zN <| Qa rfl <| zN <| Qm rfl <| Qm rfl <| zv rfl (fun w hw => c_laws_heldStringS (M.upT 1 (M.gameNotesR aG).length) 1 (strs_rowok (xs := (M.upT 1 (M.gameNotesR aG).length)) (hw.pr (i := 0) rfl))) <| Qa rfl <| zJ <| zS <| Qm rfl <| Ql rfl rfl <| JL.nil ?_
 refine zi (fun h36 h36' => ?_) fun h36 h36' => ?_
 · exact absurd h36 (by rw [M.heldT_up]; simp only [decide_eq_true_eq]; omega)
 refine Js.skip <| Js.seq <| zS <| Qm rfl <| Qm rfl <| Qd rfl rfl <| JL.nil ?_
 refine zi (fun h37 h37' => ?_) fun h37 h37' => ?_
 · exact absurd h37 (by rw [M.heldT_up]; simp)
 refine Js.skip <| zS <| Q9 9 rfl rfl ?_
 refine zp rfl (fun w hw => c_laws_toGame aG (ok_ hw)) ?_
 intro u38 x38 A39 c39 h39 bl39 bh39 A40 c40 h40 bl40 bh40 A41 c41 h41 bl41 bh41 A42 c42 h42 bl42 bh42 A43 c43 h43 bl43 bh43
 refine zp rfl (fun w hw => c_impl_NotesOn aG (ok_ hw) (ok_ hw)) ?_
 intro u44 x44 A45 c45 h45 bl45 bh45
 refine Qm rfl <| Qx rfl rfl <| Qx rfl rfl <| Qa rfl <| Qa rfl <| zJ <| zS <| Qm rfl <| Qm rfl <| zv rfl (fun w hw => c_laws_eqStringS (M.gameNotesR aG) (M.gameNotesR aG) (ok_ hw) (ok_ hw)) <| Qt rfl <| Qm rfl <| zg (Gd.f1 rfl rfl rfl) (fun hc => p_move rfl) <| zg (Gd.f1 rfl rfl rfl) (fun hc => p_move rfl) ?_
 refine zg (Gd.f1 rfl rfl rfl) (fun hc => p_neq (gh hc rfl) (gh hc rfl)) <| Qq (p_pickOr rfl rfl rfl) <| JL.nil ?_
 refine Js.condF rfl h25 ?_
 refine Js.skip <| zS <| Qa rfl <| zN <| Qm rfl <| Qm rfl <| zv rfl (fun w hw => c_laws_heldStringS (M.upT 1 (M.gameNotesR aG).length) 1 (strs_rowok (xs := (M.upT 1 (M.gameNotesR aG).length)) (hw.pr (i := 0) rfl))) <| Qa rfl <| zJ <| zS <| Qm rfl <| Ql rfl rfl <| JL.nil ?_
 refine Js.condF rfl h36 ?_
 refine Js.skip <| Js.seq <| zS <| Qm rfl <| Qm rfl <| Qd rfl rfl <| JL.nil ?_
 refine Js.condF rfl h37 ?_
 refine Js.skip <| zS <| Qa rfl <| JL.nil ?_
 exact zr ((((x8.trans x14).trans x26).trans x38).trans x44)

end Go.Proofs.YtdhmdaoijnnfjaaDoor


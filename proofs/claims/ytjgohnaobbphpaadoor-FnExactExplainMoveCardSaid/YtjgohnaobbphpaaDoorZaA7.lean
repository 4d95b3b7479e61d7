/- Walks: K3. -/
import Derived.Test.YtjgohnaobbphpaaDoorZaA3
import Derived.Test.YtjgohnaobbphpaaDoorZaA6
import Derived.Test.YtjgohnaobbphpaaDoorZaA5
import Derived.Test.YtjgohnaobbphpaaDoorZaA4
import Derived.Test.YtjgohnaobbphpaaDoorZaA2
set_option linter.unusedSimpArgs false
set_option linter.unusedVariables false
set_option maxRecDepth 100000
attribute [local irreducible] Go.Proofs.YtjgohnaobbphpaaDoor.gv
set_option maxHeartbeats 8000000
namespace Go.Proofs.YtjgohnaobbphpaaDoor
open Go.RowKit
theorem c_spec_l06Raw (r : M.Rul) {v_r : Value} (s : M.Sw) {v_s : Value} (player : Int) {w : World} (h_r : (Ty.ref (cRules r)).ok w v_r) (h_s : (Ty.ref (cSown s)).ok w v_s) (r0 : 2 ≤ r.pits := by exact om_) (r1 : r.pits ≤ 8 := by exact om_) (r2 : player = 0 ∨ player = 1 := by exact om_) (r3 : M.Good r s.pits s.stores 0 := by exact om_) (r4 : -1 ≤ s.last := by exact om_) (r5 : s.last < 2 * r.pits := by exact om_) : Ret Tryd.prog 32 [v_r, v_s, .int .i64 player] w (Ty.ints 2 (M.taken r s player)) := by
 have l1 := r3.lp
 have l2 := r3.ls
 have hv9 := r3.pit s.last
 revert v_r; apply opn
 intro b1 o1 hr1
 revert v_s; apply opn
 intro b4 o4 A2 c2 h2 bl2 bh2 A3 c3 h3 bl3 bh3 hr4
 refine enter @Tryd.func32 @Tryd.ntmps32 rfl rfl ?_
 refine zent ?_
 obtain ⟨b5, o5, rfl⟩ := ints_some h2 (by omega)
 refine zS <| Qa rfl <| zN <| zbs fun b6 => ?_
 refine Qa rfl <| zN <| Qm rfl <| Qc rfl <| Qf fh rfl <| QC (hr4 2 _ rfl) rfl <| Qa rfl <| zJ <| zS <| Qm rfl <| Ql rfl rfl <| JL.nil ?_
 refine zi (fun h8 h8' => ?_) fun h8 h8' => ?_
 ·
  have hR : M.taken r s player = [] := by unfold M.taken; rw [if_pos (by simpa using h8)]
  have hq0 : [] = M.taken r s player := by rw [hR]
  refine zS <| Qm rfl <| Qa rfl <| JL.nil ?_
  exact zro (Up.refl _ _)
 have hl0 : ¬ s.last < 0 := by simpa using h8
 refine Js.skip <| zS <| Qm rfl <| Qm rfl <| zv rfl (fun w hw => c_spec_l02Owner r s.last (ok_ hw)) <| Qm rfl <| Qe rfl rfl <| Qa rfl <| zJ <| zS <| Qm rfl <| Qc rfl <| Qf fh rfl <| QC (hr1 7 _ rfl) rfl ?_
 refine JL.nil <| Js.block <| zS <| Qe rfl rfl <| Qa rfl <| JL.nil ?_
 refine zi (fun h9 h9' => ?_) fun h9 h9' => ?_
 ·
  have hcap : r.capture = 1 := by simpa using h9
  refine Js.block ?_
  refine zl [0, 1, 2] (fun F U l os u m => ∃ (k : Int) (out : List Int) (A10_7 : Option Addr) (c10_7 : Nat) (g10_7 : List Nat), l = F [(7, .slice A10_7 out.length c10_7), (8, .int .i64 k)] ∧ os = U [some (rowO 2 1 (.slice A10_7 out.length c10_7) out.length (ints_ out) g10_7)] ∧ (out ++ M.ttI r player s.pits k = M.ttI r player s.pits s.last) ∧ (-1 ≤ k) ∧ (k < 2 * r.pits) ∧ ((out.length : Int) + k = s.last) ∧ (out.length ≤ c10_7) ∧ (c10_7 ≤ 9223372036854775807) ∧ m = (k + 1).toNat) ⟨s.last, [], _, _, _, rfl, rfl, by rfl, zt, zt, by simp, zu, zu, rfl⟩ ?_
  rintro _ _ u10 _ ⟨k, out, A10_7, c10_7, g10_7, rfl, rfl, hS, k0, k1, hl, f10_4, f10_5, rfl⟩ x10
  refine zn ?_
  refine Js.seq <| zS <| Qm rfl <| Qh rfl rfl <| Qm rfl <| zg (Gd.t1 rfl rfl rfl) (fun hc => p_move rfl) <| zg (Gd.t1 rfl rfl rfl) (fun hc => p_move rfl) <| zgv (Gd.t1 rfl rfl rfl) (fun hc => (opds_2 (gh hc rfl) (gh hc rfl))) (fun hc => (fun w hw => c_spec_l02Owner r k (ok_ hw) (r0 := (oh_ hc)) (r1 := (oh_ hc)) (r2 := (oh_ hc)) (r3 := (oh_ hc)))) ?_
  refine zg (Gd.t1 rfl rfl rfl) (fun hc => p_move rfl) <| zg (Gd.t1 rfl rfl rfl) (fun hc => p_neq (gh hc rfl) (gh hc rfl)) <| Qq (p_pickAnd rfl rfl rfl) <| Qm rfl <| zg (Gd.t1 rfl rfl rfl) (fun hc => p_move rfl) <| zg (Gd.t1 rfl rfl rfl) (fun hc => p_nilCheck (gh hc rfl)) <| zg (Gd.t1 rfl rfl rfl) (fun hc => p_fieldAddr fld_63_0.h (gh hc rfl)) <| zgq (Gd.t1 rfl rfl rfl) (fun hc => q_load1 ty_24.h (gh hc rfl) (Mem.pub ((hr4.vis x10.vis) 0 _ rfl))) <| zg (Gd.t1 rfl rfl rfl) (fun hc => p_move rfl) <| zg (Gd.t1 rfl rfl rfl) (fun hc => p_indexAddr el_24 (gh hc rfl) (gh hc rfl) (by have hc9 := hc; (try simp only [Bool.and_eq_true, decide_eq_true_eq, Bool.not_eq_true', decide_eq_false_iff_not] at hc9); omega) (by have hc9 := hc; (try simp only [Bool.and_eq_true, decide_eq_true_eq, Bool.not_eq_true', decide_eq_false_iff_not] at hc9); omega) rfl) ?_
  refine zgq (Gd.t1 rfl rfl rfl) (fun hc => q_load1 ty_2.h (gh hc rfl) (Mem.pub (ints_cellI (i := k) (Ty.mono _ h2 x10.vis) (by have hc9 := hc; (try simp only [Bool.and_eq_true, decide_eq_true_eq, Bool.not_eq_true', decide_eq_false_iff_not] at hc9); omega)))) ?_
  refine zgv (Gd.t1 rfl rfl rfl) (fun hc => (opds_3 (gh hc rfl) rfl rfl)) (fun hc => (fun w hw => c_spec_l00In (M.getI s.pits k) 2 3)) ?_
  refine Qq (p_pickAnd rfl rfl rfl) <| JL.nil ?_
  refine zi (fun h12 h12' => ?_) fun h12 h12' => ?_
  ·
   obtain ⟨⟨c0, c1⟩, c2⟩ : (0 ≤ k ∧ ¬ M.owner r k = player) ∧ M.betw (M.getI s.pits k) 2 3 = true := by simpa using h12
   have hS2 : (out ++ [k]) ++ M.ttI r player s.pits (k - 1) = M.ttI r player s.pits s.last := by rw [← hS, M.ttI_yes c0 c1 c2]; simp
   refine Js.skip <| Js.block <| zS <| Qm rfl <| Qm rfl <| zbs fun b13 => ?_
   refine JL.e (e_append (i := 1) (n' := (out ++ [k]).length) (vs' := ints_ (out ++ [k])) el_24 rfl rfl rfl rfl (src_row (i := 0) und_24 rfl rfl) (by omega) (by omega) ln2_ (by simp [ints_])) ?_
   rintro v15 _ _ ⟨⟨g16, rfl⟩, rfl⟩ _
   refine JL.fact (row_form' (i := 1) rfl) (fun hf17 => ?_)
   obtain ⟨A17, c17, rfl, bl17, bh17⟩ := hf17
   refine znl ?_
   refine Qa rfl <| zG <| Qm rfl <| Qs rfl rfl <| Qa rfl <| JL.nil <| Js.blockEnd ?_
   refine zd [1] rfl fun u18 x18 => ?_
   exact zag ⟨k - 1, out ++ [k], _, _, _, rfl, rfl, by exact hS2, zt, zt, by simp only [List.length_append, List.length_cons, List.length_nil]; omega, zu, zu, rfl⟩ (x10.trans x18)
  have hF : M.ttI r player s.pits k = [] := by rcases h12' with (h | h) | h; exact M.ttI_neg h; exact M.ttI_no (.inl h); exact M.ttI_no (.inr h)
  rw [hF, List.append_nil] at hS
  have hR : M.taken r s player = out := by unfold M.taken; rw [if_neg hl0, if_pos hcap, hS]; simp [M.ttI, hl0]
  refine zx ?_
  have hq0 : out = M.taken r s player := by rw [hR]
  refine Js.blockEnd <| zS <| Qm rfl <| Qa rfl <| JL.nil ?_
  exact zro x10
 have hcap1 : ¬ r.capture = 1 := by simpa using h9
 refine zS <| Qe rfl rfl <| Qa rfl <| JL.nil ?_
 refine zi (fun h19 h19' => ?_) fun h19 h19' => ?_
 ·
  have hcap : r.capture = 2 := by simpa using h19
  have ho : M.opp r s.last = 2 * r.pits - 1 - s.last := rfl
  refine Js.seq ?_
  refine zdr [] ?_
  refine jM 0 rfl rfl ?_
  refine jM 1 rfl rfl ?_
  refine JH.pg 2 rfl (Gd.t1 rfl rfl rfl) (fun hc => p_move rfl) ?_
  refine JH.pg 3 rfl (Gd.t1 rfl rfl rfl) (fun hc => p_nilCheck (gvt rfl hc)) ?_
  refine JH.pg 4 rfl (Gd.t1 rfl rfl rfl) (fun hc => p_fieldAddr fld_63_0.h (gvt rfl hc)) ?_
  refine JH.wg 5 rfl (Gd.t1 rfl rfl rfl) (fun hc os' u' hv => q_load1 ty_24.h (gvt rfl hc) (Mem.pub ((hr4.vis hv) 0 _ rfl))) ?_
  refine JH.pg 6 rfl (Gd.t1 rfl rfl rfl) (fun hc => p_move rfl) ?_
  refine JH.pg 7 rfl (Gd.t1 rfl rfl rfl) (fun hc => p_indexAddr el_24 (gvt rfl hc) (gvt rfl hc) (oh_ hc) (oh_ hc) rfl) ?_
  refine JH.wg 8 rfl (Gd.t1 rfl rfl rfl) (fun hc os' u' hv => q_load1 ty_2.h (gvt rfl hc) (Mem.pub (ints_cellI (i := s.last) (Ty.mono _ h2 hv) (oh_ hc)))) ?_
  refine JH.pg 9 rfl (Gd.t1 rfl rfl rfl) (fun hc => p_eql (gvt rfl hc) rfl) ?_
  refine JH.p 10 rfl (p_pickAnd rfl rfl rfl) ?_
  refine jM 11 rfl rfl ?_
  refine JH.pg 12 rfl (Gd.t1 rfl rfl rfl) (fun hc => p_move rfl) ?_
  refine JH.pg 13 rfl (Gd.t1 rfl rfl rfl) (fun hc => p_nilCheck (gvt rfl hc)) ?_
  refine JH.pg 14 rfl (Gd.t1 rfl rfl rfl) (fun hc => p_fieldAddr fld_63_0.h (gvt rfl hc)) ?_
  refine JH.wg 15 rfl (Gd.t1 rfl rfl rfl) (fun hc os' u' hv => q_load1 ty_24.h (gvt rfl hc) (Mem.pub ((hr4.vis hv) 0 _ rfl))) ?_
  refine JH.pg 16 rfl (Gd.t1 rfl rfl rfl) (fun hc => p_move rfl) ?_
  refine JH.pg 17 rfl (Gd.t1 rfl rfl rfl) (fun hc => p_move rfl) ?_
  refine y1 18 ?_
  refine JHo.ge rfl (Gd.t1 rfl rfl rfl) (fun hc => e_callV fn_60.h (opds_2 (gvt rfl hc) (gvt rfl hc)) (fun w hw => c_spec_l02Opposite r s.last (ok_ hw) (r0 := (by have hc9 := hc; (try simp only [Bool.and_eq_true, decide_eq_true_eq] at hc9); omega)) (r1 := (by have hc9 := hc; (try simp only [Bool.and_eq_true, decide_eq_true_eq] at hc9); omega)) (r2 := (by have hc9 := hc; (try simp only [Bool.and_eq_true, decide_eq_true_eq] at hc9); omega)) (r3 := (by have hc9 := hc; (try simp only [Bool.and_eq_true, decide_eq_true_eq] at hc9); omega)))) ?_
  refine JH.pg 19 rfl (Gd.t1 rfl rfl rfl) (fun hc => p_indexAddr el_24 (gvt rfl hc) (gvt rfl hc) (by have hc9 := hc; (try simp only [Bool.and_eq_true, decide_eq_true_eq] at hc9); omega) (by have hc9 := hc; (try simp only [Bool.and_eq_true, decide_eq_true_eq] at hc9); omega) rfl) ?_
  refine JH.wg 20 rfl (Gd.t1 rfl rfl rfl) (fun hc os' u' hv => q_load1 ty_2.h (gvt rfl hc) (Mem.pub (ints_cellI (i := M.opp r s.last) (Ty.mono _ h2 hv) (by have hc9 := hc; (try simp only [Bool.and_eq_true, decide_eq_true_eq] at hc9); omega)))) ?_
  refine JH.pg 21 rfl (Gd.t1 rfl rfl rfl) (fun hc => p_gtr (gvt rfl hc) rfl) ?_
  refine JH.p 22 rfl (p_pickAnd rfl rfl rfl) ?_
  refine yd ?_
  refine zi (fun h22 h22' => ?_) fun h22 h22' => ?_
  ·
   have hR : M.taken r s player = [s.last, M.opp r s.last] := by unfold M.taken; rw [if_neg hl0, if_neg hcap1, if_pos hcap, if_pos (by simpa [and_assoc] using h22)]
   refine Js.region <| Qm rfl <| Qm rfl <| Qm rfl <| Qm rfl <| zv rfl (fun w hw => c_spec_l02Opposite r s.last (ok_ hw)) <| zbs fun b23 => ?_
   refine JL.e (e_append (i := 1) (n' := 2) (vs' := ints_ [s.last, (M.opp r s.last)]) el_24 rfl rfl rfl rfl (src_row (i := 0) und_24 rfl rfl) (by omega) (by omega) ln2_ (by simp [ints_])) ?_
   rintro v25 _ _ ⟨⟨g26, rfl⟩, rfl⟩ _
   refine JL.fact (row_form' (i := 1) rfl) (fun hf27 => ?_)
   obtain ⟨A27, c27, rfl, bl27, bh27⟩ := hf27
   refine znl ?_
   have hq0 : [s.last, (M.opp r s.last)] = M.taken r s player := by rw [hR]
   refine Qa rfl <| JL.nil <| Js.blockEnd <| zS <| Qm rfl <| Qa rfl <| JL.nil ?_
   exact zro (Up.refl _ _)
  have hR : M.taken r s player = [] := by unfold M.taken; rw [if_neg hl0, if_neg hcap1, if_pos hcap, if_neg (by simpa [and_assoc] using h22)]
  have hq0 : [] = M.taken r s player := by rw [hR]
  refine Js.skip <| Js.blockEnd <| zS <| Qm rfl <| Qa rfl <| JL.nil ?_
  exact zro (Up.refl _ _)
 have hcap2 : ¬ r.capture = 2 := by simpa using h19
 refine zS <| Qe rfl rfl <| Qa rfl <| JL.nil ?_
 refine zi (fun h28 h28' => ?_) fun h28 h28' => ?_
 ·
  have hcap : r.capture = 3 := by simpa using h28
  refine zS <| Qm rfl <| Qt rfl <| Qm rfl <| zg (Gd.t1 rfl rfl rfl) (fun hc => p_move rfl) <| zg (Gd.t1 rfl rfl rfl) (fun hc => p_nilCheck (gh hc rfl)) <| zg (Gd.t1 rfl rfl rfl) (fun hc => p_fieldAddr fld_63_0.h (gh hc rfl)) <| zgq (Gd.t1 rfl rfl rfl) (fun hc => q_load1 ty_24.h (gh hc rfl) (Mem.pub (hr4 0 _ rfl))) <| zg (Gd.t1 rfl rfl rfl) (fun hc => p_move rfl) <| zg (Gd.t1 rfl rfl rfl) (fun hc => p_indexAddr el_24 (gh hc rfl) (gh hc rfl) (by have hc9 := hc; (try simp only [Bool.not_eq_true', decide_eq_false_iff_not] at hc9); omega) (by have hc9 := hc; (try simp only [Bool.not_eq_true', decide_eq_false_iff_not] at hc9); omega) rfl) ?_
  refine zgq (Gd.t1 rfl rfl rfl) (fun hc => q_load1 ty_2.h (gh hc rfl) (Mem.pub (ints_cellI (i := s.last) h2 (by have hc9 := hc; (try simp only [Bool.not_eq_true', decide_eq_false_iff_not] at hc9); omega)))) ?_
  refine zg (Gd.t1 rfl rfl rfl) (fun hc => p_rem (gh hc rfl) rfl (by have hc9 := hc; (try simp only [Bool.not_eq_true', decide_eq_false_iff_not] at hc9); omega) (Int.tmod_eq_emod_of_nonneg (by have hc9 := hc; (try simp only [Bool.not_eq_true', decide_eq_false_iff_not] at hc9); omega))) ?_
  refine zg (Gd.t1 rfl rfl rfl) (fun hc => p_eql (gh hc rfl) rfl) <| Qq (p_pickAnd rfl rfl rfl) <| JL.nil ?_
  refine zi (fun h30 h30' => ?_) fun h30 h30' => ?_
  ·
   have hR : M.taken r s player = [s.last] := by unfold M.taken; rw [if_neg hl0, if_neg hcap1, if_neg hcap2, if_pos hcap, if_pos (by simpa using h30)]
   refine Js.region <| Qm rfl <| Qm rfl <| zbs fun b31 => ?_
   refine JL.e (e_append (i := 1) (n' := 1) (vs' := ints_ [s.last]) el_24 rfl rfl rfl rfl (src_row (i := 0) und_24 rfl rfl) (by omega) (by omega) ln2_ (by simp [ints_])) ?_
   rintro v33 _ _ ⟨⟨g34, rfl⟩, rfl⟩ _
   refine JL.fact (row_form' (i := 1) rfl) (fun hf35 => ?_)
   obtain ⟨A35, c35, rfl, bl35, bh35⟩ := hf35
   refine znl ?_
   have hq0 : [s.last] = M.taken r s player := by rw [hR]
   refine Qa rfl <| JL.nil <| Js.blockEnd <| zS <| Qm rfl <| Qa rfl <| JL.nil ?_
   exact zro (Up.refl _ _)
  have hR : M.taken r s player = [] := by unfold M.taken; rw [if_neg hl0, if_neg hcap1, if_neg hcap2, if_pos hcap, if_neg (by simpa using h30)]
  have hq0 : [] = M.taken r s player := by rw [hR]
  refine Js.skip <| Js.blockEnd <| zS <| Qm rfl <| Qa rfl <| JL.nil ?_
  exact zro (Up.refl _ _)
 have hcap3 : ¬ r.capture = 3 := by simpa using h28
 have hR : M.taken r s player = [] := by unfold M.taken; rw [if_neg hl0, if_neg hcap1, if_neg hcap2, if_neg hcap3]
 have hq0 : [] = M.taken r s player := by rw [hR]
 refine Js.skip <| Js.blockEnd <| zS <| Qm rfl <| Qa rfl <| JL.nil ?_
 exact zro (Up.refl _ _)
theorem c_spec_l06Sum (s : M.Sw) {v_s : Value} (list : List Int) {v_list : Value} {w : World} (h_s : (Ty.ref (cSown s)).ok w v_s) (h_list : (Ty.ints 2 list).ok w v_list) (r0 : s.pits.length ≤ 16 := by exact om_) (r1 : list.length ≤ 16 := by exact om_) (r2 : ∀ x ∈ list, 0 ≤ x ∧ x < s.pits.length := by exact om_) (r3 : ∀ k : Int, 0 ≤ M.getI s.pits k ∧ M.getI s.pits k ≤ 96 := by exact om_) : RetV Tryd.prog 33 [v_s, v_list] w (.int .i64 (M.isum (list.map (M.getI s.pits)))) := by
 revert v_s; apply opn
 intro b3 o3 A1 c1 h1 bl1 bh1 A2 c2 h2 bl2 bh2 hr3
 revert v_list; apply opn
 intro A4 c4 h4 bl4 bh4
 have h_list := h4
 refine enter @Tryd.func33 @Tryd.ntmps33 rfl rfl ?_
 refine zent ?_
 refine zS <| Qa rfl <| zN <| Qa rfl <| zJ <| zS <| Qa rfl <| JL.nil <| Js.block ?_
 refine zl [0, 1] (fun F U l os u m => ∃ (k : Nat) (t : Int), l = F [(5, .int .i64 t), (6, .int .i64 (k : Int))] ∧ os = U [] ∧ (t + M.isum ((list.drop k).map (M.getI s.pits)) = M.isum (list.map (M.getI s.pits))) ∧ (k ≤ list.length) ∧ (0 ≤ t) ∧ (t ≤ 96 * k) ∧ m = list.length - k) ⟨0, 0, rfl, rfl, by simp, zt, zt, zt, rfl⟩ ?_
 rintro _ _ u5 _ ⟨k, t, rfl, rfl, hS, hk, t0, t1, rfl⟩ x5
 refine zn ?_
 refine Js.seq <| zS <| Qm rfl <| Qm rfl <| Qz rfl <| Ql rfl rfl <| JL.nil ?_
 refine zi (fun h6 h6' => ?_) fun h6 h6' => ?_
 ·
  have hk2 : k < list.length := by have := h6'; omega
  have hx := r2 _ (M.nth_mem hk2)
  have hv := r3 (M.nth list k)
  simp only [M.getI] at hv
  have hS2 := hS
  rw [M.drop_nth hk2, List.map_cons, M.isum_cons, ← Int.add_assoc] at hS2
  refine Js.skip <| Js.seq <| Js.block ?_
  refine zdr [] ?_
  refine jM 0 rfl rfl ?_
  refine jM 1 rfl rfl ?_
  refine jN 2 rfl rfl ?_
  refine jF 3 fld_63_0 rfl rfl ?_
  refine jW 4 ty_24 rfl rfl (fun hv => (hr3.vis (x5.vis.trans hv)) 0 _ rfl) ?_
  refine jM 5 rfl rfl ?_
  refine jM 6 rfl rfl ?_
  obtain ⟨b7, o7, he7, hc7⟩ := ints_elem (Ty.mono _ h4 x5.vis) (i := k) (by omega)
  refine jI 7 el_24 rfl rfl rfl he7 ?_
  refine jW 8 ty_2 rfl rfl hc7.vis ?_
  obtain ⟨b8, o8, he8, hc8⟩ := ints_elem (Ty.mono _ h1 x5.vis) (i := (M.nth list k).toNat) (by omega)
  refine jI 9 el_24 rfl rfl rfl he8 ?_
  refine jW 10 ty_2 rfl rfl hc8.vis ?_
  refine JH.p 11 rfl (p_add rfl rfl (IntWalk.i64_in _ (by omega))) ?_
  refine jA 12 rfl rfl ?_
  refine yd ?_
  refine Js.blockEnd <| Js.region <| Qm rfl <| Qp rfl rfl <| Qa rfl <| JL.nil ?_
  exact zag ⟨k + 1, t + (M.nth s.pits ((M.nth list k).toNat)), rfl, rfl, by exact hS2, zt, zt, zt, rfl⟩ x5
 have hT : M.isum (list.map (M.getI s.pits)) = t := by rw [← hS, List.drop_eq_nil_of_le (by have := h6'; omega)]; simp
 refine zx ?_
 refine zS <| Qm rfl <| Qa rfl <| JL.nil ?_
 refine zR x5 ?_
 rw [hT]; rfl
theorem c_spec_l06Slam (r : M.Rul) {v_r : Value} (s : M.Sw) {v_s : Value} (player : Int) {w : World} (h_r : (Ty.ref (cRules r)).ok w v_r) (h_s : (Ty.ref (cSown s)).ok w v_s) (r0 : 2 ≤ r.pits := by exact om_) (r1 : r.pits ≤ 8 := by exact om_) (r2 : player = 0 ∨ player = 1 := by exact om_) (r3 : M.Good r s.pits s.stores 0 := by exact om_) (r4 : -1 ≤ s.last := by exact om_) (r5 : s.last < 2 * r.pits := by exact om_) : RetV Tryd.prog 29 [v_r, v_s, .int .i64 player] w (.bool (M.slams r s player)) := by
 have l1 := r3.lp
 have l2 := r3.ls
 have hao := M.Good.ok r3
 have hlen := M.taken_len (s := s) (player := player) r5 r1
 revert v_r; apply opn
 intro b1 o1 hr1
 revert v_s; apply opn
 intro b4 o4 A2 c2 h2 bl2 bh2 A3 c3 h3 bl3 bh3 hr4
 refine enter @Tryd.func29 @Tryd.ntmps29 rfl rfl ?_
 refine zent ?_
 obtain ⟨b5, o5, rfl⟩ := ints_some h2 (by omega)
 refine zS <| Qa rfl <| zN <| Qm rfl <| Qm rfl <| Qm rfl <| zp rfl (fun w hw => c_spec_l06Raw r s player (ok_ hw) (ok_ hw) (r3 := r3)) ?_
 intro u6 x6 A7 c7 h7 bl7 bh7
 refine Qa rfl <| zN <| Qa rfl <| zJ <| zS <| Qa rfl <| JL.nil <| Js.block ?_
 refine zl [0, 1, 2, 7] (fun F U l os u m => ∃ (k : Nat) (g : Int), l = F [(8, .int .i64 g), (9, .int .i64 (k : Int))] ∧ os = U [] ∧ (g + M.gone r s player ((M.taken r s player).drop k) = M.gone r s player (M.taken r s player)) ∧ (k ≤ (M.taken r s player).length) ∧ (0 ≤ g) ∧ (g ≤ 96 * k) ∧ m = (M.taken r s player).length - k) ⟨0, 0, rfl, rfl, by simp, zt, zt, zt, rfl⟩ ?_
 rintro _ _ u8 _ ⟨k, g, rfl, rfl, hS, hk, g0, g1, rfl⟩ x8
 refine zn ?_
 refine Js.seq <| zS <| Qm rfl <| Qm rfl <| Qz rfl <| Ql rfl rfl <| JL.nil ?_
 refine zi (fun h9 h9' => ?_) fun h9 h9' => ?_
 ·
  have hk2 : k < (M.taken r s player).length := by have := h9'; omega
  have hx := M.taken_mem (r := r) (s := s) (player := player) r5 (M.nth_mem hk2)
  have hvx := r3.pit (M.nth (M.taken r s player) k)
  have hS1 := hS
  rw [M.drop_nth hk2, M.gone_cons] at hS1
  obtain ⟨b10, o10, he10, hc10⟩ := ints_elem (Ty.mono _ h7 x8.vis) (i := k) (by omega)
  refine Js.skip <| Js.seq <| Js.block <| zS <| Qm rfl <| Qm rfl <| Qm rfl <| Qq (p_indexAddr el_24 rfl rfl (by omega) (by omega) he10) <| QC hc10 rfl <| zv rfl (fun w hw => c_spec_l02Owner r (M.nth (M.taken r s player) k) (ok_ hw)) <| Qm rfl <| Qd rfl rfl <| JL.nil ?_
  refine zi (fun h11 h11' => ?_) fun h11 h11' => ?_
  ·
   have hS2 : (g + M.getI s.pits (M.nth (M.taken r s player) k)) + M.gone r s player ((M.taken r s player).drop (k + 1)) = M.gone r s player (M.taken r s player) := by rw [if_neg (by simpa using h11)] at hS1; omega
   refine zdr [] ?_
   refine jM 0 rfl rfl ?_
   refine jM 1 rfl rfl ?_
   refine jN 2 rfl rfl ?_
   refine jF 3 fld_63_0 rfl rfl ?_
   refine JH.w 4 rfl (fun os' u' hv => q_load1 ty_24.h rfl (Mem.pub ((hr4.vis ((x6.vis.trans x8.vis).trans hv)) 0 _ rfl))) ?_
   refine jM 5 rfl rfl ?_
   refine jM 6 rfl rfl ?_
   obtain ⟨b12, o12, he12, hc12⟩ := ints_elem (Ty.mono _ h7 x8.vis) (i := k) (by omega)
   refine jI 7 el_24 rfl rfl rfl he12 ?_
   refine jW 8 ty_2 rfl rfl hc12.vis ?_
   refine jI 9 el_24 rfl rfl rfl rfl ?_
   refine JH.w 10 rfl (fun os' u' hv => q_load1 ty_2.h rfl (Mem.pub (ints_cellI (i := M.nth (M.taken r s player) k) (Ty.mono _ h2 ((x6.vis.trans x8.vis).trans hv)) (by omega)))) ?_
   refine JH.p 11 rfl (p_add rfl rfl (IntWalk.i64_in _ (by omega))) ?_
   refine jA 12 rfl rfl ?_
   refine yd ?_
   refine Js.blockEnd <| Js.region <| Qm rfl <| Qp rfl rfl <| Qa rfl <| JL.nil ?_
   exact zag ⟨k + 1, g + (M.getI s.pits (M.nth (M.taken r s player) k)), rfl, rfl, by exact hS2, zt, zt, zt, rfl⟩ x8
  have hS2 : g + M.gone r s player ((M.taken r s player).drop (k + 1)) = M.gone r s player (M.taken r s player) := by rw [if_pos (by simpa using h11)] at hS1; omega
  refine Js.skip <| Js.blockEnd <| Js.region <| Qm rfl <| Qp rfl rfl <| Qa rfl <| JL.nil ?_
  exact zag ⟨k + 1, g, rfl, rfl, by exact hS2, zt, zt, zt, rfl⟩ x8
 have hg : g = M.gone r s player (M.taken r s player) := by rw [← hS, List.drop_eq_nil_of_le (by have := h9'; omega), M.gone_nil]; omega
 refine zx ?_
 refine zS <| Qm rfl <| Qg rfl rfl <| Qm rfl <| zg (Gd.t1 rfl rfl rfl) (fun hc => p_move rfl) <| zg (Gd.t1 rfl rfl rfl) (fun hc => p_move rfl) <| zg (Gd.t1 rfl rfl rfl) (fun hc => p_move rfl) <| zg (Gd.t1 rfl rfl rfl) (fun hc => p_nilCheck (gh hc rfl)) <| zg (Gd.t1 rfl rfl rfl) (fun hc => p_fieldAddr fld_63_0.h (gh hc rfl)) <| zgq (Gd.t1 rfl rfl rfl) (fun hc => q_load1 ty_24.h (gh hc rfl) (Mem.pub ((hr4.vis (x6.vis.trans x8.vis)) 0 _ rfl))) <| zg (Gd.t1 rfl rfl rfl) (fun hc => p_move rfl) <| zg (Gd.t1 rfl rfl rfl) (fun hc => p_sub rfl (gh hc rfl) (IntWalk.i64_in _ (oh_ hc))) ?_
 refine zgv (Gd.t1 rfl rfl rfl) (fun hc => (opds_3 (gh hc rfl) (gh hc rfl) (gh hc rfl))) (fun hc => (fun w hw => c_spec_l04Side r s.pits (1 - player) (ok_ hw) (ok_ hw) (r0 := (oh_ hc)) (r1 := (oh_ hc)) (r2 := (oh_ hc)) (r3 := (oh_ hc)) (r4 := hao.1))) ?_
 refine zg (Gd.t1 rfl rfl rfl) (fun hc => p_eql (gh hc rfl) (gh hc rfl)) <| Qq (p_pickAnd rfl rfl rfl) <| Qa rfl <| JL.nil ?_
 refine zR (x6.trans x8) ?_
 subst hg; simp [outV, M.slams, eq_comm]
theorem c_spec_l06Pits (r : M.Rul) {v_r : Value} (s : M.Sw) {v_s : Value} (player : Int) {w : World} (h_r : (Ty.ref (cRules r)).ok w v_r) (h_s : (Ty.ref (cSown s)).ok w v_s) (r0 : 2 ≤ r.pits := by exact om_) (r1 : r.pits ≤ 8 := by exact om_) (r2 : player = 0 ∨ player = 1 := by exact om_) (r3 : M.Good r s.pits s.stores 0 := by exact om_) (r4 : -1 ≤ s.last := by exact om_) (r5 : s.last < 2 * r.pits := by exact om_) : Ret Tryd.prog 31 [v_r, v_s, .int .i64 player] w (Ty.ints 2 (M.captured r s player)) := by
 revert v_r; apply opn
 intro b1 o1 hr1
 revert v_s; apply opn
 intro b4 o4 A2 c2 h2 bl2 bh2 A3 c3 h3 bl3 bh3 hr4
 refine enter @Tryd.func31 @Tryd.ntmps31 rfl rfl ?_
 refine zent ?_
 refine zS <| Qa rfl <| zJ <| zS <| Qm rfl <| Qc rfl <| Qf fh rfl <| QC (hr1 8 _ rfl) rfl <| Qe rfl rfl <| Qm rfl <| zg (Gd.t1 rfl rfl rfl) (fun hc => p_move rfl) <| zg (Gd.t1 rfl rfl rfl) (fun hc => p_move rfl) <| zg (Gd.t1 rfl rfl rfl) (fun hc => p_move rfl) <| zgv (Gd.t1 rfl rfl rfl) (fun hc => (opds_3 (gh hc rfl) (gh hc rfl) (gh hc rfl))) (fun hc => (fun w hw => c_spec_l06Slam r s player (ok_ hw) (ok_ hw) (r0 := (oh_ hc)) (r1 := (oh_ hc)) (r2 := (oh_ hc)) (r3 := r3) (r4 := (oh_ hc)) (r5 := (oh_ hc)))) ?_
 refine Qq (p_pickAnd rfl rfl rfl) <| JL.nil ?_
 refine zi (fun h5 h5' => ?_) fun h5 h5' => ?_
 ·
  have hR : M.captured r s player = [] := by unfold M.captured; rw [if_pos (by simpa using h5)]
  have hq0 : [] = M.captured r s player := by rw [hR]
  refine zS <| zbs fun b6 => ?_
  refine Qa rfl <| JL.nil ?_
  exact zro (Up.refl _ _)
 have hR : M.captured r s player = M.taken r s player := by unfold M.captured; rw [if_neg (by simpa using h5)]
 refine Js.skip <| zS <| Qm rfl <| Qm rfl <| Qm rfl <| zcs rfl (fun w hw => c_spec_l06Raw r s player (ok_ hw) (ok_ hw) (r3 := r3)) ?_
 intro A8 c8 bl8 bh8
 have hq0 : (M.taken r s player) = M.captured r s player := by rw [hR]
 refine Qa rfl <| JL.nil ?_
 exact zro (Up.refl _ _)
theorem c_spec_l06Take (r : M.Rul) {v_r : Value} (s : M.Sw) {v_s : Value} (player : Int) {w : World} (h_r : (Ty.ref (cRules r)).ok w v_r) (h_s : (Ty.ref (cSown s)).ok w v_s) (r0 : 2 ≤ r.pits := by exact om_) (r1 : r.pits ≤ 8 := by exact om_) (r2 : player = 0 ∨ player = 1 := by exact om_) (r3 : M.Good r s.pits s.stores 0 := by exact om_) (r4 : -1 ≤ s.last := by exact om_) (r5 : s.last < 2 * r.pits := by exact om_) : Ret Tryd.prog 51 [v_r, v_s, .int .i64 player] w (Ty.agg (cSown (M.take r s player))) := by
 have l1 := r3.lp
 have l2 := r3.ls
 have hlen := M.captured_len (s := s) (player := player) r5 r1
 have hmem : ∀ x ∈ (M.captured r s player), 0 ≤ x ∧ x < s.pits.length := fun x hx => by have := M.captured_mem r5 hx; omega
 have hbs := r3.store player
 have hbi := M.cap_sum (r := r) (s := s) (player := player) r3 r5
 revert v_r; apply opn
 intro b1 o1 hr1
 revert v_s; apply opn
 intro b4 o4 A2 c2 h2 bl2 bh2 A3 c3 h3 bl3 bh3 hr4
 refine enter @Tryd.func51 @Tryd.ntmps51 rfl rfl ?_
 refine zent ?_
 obtain ⟨b5, o5, rfl⟩ := ints_some h2 (by omega)
 obtain ⟨b6, o6, rfl⟩ := ints_some h3 (by omega)
 refine zS <| za zeh fun b7 => zN <| Qm rfl <| Qm rfl <| Qm rfl <| zp rfl (fun w hw => c_spec_l06Pits r s player (ok_ hw) (ok_ hw) (r3 := r3)) ?_
 intro u8 x8 A9 c9 h9 bl9 bh9
 refine Qa rfl <| zJ ?_
 refine zk [1, 2, 6, 7] (fun F U l os u => ∃ (b12 : Nat) (A10 : Option Addr) (c10 : Nat) (A11 : Option Addr) (c11 : Nat), l = F [(8, .pointer (some ⟨b12, 0, none⟩))] ∧ os = [boxO b12 [.slice A10 s.pits.length c10, .slice A11 s.stores.length c11, .int .i64 s.last, .int .i64 s.laps] 63, rowO 2 1 (.slice A11 s.stores.length c11) s.stores.length (ints_ s.stores) [], rowO 2 1 (.slice A10 s.pits.length c10) s.pits.length (ints_ s.pits) []] ++ U [] ∧ (s.pits.length ≤ c10) ∧ (c10 ≤ 9223372036854775807) ∧ (s.stores.length ≤ c11) ∧ (c11 ≤ 9223372036854775807)) ?_ ?_
 ·
  refine zdr [20] ?_
  refine jM 0 rfl rfl ?_
  refine jN 1 rfl rfl ?_
  refine jF 2 fld_63_0 rfl rfl ?_
  refine jW 3 ty_24 rfl rfl (fun hv => (hr4.vis (x8.vis.trans hv)) 0 _ rfl) ?_
  refine jM 5 rfl rfl ?_
  refine jN 6 rfl rfl ?_
  refine jF 7 fld_63_1 rfl rfl ?_
  refine jW 8 ty_24 rfl rfl (fun hv => (hr4.vis (x8.vis.trans hv)) 1 _ rfl) ?_
  refine jM 10 rfl rfl ?_
  refine jN 11 rfl rfl ?_
  refine jF 12 fld_63_2 rfl rfl ?_
  refine jW 13 ty_2 rfl rfl (fun hv => (hr4.vis (x8.vis.trans hv)) 2 _ rfl) ?_
  refine jM 14 rfl rfl ?_
  refine jN 15 rfl rfl ?_
  refine jF 16 fld_63_3 rfl rfl ?_
  refine jW 17 ty_2 rfl rfl (fun hv => (hr4.vis (x8.vis.trans hv)) 3 _ rfl) ?_
  refine y2 4 19 ?_ ?_
  ·
   refine ycs rfl rfl (fun w hw => c_spec_l00Own s.pits (ok_ hw)) ?_
   intro A19 c19 bl19 bh19
   refine y2 9 19 ?_ ?_
   ·
    refine ycs rfl rfl (fun w hw => c_spec_l00Own s.stores (ok_ hw)) ?_
    intro A20 c20 bl20 bh20
    refine JH.p 18 rfl (q_bld) ?_
    refine y1 19 ?_
    refine ya rfl fun b21 => ?_
    refine y1 20 ?_
    refine yst rfl rfl rfl ?_
    refine yd ?_
    exact zm ⟨_, _, _, _, _, rfl, rfl, zt, zt, zt, zt⟩ (Up.refl _ _)
   refine ya rfl fun b22 => ?_
   refine y1 9 ?_
   refine ycs rfl rfl (fun w hw => c_spec_l00Own s.stores (ok_ hw)) ?_
   intro A23 c23 bl23 bh23
   refine JH.p 18 rfl (q_bld) ?_
   refine y1 20 ?_
   refine yst rfl rfl rfl ?_
   refine yd ?_
   refine zh [1, 0, 0, 0] ?_
   exact zm ⟨_, _, _, _, _, rfl, rfl, zt, zt, zt, zt⟩ (Up.refl _ _)
  refine ya rfl fun b24 => ?_
  refine y1 4 ?_
  refine ycs rfl rfl (fun w hw => c_spec_l00Own s.pits (ok_ hw)) ?_
  intro A25 c25 bl25 bh25
  refine y1 9 ?_
  refine ycs rfl rfl (fun w hw => c_spec_l00Own s.stores (ok_ hw)) ?_
  intro A26 c26 bl26 bh26
  refine JH.p 18 rfl (q_bld) ?_
  refine y1 20 ?_
  refine yst rfl rfl rfl ?_
  refine yd ?_
  refine zh [2, 0, 0, 0] ?_
  exact zm ⟨_, _, _, _, _, rfl, rfl, zt, zt, zt, zt⟩ (Up.refl _ _)
 rintro _ _ u18 ⟨b12, A10, c10, A11, c11, rfl, rfl, f18_0, f18_1, f18_2, f18_3⟩ x18
 refine zn ?_
 refine Js.fact (row_some (i := 1) rfl (by omega)) (fun hf27 => ?_)
 obtain ⟨b27, rfl⟩ := hf27
 refine Js.fact (row_some (i := 2) rfl (by omega)) (fun hf28 => ?_)
 obtain ⟨b28, rfl⟩ := hf28
 refine Js.seq ?_
 refine zdr [10] ?_
 refine jF 0 fld_63_1 rfl rfl ?_
 refine jB 1 0 ty_24 rfl rfl rfl rfl ?_
 refine jM 2 rfl rfl ?_
 refine jI 3 el_24 rfl rfl rfl rfl ?_
 refine JH.q 4 rfl (q_load1 ty_2.h rfl (Mem.row (i := 1) rfl (ints_getI (i := player) (by omega)))) ?_
 refine jM 5 rfl rfl ?_
 refine jM 6 rfl rfl ?_
 refine y1 7 ?_
 refine yv rfl rfl (fun w hw => c_spec_l06Sum s (M.captured r s player) (ok_ hw) (ok_ hw) (r2 := hmem) (r3 := r3.pit)) ?_
 refine JH.p 8 rfl (p_add rfl rfl (IntWalk.i64_in _ (by omega))) ?_
 refine jI 9 el_24 rfl rfl rfl rfl ?_
 refine y1 10 ?_
 refine JHo.s rfl (e_storeRow (i := 1) (xs' := ints_ (M.setI s.stores player ((M.getI s.stores player) + (M.isum ((M.captured r s player).map (M.getI s.pits)))))) ty_2.h rfl rfl rfl rfl rfl rfl (ints_lt (i := player.toNat) (by omega)) (ints_setL (i := player.toNat) (by omega))) (.inr rfl) ?_
 rintro _ _ _ ⟨rfl, rfl⟩ _
 refine znh ?_
 refine yd ?_
 refine Js.seq <| zS <| Qa rfl <| JL.nil <| Js.block ?_
 refine zl [6, 7, 8] (fun F U l os u m => ∃ (k : Nat) (ps : List Int), l = F [(9, .int .i64 (k : Int))] ∧ os = U [nO, nO, some (rowO 2 1 (.slice (some ⟨b28, 0, none⟩) s.pits.length c10) s.pits.length (ints_ ps) [])] ∧ (ps = M.zeros ((M.captured r s player).take k) s.pits) ∧ (k ≤ (M.captured r s player).length) ∧ (ps.length = s.pits.length) ∧ m = (M.captured r s player).length - k) ⟨0, s.pits, rfl, rfl, by rfl, zt, by rfl, rfl⟩ ?_
 rintro _ _ u31 _ ⟨k, ps, rfl, rfl, hP, hk, hpl, rfl⟩ x31
 refine zn ?_
 refine Js.seq <| zS <| Qm rfl <| Qm rfl <| Qz rfl <| Ql rfl rfl <| JL.nil ?_
 refine zi (fun h32 h32' => ?_) fun h32 h32' => ?_
 ·
  have hk2 : k < (M.captured r s player).length := by have := h32'; omega
  have hx := hmem _ (M.nth_mem hk2)
  refine Js.skip <| Js.seq <| Js.block ?_
  refine zdr [7] ?_
  refine jF 0 fld_63_0 rfl rfl ?_
  refine jB 1 0 ty_24 rfl rfl rfl rfl ?_
  refine jM 2 rfl rfl ?_
  refine jM 3 rfl rfl ?_
  obtain ⟨b33, o33, he33, hc33⟩ := ints_elem (Ty.mono _ h9 (x18.vis.trans x31.vis)) (i := k) (by omega)
  refine jI 4 el_24 rfl rfl rfl he33 ?_
  refine jW 5 ty_2 rfl rfl hc33.vis ?_
  refine jI 6 el_24 rfl rfl rfl rfl ?_
  refine y1 7 ?_
  refine JHo.s rfl (e_storeRow (i := 2) (xs' := ints_ (M.setI ps (M.nth (M.captured r s player) k) 0)) ty_2.h rfl rfl rfl rfl rfl rfl (ints_lt (i := (M.nth (M.captured r s player) k).toNat) (by omega)) (ints_setL (i := (M.nth (M.captured r s player) k).toNat) (by omega))) (.inr rfl) ?_
  rintro _ _ _ ⟨rfl, rfl⟩ _
  refine znh ?_
  refine yd ?_
  refine Js.blockEnd <| Js.region <| Qm rfl <| Qp rfl rfl <| Qa rfl <| JL.nil ?_
  exact zag ⟨k + 1, M.setI ps (M.nth (M.captured r s player) k) 0, rfl, rfl, by rw [hP]; exact (M.zeros_step hk2 _).symm, zt, by rw [M.setI_length]; exact hpl, rfl⟩ x31
 have hR : ps = (M.take r s player).pits := by rw [hP, List.take_of_length_le (by have := h32'; omega)]; rfl
 refine zx ?_
 have hq0 : ps = (M.take r s player).pits := by first | exact hR | rfl
 have hq1 : (M.setI s.stores player ((M.getI s.stores player) + (M.isum ((M.captured r s player).map (M.getI s.pits))))) = (M.take r s player).stores := by first | exact hR | rfl
 have hq2 : s.last = (M.take r s player).last := by first | exact hR | rfl
 have hq3 : s.laps = (M.take r s player).laps := by first | exact hR | rfl
 refine zS <| Q9 0 rfl rfl ?_
 refine zw 3 rfl rfl rfl ?_
 refine JL.nil ?_
 exact zro ((x8.trans x18).trans x31)
theorem c_spec_l07Feed (r : M.Rul) {v_r : Value} (p : M.Pos) {v_p : Value} {w : World} (h_r : (Ty.ref (cRules r)).ok w v_r) (h_p : (Ty.ref (cPosition p)).ok w v_p) (r0 : M.okP r p = true := by exact om_) : RetV Tryd.prog 52 [v_r, v_p] w (.bool (M.mustFeed r p)) := by
 obtain ⟨g1, g2, g3, g4, g5, g6, g7⟩ := M.okP_bd r0
 revert v_r; apply opn
 intro b1 o1 hr1
 revert v_p; apply opn
 intro b4 o4 A2 c2 h2 bl2 bh2 A3 c3 h3 bl3 bh3 hr4
 refine enter @Tryd.func52 @Tryd.ntmps52 rfl rfl ?_
 refine zent ?_
 refine zS <| Qa rfl <| zJ ?_
 refine zdr [] ?_
 refine jM 0 rfl rfl ?_
 refine jN 1 rfl rfl ?_
 refine jF 2 fld_31_5 rfl rfl ?_
 refine jW 3 ty_4 rfl rfl (fun hv => (hr1.vis hv) 5 _ rfl) ?_
 refine jM 4 rfl rfl ?_
 refine JH.pg 5 rfl (Gd.t1 rfl rfl rfl) (fun hc => p_move rfl) ?_
 refine JH.pg 6 rfl (Gd.t1 rfl rfl rfl) (fun hc => p_move rfl) ?_
 refine JH.pg 7 rfl (Gd.t1 rfl rfl rfl) (fun hc => p_nilCheck (gvt rfl hc)) ?_
 refine JH.pg 8 rfl (Gd.t1 rfl rfl rfl) (fun hc => p_fieldAddr fld_33_0.h (gvt rfl hc)) ?_
 refine JH.wg 9 rfl (Gd.t1 rfl rfl rfl) (fun hc os' u' hv => q_load1 ty_24.h (gvt rfl hc) (Mem.pub ((hr4.vis hv) 0 _ rfl))) ?_
 refine JH.pg 10 rfl (Gd.t1 rfl rfl rfl) (fun hc => p_move rfl) ?_
 refine JH.pg 11 rfl (Gd.t1 rfl rfl rfl) (fun hc => p_nilCheck (gvt rfl hc)) ?_
 refine JH.pg 12 rfl (Gd.t1 rfl rfl rfl) (fun hc => p_fieldAddr fld_33_2.h (gvt rfl hc)) ?_
 refine JH.wg 13 rfl (Gd.t1 rfl rfl rfl) (fun hc os' u' hv => q_load1 ty_2.h (gvt rfl hc) (Mem.pub ((hr4.vis hv) 2 _ rfl))) ?_
 refine JH.pg 14 rfl (Gd.t1 rfl rfl rfl) (fun hc => p_sub rfl (gvt rfl hc) (IntWalk.i64_in _ (by omega))) ?_
 refine y1 15 ?_
 refine JHo.ge rfl (Gd.t1 rfl rfl rfl) (fun hc => e_callV fn_53.h (opds_3 (gvt rfl hc) (gvt rfl hc) (gvt rfl hc)) (fun w hw => c_spec_l04Side r p.pits (1 - p.player) (ok_ hw) (ok_ hw) (r4 := g5))) ?_
 refine JH.pg 16 rfl (Gd.t1 rfl rfl rfl) (fun hc => p_eql (gvt rfl hc) rfl) ?_
 refine JH.p 17 rfl (p_pickAnd rfl rfl rfl) ?_
 refine jA 18 rfl rfl ?_
 refine yd ?_
 refine zR (Up.refl _ _) ?_
 simp [outV, M.mustFeed]
theorem c_spec_l07Make (r : M.Rul) {v_r : Value} (p : M.Pos) {v_p : Value} (move : Int) {w : World} (h_r : (Ty.ref (cRules r)).ok w v_r) (h_p : (Ty.ref (cPosition p)).ok w v_p) (r0 : p.pits.length ≤ 4194304 := by exact om_) (r1 : p.stores.length ≤ 4194304 := by exact om_) : Ret Tryd.prog 27 [v_r, v_p, .int .i64 move] w (Ty.tup [Ty.agg (cResult ((M.make r p move).1)), Ty.int ((M.make r p move).2)]) := by
 revert v_r; apply opn
 intro b1 o1 hr1
 revert v_p; apply opn
 intro b4 o4 A2 c2 h2 bl2 bh2 A3 c3 h3 bl3 bh3 hr4
 refine enter @Tryd.func27 @Tryd.ntmps27 rfl rfl ?_
 refine zent ?_
 refine zS <| za zeh fun b5 => Qa rfl <| zN <| Qm rfl <| Qm rfl <| Qm rfl <| zp rfl (fun w hw => c_spec_l05Move r p move (ok_ hw) (ok_ hw)) ?_
 intro u6 x6 A7 c7 h7 bl7 bh7 A8 c8 h8 bl8 bh8 A9 c9 h9 bl9 bh9
 refine Qm rfl <| Qx rfl rfl <| Qx rfl rfl <| Qx rfl rfl <| za zeh fun b10 => zw 0 rfl rfl rfl ?_
 refine Qa rfl <| Qa rfl <| zJ <| zS <| Qm rfl <| Qd rfl rfl <| JL.nil ?_
 refine zi (fun h11 h11' => ?_) fun h11 h11' => ?_
 ·
  have hD := M.make_sow (r := r) (p := p) (move := move) (by simpa using h11)
  have hq0 : 0 = ((M.make r p move).1).move := rp_ hD
  have hq1 : 0 = ((M.make r p move).1).gain := rp_ hD
  have hq2 : false = ((M.make r p move).1).again := rp_ hD
  have hq3 : [] = (((M.make r p move).1).next).pits := rp_ hD
  have hq4 : [] = (((M.make r p move).1).next).stores := rp_ hD
  have hq5 : 0 = (((M.make r p move).1).next).player := rp_ hD
  have hq6 : ((M.sowMove r p move).1) = (M.make r p move).2 := rp_ hD
  refine zS <| Qb ?_
  refine Qm rfl <| zw 1 rfl rfl rfl ?_
  refine Qa rfl <| JL.nil ?_
  exact zro x6
 have hz : (M.sowMove r p move).1 = 0 := by simpa using h11
 obtain ⟨hok, m0, m1, hG, q0, q1, hsum⟩ := M.sowMove_ok hz
 obtain ⟨g1, g2, g3, g4, g5, g6, g7⟩ := M.okP_bd hok
 have hG2 := (M.take_keeps g7 hG q1).1
 have hao := M.Good.ok hG2
 have hl2 := hG2.lp
 have hl3 := hG2.ls
 have hs1 := hG2.store p.player
 have hs2 := (M.Good.of_ok hok).store p.player
 simp only [M.getI] at hs2
 refine Js.skip <| Js.seq <| zS <| Qm rfl <| Qc rfl <| Qf fh rfl <| QC ((hr1.vis x6.vis) 8 _ rfl) rfl <| Qe rfl rfl <| Qm rfl <| zg (Gd.t1 rfl rfl rfl) (fun hc => p_move rfl) <| zg (Gd.t1 rfl rfl rfl) (fun hc => p_move rfl) <| zg (Gd.t1 rfl rfl rfl) (fun hc => p_nilCheck (gh hc rfl)) <| zg (Gd.t1 rfl rfl rfl) (fun hc => p_fieldAddr fld_33_2.h (gh hc rfl)) <| zgq (Gd.t1 rfl rfl rfl) (fun hc => q_load1 ty_2.h (gh hc rfl) (Mem.pub ((hr4.vis x6.vis) 2 _ rfl))) ?_
 refine zgv (Gd.t1 rfl rfl rfl) (fun hc => (opds_3 (gh hc rfl) rfl (gh hc rfl))) (fun hc => (fun w hw => c_spec_l06Slam r ((M.sowMove r p move).2.1) p.player (ok_ hw) (ok_ hw) (r0 := (oh_ hc)) (r1 := (oh_ hc)) (r2 := (oh_ hc)) (r3 := hG) (r4 := (oh_ hc)) (r5 := (oh_ hc)))) ?_
 refine Qq (p_pickAnd rfl rfl rfl) <| JL.nil ?_
 refine zi (fun h12 h12' => ?_) fun h12 h12' => ?_
 ·
  have hD := M.make_slam hz (by simpa using h12)
  have hq0 : 0 = ((M.make r p move).1).move := rp_ hD
  have hq1 : 0 = ((M.make r p move).1).gain := rp_ hD
  have hq2 : false = ((M.make r p move).1).again := rp_ hD
  have hq3 : [] = (((M.make r p move).1).next).pits := rp_ hD
  have hq4 : [] = (((M.make r p move).1).next).stores := rp_ hD
  have hq5 : 0 = (((M.make r p move).1).next).player := rp_ hD
  have hq6 : 9 = (M.make r p move).2 := rp_ hD
  refine zS <| Qb ?_
  refine zw 1 rfl rfl rfl ?_
  refine Qa rfl <| JL.nil ?_
  exact zro x6
 have hns : ¬ (r.slam = 1 ∧ M.slams r (M.sowMove r p move).2.1 p.player = true) := by simpa using h12
 refine Js.skip <| zS <| Qm rfl <| Qm rfl <| Qc rfl <| Qf fh rfl <| QC ((hr4.vis x6.vis) 2 _ rfl) rfl <| zc rfl (fun w hw => c_spec_l06Take r ((M.sowMove r p move).2.1) p.player (ok_ hw) (ok_ hw) (r3 := hG)) ?_
 intro A14 c14 bl14 bh14 A15 c15 bl15 bh15
 refine za zeh fun b16 => zw 0 rfl rfl rfl ?_
 refine zJ <| Js.seq ?_
 refine zdr [] ?_
 refine jM 0 rfl rfl ?_
 refine jM 1 rfl rfl ?_
 refine y1 2 ?_
 refine yv rfl rfl (fun w hw => c_spec_l07Feed r p (ok_ hw) (ok_ hw) (r0 := hok)) ?_
 refine jM 3 rfl rfl ?_
 refine JH.pg 4 rfl (Gd.t1 rfl rfl rfl) (fun hc => p_move rfl) ?_
 refine JH.pg 5 rfl (Gd.t1 rfl rfl rfl) (fun hc => p_fieldAddr fld_63_0.h rfl) ?_
 refine JH.qg 6 rfl (Gd.t1 rfl rfl rfl) (fun hc => q_load1 ty_24.h (gvt rfl hc) (Mem.box (i := 0) rfl rfl)) ?_
 refine JH.pg 7 rfl (Gd.t1 rfl rfl rfl) (fun hc => p_move rfl) ?_
 refine JH.pg 8 rfl (Gd.t1 rfl rfl rfl) (fun hc => p_nilCheck (gvt rfl hc)) ?_
 refine JH.pg 9 rfl (Gd.t1 rfl rfl rfl) (fun hc => p_fieldAddr fld_33_2.h (gvt rfl hc)) ?_
 refine JH.wg 10 rfl (Gd.t1 rfl rfl rfl) (fun hc os' u' hv => q_load1 ty_2.h (gvt rfl hc) (Mem.pub ((hr4.vis (x6.vis.trans hv)) 2 _ rfl))) ?_
 refine JH.pg 11 rfl (Gd.t1 rfl rfl rfl) (fun hc => p_sub rfl (gvt rfl hc) (IntWalk.i64_in _ (by omega))) ?_
 refine y1 12 ?_
 refine JHo.ge rfl (Gd.t1 rfl rfl rfl) (fun hc => e_callV fn_53.h (opds_3 (gvt rfl hc) (gvt rfl hc) (gvt rfl hc)) (fun w hw => c_spec_l04Side r ((M.take r ((M.sowMove r p move).2.1) p.player).pits) (1 - p.player) (ok_ hw) (ok_ hw) (r4 := hao.1))) ?_
 refine JH.pg 13 rfl (Gd.t1 rfl rfl rfl) (fun hc => p_eql (gvt rfl hc) rfl) ?_
 refine JH.p 14 rfl (p_pickAnd rfl rfl rfl) ?_
 refine yd ?_
 refine zi (fun h17 h17' => ?_) fun h17 h17' => ?_
 ·
  have hD := M.make_feed hz hns (by simpa using h17)
  have hq0 : 0 = ((M.make r p move).1).move := rp_ hD
  have hq1 : 0 = ((M.make r p move).1).gain := rp_ hD
  have hq2 : false = ((M.make r p move).1).again := rp_ hD
  have hq3 : [] = (((M.make r p move).1).next).pits := rp_ hD
  have hq4 : [] = (((M.make r p move).1).next).stores := rp_ hD
  have hq5 : 0 = (((M.make r p move).1).next).player := rp_ hD
  have hq6 : 9 = (M.make r p move).2 := rp_ hD
  refine zS <| Qb ?_
  refine zw 4 rfl rfl rfl ?_
  refine Qa rfl <| JL.nil ?_
  exact zro x6
 have hD := M.make_go hz hns (by simpa using h17)
 refine Js.skip <| Js.seq ?_
 refine zk [1, 6, 11] (fun F U l os u => ∃ (b21 b19 : Nat), l = F [(12, .pointer (some ⟨b21, 0, none⟩))] ∧ os = [boxO b21 [.int .i64 move, .int .i64 ((M.getI ((M.take r ((M.sowMove r p move).2.1) p.player).stores) p.player) - (M.nth p.stores p.player.toNat)), .bool (r.again && (decide ((M.take r ((M.sowMove r p move).2.1) p.player).last = (-1)))), .slice none 0 0, .slice none 0 0, .int .i64 0] 59] ++ U [some (boxO b16 [.slice A14 (((M.take r ((M.sowMove r p move).2.1) p.player).pits).length) c14, .slice (some ⟨b19, 0, none⟩) (((M.take r ((M.sowMove r p move).2.1) p.player).stores).length) c15, .int .i64 ((M.take r ((M.sowMove r p move).2.1) p.player).last), .int .i64 ((M.take r ((M.sowMove r p move).2.1) p.player).laps)] 63), some (rowO 2 1 (.slice (some ⟨b19, 0, none⟩) (((M.take r ((M.sowMove r p move).2.1) p.player).stores).length) c15) (((M.take r ((M.sowMove r p move).2.1) p.player).stores).length) (ints_ ((M.take r ((M.sowMove r p move).2.1) p.player).stores)) [])]) ?_ ?_
 ·
  refine zdr [31] ?_
  refine jM 0 rfl rfl ?_
  refine jF 1 fld_63_1 rfl rfl ?_
  refine jB 2 0 ty_24 rfl rfl rfl rfl ?_
  refine jM 3 rfl rfl ?_
  refine jN 4 rfl rfl ?_
  refine jF 5 fld_33_2 rfl rfl ?_
  refine jW 6 ty_2 rfl rfl (fun hv => (hr4.vis (x6.vis.trans hv)) 2 _ rfl) ?_
  refine JH.fact (row_some (i := 1) rfl (by omega)) (fun hf25 => ?_)
  obtain ⟨b25, rfl⟩ := hf25
  refine jI 7 el_24 rfl rfl rfl rfl ?_
  refine JH.q 8 rfl (q_load1 ty_2.h rfl (Mem.row (i := 1) rfl (ints_getI (i := p.player) (by omega)))) ?_
  refine jM 9 rfl rfl ?_
  refine jN 10 rfl rfl ?_
  refine jF 11 fld_33_1 rfl rfl ?_
  refine jW 12 ty_24 rfl rfl (fun hv => (hr4.vis (x6.vis.trans hv)) 1 _ rfl) ?_
  refine jM 13 rfl rfl ?_
  refine jN 14 rfl rfl ?_
  refine jF 15 fld_33_2 rfl rfl ?_
  refine jW 16 ty_2 rfl rfl (fun hv => (hr4.vis (x6.vis.trans hv)) 2 _ rfl) ?_
  obtain ⟨b26, o26, he26, hc26⟩ := ints_elem (Ty.mono _ h3 x6.vis) (i := p.player.toNat) (by omega)
  refine jI 17 el_24 rfl rfl rfl he26 ?_
  refine jW 18 ty_2 rfl rfl hc26.vis ?_
  refine JH.p 19 rfl (p_sub rfl rfl (IntWalk.i64_in _ (by omega))) ?_
  refine jM 20 rfl rfl ?_
  refine jN 21 rfl rfl ?_
  refine jF 22 fld_31_6 rfl rfl ?_
  refine jW 23 ty_4 rfl rfl (fun hv => (hr1.vis (x6.vis.trans hv)) 6 _ rfl) ?_
  refine jM 24 rfl rfl ?_
  refine JH.pg 25 rfl (Gd.t1 rfl rfl rfl) (fun hc => p_fieldAddr fld_63_2.h rfl) ?_
  refine y2 26 30 ?_ ?_
  ·
   refine JHo.qg rfl (Gd.t1 rfl rfl rfl) (fun hc => q_load1 ty_2.h (gvt rfl hc) (Mem.box (i := 0) rfl rfl)) ?_
   refine JH.pg 27 rfl (Gd.t1 rfl rfl rfl) (fun hc => p_eql (gvt rfl hc) rfl) ?_
   refine JH.p 28 rfl (p_pickAnd rfl rfl rfl) ?_
   refine JH.p 29 rfl (q_bld) ?_
   refine y1 30 ?_
   refine ya rfl fun b27 => ?_
   refine y1 31 ?_
   refine yst rfl rfl rfl ?_
   refine yd ?_
   exact zm ⟨_, _, rfl, rfl⟩ (Up.refl _ _)
  refine ya rfl fun b28 => ?_
  refine y1 26 ?_
  refine JHo.qg rfl (Gd.t1 rfl rfl rfl) (fun hc => q_load1 ty_2.h (gvt rfl hc) (Mem.box (i := 1) rfl rfl)) ?_
  refine JH.pg 27 rfl (Gd.t1 rfl rfl rfl) (fun hc => p_eql (gvt rfl hc) rfl) ?_
  refine JH.p 28 rfl (p_pickAnd rfl rfl rfl) ?_
  refine JH.p 29 rfl (q_bld) ?_
  refine y1 31 ?_
  refine yst rfl rfl rfl ?_
  refine yd ?_
  exact zm ⟨_, _, rfl, rfl⟩ (Up.refl _ _)
 rintro _ _ u23 ⟨b21, b19, rfl, rfl⟩ x23
 refine zn ?_
 refine Js.seq ?_
 refine zdr [11] ?_
 refine jF 0 fld_63_0 rfl rfl ?_
 refine jB 1 1 ty_24 rfl rfl rfl rfl ?_
 refine jF 2 fld_63_1 rfl rfl ?_
 refine jB 3 1 ty_24 rfl rfl rfl rfl ?_
 refine jM 4 rfl rfl ?_
 refine jN 5 rfl rfl ?_
 refine jF 6 fld_33_2 rfl rfl ?_
 refine JH.w 7 rfl (fun os' u' hv => q_load1 ty_2.h rfl (Mem.pub ((hr4.vis ((x6.vis.trans x23.vis).trans hv)) 2 _ rfl))) ?_
 refine JH.p 8 rfl (p_sub rfl rfl (IntWalk.i64_in _ (by omega))) ?_
 refine JH.p 9 rfl (q_bld) ?_
 refine jF 10 fld_59_3 rfl rfl ?_
 refine y1 11 ?_
 refine yst rfl rfl rfl ?_
 refine yd ?_
 refine Js.seq <| zS <| Qf fh rfl <| Q0 0 rfl rfl rfl <| JL.nil ?_
 refine zi (fun h29 h29' => ?_) fun h29 h29' => ?_
 ·
  unfold M.resOf at hD
  rw [if_pos h29] at hD
  have hq0 : move = ((M.make r p move).1).move := rp_ hD
  have hq1 : ((M.getI ((M.take r ((M.sowMove r p move).2.1) p.player).stores) p.player) - (M.nth p.stores p.player.toNat)) = ((M.make r p move).1).gain := rp_ hD
  have hq2 : (r.again && (decide ((M.take r ((M.sowMove r p move).2.1) p.player).last = (-1)))) = ((M.make r p move).1).again := rp_ hD
  have hq3 : ((M.take r ((M.sowMove r p move).2.1) p.player).pits) = (((M.make r p move).1).next).pits := rp_ hD
  have hq4 : ((M.take r ((M.sowMove r p move).2.1) p.player).stores) = (((M.make r p move).1).next).stores := rp_ hD
  have hq5 : p.player = (((M.make r p move).1).next).player := rp_ hD
  have hq6 : 0 = (M.make r p move).2 := rp_ hD
  refine Js.region <| Qm rfl <| Qc rfl <| Qf fh rfl <| QC ((hr4.vis (x6.vis.trans x23.vis)) 2 _ rfl) rfl <| Qf fh rfl <| Qf fh rfl <| zw 0 rfl rfl rfl ?_
  refine zN <| Q9 0 rfl rfl ?_
  refine zw 5 rfl rfl rfl ?_
  refine Qa rfl <| JL.nil ?_
  exact zro (x6.trans x23)
 unfold M.resOf at hD
 rw [if_neg (by simpa using h29)] at hD
 have hq0 : move = ((M.make r p move).1).move := rp_ hD
 have hq1 : ((M.getI ((M.take r ((M.sowMove r p move).2.1) p.player).stores) p.player) - (M.nth p.stores p.player.toNat)) = ((M.make r p move).1).gain := rp_ hD
 have hq2 : (r.again && (decide ((M.take r ((M.sowMove r p move).2.1) p.player).last = (-1)))) = ((M.make r p move).1).again := rp_ hD
 have hq3 : ((M.take r ((M.sowMove r p move).2.1) p.player).pits) = (((M.make r p move).1).next).pits := rp_ hD
 have hq4 : ((M.take r ((M.sowMove r p move).2.1) p.player).stores) = (((M.make r p move).1).next).stores := rp_ hD
 have hq5 : (1 - p.player) = (((M.make r p move).1).next).player := rp_ hD
 have hq6 : 0 = (M.make r p move).2 := rp_ hD
 refine Js.skip <| zS <| Q9 0 rfl rfl ?_
 refine zw 5 rfl rfl rfl ?_
 refine Qa rfl <| JL.nil ?_
 exact zro (x6.trans x23)
theorem c_spec_MoveFault (r : M.Rul) {v_r : Value} (p : M.Pos) {v_p : Value} (move : Int) {w : World} (h_r : (Ty.agg (cRules r)).ok w v_r) (h_p : (Ty.agg (cPosition p)).ok w v_p) (r0 : p.pits.length ≤ 4194304 := by exact om_) (r1 : p.stores.length ≤ 4194304 := by exact om_) : RetV Tryd.prog 15 [v_r, v_p, .int .i64 move] w (.int .i64 ((M.make r p move).2)) := by
 revert v_r; apply opn
 revert v_p; apply opn
 intro A1 c1 h1 bl1 bh1 A2 c2 h2 bl2 bh2
 refine enter @Tryd.func15 @Tryd.ntmps15 rfl rfl ?_
 refine zent ?_
 refine zS <| zb rfl fun b3 => zb rfl fun b4 => Qa rfl <| zN <| Qm rfl <| zp rfl (fun w hw => c_spec_l07Make r p move (ok_ hw) (ok_ hw)) ?_
 intro u5 x5 A6 c6 h6 bl6 bh6 A7 c7 h7 bl7 bh7
 refine Qm rfl <| Qx rfl rfl <| Qx rfl rfl <| za zeh fun b8 => zw 0 rfl rfl rfl ?_
 refine Qa rfl <| zN <| Qm rfl <| Qa rfl <| JL.nil ?_
 exact zr x5
theorem c_spec_l11Sow (list : List M.Fct) {Alist_0 : Option Addr} {clist_0 : Nat} {glist_0 : List Nat} (begin place : Int) {w : World} (hb : Bw w [rowO 49 3 (.slice Alist_0 list.length clist_0) list.length (fltV vcFact list) glist_0]) (bd0 : list.length ≤ clist_0 := by exact om_) (bd1 : clist_0 ≤ 9223372036854775807 := by exact om_) (r0 : 0 ≤ begin := by exact om_) (r1 : begin ≤ (list.length : Int) := by exact om_) (r2 : list.length ≤ 100000 := by exact om_) (r3 : M.CB list 100000 := by exact om_) : RetB Tryd.prog 58 [.slice Alist_0 list.length clist_0, .int .i64 begin, .int .i64 place] w [rowO 49 3 (.slice Alist_0 list.length clist_0) list.length (fltV vcFact list) glist_0] (fun v bs' => ∃ (Axr : Option Addr) (cxr : Nat) (gxr : List Nat), v = .slice Axr ((M.sowL list begin.toNat place).length) cxr ∧ bs' = [rowO 49 3 (.slice Axr ((M.sowL list begin.toNat place).length) cxr) ((M.sowL list begin.toNat place).length) (fltV vcFact (M.sowL list begin.toNat place)) gxr] ∧ (M.sowL list begin.toNat place).length ≤ cxr ∧ cxr ≤ 9223372036854775807) := by
 have hsl := M.sowL_len list begin.toNat place
 refine enterB hb @Tryd.func58 @Tryd.ntmps58 rfl rfl ?_
 refine zent ?_
 refine Js.trashE ?_
 refine zn ?_
 refine zS <| Qa rfl <| zJ <| zS <| Qm rfl <| Qa rfl <| JL.nil <| Js.block ?_
 refine zl [0, 2] (fun F U l os u m => ∃ (i : Int) (G1_1 : List Nat), l = F [(7, .int .i64 i)] ∧ os = U [nO, some (anyO G1_1)] ∧ (M.NoF list begin.toNat i.toNat place) ∧ (begin ≤ i) ∧ (i ≤ (list.length : Int)) ∧ m = list.length - i.toNat) ⟨begin, _, rfl, rfl, by exact M.NoF.zero _ _ _, by omega, zt, rfl⟩ ?_
 rintro _ _ u1 _ ⟨i, G1_1, rfl, rfl, hN, hbi, hil, rfl⟩ x1
 refine zn ?_
 refine Js.seq <| zS <| Qm rfl <| Qm rfl <| Qz rfl <| Ql rfl rfl <| JL.nil ?_
 refine zi (fun h2 h2' => ?_) fun h2 h2' => ?_
 ·
  have hi9 : i.toNat < list.length := by have := h2'; omega
  have hcb := r3.fct hi9
  refine Js.skip <| Js.seq <| Js.block <| zS <| Qm rfl <| Qm rfl ?_
  refine JL.fact (row_some (i := 0) rfl len_) (fun hf4 => ?_)
  obtain ⟨b4, rfl⟩ := hf4
  have hy3 : list[i.toNat]? = some (M.fct list i.toNat) := M.fct_get len_
  refine Qq (p_indexAddr el_45 rfl rfl len_ len_ rfl) <| Qf fh rfl <| Qw (q_load1 ty_2.h rfl (fun w hw => (Mem.rowR' (i := 0) rfl (fltV_at (C := vcFact) (fun _ => rfl) hy3) w hw) 1 _ rfl)) <| Qm rfl <| Qe rfl rfl <| JL.nil ?_
  refine zi (fun h5 h5' => ?_) fun h5 h5' => ?_
  ·
   have hE := M.sowL_hit hN (by omega) hi9 (by simpa using h5)
   have hy6 : list[i.toNat]? = some (M.fct list i.toNat) := M.fct_get len_
   have hy7 : list[i.toNat]? = some (M.fct list i.toNat) := M.fct_get len_
   refine zS <| Qm rfl <| Qm rfl <| Qq (p_indexAddr el_45 rfl rfl len_ len_ rfl) <| Qf fh rfl <| Qw (q_load1 ty_2.h rfl (fun w hw => (Mem.rowR' (i := 0) rfl (fltV_at (C := vcFact) (fun _ => rfl) hy6) w hw) 2 _ rfl)) <| Qp rfl rfl <| Qq (p_indexAddr el_45 rfl rfl len_ len_ rfl) <| Qf fh rfl ?_
   refine JL.s (e_storeRow (i := 0) (xs' := fltV vcFact (list.set i.toNat (M.Fct.mk ((M.fct list i.toNat).kind) ((M.fct list i.toNat).place) (((M.fct list i.toNat).count) + 1)))) ty_2.h rfl rfl rfl rfl rfl rfl (fltV_lt (C := vcFact) (j := 2) (fun _ => rfl) len_ (by decide)) (fltV_cell (C := vcFact) (j := 2) (y' := (M.Fct.mk ((M.fct list i.toNat).kind) ((M.fct list i.toNat).place) (((M.fct list i.toNat).count) + 1))) (fun _ => rfl) hy7 (by decide) rfl)) ?_
   rintro _ _ _ ⟨rfl, rfl⟩ _
   refine znl ?_
   refine zN <| Qm rfl <| Qa rfl <| JL.nil ?_
   refine zrb [0] hb x1 ?_
   have hN1 : (M.sowL list begin.toNat place).length = list.length := by first | rfl | (rw [← hE]; done) | (rw [← hE]; exact List.length_set) | (rw [← hE]; simp)
   have hE1 : (M.sowL list begin.toNat place) = list.set i.toNat (M.Fct.mk ((M.fct list i.toNat).kind) ((M.fct list i.toNat).place) (((M.fct list i.toNat).count) + 1)) := by first | exact hE.symm | (rw [← hE]; done) | (rw [← hE]; rfl)
   refine ⟨(some ⟨b4, 0, none⟩), clist_0, glist_0, (by first | rfl | (rw [hN1]; done) | (rw [hN1]; rfl) | (rw [hE1]; done) | (rw [hE1]; rfl)), ?_, ?_, ?_⟩
   · rw [hN1, hE1]
   all_goals (first | (rw [hN1, hE1]; omega) | omega | (simp only [*]; omega) | (simp; done))
  have hN2 := hN.step (by simpa using h5)
  refine Js.skip <| Js.blockEnd <| Js.region <| Qm rfl <| Qp rfl rfl <| Qa rfl <| JL.nil ?_
  exact zag ⟨i + 1, _, rfl, rfl, by rw [show (i + 1).toNat = i.toNat + 1 by omega]; exact hN2, by omega, by omega, rfl⟩ x1
 have hE := M.sowL_miss hN (by omega) (by have := h2'; omega)
 refine zx ?_
 refine zS <| Qm rfl <| Qm rfl <| Qb ?_
 refine zbs fun b8 => ?_
 refine JL.e (e_append (i := 1) (n' := (list ++ [(M.Fct.mk 2 place 1)]).length) (vs' := fltV vcFact (list ++ [(M.Fct.mk 2 place 1)])) el_45 rfl rfl rfl rfl (src_row (i := 0) und_45 rfl rfl) (by omega) (by omega) ln2_ (by first | rfl | exact fltV_app _ _ _ | exact fltV_snoc _ _ _ | (simp [fltV]; done))) ?_
 rintro v10 _ _ ⟨⟨g11, rfl⟩, rfl⟩ _
 refine JL.fact (row_form' (i := 1) rfl) (fun hf12 => ?_)
 obtain ⟨A12, c12, rfl, bl12, bh12⟩ := hf12
 refine znl ?_
 refine Qa rfl <| JL.nil ?_
 refine zrb [1] hb x1 ?_
 have hN1 : (M.sowL list begin.toNat place).length = (list ++ [(M.Fct.mk 2 place 1)]).length := by first | rfl | (rw [← hE]; done) | (rw [← hE]; exact List.length_set) | (rw [← hE]; simp)
 have hE1 : (M.sowL list begin.toNat place) = list ++ [(M.Fct.mk 2 place 1)] := by first | exact hE.symm | (rw [← hE]; done) | (rw [← hE]; rfl)
 refine ⟨A12, c12, g11, (by first | rfl | (rw [hN1]; done) | (rw [hN1]; rfl) | (rw [hE1]; done) | (rw [hE1]; rfl)), ?_, ?_, ?_⟩
 · rw [hN1, hE1]
 all_goals (first | (rw [hN1, hE1]; omega) | omega | (simp only [*]; omega) | (simp; done))
theorem c_spec_l11Laps (r : M.Rul) {v_r : Value} (p : M.Pos) {v_p : Value} (move : Int) {w : World} (h_r : (Ty.ref (cRules r)).ok w v_r) (h_p : (Ty.ref (cPosition p)).ok w v_p) (r0 : (M.sowMove r p move).1 = 0 := by exact om_) (r1 : p.pits.length ≤ 4194304 := by exact om_) (r2 : p.stores.length ≤ 4194304 := by exact om_) : Ret Tryd.prog 30 [v_r, v_p, .int .i64 move] w (Ty.sl 49 3 (M.lapsF r p move).length (lFact (M.lapsF r p move))) := by
 obtain ⟨hok, m0, m1, hG, q0, q1, hsum⟩ := M.sowMove_ok r0
 obtain ⟨g1, g2, g3, g4, g5, g6, g7⟩ := M.okP_bd hok
 have hq := M.mul_bd g7 g1 g2
 have hpl := M.path_len r0
 revert v_r; apply opn
 intro b1 o1 hr1
 revert v_p; apply opn
 intro b4 o4 A2 c2 h2 bl2 bh2 A3 c3 h3 bl3 bh3 hr4
 refine enter @Tryd.func30 @Tryd.ntmps30 rfl rfl ?_
 refine zent ?_
 refine zS <| Qa rfl <| zN <| zbs fun b5 => ?_
 refine Qa rfl <| zN <| Qm rfl <| Qm rfl <| Qm rfl <| zp rfl (fun w hw => c_spec_l05Move r p move (ok_ hw) (ok_ hw)) ?_
 intro u7 x7 A8 c8 h8 bl8 bh8 A9 c9 h9 bl9 bh9 A10 c10 h10 bl10 bh10
 refine Qm rfl <| Qx rfl rfl <| Qx rfl rfl <| Qx rfl rfl <| za zeh fun b11 => zw 0 rfl rfl rfl ?_
 refine Qa rfl <| Qa rfl <| zN <| Qm rfl <| Qc rfl <| Qf fh rfl <| QC ((hr4.vis x7.vis) 0 _ rfl) rfl <| zcs rfl (fun w hw => c_spec_l00Own p.pits (ok_ hw)) ?_
 intro A12 c12 bl12 bh12
 refine Qa rfl <| zJ ?_
 refine zdr [] ?_
 refine jM 0 rfl rfl ?_
 refine jN 1 rfl rfl ?_
 refine jF 2 fld_33_2 rfl rfl ?_
 refine jW 3 ty_2 rfl rfl (fun hv => (hr4.vis (x7.vis.trans hv)) 2 _ rfl) ?_
 refine jM 4 rfl rfl ?_
 refine jN 5 rfl rfl ?_
 refine jF 6 fld_31_0 rfl rfl ?_
 refine jW 7 ty_2 rfl rfl (fun hv => (hr1.vis (x7.vis.trans hv)) 0 _ rfl) ?_
 refine JH.p 8 rfl (p_mul rfl rfl (IntWalk.i64_in _ (by omega))) ?_
 refine jM 9 rfl rfl ?_
 refine JH.p 10 rfl (p_add rfl rfl (IntWalk.i64_in _ (by omega))) ?_
 refine jA 11 rfl rfl ?_
 refine yd ?_
 refine zS <| Qa rfl <| zN <| Qa rfl <| zJ <| zS <| Qa rfl <| JL.nil <| Js.block ?_
 refine zl [9, 11] (fun F U l os u m => ∃ (i b9 : Nat) (frm left : Int) (ps : List Int) (out d c : List M.Fct) (A13_7 : Option Addr) (c13_7 : Nat) (g13_7 : List Nat), l = F [(7, .slice A13_7 out.length c13_7), (12, .int .i64 frm), (13, .int .i64 left), (14, .int .i64 (b9 : Int)), (15, .int .i64 (i : Int))] ∧ os = U [some (rowO 2 1 (.slice A12 p.pits.length c12) p.pits.length (ints_ ps) []), nO, some (rowO 49 3 (.slice A13_7 out.length c13_7) out.length (fltV vcFact out) g13_7)] ∧ (M.lsteps (M.lap0 p (p.player * r.pits + move)) ((M.sowMove r p move).2.2.take i) = ⟨ps, frm, left, d, c⟩) ∧ (out = d ++ c) ∧ (i ≤ (M.sowMove r p move).2.2.length) ∧ (¬ left = 0 → b9 = d.length) ∧ (b9 ≤ out.length) ∧ (M.CB out (96 + (i : Int))) ∧ (out.length ≤ 2 * i) ∧ (out.length ≤ c13_7) ∧ (c13_7 ≤ 9223372036854775807) ∧ m = (M.sowMove r p move).2.2.length - i) ⟨0, 0, (p.player * r.pits) + move, 0, p.pits, [], [], [], _, _, _, rfl, rfl, by rfl, by rfl, zt, by exact (fun h => absurd rfl h), by simp, by exact M.CB.nil _, by simp, zu, zu, rfl⟩ ?_
 rintro _ _ u13 _ ⟨i, b9, frm, left, ps, out, d, c, A13_7, c13_7, g13_7, rfl, rfl, hS, hO, hi, hB, hB2, hC, hL, f13_7, f13_8, rfl⟩ x13
 refine zn ?_
 refine Js.seq <| zS <| Qm rfl <| Qm rfl <| Qz rfl <| Ql rfl rfl <| JL.nil ?_
 refine zi (fun h14 h14' => ?_) fun h14 h14' => ?_
 ·
  have hil : i < (M.sowMove r p move).2.2.length := by have := h14'; omega
  have hP := M.move_pre r0 i hil
  rw [hS] at hP
  obtain ⟨ss9, hG9⟩ : ∃ ss, M.Good r ps ss left := hP.g
  have hz9 : left = 0 → 0 ≤ frm ∧ 0 < M.getI ps frm := hP.z
  have hf9 : -1 ≤ frm ∧ frm < 2 * r.pits := hP.f
  have hx9 := M.path_bd r0 hil
  have hlp := hG9.lp
  have hn9 := hG9.n0
  have ha9 := hG9.all
  have hv9 := hG9.pit frm
  have hvx := hG9.pit (M.nth (M.sowMove r p move).2.2 i)
  have hi1 := M.nn_isum hG9.np
  have hi2 := M.nn_isum hG9.ns
  refine Js.skip <| Js.seq <| Js.block <| Js.seq <| zS <| Qm rfl <| Qe rfl rfl <| JL.nil ?_
  refine zi (fun h15 h15' => ?_) fun h15 h15' => ?_
  ·
   have hl0 : left = 0 := by simpa using h15
   obtain ⟨z1, z2⟩ := hz9 hl0
   have hGt := hG9
   rw [hl0] at hGt
   have hGu := hGt.takeUp z1 hf9.2
   have hvy := hGu.pit (M.nth (M.sowMove r p move).2.2 i)
   have hO2 := M.sowL_new (t := (M.Fct.mk 1 frm (M.getI ps frm))) (x := (M.nth (M.sowMove r p move).2.2 i)) hO
   have hC2 : M.CB (M.sowL (out ++ [(M.Fct.mk 1 frm (M.getI ps frm))]) (((out ++ [(M.Fct.mk 1 frm (M.getI ps frm))]).length : Int)).toNat (M.nth (M.sowMove r p move).2.2 i)) (96 + ((i + 1 : Nat) : Int)) := ((M.CB.app hC (show 0 ≤ M.getI ps frm by omega) (show M.getI ps frm ≤ 96 + (i : Int) by omega)).sow (by omega) _ _).mono (by omega)
   have hB4 := M.sowL_ge (b := (out ++ [(M.Fct.mk 1 frm (M.getI ps frm))]).length) (l := out ++ [(M.Fct.mk 1 frm (M.getI ps frm))]) (x := (M.nth (M.sowMove r p move).2.2 i)) (Nat.le_refl _)
   have hL2 := M.sowL_len (out ++ [(M.Fct.mk 1 frm (M.getI ps frm))]) (((out ++ [(M.Fct.mk 1 frm (M.getI ps frm))]).length : Int)).toNat (M.nth (M.sowMove r p move).2.2 i)
   have hB3 : ¬ (M.getI ps frm - 1) = 0 → (out ++ [(M.Fct.mk 1 frm (M.getI ps frm))]).length = (((d ++ c) ++ [(M.Fct.mk 1 frm (M.getI ps frm))]) : List M.Fct).length := fun _ => M.newLen hO
   have hol9 : (out ++ [(M.Fct.mk 1 frm (M.getI ps frm))]).length = out.length + 1 := by simp
   refine zS <| Qm rfl <| Qm rfl ?_
   refine JL.fact (row_some (i := 0) rfl (by omega)) (fun hf17 => ?_)
   obtain ⟨b17, rfl⟩ := hf17
   refine Qq (p_indexAddr el_24 rfl rfl (by omega) (by omega) rfl) <| Qw (q_load1 ty_2.h rfl (Mem.row (i := 0) rfl (ints_getI (i := frm) (by omega)))) <| Qa rfl <| zN <| Qm rfl <| Qm rfl <| Qm rfl <| Qb ?_
   refine zbs fun b18 => ?_
   refine JL.e (e_append (i := 3) (n' := (out ++ [(M.Fct.mk 1 frm (M.getI ps frm))]).length) (vs' := fltV vcFact (out ++ [(M.Fct.mk 1 frm (M.getI ps frm))])) el_45 rfl rfl rfl rfl (src_row (i := 0) und_45 rfl rfl) (by omega) (by omega) ln2_ (by first | rfl | exact fltV_app _ _ _ | exact fltV_snoc _ _ _ | (simp [fltV]; done))) ?_
   rintro v20 _ _ ⟨⟨g21, rfl⟩, rfl⟩ _
   refine JL.fact (row_form' (i := 3) rfl) (fun hf22 => ?_)
   obtain ⟨A22, c22, rfl, bl22, bh22⟩ := hf22
   refine znl ?_
   refine Qa rfl <| zN <| Qm rfl <| Qm rfl <| Qq (p_indexAddr el_24 rfl rfl (by omega) (by omega) rfl) ?_
   refine JL.s (e_storeRow (i := 1) (xs' := ints_ (M.setI ps frm 0)) ty_2.h rfl rfl rfl rfl rfl rfl (ints_lt (i := frm.toNat) (by omega)) (ints_setL (i := frm.toNat) (by omega))) ?_
   rintro _ _ _ ⟨rfl, rfl⟩ _
   refine znl ?_
   obtain ⟨b24, o24, he24, hc24⟩ := ints_elem (Ty.mono _ h10 x13.vis) (i := i) (by omega)
   refine zG <| Qm rfl <| Qz rfl <| Qa rfl <| zN <| Qm rfl <| Qm rfl <| Qm rfl <| Qm rfl <| Qq (p_indexAddr el_24 rfl rfl (by omega) (by omega) he24) <| QC hc24 rfl ?_
   refine zhl [3] ?_
   refine zB 1 sp_ rfl (fun w hb hw => c_spec_l11Sow (out ++ [(M.Fct.mk 1 frm (M.getI ps frm))]) (((out ++ [(M.Fct.mk 1 frm (M.getI ps frm))]).length) : Int) (M.nth ((M.sowMove r p move).2.2) i) hb (r3 := ((M.CB.app hC (show 0 ≤ M.getI ps frm by omega) (show M.getI ps frm ≤ 96 + (i : Int) by omega)).mono (by omega)))) ?_
   rintro _ _ G25 ⟨A25_r, c25_r, g25_r, rfl, rfl, bl25_0, bl25_1⟩
   refine znl ?_
   obtain ⟨b26, o26, he26, hc26⟩ := ints_elem (Ty.mono _ h10 x13.vis) (i := i) (by omega)
   refine Qa rfl <| zJ <| zS <| Qm rfl <| Qm rfl <| Qq (p_indexAddr el_24 rfl rfl (by omega) (by omega) he26) <| QC hc26 rfl <| Qh rfl rfl <| JL.nil ?_
   refine zi (fun h27 h27' => ?_) fun h27 h27' => ?_
   ·
    have hS2 := M.lst_zp hS hil hl0 (by have := h27'; omega)
    obtain ⟨b28, o28, he28, hc28⟩ := ints_elem (Ty.mono _ h10 x13.vis) (i := i) (by omega)
    refine Js.region <| Qm rfl <| Qm rfl <| Qm rfl <| Qq (p_indexAddr el_24 rfl rfl (by omega) (by omega) he28) <| QC hc28 rfl <| Qq (p_indexAddr el_24 rfl rfl (by omega) (by omega) rfl) <| Qw (q_load1 ty_2.h rfl (Mem.row (i := 3) rfl (ints_getI (i := M.nth ((M.sowMove r p move).2.2) i) (by first | omega | (simp only [List.length_set, M.setI_length]; omega))))) <| Qp rfl rfl <| Qq (p_indexAddr el_24 rfl rfl (by omega) (by omega) rfl) ?_
    refine JL.s (e_storeRow (i := 3) (xs' := ints_ (M.setI (M.setI ps frm 0) (M.nth ((M.sowMove r p move).2.2) i) ((M.getI (M.setI ps frm 0) (M.nth ((M.sowMove r p move).2.2) i)) + 1))) ty_2.h rfl rfl rfl rfl rfl rfl (ints_lt (i := (M.nth ((M.sowMove r p move).2.2) i).toNat) (by first | omega | (simp only [List.length_set, M.setI_length]; omega))) (ints_setL (i := (M.nth ((M.sowMove r p move).2.2) i).toNat) (by first | omega | (simp only [List.length_set, M.setI_length]; omega)))) ?_
    rintro _ _ _ ⟨rfl, rfl⟩ _
    refine znl ?_
    obtain ⟨b31, o31, he31, hc31⟩ := ints_elem (Ty.mono _ h10 x13.vis) (i := i) (by omega)
    refine zN <| Qm rfl <| Qs rfl rfl <| Qa rfl <| zG <| Qm rfl <| Qm rfl <| Qq (p_indexAddr el_24 rfl rfl (by omega) (by omega) he31) <| QC hc31 rfl <| Qa rfl <| JL.nil <| Js.blockEnd <| Js.region <| Qm rfl ?_
    refine Qp rfl rfl <| Qa rfl <| JL.nil ?_
    refine zd [3, 3, 0] rfl fun u32 x32 => ?_
    exact zag ⟨i + 1, (out ++ [(M.Fct.mk 1 frm (M.getI ps frm))]).length, M.nth ((M.sowMove r p move).2.2) i, (M.getI ps frm) - 1, M.setI (M.setI ps frm 0) (M.nth ((M.sowMove r p move).2.2) i) ((M.getI (M.setI ps frm 0) (M.nth ((M.sowMove r p move).2.2) i)) + 1), (M.sowL (out ++ [(M.Fct.mk 1 frm (M.getI ps frm))]) (((out ++ [(M.Fct.mk 1 frm (M.getI ps frm))]).length) : Int).toNat (M.nth ((M.sowMove r p move).2.2) i)), ((d ++ c) ++ [M.Fct.mk 1 frm (M.getI ps frm)]), (M.addF [] (M.nth (M.sowMove r p move).2.2 i)), _, _, _, rfl, rfl, by exact hS2, by exact hO2, by omega, by exact hB3, by exact hB4, by exact hC2, by have h9 := hL2; omega, zu, zu, rfl⟩ (x13.trans x32)
   have hS2 := M.lst_zn hS hil hl0 (by have := h27'; omega)
   obtain ⟨b33, o33, he33, hc33⟩ := ints_elem (Ty.mono _ h10 x13.vis) (i := i) (by omega)
   refine Js.skip <| zS <| Qm rfl <| Qs rfl rfl <| Qa rfl <| zG <| Qm rfl <| Qm rfl <| Qq (p_indexAddr el_24 rfl rfl (by omega) (by omega) he33) <| QC hc33 rfl <| Qa rfl <| JL.nil <| Js.blockEnd <| Js.region ?_
   refine Qm rfl <| Qp rfl rfl <| Qa rfl <| JL.nil ?_
   refine zd [3, 3, 0] rfl fun u34 x34 => ?_
   exact zag ⟨i + 1, (out ++ [(M.Fct.mk 1 frm (M.getI ps frm))]).length, M.nth ((M.sowMove r p move).2.2) i, (M.getI ps frm) - 1, M.setI ps frm 0, (M.sowL (out ++ [(M.Fct.mk 1 frm (M.getI ps frm))]) (((out ++ [(M.Fct.mk 1 frm (M.getI ps frm))]).length) : Int).toNat (M.nth ((M.sowMove r p move).2.2) i)), ((d ++ c) ++ [M.Fct.mk 1 frm (M.getI ps frm)]), (M.addF [] (M.nth (M.sowMove r p move).2.2 i)), _, _, _, rfl, rfl, by exact hS2, by exact hO2, by omega, by exact hB3, by exact hB4, by exact hC2, by have h9 := hL2; omega, zu, zu, rfl⟩ (x13.trans x34)
  have hl0 : ¬ left = 0 := by simpa using h15
  have hO2 := M.sowL_old (x := (M.nth (M.sowMove r p move).2.2 i)) hO (hB hl0)
  have hC2 : M.CB (M.sowL out ((b9 : Int)).toNat (M.nth (M.sowMove r p move).2.2 i)) (96 + ((i + 1 : Nat) : Int)) := (hC.sow (by omega) _ _).mono (by omega)
  have hB4 := M.sowL_ge (x := (M.nth (M.sowMove r p move).2.2 i)) hB2
  have hL2 := M.sowL_len out ((b9 : Int)).toNat (M.nth (M.sowMove r p move).2.2 i)
  have hB3 : ¬ (left - 1) = 0 → b9 = d.length := fun _ => hB hl0
  obtain ⟨b35, o35, he35, hc35⟩ := ints_elem (Ty.mono _ h10 x13.vis) (i := i) (by omega)
  refine Js.skip <| zS <| Qm rfl <| Qm rfl <| Qm rfl <| Qm rfl <| Qq (p_indexAddr el_24 rfl rfl (by omega) (by omega) he35) <| QC hc35 rfl ?_
  refine zhl [2] ?_
  refine zB 1 sp_ rfl (fun w hb hw => c_spec_l11Sow out (b9 : Int) (M.nth ((M.sowMove r p move).2.2) i) hb (r3 := (hC.mono (by omega)))) ?_
  rintro _ _ G36 ⟨A36_r, c36_r, g36_r, rfl, rfl, bl36_0, bl36_1⟩
  refine znl ?_
  obtain ⟨b37, o37, he37, hc37⟩ := ints_elem (Ty.mono _ h10 x13.vis) (i := i) (by omega)
  refine Qa rfl <| zJ <| zS <| Qm rfl <| Qm rfl <| Qq (p_indexAddr el_24 rfl rfl (by omega) (by omega) he37) <| QC hc37 rfl <| Qh rfl rfl <| JL.nil ?_
  refine zi (fun h38 h38' => ?_) fun h38 h38' => ?_
  ·
   have hS2 := M.lst_np hS hil hl0 (by have := h38'; omega)
   obtain ⟨b39, o39, he39, hc39⟩ := ints_elem (Ty.mono _ h10 x13.vis) (i := i) (by omega)
   refine Js.region <| Qm rfl <| Qm rfl <| Qm rfl <| Qq (p_indexAddr el_24 rfl rfl (by omega) (by omega) he39) <| QC hc39 rfl ?_
   refine JL.fact (row_some (i := 2) rfl (by omega)) (fun hf41 => ?_)
   obtain ⟨b41, rfl⟩ := hf41
   refine Qq (p_indexAddr el_24 rfl rfl (by omega) (by omega) rfl) <| Qw (q_load1 ty_2.h rfl (Mem.row (i := 2) rfl (ints_getI (i := M.nth ((M.sowMove r p move).2.2) i) (by omega)))) <| Qp rfl rfl <| Qq (p_indexAddr el_24 rfl rfl (by omega) (by omega) rfl) ?_
   refine JL.s (e_storeRow (i := 2) (xs' := ints_ (M.setI ps (M.nth ((M.sowMove r p move).2.2) i) ((M.getI ps (M.nth ((M.sowMove r p move).2.2) i)) + 1))) ty_2.h rfl rfl rfl rfl rfl rfl (ints_lt (i := (M.nth ((M.sowMove r p move).2.2) i).toNat) (by omega)) (ints_setL (i := (M.nth ((M.sowMove r p move).2.2) i).toNat) (by omega))) ?_
   rintro _ _ _ ⟨rfl, rfl⟩ _
   refine znl ?_
   obtain ⟨b43, o43, he43, hc43⟩ := ints_elem (Ty.mono _ h10 x13.vis) (i := i) (by omega)
   refine zN <| Qm rfl <| Qs rfl rfl <| Qa rfl <| zG <| Qm rfl <| Qm rfl <| Qq (p_indexAddr el_24 rfl rfl (by omega) (by omega) he43) <| QC hc43 rfl <| Qa rfl <| JL.nil <| Js.blockEnd <| Js.region <| Qm rfl ?_
   refine Qp rfl rfl <| Qa rfl <| JL.nil ?_
   refine zd [2, 2, 0] rfl fun u44 x44 => ?_
   exact zag ⟨i + 1, b9, M.nth ((M.sowMove r p move).2.2) i, left - 1, M.setI ps (M.nth ((M.sowMove r p move).2.2) i) ((M.getI ps (M.nth ((M.sowMove r p move).2.2) i)) + 1), (M.sowL out (b9 : Int).toNat (M.nth ((M.sowMove r p move).2.2) i)), d, (M.addF c (M.nth (M.sowMove r p move).2.2 i)), _, _, _, rfl, rfl, by exact hS2, by exact hO2, by omega, by exact hB3, by exact hB4, by exact hC2, by have h9 := hL2; omega, zu, zu, rfl⟩ (x13.trans x44)
  have hS2 := M.lst_nn hS hil hl0 (by have := h38'; omega)
  obtain ⟨b45, o45, he45, hc45⟩ := ints_elem (Ty.mono _ h10 x13.vis) (i := i) (by omega)
  refine Js.skip <| zS <| Qm rfl <| Qs rfl rfl <| Qa rfl <| zG <| Qm rfl <| Qm rfl <| Qq (p_indexAddr el_24 rfl rfl (by omega) (by omega) he45) <| QC hc45 rfl <| Qa rfl <| JL.nil <| Js.blockEnd <| Js.region ?_
  refine Qm rfl <| Qp rfl rfl <| Qa rfl <| JL.nil ?_
  refine zd [2, 2, 0] rfl fun u46 x46 => ?_
  exact zag ⟨i + 1, b9, M.nth ((M.sowMove r p move).2.2) i, left - 1, ps, (M.sowL out (b9 : Int).toNat (M.nth ((M.sowMove r p move).2.2) i)), d, (M.addF c (M.nth (M.sowMove r p move).2.2 i)), _, _, _, rfl, rfl, by exact hS2, by exact hO2, by omega, by exact hB3, by exact hB4, by exact hC2, by have h9 := hL2; omega, zu, zu, rfl⟩ (x13.trans x46)
 have hE := M.lapsF_of hS hO (by have := h14'; omega)
 refine zx ?_
 have hq0 : out = (M.lapsF r p move) := by first | exact hE.symm | (rw [hE]; done)
 refine zS <| Qm rfl <| Qa rfl <| JL.nil ?_
 exact zro (x7.trans x13) (g := by exact (gv_flat lFact (xs := out) po_ (by first | rfl | (simp [fltV]; done)) (by first | with_reducible rfl | assumption | rfl)))
theorem c_spec_l11Facts (r : M.Rul) {v_r : Value} (p : M.Pos) {v_p : Value} (move : Int) {w : World} (h_r : (Ty.ref (cRules r)).ok w v_r) (h_p : (Ty.ref (cPosition p)).ok w v_p) (r0 : (M.make r p move).2 = 0 := by exact om_) (r1 : p.pits.length ≤ 4194304 := by exact om_) (r2 : p.stores.length ≤ 4194304 := by exact om_) : Ret Tryd.prog 17 [v_r, v_p, .int .i64 move] w (Ty.sl 49 3 (M.factsF r p move).length (lFact (M.factsF r p move))) := by
 have hz := M.make_sow0 r0
 obtain ⟨hok, m0, m1, hG, q0, q1, hsum⟩ := M.sowMove_ok hz
 obtain ⟨g1, g2, g3, g4, g5, g6, g7⟩ := M.okP_bd hok
 have hpl := M.path_len hz
 have hll := M.lapsF_len (r := r) (p := p) (move := move)
 have hcl := M.captured_len (s := (M.sowMove r p move).2.1) (player := p.player) q1 g2
 have htl := M.taken_len (s := (M.sowMove r p move).2.1) (player := p.player) q1 g2
 have hlp := hG.lp
 have hmt : ∀ x ∈ (M.taken r (M.sowMove r p move).2.1 p.player), 0 ≤ x ∧ x < (M.sowMove r p move).2.1.pits.length := fun x hx => by have := M.taken_mem q1 hx; omega
 revert v_r; apply opn
 intro b1 o1 hr1
 revert v_p; apply opn
 intro b4 o4 A2 c2 h2 bl2 bh2 A3 c3 h3 bl3 bh3 hr4
 refine enter @Tryd.func17 @Tryd.ntmps17 rfl rfl ?_
 refine zent ?_
 refine zS <| Qa rfl <| zN <| Qm rfl <| Qm rfl <| Qm rfl <| zcs rfl (fun w hw => c_spec_l11Laps r p move (ok_ hw) (ok_ hw) (r0 := hz)) ?_
 intro A5 c5 bl5 bh5
 refine Qa rfl <| zN <| Qm rfl <| Qm rfl <| Qm rfl <| zp rfl (fun w hw => c_spec_l05Move r p move (ok_ hw) (ok_ hw)) ?_
 intro u6 x6 A7 c7 h7 bl7 bh7 A8 c8 h8 bl8 bh8 A9 c9 h9 bl9 bh9
 refine Qm rfl <| Qx rfl rfl <| Qx rfl rfl <| Qx rfl rfl <| za zeh fun b10 => zw 0 rfl rfl rfl ?_
 refine Qa rfl <| Qa rfl <| zN <| Qm rfl <| Qm rfl <| Qc rfl <| Qf fh rfl <| QC ((hr4.vis x6.vis) 2 _ rfl) rfl <| zp rfl (fun w hw => c_spec_l06Pits r ((M.sowMove r p move).2.1) p.player (ok_ hw) (ok_ hw) (r3 := hG)) ?_
 intro u11 x11 A12 c12 h12 bl12 bh12
 refine Qa rfl <| zJ <| zS <| Qa rfl <| JL.nil <| Js.block ?_
 refine zl [0, 1, 2, 8, 11] (fun F U l os u m => ∃ (k : Nat) (o2 : List M.Fct) (A13_7 : Option Addr) (c13_7 : Nat) (g13_7 : List Nat), l = F [(7, .slice A13_7 o2.length c13_7), (12, .int .i64 (k : Int))] ∧ os = U [nO, some (rowO 49 3 (.slice A13_7 o2.length c13_7) o2.length (fltV vcFact o2) g13_7)] ∧ (o2 = M.lapsF r p move ++ ((M.captured r (M.sowMove r p move).2.1 p.player).take k).map (fun x => M.Fct.mk 3 x (M.getI (M.sowMove r p move).2.1.pits x))) ∧ (k ≤ (M.captured r (M.sowMove r p move).2.1 p.player).length) ∧ (o2.length ≤ 20000 + k) ∧ (o2.length ≤ c13_7) ∧ (c13_7 ≤ 9223372036854775807) ∧ m = (M.captured r (M.sowMove r p move).2.1 p.player).length - k) ⟨0, (M.lapsF r p move), _, _, _, rfl, rfl, by simp, zt, by omega, zu, zu, rfl⟩ ?_
 rintro _ _ u13 _ ⟨k, o2, A13_7, c13_7, g13_7, rfl, rfl, hO, hk, hol, f13_3, f13_4, rfl⟩ x13
 refine zn ?_
 refine Js.seq <| zS <| Qm rfl <| Qm rfl <| Qz rfl <| Ql rfl rfl <| JL.nil ?_
 refine zi (fun h14 h14' => ?_) fun h14 h14' => ?_
 ·
  have hk2 : k < (M.captured r (M.sowMove r p move).2.1 p.player).length := by have := h14'; omega
  have hx := M.captured_mem q1 (M.nth_mem hk2)
  have hO2 := M.cap_step hO (M.nth_sm hk2)
  refine Js.skip <| Js.seq <| Js.block ?_
  refine zdr [15] ?_
  refine jM 0 rfl rfl ?_
  refine jM 1 rfl rfl ?_
  refine jM 2 rfl rfl ?_
  obtain ⟨b15, o15, he15, hc15⟩ := ints_elem (Ty.mono _ h12 x13.vis) (i := k) (by omega)
  refine jI 3 el_24 rfl rfl rfl he15 ?_
  refine jW 4 ty_2 rfl rfl hc15.vis ?_
  refine jF 5 fld_63_0 rfl rfl ?_
  refine jB 6 0 ty_24 rfl rfl rfl rfl ?_
  refine jM 7 rfl rfl ?_
  refine jM 8 rfl rfl ?_
  obtain ⟨b16, o16, he16, hc16⟩ := ints_elem (Ty.mono _ h12 x13.vis) (i := k) (by omega)
  refine jI 9 el_24 rfl rfl rfl he16 ?_
  refine jW 10 ty_2 rfl rfl hc16.vis ?_
  obtain ⟨b17, o17, he17, hc17⟩ := ints_elem (Ty.mono _ h7 (x11.vis.trans x13.vis)) (i := (M.nth (M.captured r ((M.sowMove r p move).2.1) p.player) k).toNat) (by omega)
  refine jI 11 el_24 rfl rfl rfl he17 ?_
  refine jW 12 ty_2 rfl rfl hc17.vis ?_
  refine JH.p 13 rfl (q_bld) ?_
  refine y1 14 ?_
  refine ybs rfl fun b18 => ?_
  refine y1 15 ?_
  refine JHo.e rfl (e_append (i := 2) (n' := (o2 ++ [(M.Fct.mk 3 (M.nth (M.captured r ((M.sowMove r p move).2.1) p.player) k) (M.nth (((M.sowMove r p move).2.1).pits) ((M.nth (M.captured r ((M.sowMove r p move).2.1) p.player) k).toNat)))]).length) (vs' := fltV vcFact (o2 ++ [(M.Fct.mk 3 (M.nth (M.captured r ((M.sowMove r p move).2.1) p.player) k) (M.nth (((M.sowMove r p move).2.1).pits) ((M.nth (M.captured r ((M.sowMove r p move).2.1) p.player) k).toNat)))])) el_45 rfl rfl rfl rfl (src_row (i := 0) und_45 rfl rfl) (by omega) (by omega) ln2_ (by first | rfl | exact fltV_app _ _ _ | exact fltV_snoc _ _ _ | (simp [fltV]; done))) (.inr rfl) ?_
  rintro v20 _ _ ⟨⟨g21, rfl⟩, rfl⟩ _
  refine JH.fact (row_form' (i := 2) rfl) (fun hf22 => ?_)
  obtain ⟨A22, c22, rfl, bl22, bh22⟩ := hf22
  refine znh ?_
  refine jA 16 rfl rfl ?_
  refine yd ?_
  refine Js.blockEnd <| Js.region <| Qm rfl <| Qp rfl rfl <| Qa rfl <| JL.nil ?_
  refine zd [1, 1] rfl fun u23 x23 => ?_
  exact zag ⟨k + 1, o2 ++ [(M.Fct.mk 3 (M.nth (M.captured r ((M.sowMove r p move).2.1) p.player) k) (M.nth (((M.sowMove r p move).2.1).pits) ((M.nth (M.captured r ((M.sowMove r p move).2.1) p.player) k).toNat)))], _, _, _, rfl, rfl, by exact hO2, zt, by simp only [List.length_append, List.length_cons, List.length_nil]; omega, zu, zu, rfl⟩ (x13.trans x23)
 have hO3 := M.capF_all hO (by have := h14'; omega)
 refine zx ?_
 refine zS <| Qm rfl <| Qm rfl <| Qc rfl <| Qf fh rfl <| QR 2 (hr4.vis ((x6.vis.trans x11.vis).trans x13.vis)) rfl rfl <| zp rfl (fun w hw => c_spec_l06Raw r ((M.sowMove r p move).2.1) p.player (ok_ hw) (ok_ hw) (r3 := hG)) ?_
 intro u24 x24 A25 c25 h25 bl25 bh25
 refine Qa rfl <| zJ <| zS <| Qm rfl <| Qz rfl <| Qe rfl rfl <| Qm rfl <| zg (Gd.t1 rfl rfl rfl) (fun hc => p_move rfl) <| zg (Gd.t1 rfl rfl rfl) (fun hc => p_len el_24 (gh hc rfl)) <| zg (Gd.t1 rfl rfl rfl) (fun hc => p_gtr (gh hc rfl) rfl) <| Qq (p_pickAnd rfl rfl rfl) <| JL.nil ?_
 refine zi (fun h26 h26' => ?_) fun h26 h26' => ?_
 ·
  have hcn : (M.captured r (M.sowMove r p move).2.1 p.player) = [] ∧ (M.taken r (M.sowMove r p move).2.1 p.player) ≠ [] := (by have h9 := h26; simp only [Bool.and_eq_true, decide_eq_true_eq] at h9; exact ⟨List.length_eq_zero_iff.1 (by have := h9.1; omega), fun e => by rw [e] at h9; simp at h9⟩)
  have hO4 := M.cap_nil hcn rfl hO3
  have hl62 : (o2 ++ [M.Fct.mk 4 (M.sowMove r p move).2.1.last (M.isum ((M.taken r (M.sowMove r p move).2.1 p.player).map (M.getI (M.sowMove r p move).2.1.pits)))]).length = o2.length + 1 := by simp
  refine zdr [7] ?_
  refine jM 0 rfl rfl ?_
  refine jF 1 fld_63_2 rfl rfl ?_
  refine jB 2 0 ty_2 rfl rfl rfl rfl ?_
  refine jM 3 rfl rfl ?_
  refine y1 4 ?_
  refine yv rfl rfl (fun w hw => c_spec_l06Sum ((M.sowMove r p move).2.1) (M.taken r ((M.sowMove r p move).2.1) p.player) (ok_ hw) (ok_ hw) (r2 := hmt) (r3 := hG.pit)) ?_
  refine JH.p 5 rfl (q_bld) ?_
  refine y1 6 ?_
  refine ybs rfl fun b27 => ?_
  refine y1 7 ?_
  refine JHo.e rfl (e_append (i := 2) (n' := (o2 ++ [(M.Fct.mk 4 (((M.sowMove r p move).2.1).last) (M.isum ((M.taken r ((M.sowMove r p move).2.1) p.player).map (M.getI ((M.sowMove r p move).2.1).pits))))]).length) (vs' := fltV vcFact (o2 ++ [(M.Fct.mk 4 (((M.sowMove r p move).2.1).last) (M.isum ((M.taken r ((M.sowMove r p move).2.1) p.player).map (M.getI ((M.sowMove r p move).2.1).pits))))])) el_45 rfl rfl rfl rfl (src_row (i := 0) und_45 rfl rfl) (by omega) (by omega) ln2_ (by first | rfl | exact fltV_app _ _ _ | exact fltV_snoc _ _ _ | (simp [fltV]; done))) (.inr rfl) ?_
  rintro v29 _ _ ⟨⟨g30, rfl⟩, rfl⟩ _
  refine JH.fact (row_form' (i := 2) rfl) (fun hf31 => ?_)
  obtain ⟨A31, c31, rfl, bl31, bh31⟩ := hf31
  refine znh ?_
  refine jA 8 rfl rfl ?_
  refine yd ?_
  refine zS <| Qm rfl <| Qm rfl <| Qm rfl <| zp rfl (fun w hw => c_spec_l07Make r p move (ok_ hw) (ok_ hw)) ?_
  intro u32 x32 A33 c33 h33 bl33 bh33 A34 c34 h34 bl34 bh34
  refine Qm rfl <| Qx rfl rfl <| Qx rfl rfl <| za zeh fun b35 => zw 0 rfl rfl rfl ?_
  refine Qa rfl <| zJ <| zS <| Qf fh rfl <| Q0 0 rfl rfl rfl <| JL.nil ?_
  refine zi (fun h36 h36' => ?_) fun h36 h36' => ?_
  ·
   have hE := M.facts_end r0 rfl hO4 h36
   refine zS <| Qm rfl <| Qb ?_
   refine zbs fun b37 => ?_
   refine JL.e (e_append (i := 4) (n' := ((o2 ++ [(M.Fct.mk 4 (((M.sowMove r p move).2.1).last) (M.isum ((M.taken r ((M.sowMove r p move).2.1) p.player).map (M.getI ((M.sowMove r p move).2.1).pits))))]) ++ [(M.Fct.mk 5 0 0)]).length) (vs' := fltV vcFact ((o2 ++ [(M.Fct.mk 4 (((M.sowMove r p move).2.1).last) (M.isum ((M.taken r ((M.sowMove r p move).2.1) p.player).map (M.getI ((M.sowMove r p move).2.1).pits))))]) ++ [(M.Fct.mk 5 0 0)])) el_45 rfl rfl rfl rfl (src_row (i := 0) und_45 rfl rfl) (by omega) (by omega) ln2_ (by first | rfl | exact fltV_app _ _ _ | exact fltV_snoc _ _ _ | (simp [fltV]; done))) ?_
   rintro v39 _ _ ⟨⟨g40, rfl⟩, rfl⟩ _
   refine JL.fact (row_form' (i := 4) rfl) (fun hf41 => ?_)
   obtain ⟨A41, c41, rfl, bl41, bh41⟩ := hf41
   refine znl ?_
   have hq0 : ((o2 ++ [(M.Fct.mk 4 (((M.sowMove r p move).2.1).last) (M.isum ((M.taken r ((M.sowMove r p move).2.1) p.player).map (M.getI ((M.sowMove r p move).2.1).pits))))]) ++ [(M.Fct.mk 5 0 0)]) = (M.factsF r p move) := by first | exact hE.symm | (rw [hE]; rfl)
   refine Qa rfl <| JL.nil ?_
   exact zro ((((x6.trans x11).trans x13).trans x24).trans x32) (g := by exact (gv_flat lFact (xs := ((o2 ++ [(M.Fct.mk 4 (((M.sowMove r p move).2.1).last) (M.isum ((M.taken r ((M.sowMove r p move).2.1) p.player).map (M.getI ((M.sowMove r p move).2.1).pits))))]) ++ [(M.Fct.mk 5 0 0)])) po_ (by first | rfl | (simp [fltV]; done)) (by first | with_reducible rfl | assumption | rfl)))
  have hE := M.facts_end r0 rfl hO4 h36
  refine Js.skip <| zS <| Qm rfl <| Qb ?_
  refine zbs fun b42 => ?_
  refine JL.e (e_append (i := 4) (n' := ((o2 ++ [(M.Fct.mk 4 (((M.sowMove r p move).2.1).last) (M.isum ((M.taken r ((M.sowMove r p move).2.1) p.player).map (M.getI ((M.sowMove r p move).2.1).pits))))]) ++ [(M.Fct.mk 6 0 0)]).length) (vs' := fltV vcFact ((o2 ++ [(M.Fct.mk 4 (((M.sowMove r p move).2.1).last) (M.isum ((M.taken r ((M.sowMove r p move).2.1) p.player).map (M.getI ((M.sowMove r p move).2.1).pits))))]) ++ [(M.Fct.mk 6 0 0)])) el_45 rfl rfl rfl rfl (src_row (i := 0) und_45 rfl rfl) (by omega) (by omega) ln2_ (by first | rfl | exact fltV_app _ _ _ | exact fltV_snoc _ _ _ | (simp [fltV]; done))) ?_
  rintro v44 _ _ ⟨⟨g45, rfl⟩, rfl⟩ _
  refine JL.fact (row_form' (i := 4) rfl) (fun hf46 => ?_)
  obtain ⟨A46, c46, rfl, bl46, bh46⟩ := hf46
  refine znl ?_
  have hq0 : ((o2 ++ [(M.Fct.mk 4 (((M.sowMove r p move).2.1).last) (M.isum ((M.taken r ((M.sowMove r p move).2.1) p.player).map (M.getI ((M.sowMove r p move).2.1).pits))))]) ++ [(M.Fct.mk 6 0 0)]) = (M.factsF r p move) := by first | exact hE.symm | (rw [hE]; rfl)
  refine Qa rfl <| JL.nil ?_
  exact zro ((((x6.trans x11).trans x13).trans x24).trans x32) (g := by exact (gv_flat lFact (xs := ((o2 ++ [(M.Fct.mk 4 (((M.sowMove r p move).2.1).last) (M.isum ((M.taken r ((M.sowMove r p move).2.1) p.player).map (M.getI ((M.sowMove r p move).2.1).pits))))]) ++ [(M.Fct.mk 6 0 0)])) po_ (by first | rfl | (simp [fltV]; done)) (by first | with_reducible rfl | assumption | rfl)))
 have hcn : ¬ ((M.captured r (M.sowMove r p move).2.1 p.player) = [] ∧ (M.taken r (M.sowMove r p move).2.1 p.player) ≠ []) := (by have h9 := h26; rintro ⟨e1, e2⟩; have h8 := Bool.eq_false_iff.1 h9; apply h8; simp only [Bool.and_eq_true, decide_eq_true_eq]; refine ⟨by rw [e1]; rfl, ?_⟩; have := List.length_pos_iff.2 e2; omega)
 have hO4 := M.cap_non hcn hO3
 refine Js.skip <| zS <| Qm rfl <| Qm rfl <| Qm rfl <| zp rfl (fun w hw => c_spec_l07Make r p move (ok_ hw) (ok_ hw)) ?_
 intro u47 x47 A48 c48 h48 bl48 bh48 A49 c49 h49 bl49 bh49
 refine Qm rfl <| Qx rfl rfl <| Qx rfl rfl <| za zeh fun b50 => zw 0 rfl rfl rfl ?_
 refine Qa rfl <| zJ <| zS <| Qf fh rfl <| Q0 0 rfl rfl rfl <| JL.nil ?_
 refine zi (fun h51 h51' => ?_) fun h51 h51' => ?_
 ·
  have hE := M.facts_end r0 rfl hO4 h51
  refine zS <| Qm rfl <| Qb ?_
  refine zbs fun b52 => ?_
  refine JL.e (e_append (i := 3) (n' := (o2 ++ [(M.Fct.mk 5 0 0)]).length) (vs' := fltV vcFact (o2 ++ [(M.Fct.mk 5 0 0)])) el_45 rfl rfl rfl rfl (src_row (i := 0) und_45 rfl rfl) (by omega) (by omega) ln2_ (by first | rfl | exact fltV_app _ _ _ | exact fltV_snoc _ _ _ | (simp [fltV]; done))) ?_
  rintro v54 _ _ ⟨⟨g55, rfl⟩, rfl⟩ _
  refine JL.fact (row_form' (i := 3) rfl) (fun hf56 => ?_)
  obtain ⟨A56, c56, rfl, bl56, bh56⟩ := hf56
  refine znl ?_
  have hq0 : (o2 ++ [(M.Fct.mk 5 0 0)]) = (M.factsF r p move) := by first | exact hE.symm | (rw [hE]; rfl)
  refine Qa rfl <| JL.nil ?_
  exact zro ((((x6.trans x11).trans x13).trans x24).trans x47) (g := by exact (gv_flat lFact (xs := (o2 ++ [(M.Fct.mk 5 0 0)])) po_ (by first | rfl | (simp [fltV]; done)) (by first | with_reducible rfl | assumption | rfl)))
 have hE := M.facts_end r0 rfl hO4 h51
 refine Js.skip <| zS <| Qm rfl <| Qb ?_
 refine zbs fun b57 => ?_
 refine JL.e (e_append (i := 3) (n' := (o2 ++ [(M.Fct.mk 6 0 0)]).length) (vs' := fltV vcFact (o2 ++ [(M.Fct.mk 6 0 0)])) el_45 rfl rfl rfl rfl (src_row (i := 0) und_45 rfl rfl) (by omega) (by omega) ln2_ (by first | rfl | exact fltV_app _ _ _ | exact fltV_snoc _ _ _ | (simp [fltV]; done))) ?_
 rintro v59 _ _ ⟨⟨g60, rfl⟩, rfl⟩ _
 refine JL.fact (row_form' (i := 3) rfl) (fun hf61 => ?_)
 obtain ⟨A61, c61, rfl, bl61, bh61⟩ := hf61
 refine znl ?_
 have hq0 : (o2 ++ [(M.Fct.mk 6 0 0)]) = (M.factsF r p move) := by first | exact hE.symm | (rw [hE]; rfl)
 refine Qa rfl <| JL.nil ?_
 exact zro ((((x6.trans x11).trans x13).trans x24).trans x47) (g := by exact (gv_flat lFact (xs := (o2 ++ [(M.Fct.mk 6 0 0)])) po_ (by first | rfl | (simp [fltV]; done)) (by first | with_reducible rfl | assumption | rfl)))
theorem c_spec_l01Dec (n : Int) {w : World} (r0 : -9223372036854775808 ≤ n := by exact om_) (r1 : n ≤ 9223372036854775807 := by exact om_) : RetV Tryd.prog 34 [.int .i64 n] w (.string (sB (M.dec n))) := by
 refine enter @Tryd.func34 @Tryd.ntmps34 rfl rfl ?_
 refine zent ?_
 refine zS <| Qa rfl <| zN <| zbs fun b1 => ?_
 refine Qa rfl <| zJ <| zS <| Qm rfl <| Qa rfl <| JL.nil <| Js.block ?_
 refine zl [0] (fun F U l os u m => ∃ (k : Int) (out : List UInt8) (A3_3 : Option Addr) (c3_3 : Nat) (g3_3 : List Nat), l = F [(3, .slice A3_3 out.length c3_3), (4, .int .i64 k)] ∧ os = U [some (rowO 5 1 (.slice A3_3 out.length c3_3) out.length (byt_ out) g3_3)] ∧ (M.DecI n k out) ∧ (-9223372036854775808 ≤ k) ∧ (k ≤ 9223372036854775807) ∧ (out.length ≤ c3_3) ∧ (c3_3 ≤ 9223372036854775807) ∧ m = k.natAbs) ⟨n, ([] : List UInt8), _, _, _, rfl, rfl, by exact M.DecI.zero n, zt, zt, zu, zu, rfl⟩ ?_
 rintro _ _ u3 _ ⟨k, out, A3_3, c3_3, g3_3, rfl, rfl, hD, hk0, hk1, f3_3, f3_4, rfl⟩ x3
 refine zn ?_
 obtain ⟨t1, t2, t3, t4⟩ := M.tdiv10_bd hk0 hk1
 have hol := hD.len r0 r1
 obtain ⟨t5, t6⟩ := M.tdiv10 k
 refine Js.seq <| zS <| Qm rfl <| Qd rfl rfl <| JL.nil ?_
 refine zi (fun h4 h4' => ?_) fun h4 h4' => ?_
 ·
  have hkn : k ≠ 0 := by simpa using h4
  refine Js.skip <| Js.seq <| Js.block <| zS <| Qm rfl <| Qq (p_rem rfl rfl (by omega) rfl) <| Qa rfl <| zJ <| zS <| Qm rfl <| Ql rfl rfl <| JL.nil ?_
  refine zi (fun h5 h5' => ?_) fun h5 h5' => ?_
  ·
   have hd9 := h5'
   have hD2 := hD.step (d := -k.tmod 10) hkn (by omega)
   have hu8 : ((M.u8 (48 + (-(k.tmod 10)))).toNat : Int) = 48 + (-(k.tmod 10)) := M.u8_val (by omega) (by omega)
   refine Js.region <| Qm rfl <| Qq (p_neg (r := -(k.tmod 10)) rfl (by rw [Int.zero_sub]; exact IntWalk.i64_in _ (by omega))) <| Qa rfl <| zG <| Qm rfl <| Qp rfl rfl <| Qq (p_conv @Tryd.underlying2 @Tryd.underlying5 rfl (IntWalk.u8_in _ (by omega))) <| zbs fun b6 => ?_
   refine Qm rfl ?_
   refine JL.e (e_append (i := 0) (n' := (([M.u8 (48 + (-(k.tmod 10)))] : List UInt8) ++ out).length) (vs' := byt_ (([M.u8 (48 + (-(k.tmod 10)))] : List UInt8) ++ out)) el_91 rfl rfl rfl rfl (src_rowG (i := 1) und_91 rfl (byt_one _)) (by omega) (by omega) ln2_ (by first | rfl | (simp [byt_, hu8]; done))) ?_
   rintro v9 _ _ ⟨⟨g10, rfl⟩, rfl⟩ _
   refine JL.fact (row_form' (i := 0) rfl) (fun hf11 => ?_)
   obtain ⟨A11, c11, rfl, bl11, bh11⟩ := hf11
   refine znl ?_
   refine Qa rfl <| JL.nil <| Js.blockEnd <| Js.region <| Qm rfl <| Qq (p_quo rfl rfl (by omega) (IntWalk.i64_in _ (by omega))) <| Qa rfl <| JL.nil ?_
   refine zd [0] rfl fun u12 x12 => ?_
   exact zag ⟨k.tdiv 10, ([M.u8 (48 + (-(k.tmod 10)))] : List UInt8) ++ out, _, _, _, rfl, rfl, by exact hD2, zt, zt, zu, zu, rfl⟩ (x3.trans x12)
  have hd9 := h5'
  have hD2 := hD.step (d := k.tmod 10) hkn (by omega)
  have hu15 : ((M.u8 (48 + (k.tmod 10))).toNat : Int) = 48 + (k.tmod 10) := M.u8_val (by omega) (by omega)
  refine Js.skip <| Js.region <| Qm rfl <| Qp rfl rfl <| Qq (p_conv @Tryd.underlying2 @Tryd.underlying5 rfl (IntWalk.u8_in _ (by omega))) <| zbs fun b13 => ?_
  refine Qm rfl ?_
  refine JL.e (e_append (i := 0) (n' := (([M.u8 (48 + (k.tmod 10))] : List UInt8) ++ out).length) (vs' := byt_ (([M.u8 (48 + (k.tmod 10))] : List UInt8) ++ out)) el_91 rfl rfl rfl rfl (src_rowG (i := 1) und_91 rfl (byt_one _)) (by omega) (by omega) ln2_ (by first | rfl | (simp [byt_, hu15]; done))) ?_
  rintro v16 _ _ ⟨⟨g17, rfl⟩, rfl⟩ _
  refine JL.fact (row_form' (i := 0) rfl) (fun hf18 => ?_)
  obtain ⟨A18, c18, rfl, bl18, bh18⟩ := hf18
  refine znl ?_
  refine Qa rfl <| JL.nil <| Js.blockEnd <| Js.region <| Qm rfl <| Qq (p_quo rfl rfl (by omega) (IntWalk.i64_in _ (by omega))) <| Qa rfl <| JL.nil ?_
  refine zd [0] rfl fun u19 x19 => ?_
  exact zag ⟨k.tdiv 10, ([M.u8 (48 + (k.tmod 10))] : List UInt8) ++ out, _, _, _, rfl, rfl, by exact hD2, zt, zt, zu, zu, rfl⟩ (x3.trans x19)
 have hk9 : k = 0 := by simpa using h4
 subst hk9
 refine zx ?_
 refine Js.seq <| zS <| Qm rfl <| Qz rfl <| Qe rfl rfl <| JL.nil ?_
 refine zi (fun h20 h20' => ?_) fun h20 h20' => ?_
 ·
  have hE := hD.done0 (by have := h20'; omega) r0 r1
  refine zS <| Qa rfl <| JL.nil ?_
  refine zR x3 ?_
  rw [hE]; rfl
 have hl9 : out.length ≠ 0 := by have := h20'; omega
 have lb9 : LenB out 20 := ⟨hol⟩
 refine Js.skip <| Js.seq <| zS <| Qm rfl <| Ql rfl rfl <| JL.nil ?_
 refine zi (fun h21 h21' => ?_) fun h21 h21' => ?_
 ·
  have hE := hD.neg hl9 (by simpa using h21) r0 r1
  refine zS <| Qm rfl <| Qw (q_toStr (i := 0) und_91 @Tryd.underlying5 und_9 rfl rfl) <| Qq (q_cat rfl rfl) <| Qa rfl <| JL.nil ?_
  refine zR x3 ?_
  rw [hE]; rfl
 have hE := hD.pos hl9 (by simpa using h21) r0 r1
 refine Js.skip <| zS <| Qm rfl <| Qw (q_toStr (i := 0) und_91 @Tryd.underlying5 und_9 rfl rfl) <| Qa rfl <| JL.nil ?_
 refine zR x3 ?_
 rw [hE]; rfl
theorem c_spec_l11Place (k : Int) {w : World} (r0 : -9223372036854775808 ≤ k := by exact om_) (r1 : k ≤ 9223372036854775807 := by exact om_) : RetV Tryd.prog 35 [.int .i64 k] w (.string (sB (M.placeT k))) := by
 refine enter @Tryd.func35 @Tryd.ntmps35 rfl rfl ?_
 refine zent ?_
 refine zS <| Qa rfl <| zJ <| zS <| Qm rfl <| Ql rfl rfl <| JL.nil ?_
 refine zi (fun h1 h1' => ?_) fun h1 h1' => ?_
 ·
  have hE : M.placeT k = [115, 116, 111, 114, 101] := if_pos (by simpa using h1)
  refine zS <| Qa rfl <| JL.nil ?_
  refine zR (Up.refl _ _) ?_
  rw [hE]; rfl
 have hE : M.placeT k = M.dec k := if_neg (by have := h1'; omega)
 refine Js.skip <| zS <| Qm rfl <| zv rfl (fun w hw => c_spec_l01Dec k) <| Qa rfl <| JL.nil ?_
 refine zR (Up.refl _ _) ?_
 rw [hE]; rfl
theorem c_spec_l11Text (f : M.Fct) {v_f : Value} {w : World} (h_f : (Ty.agg (cFact f)).ok w v_f) (r0 : -9223372036854775808 ≤ f.count := by exact om_) (r1 : f.count ≤ 9223372036854775807 := by exact om_) (r2 : -9223372036854775808 ≤ f.place := by exact om_) (r3 : f.place ≤ 9223372036854775807 := by exact om_) : RetV Tryd.prog 18 [v_f] w (.string (sB (M.factT0 f))) := by
 have lb1 := M.placeT_len f.place
 have lb2 : LenB (M.placeT f.place) 21 := ⟨lb1⟩
 have lb3 := M.dec_len f.count
 have lb4 : LenB (M.dec f.count) 21 := ⟨lb3⟩
 revert v_f; apply opn
 refine enter @Tryd.func18 @Tryd.ntmps18 rfl rfl ?_
 refine zent ?_
 refine zS <| zb rfl fun b1 => Qa rfl <| zJ <| zS <| Qf fh rfl <| Q0 0 rfl rfl rfl <| JL.nil <| Js.block <| zS <| Qe rfl rfl <| Qa rfl <| JL.nil ?_
 refine zi (fun h2 h2' => ?_) fun h2 h2' => ?_
 ·
  refine Js.seq ?_
  refine zdr [] ?_
  refine jF 0 fld_49_2 rfl rfl ?_
  refine jB 1 0 ty_2 rfl rfl rfl rfl ?_
  refine jF 5 fld_49_1 rfl rfl ?_
  refine jB 6 0 ty_2 rfl rfl rfl rfl ?_
  refine y1 2 ?_
  refine yv rfl rfl (fun w hw => c_spec_l01Dec f.count) ?_
  refine JH.p 3 rfl (q_cat rfl rfl) ?_
  refine JH.p 4 rfl (q_cat rfl rfl) ?_
  refine y1 7 ?_
  refine yv rfl rfl (fun w hw => c_spec_l11Place f.place) ?_
  refine JH.p 8 rfl (q_cat rfl rfl) ?_
  refine jA 9 rfl rfl ?_
  refine yd ?_
  refine zR (Up.refl _ _) ?_
  simp [outV, M.factT0, *]
 refine zS <| Qe rfl rfl <| Qa rfl <| JL.nil ?_
 refine zi (fun h3 h3' => ?_) fun h3 h3' => ?_
 ·
  refine Js.seq ?_
  refine zdr [] ?_
  refine jF 0 fld_49_2 rfl rfl ?_
  refine jB 1 0 ty_2 rfl rfl rfl rfl ?_
  refine jF 5 fld_49_1 rfl rfl ?_
  refine jB 6 0 ty_2 rfl rfl rfl rfl ?_
  refine y1 2 ?_
  refine yv rfl rfl (fun w hw => c_spec_l01Dec f.count) ?_
  refine JH.p 3 rfl (q_cat rfl rfl) ?_
  refine JH.p 4 rfl (q_cat rfl rfl) ?_
  refine y1 7 ?_
  refine yv rfl rfl (fun w hw => c_spec_l11Place f.place) ?_
  refine JH.p 8 rfl (q_cat rfl rfl) ?_
  refine jA 9 rfl rfl ?_
  refine yd ?_
  refine zR (Up.refl _ _) ?_
  simp [outV, M.factT0, *]
 refine zS <| Qe rfl rfl <| Qa rfl <| JL.nil ?_
 refine zi (fun h4 h4' => ?_) fun h4 h4' => ?_
 ·
  refine Js.seq ?_
  refine zdr [] ?_
  refine jF 0 fld_49_2 rfl rfl ?_
  refine jB 1 0 ty_2 rfl rfl rfl rfl ?_
  refine jF 5 fld_49_1 rfl rfl ?_
  refine jB 6 0 ty_2 rfl rfl rfl rfl ?_
  refine y1 2 ?_
  refine yv rfl rfl (fun w hw => c_spec_l01Dec f.count) ?_
  refine JH.p 3 rfl (q_cat rfl rfl) ?_
  refine JH.p 4 rfl (q_cat rfl rfl) ?_
  refine y1 7 ?_
  refine yv rfl rfl (fun w hw => c_spec_l11Place f.place) ?_
  refine JH.p 8 rfl (q_cat rfl rfl) ?_
  refine jA 9 rfl rfl ?_
  refine yd ?_
  refine zR (Up.refl _ _) ?_
  simp [outV, M.factT0, *]
 refine zS <| Qe rfl rfl <| Qa rfl <| JL.nil ?_
 refine zi (fun h5 h5' => ?_) fun h5 h5' => ?_
 ·
  refine Js.seq ?_
  refine zdr [] ?_
  refine jF 0 fld_49_2 rfl rfl ?_
  refine jB 1 0 ty_2 rfl rfl rfl rfl ?_
  refine jF 5 fld_49_1 rfl rfl ?_
  refine jB 6 0 ty_2 rfl rfl rfl rfl ?_
  refine y1 2 ?_
  refine yv rfl rfl (fun w hw => c_spec_l01Dec f.count) ?_
  refine JH.p 3 rfl (q_cat rfl rfl) ?_
  refine JH.p 4 rfl (q_cat rfl rfl) ?_
  refine y1 7 ?_
  refine yv rfl rfl (fun w hw => c_spec_l11Place f.place) ?_
  refine JH.p 8 rfl (q_cat rfl rfl) ?_
  refine jA 9 rfl rfl ?_
  refine yd ?_
  refine zR (Up.refl _ _) ?_
  simp [outV, M.factT0, *]
 refine zS <| Qe rfl rfl <| Qa rfl <| JL.nil ?_
 refine zi (fun h6 h6' => ?_) fun h6 h6' => ?_
 ·
  refine zS <| Qa rfl <| JL.nil ?_
  refine zR (Up.refl _ _) ?_
  simp [outV, M.factT0, *]
 refine Js.skip <| Js.blockEnd <| zS <| Qa rfl <| JL.nil ?_
 refine zR (Up.refl _ _) ?_
 simp [outV, M.factT0, *]
theorem c_spec_l11Why (r : M.Rul) {v_r : Value} (p : M.Pos) {v_p : Value} (move code : Int) {w : World} (h_r : (Ty.ref (cRules r)).ok w v_r) (h_p : (Ty.ref (cPosition p)).ok w v_p) (r0 : p.pits.length ≤ 4194304 := by exact om_) (r1 : p.stores.length ≤ 4194304 := by exact om_) (r2 : code = (M.make r p move).2 := by exact om_) (r3 : ¬ code = 0 := by exact om_) (r4 : ¬ code = 1 := by exact om_) : RetV Tryd.prog 16 [v_r, v_p, .int .i64 move, .int .i64 code] w (.string (sB (M.whyT r p move code))) := by
 revert v_r; apply opn
 intro b1 o1 hr1
 revert v_p; apply opn
 intro b4 o4 A2 c2 h2 bl2 bh2 A3 c3 h3 bl3 bh3 hr4
 refine enter @Tryd.func16 @Tryd.ntmps16 rfl rfl ?_
 refine zent ?_
 refine zS <| Qa rfl <| zJ <| zS <| Qm rfl <| JL.nil <| Js.block <| zS <| Qe rfl rfl <| Qa rfl <| JL.nil ?_
 refine zi (fun h5 h5' => ?_) fun h5 h5' => ?_
 ·
  have hE := M.whyT_2 (r := r) (p := p) (move := move) (show code = 2 by simpa using h5)
  refine zS <| Qa rfl <| JL.nil ?_
  refine zR (Up.refl _ _) ?_
  first | (rw [hE]; done) | (rw [hE]; rfl)
 have n2 : ¬ code = 2 := by simpa using h5
 refine zS <| Qe rfl rfl <| Qa rfl <| JL.nil ?_
 refine zi (fun h6 h6' => ?_) fun h6 h6' => ?_
 ·
  have hE := M.whyT_6 (r := r) (p := p) (move := move) n2 (by simpa using h6)
  refine zS <| Qa rfl <| JL.nil ?_
  refine zR (Up.refl _ _) ?_
  first | (rw [hE]; done) | (rw [hE]; rfl)
 have n6 : ¬ code = 6 := by simpa using h6
 refine zS <| Qe rfl rfl <| Qa rfl <| JL.nil ?_
 refine zi (fun h7 h7' => ?_) fun h7 h7' => ?_
 ·
  have hE := M.whyT_10 (r := r) (p := p) (move := move) n2 n6 (by simpa using h7)
  refine zS <| Qa rfl <| JL.nil ?_
  refine zR (Up.refl _ _) ?_
  first | (rw [hE]; done) | (rw [hE]; rfl)
 have n10 : ¬ code = 10 := by simpa using h7
 have hz : (M.sowMove r p move).1 = 0 := by subst r2; exact M.make_9 r3 r4 n2 n6 n10
 obtain ⟨hok, m0, m1, hG, q0, q1, hsum⟩ := M.sowMove_ok hz
 obtain ⟨g1, g2, g3, g4, g5, g6, g7⟩ := M.okP_bd hok
 refine Js.skip <| Js.blockEnd <| zS <| Qm rfl <| Qm rfl <| Qm rfl <| zp rfl (fun w hw => c_spec_l05Move r p move (ok_ hw) (ok_ hw)) ?_
 intro u8 x8 A9 c9 h9 bl9 bh9 A10 c10 h10 bl10 bh10 A11 c11 h11 bl11 bh11
 refine Qm rfl <| Qx rfl rfl <| Qx rfl rfl <| Qx rfl rfl <| za zeh fun b12 => zw 0 rfl rfl rfl ?_
 refine Qa rfl <| Qa rfl <| zJ <| zS <| Qm rfl <| Qc rfl <| Qf fh rfl <| QC ((hr1.vis x8.vis) 8 _ rfl) rfl <| Qe rfl rfl <| Qm rfl <| zg (Gd.t1 rfl rfl rfl) (fun hc => p_move rfl) <| zg (Gd.t1 rfl rfl rfl) (fun hc => p_move rfl) <| zg (Gd.t1 rfl rfl rfl) (fun hc => p_nilCheck (gh hc rfl)) <| zg (Gd.t1 rfl rfl rfl) (fun hc => p_fieldAddr fld_33_2.h (gh hc rfl)) ?_
 refine zgq (Gd.t1 rfl rfl rfl) (fun hc => q_load1 ty_2.h (gh hc rfl) (Mem.pub ((hr4.vis x8.vis) 2 _ rfl))) <| zgv (Gd.t1 rfl rfl rfl) (fun hc => (opds_3 (gh hc rfl) rfl (gh hc rfl))) (fun hc => (fun w hw => c_spec_l06Slam r ((M.sowMove r p move).2.1) p.player (ok_ hw) (ok_ hw) (r0 := (oh_ hc)) (r1 := (oh_ hc)) (r2 := (oh_ hc)) (r3 := hG))) ?_
 refine Qq (p_pickAnd rfl rfl rfl) <| JL.nil ?_
 refine zi (fun h13 h13' => ?_) fun h13 h13' => ?_
 ·
  have hE := M.whyT_s n2 n6 n10 (by have h9 := h13; simpa using h9)
  refine zS <| Qa rfl <| JL.nil ?_
  refine zR x8 ?_
  first | (rw [hE]; done) | (rw [hE]; rfl)
 have hE := M.whyT_n n2 n6 n10 (by have h9 := h13; simpa using h9)
 refine Js.skip <| zS <| Qa rfl <| JL.nil ?_
 refine zR x8 ?_
 first | (rw [hE]; done) | (rw [hE]; rfl)
theorem c_spec_ExplainMove (r : M.Rul) {v_r : Value} (p : M.Pos) {v_p : Value} (move : Int) {w : World} (h_r : (Ty.agg (cRules r)).ok w v_r) (h_p : (Ty.agg (cPosition p)).ok w v_p) (r0 : p.pits.length ≤ 4194304 := by exact om_) (r1 : p.stores.length ≤ 4194304 := by exact om_) : Ret Tryd.prog 5 [v_r, v_p, .int .i64 move] w (Ty.tup [Ty.strs 9 ((M.explR r p move).1), Ty.int ((M.explR r p move).2)]) := by
 revert v_r; apply opn
 revert v_p; apply opn
 intro A1 c1 h1 bl1 bh1 A2 c2 h2 bl2 bh2
 refine enter @Tryd.func5 @Tryd.ntmps5 rfl rfl ?_
 refine zent ?_
 refine zS <| zb rfl fun b3 => zb rfl fun b4 => Qa rfl <| Qa rfl <| zN <| Q9 1 rfl rfl ?_
 refine Q9 0 rfl rfl ?_
 refine Qm rfl <| zv rfl (fun w hw => c_spec_MoveFault r p move (ok_ hw) (ok_ hw)) <| Qa rfl <| zJ <| zS <| Qm rfl <| Qe rfl rfl <| JL.nil ?_
 refine zi (fun h5 h5' => ?_) fun h5 h5' => ?_
 ·
  have h19 : (M.make r p move).2 = 1 := by simpa using h5
  have hE := M.explR_1 (move := move) (M.make_1.1 h19)
  have hq0 : [] = (M.explR r p move).1 := by first | (rw [hE]; exact hE2.symm) | (rw [hE, ← hE2]; done) | (rw [hE]; exact h19.symm) | (rw [hE]; exact h19) | (rw [hE]; done) | (rw [hE]; rfl)
  have hq1 : ((M.make r p move).2) = (M.explR r p move).2 := by first | (rw [hE]; exact hE2.symm) | (rw [hE, ← hE2]; done) | (rw [hE]; exact h19.symm) | (rw [hE]; exact h19) | (rw [hE]; done) | (rw [hE]; rfl)
  refine zS <| Qm rfl <| Qa rfl <| Qa rfl <| JL.nil ?_
  exact zro (Up.refl _ _) (g := by exact (gv_tup (gvc (gv_strsN (by first | rfl | assumption)) (gvc gv_ gvn))))
 have hn1 : ¬ (M.make r p move).2 = 1 := by simpa using h5
 have hok0 : ¬ M.okP r p = false := fun e => hn1 (M.make_1.2 e)
 refine Js.skip <| Js.seq <| zS <| Qm rfl <| Qd rfl rfl <| JL.nil ?_
 refine zi (fun h6 h6' => ?_) fun h6 h6' => ?_
 ·
  have hn9 : ¬ (M.make r p move).2 = 0 := by simpa using h6
  have hE := M.explR_w hok0 hn9
  rw [hE]
  have lb9 : LenB (M.whyT r p move (M.make r p move).2) 100 := ⟨M.whyT_len r p move _⟩
  have hq0 : 0 = (M.explR r p move).2 := by first | (rw [hE]; exact hE2.symm) | (rw [hE, ← hE2]; done) | (rw [hE]; exact h19.symm) | (rw [hE]; exact h19) | (rw [hE]; done) | (rw [hE]; rfl)
  refine zS <| Qm rfl <| Qm rfl <| zv rfl (fun w hw => c_spec_l11Why r p move ((M.make r p move).2) (ok_ hw) (ok_ hw) (r2 := rfl) (r3 := hn9) (r4 := hn1)) <| zbs fun b7 => ?_
  refine Qa rfl <| Qa rfl <| JL.nil ?_
  exact zro (Up.refl _ _) (g := by exact (gv_tup (gvc (gv_strs po_ (by rfl) (by rfl)) (gvc gv_ gvn))))
 have hm0 : (M.make r p move).2 = 0 := by simpa using h6
 have hE := M.explR_f hm0
 have hfl := M.facts_len hm0
 refine Js.skip <| zS <| Qm rfl <| zp rfl (fun w hw => c_spec_l11Facts r p move (ok_ hw) (ok_ hw) (r0 := hm0)) ?_
 intro u9 x9 A10 c10 h10 bl10 bh10
 refine Qa rfl <| zN <| zbs fun b11 => ?_
 refine Qa rfl <| zJ <| zS <| Qa rfl <| JL.nil <| Js.block ?_
 refine zl [9] (fun F U l os u m => ∃ (k : Nat) (out : List (List UInt8)) (A13_10 : Option Addr) (c13_10 : Nat) (g13_10 : List Nat), l = F [(10, .slice A13_10 out.length c13_10), (11, .int .i64 (k : Int))] ∧ os = U [some (rowO 9 1 (.slice A13_10 out.length c13_10) out.length (txs_ out) g13_10)] ∧ (out = ((M.factsF r p move).take k).map M.factT0) ∧ (k ≤ (M.factsF r p move).length) ∧ (out.length = k) ∧ (out.length ≤ c13_10) ∧ (c13_10 ≤ 9223372036854775807) ∧ m = (M.factsF r p move).length - k) ⟨0, [], _, _, _, rfl, rfl, by rfl, zt, by rfl, zu, zu, rfl⟩ ?_
 rintro _ _ u13 _ ⟨k, out, A13_10, c13_10, g13_10, rfl, rfl, hO, hk, hl, f13_3, f13_4, rfl⟩ x13
 refine zn ?_
 refine Js.seq <| zS <| Qm rfl <| Qm rfl <| Qz rfl <| Ql rfl rfl <| JL.nil ?_
 refine zi (fun h14 h14' => ?_) fun h14 h14' => ?_
 ·
  obtain ⟨ye15, hye15⟩ : ∃ x, (M.factsF r p move)[k]? = some x := ⟨_, List.getElem?_eq_getElem (by omega)⟩
  have hcan := M.facts_can hm0 _ (List.mem_of_getElem? hye15)
  have hO2 := M.texts_step hO hye15
  have hcb := M.canW_b hcan
  have lb9 : LenB (M.factT0 ye15) 100 := ⟨M.factT0_len _⟩
  have hy16 := hye15
  obtain ⟨b16, o16, he16, hr16⟩ := elem_Fact (Ty.mono _ h10 x13.vis) hy16
  refine Js.skip <| Js.seq <| Js.block <| Js.region <| Qm rfl <| Qm rfl <| Qm rfl <| Qq (p_indexAddr el_45 rfl rfl (by omega) (by omega) he16) <| QS 0 hr16 rfl ?_
  refine zv rfl (fun w hw => c_spec_l11Text ye15 (ok_ hw)) <| zbs fun b17 => ?_
  refine JL.e (e_append (i := 1) (n' := (out ++ [M.factT0 ye15]).length) (vs' := txs_ (out ++ [M.factT0 ye15])) el_28 rfl rfl rfl rfl (src_row (i := 0) und_28 rfl rfl) (by omega) (by omega) ln2_ (by first | rfl | (simp [txs_]; done))) ?_
  rintro v19 _ _ ⟨⟨g20, rfl⟩, rfl⟩ _
  refine JL.fact (row_form' (i := 1) rfl) (fun hf21 => ?_)
  obtain ⟨A21, c21, rfl, bl21, bh21⟩ := hf21
  refine znl ?_
  refine Qa rfl <| JL.nil <| Js.blockEnd <| Js.region <| Qm rfl <| Qp rfl rfl <| Qa rfl <| JL.nil ?_
  refine zd [1, 1, 1] rfl fun u22 x22 => ?_
  exact zag ⟨k + 1, out ++ [M.factT0 ye15], _, _, _, rfl, rfl, by exact hO2, zt, by simp [hl], zu, zu, rfl⟩ (x13.trans x22)
 have hE2 := M.texts_all hO (by have := h14'; omega)
 refine zx ?_
 have hq0 : out = (M.explR r p move).1 := by first | (rw [hE]; exact hE2.symm) | (rw [hE, ← hE2]; done) | (rw [hE]; exact h19.symm) | (rw [hE]; exact h19) | (rw [hE]; done) | (rw [hE]; rfl)
 have hq1 : 0 = (M.explR r p move).2 := by first | (rw [hE]; exact hE2.symm) | (rw [hE, ← hE2]; done) | (rw [hE]; exact h19.symm) | (rw [hE]; exact h19) | (rw [hE]; done) | (rw [hE]; rfl)
 refine zS <| Qm rfl <| Qa rfl <| Qa rfl <| JL.nil ?_
 exact zro (x9.trans x13) (g := by exact (gv_tup (gvc (gv_strsE (ys := out) po_ (by assumption) (by rfl)) (gvc gv_ gvn))))
theorem c_laws_szInt64S (a : List Int) {v_a : Value} (left : Int) {w : World} (h_a : (Ty.ints 2 a).ok w v_a) (r0 : -1 ≤ left := by exact om_) (r1 : left ≤ 1048576 := by exact om_) : RetV Tryd.prog 14 [v_a, .int .i64 left] w (.int .i64 (M.szL a.length left)) := by
 have q1 := M.szL_cases a.length left
 revert v_a; apply opn
 intro A1 c1 h1 bl1 bh1
 have h_a := h1
 refine enter @Tryd.func14 @Tryd.ntmps14 rfl rfl ?_
 refine zent ?_
 refine zS <| Qa rfl <| zN <| Qm rfl <| Qm rfl <| Qz rfl <| Qs rfl rfl <| Qa rfl <| zJ <| zS <| Qm rfl <| Ql rfl rfl <| JL.nil ?_
 refine zi (fun h2 h2' => ?_) fun h2 h2' => ?_
 ·
  refine zS <| Qa rfl <| JL.nil ?_
  refine zR (Up.refl _ _) ?_
  refine congrArg (fun n => Ending.returned (Value.int .i64 n)) ?_; omega
 refine Js.skip <| zS <| Qm rfl <| Qa rfl <| JL.nil ?_
 refine zR (Up.refl _ _) ?_
 refine congrArg (fun n => Ending.returned (Value.int .i64 n)) ?_; omega
theorem c_laws_szPosition (a : M.Pos) {v_a : Value} (left : Int) {w : World} (h_a : (Ty.agg (cPosition a)).ok w v_a) (r0 : -1 ≤ left := by exact om_) (r1 : left ≤ 1048576 := by exact om_) : RetV Tryd.prog 4 [v_a, .int .i64 left] w (.int .i64 (M.szP a left)) := by
 have q1 := M.szL_cases a.pits.length left
 have q2 := M.szL_cases a.stores.length (M.szL a.pits.length left)
 have q3 := M.szL_cases (a.pits.length + a.stores.length) left
 revert v_a; apply opn
 intro A1 c1 h1 bl1 bh1 A2 c2 h2 bl2 bh2
 refine enter @Tryd.func4 @Tryd.ntmps4 rfl rfl ?_
 refine zent ?_
 refine zS <| zb rfl fun b3 => Qa rfl <| zN <| Qf fh rfl <| Q0 0 rfl rfl rfl <| Qm rfl <| zv rfl (fun w hw => c_laws_szInt64S a.pits left (ok_ hw)) <| Qa rfl <| zJ <| zS <| Qm rfl <| Ql rfl rfl <| JL.nil ?_
 refine zi (fun h4 h4' => ?_) fun h4 h4' => ?_
 ·
  refine zS <| Qa rfl <| JL.nil ?_
  refine zR (Up.refl _ _) ?_
  refine congrArg (fun n => Ending.returned (Value.int .i64 n)) ?_; unfold M.szP; omega
 refine Js.skip <| zS <| Qf fh rfl <| Q0 0 rfl rfl rfl <| Qm rfl <| zv rfl (fun w hw => c_laws_szInt64S a.stores (M.szL a.pits.length left) (ok_ hw)) <| Qa rfl <| zJ <| zS <| Qm rfl <| Ql rfl rfl <| JL.nil ?_
 refine zi (fun h5 h5' => ?_) fun h5 h5' => ?_
 ·
  refine zS <| Qa rfl <| JL.nil ?_
  refine zR (Up.refl _ _) ?_
  refine congrArg (fun n => Ending.returned (Value.int .i64 n)) ?_; unfold M.szP; omega
 refine Js.skip <| zS <| Qm rfl <| Qa rfl <| JL.nil ?_
 refine zR (Up.refl _ _) ?_
 refine congrArg (fun n => Ending.returned (Value.int .i64 n)) ?_; unfold M.szP; omega
theorem c_laws_toInt64S (a : List Int) {v_a : Value} {w : World} (h_a : (Ty.ints 2 a).ok w v_a) (r0 : a.length ≤ 4194304 := by exact om_) : Ret Tryd.prog 19 [v_a] w (Ty.ints 2 a) := by
 revert v_a; apply opn
 intro A1 c1 h1 bl1 bh1
 have h_a := h1
 refine enter @Tryd.func19 @Tryd.ntmps19 rfl rfl ?_
 refine zent ?_
 refine zS <| Qa rfl <| zN <| Qm rfl <| Qz rfl <| zmk (a0 := (a.length : Int)) (m := a.length) (by omega) (by omega) fun b2 => Qa rfl <| zJ <| zS <| Qa rfl <| JL.nil <| Js.block ?_
 refine zl [0, 3] (fun F U l os u m => ∃ (k : Nat) (xs : List Int), l = F [(4, .int .i64 (k : Int))] ∧ os = U [some (rowO 2 1 (.slice (some ⟨b2, 0, none⟩) a.length a.length) a.length (ints_ xs) [])] ∧ (xs = M.cp a k) ∧ (k ≤ a.length) ∧ (xs.length = a.length) ∧ m = a.length - k) ⟨0, List.replicate a.length 0, rfl, rfl, by exact M.cp_zero a, zt, by simp, rfl⟩ ?_
 rintro _ _ u3 _ ⟨k, xs, rfl, rfl, hX, hk, hl, rfl⟩ x3
 refine zn ?_
 refine Js.seq <| zS <| Qm rfl <| Qm rfl <| Qz rfl <| Ql rfl rfl <| JL.nil ?_
 refine zi (fun h4 h4' => ?_) fun h4 h4' => ?_
 ·
  obtain ⟨b5, o5, he5, hc5⟩ := ints_elem (Ty.mono _ h1 x3.vis) (i := k) (by omega)
  refine Js.skip <| Js.seq <| Js.block <| Js.region <| Qm rfl <| Qm rfl <| Qm rfl <| Qm rfl <| Qq (p_indexAddr el_24 rfl rfl (by omega) (by omega) he5) <| QC hc5 rfl <| Qq (p_indexAddr el_24 rfl rfl (by omega) (by omega) rfl) ?_
  refine JL.s (e_storeRow (i := 0) (xs' := ints_ (xs.set k (M.nth a k))) ty_2.h rfl rfl rfl rfl rfl rfl (ints_lt (i := k) (by omega)) (ints_setL (i := k) (by omega))) ?_
  rintro _ _ _ ⟨rfl, rfl⟩ _
  refine znl ?_
  refine JL.nil <| Js.blockEnd <| Js.region <| Qm rfl <| Qp rfl rfl <| Qa rfl <| JL.nil ?_
  exact zag ⟨k + 1, xs.set k (M.nth a k), rfl, rfl, by rw [hX]; exact M.cp_step (by omega), zt, by rw [List.length_set]; exact hl, rfl⟩ x3
 have hE : xs = a := by rw [hX]; exact M.cp_all a (by have := h4'; omega)
 refine zx ?_
 have hq0 : xs = a := by exact hE
 refine zS <| Qm rfl <| Qa rfl <| JL.nil ?_
 exact zro x3
theorem c_laws_toPosition (a : M.Pos) {v_a : Value} {w : World} (h_a : (Ty.agg (cPosition a)).ok w v_a) (r0 : a.pits.length ≤ 4194304 := by exact om_) (r1 : a.stores.length ≤ 4194304 := by exact om_) : Ret Tryd.prog 7 [v_a] w (Ty.agg (cPosition a)) := by
 revert v_a; apply opn
 intro A1 c1 h1 bl1 bh1 A2 c2 h2 bl2 bh2
 refine enter @Tryd.func7 @Tryd.ntmps7 rfl rfl ?_
 refine zent ?_
 refine zS <| zb rfl fun b3 => za zeh fun b4 => zN <| za zeh fun b5 => zN <| Qf fh rfl <| Q0 2 rfl rfl rfl <| zcs rfl (fun w hw => c_laws_toInt64S a.pits (ok_ hw)) ?_
 intro A6 c6 bl6 bh6
 refine Qf fh rfl <| zw 1 rfl rfl rfl ?_
 refine zN <| Qf fh rfl <| Q0 3 rfl rfl rfl <| zcs rfl (fun w hw => c_laws_toInt64S a.stores (ok_ hw)) ?_
 intro A7 c7 bl7 bh7
 refine Qf fh rfl <| zw 2 rfl rfl rfl ?_
 refine zN <| Qf fh rfl <| Q0 4 rfl rfl rfl <| Qf fh rfl <| zw 2 rfl rfl rfl ?_
 refine zN <| Q9 2 rfl rfl ?_
 refine zw 3 rfl rfl rfl ?_
 refine JL.nil ?_
 exact zro (Up.refl _ _)
theorem c_laws_toRules (a : M.Rul) {v_a : Value} {w : World} (h_a : (Ty.agg (cRules a)).ok w v_a) : Ret Tryd.prog 6 [v_a] w (Ty.agg (cRules a)) := by
 revert v_a; apply opn
 refine enter @Tryd.func6 @Tryd.ntmps6 rfl rfl ?_
 refine zent ?_
 refine zS <| zb rfl fun b1 => za zeh fun b2 => zN <| za zeh fun b3 => zN <| Qf fh rfl <| Q0 2 rfl rfl rfl <| Qf fh rfl <| zw 0 rfl rfl rfl ?_
 refine zN <| Qf fh rfl <| Q0 2 rfl rfl rfl <| Qf fh rfl <| zw 0 rfl rfl rfl ?_
 refine zN <| Qf fh rfl <| Q0 2 rfl rfl rfl <| Qf fh rfl <| zw 0 rfl rfl rfl ?_
 refine zN <| Qf fh rfl <| Q0 2 rfl rfl rfl <| Qf fh rfl <| zw 0 rfl rfl rfl ?_
 refine zN <| Qf fh rfl <| Q0 2 rfl rfl rfl <| Qf fh rfl <| zw 0 rfl rfl rfl ?_
 refine zN <| Qf fh rfl <| Q0 2 rfl rfl rfl <| Qf fh rfl <| zw 0 rfl rfl rfl ?_
 refine zN <| Qf fh rfl <| Q0 2 rfl rfl rfl <| Qf fh rfl <| zw 0 rfl rfl rfl ?_
 refine zN <| Qf fh rfl <| Q0 2 rfl rfl rfl <| Qf fh rfl <| zw 0 rfl rfl rfl ?_
 refine zN <| Qf fh rfl <| Q0 2 rfl rfl rfl <| Qf fh rfl <| zw 0 rfl rfl rfl ?_
 refine zN <| Q9 0 rfl rfl ?_
 refine zw 1 rfl rfl rfl ?_
 refine JL.nil ?_
 exact zro (Up.refl _ _)
theorem c_laws_eqInt64S (a : List Int) {v_a : Value} (b : List Int) {v_b : Value} {w : World} (h_a : (Ty.ints 2 a).ok w v_a) (h_b : (Ty.ints 2 b).ok w v_b) (r0 : a.length ≤ 4194304 := by exact om_) (r1 : b.length ≤ 4194304 := by exact om_) : RetV Tryd.prog 24 [v_a, v_b] w (.bool (decide (a = b))) := by
 revert v_a; apply opn
 intro A1 c1 h1 bl1 bh1
 have h_a := h1
 revert v_b; apply opn
 intro A2 c2 h2 bl2 bh2
 have h_b := h2
 refine enter @Tryd.func24 @Tryd.ntmps24 rfl rfl ?_
 refine zent ?_
 refine zS <| Qa rfl <| zJ <| zS <| Qm rfl <| Qz rfl <| Qm rfl <| Qz rfl <| Qd rfl rfl <| JL.nil ?_
 refine zi (fun h3 h3' => ?_) fun h3 h3' => ?_
 ·
  have e1 : decide (a = b) = false := by simp; rintro rfl; simp at h3
  refine zS <| Qa rfl <| JL.nil ?_
  refine zR (Up.refl _ _) ?_
  simp [outV, e1]
 have hlen : a.length = b.length := by have := h3'; omega
 refine Js.skip <| Js.seq <| zS <| Qa rfl <| JL.nil <| Js.block ?_
 refine zl [0, 1] (fun F U l os u m => ∃ (k : Nat), l = F [(5, .int .i64 (k : Int))] ∧ os = U [] ∧ (k ≤ a.length) ∧ (M.Upto a b k) ∧ m = a.length - k) ⟨0, rfl, rfl, zt, by exact M.Upto.zero _ _, rfl⟩ ?_
 rintro _ _ u4 _ ⟨k, rfl, rfl, hk, hU, rfl⟩ x4
 refine zn ?_
 refine Js.seq <| zS <| Qm rfl <| Qm rfl <| Qz rfl <| Ql rfl rfl <| JL.nil ?_
 refine zi (fun h5 h5' => ?_) fun h5 h5' => ?_
 ·
  refine Js.skip <| Js.seq <| Js.block <| Js.seq ?_
  refine zdr [] ?_
  refine jM 0 rfl rfl ?_
  refine jM 1 rfl rfl ?_
  obtain ⟨b6, o6, he6, hc6⟩ := ints_elem (Ty.mono _ h1 x4.vis) (i := k) (by omega)
  refine jI 2 el_24 rfl rfl rfl he6 ?_
  refine jW 3 ty_2 rfl rfl hc6.vis ?_
  refine jM 4 rfl rfl ?_
  refine jM 5 rfl rfl ?_
  obtain ⟨b7, o7, he7, hc7⟩ := ints_elem (Ty.mono _ h2 x4.vis) (i := k) (by omega)
  refine jI 6 el_24 rfl rfl rfl he7 ?_
  refine jW 7 ty_2 rfl rfl hc7.vis ?_
  refine JH.p 8 rfl (p_neq rfl rfl) ?_
  refine yd ?_
  refine zi (fun h8 h8' => ?_) fun h8 h8' => ?_
  ·
   have e1 : decide (a = b) = false := by simpa using M.ne_of_nth (a := a) (b := b) (k := k) (by simpa using h8)
   refine zS <| Qa rfl <| JL.nil ?_
   refine zR x4 ?_
   simp [outV, e1]
  have hab : M.nth a k = M.nth b k := by simpa using h8
  refine Js.skip <| Js.blockEnd <| Js.region <| Qm rfl <| Qp rfl rfl <| Qa rfl <| JL.nil ?_
  exact zag ⟨k + 1, rfl, rfl, zt, by exact hU.step (by omega) (by omega) hab, rfl⟩ x4
 have e1 : a = b := hU.done (by omega) (by omega)
 refine zx ?_
 refine zS <| Qa rfl <| JL.nil ?_
 refine zR x4 ?_
 simp [outV, e1]
theorem c_laws_eqPosition (a : M.Pos) {v_a : Value} (b : M.Pos) {v_b : Value} {w : World} (h_a : (Ty.agg (cPosition a)).ok w v_a) (h_b : (Ty.agg (cPosition b)).ok w v_b) (r0 : a.pits.length ≤ 4194304 := by exact om_) (r1 : a.stores.length ≤ 4194304 := by exact om_) (r2 : b.pits.length ≤ 4194304 := by exact om_) (r3 : b.stores.length ≤ 4194304 := by exact om_) : RetV Tryd.prog 10 [v_a, v_b] w (.bool (decide (a = b))) := by
 revert v_a; apply opn
 intro A1 c1 h1 bl1 bh1 A2 c2 h2 bl2 bh2
 revert v_b; apply opn
 intro A3 c3 h3 bl3 bh3 A4 c4 h4 bl4 bh4
 refine enter @Tryd.func10 @Tryd.ntmps10 rfl rfl ?_
 refine zent ?_
 refine zS <| zb rfl fun b5 => zb rfl fun b6 => Qa rfl <| zJ <| zS <| Qf fh rfl <| Q0 1 rfl rfl rfl <| Qf fh rfl <| Q0 0 rfl rfl rfl <| zv rfl (fun w hw => c_laws_eqInt64S a.pits b.pits (ok_ hw) (ok_ hw)) <| Qt rfl <| JL.nil ?_
 refine zi (fun h7 h7' => ?_) fun h7 h7' => ?_
 ·
  have hne : a ≠ b := by rintro rfl; simp at h7
  refine zS <| Qa rfl <| JL.nil ?_
  refine zR (Up.refl _ _) ?_
  first | (rw [decide_eq_false hne]; rfl) | (rw [decide_eq_true (M.pos_ext q0 q1 q2)]; rfl)
 have q0 : a.pits = b.pits := by simpa using h7
 refine Js.skip <| Js.seq <| zS <| Qf fh rfl <| Q0 1 rfl rfl rfl <| Qf fh rfl <| Q0 0 rfl rfl rfl <| zv rfl (fun w hw => c_laws_eqInt64S a.stores b.stores (ok_ hw) (ok_ hw)) <| Qt rfl <| JL.nil ?_
 refine zi (fun h8 h8' => ?_) fun h8 h8' => ?_
 ·
  have hne : a ≠ b := by rintro rfl; simp at h8
  refine zS <| Qa rfl <| JL.nil ?_
  refine zR (Up.refl _ _) ?_
  first | (rw [decide_eq_false hne]; rfl) | (rw [decide_eq_true (M.pos_ext q0 q1 q2)]; rfl)
 have q1 : a.stores = b.stores := by simpa using h8
 refine Js.skip <| Js.seq <| zS <| Qf fh rfl <| Q0 1 rfl rfl rfl <| Qf fh rfl <| Q0 0 rfl rfl rfl <| Qd rfl rfl <| JL.nil ?_
 refine zi (fun h9 h9' => ?_) fun h9 h9' => ?_
 ·
  have hne : a ≠ b := by rintro rfl; simp at h9
  refine zS <| Qa rfl <| JL.nil ?_
  refine zR (Up.refl _ _) ?_
  first | (rw [decide_eq_false hne]; rfl) | (rw [decide_eq_true (M.pos_ext q0 q1 q2)]; rfl)
 have q2 : a.player = b.player := by simpa using h9
 refine Js.skip <| zS <| Qa rfl <| JL.nil ?_
 refine zR (Up.refl _ _) ?_
 first | (rw [decide_eq_false hne]; rfl) | (rw [decide_eq_true (M.pos_ext q0 q1 q2)]; rfl)
theorem c_laws_markInt64S (a : List Int) {Aa_0 : Option Addr} {ca_0 : Nat} {ga_0 : List Nat} (k : Int) {w : World} (hb : Bw w [rowO 2 1 (.slice Aa_0 a.length ca_0) a.length (ints_ a) ga_0]) (bd0 : a.length ≤ ca_0 := by exact om_) (bd1 : ca_0 ≤ 9223372036854775807 := by exact om_) (r0 : a.length ≤ 4194304 := by exact om_) (r1 : 0 ≤ k := by exact om_) (r2 : k ≤ 100000000 := by exact om_) : RetB Tryd.prog 25 [.slice Aa_0 a.length ca_0, .int .i64 k] w [rowO 2 1 (.slice Aa_0 a.length ca_0) a.length (ints_ a) ga_0] (fun v bs' => v = .int .i64 (k + (a.length : Int)) ∧ bs' = [rowO 2 1 (.slice Aa_0 a.length ca_0) a.length (ints_ (M.up k a.length)) ga_0]) := by
 refine enterB hb @Tryd.func25 @Tryd.ntmps25 rfl rfl ?_
 refine zent ?_
 refine Js.trashE ?_
 refine zn ?_
 refine zS <| Qa rfl <| zJ <| zS <| Qa rfl <| JL.nil <| Js.block ?_
 refine zl [0] (fun F U l os u m => ∃ (i : Nat) (kk : Int) (xs : List Int) (G1_1 : List Nat), l = F [(1, .int .i64 kk), (5, .int .i64 (i : Int))] ∧ os = U [some (rowO 2 1 (.slice Aa_0 a.length ca_0) a.length (ints_ xs) ga_0), some (anyO G1_1)] ∧ (xs = M.mkd a k i) ∧ (i ≤ a.length) ∧ (xs.length = a.length) ∧ (kk = k + (i : Int)) ∧ m = a.length - i) ⟨0, k, a, _, rfl, rfl, by exact M.mkd_zero a k, zt, by rfl, by simp, rfl⟩ ?_
 rintro _ _ u1 _ ⟨i, kk, xs, G1_1, rfl, rfl, hX, hi, hl, hkk, rfl⟩ x1
 refine zn ?_
 refine Js.seq <| zS <| Qm rfl <| Qm rfl <| Qz rfl <| Ql rfl rfl <| JL.nil ?_
 refine zi (fun h2 h2' => ?_) fun h2 h2' => ?_
 ·
  refine Js.skip <| Js.seq <| Js.block <| zS <| Qm rfl <| Qm rfl <| Qm rfl ?_
  refine JL.fact (row_some (i := 0) rfl (by omega)) (fun hf4 => ?_)
  obtain ⟨b4, rfl⟩ := hf4
  refine Qq (p_indexAddr el_24 rfl rfl (by omega) (by omega) rfl) ?_
  refine JL.s (e_storeRow (i := 0) (xs' := ints_ (xs.set i kk)) ty_2.h rfl rfl rfl rfl rfl rfl (ints_lt (i := i) (by omega)) (ints_setL (i := i) (by omega))) ?_
  rintro _ _ _ ⟨rfl, rfl⟩ _
  refine znl ?_
  refine zG <| Qm rfl <| Qp rfl rfl <| Qa rfl <| JL.nil <| Js.blockEnd <| Js.region <| Qm rfl <| Qp rfl rfl <| Qa rfl <| JL.nil ?_
  exact zag ⟨i + 1, kk + 1, xs.set i kk, _, rfl, rfl, by rw [hX, hkk]; exact M.mkd_step (by omega), zt, by rw [List.length_set]; exact hl, zt, rfl⟩ x1
 have hi2 : i = a.length := by have := h2'; omega
 have hM : M.up k a.length = xs := by rw [hX]; exact (M.mkd_end hi2).symm
 refine zx ?_
 refine zS <| Qm rfl <| Qa rfl <| JL.nil ?_
 refine zrb [0] hb x1 ?_
 have hE : (.int .i64 kk : Value) = .int .i64 (k + (a.length : Int)) := by first | exact hM | (refine congrArg (Value.int .i64) ?_; omega)
 have hE1 : M.up k a.length = xs := by first | exact hM | (refine congrArg (Value.int .i64) ?_; omega)
 refine ⟨hE, ?_⟩
 · rw [hE1]
theorem c_laws_markPosition (a_pits a_stores : List Int) (a_player : Int) {Aa_0 : Option Addr} {ca_0 : Nat} {ga_0 : List Nat} {Aa_1 : Option Addr} {ca_1 : Nat} {ga_1 : List Nat} (k : Int) {w : World} (hb : Bw w [rowO 2 1 (.slice Aa_0 a_pits.length ca_0) a_pits.length (ints_ a_pits) ga_0, rowO 2 1 (.slice Aa_1 a_stores.length ca_1) a_stores.length (ints_ a_stores) ga_1]) (bd0 : a_pits.length ≤ ca_0 := by exact om_) (bd1 : ca_0 ≤ 9223372036854775807 := by exact om_) (bd2 : a_stores.length ≤ ca_1 := by exact om_) (bd3 : ca_1 ≤ 9223372036854775807 := by exact om_) (r0 : a_pits.length ≤ 4194304 := by exact om_) (r1 : a_stores.length ≤ 4194304 := by exact om_) (r2 : 0 ≤ k := by exact om_) (r3 : k ≤ 50000000 := by exact om_) : RetB Tryd.prog 11 [.agg #[.slice Aa_0 a_pits.length ca_0, .slice Aa_1 a_stores.length ca_1, .int .i64 a_player], .int .i64 k] w [rowO 2 1 (.slice Aa_0 a_pits.length ca_0) a_pits.length (ints_ a_pits) ga_0, rowO 2 1 (.slice Aa_1 a_stores.length ca_1) a_stores.length (ints_ a_stores) ga_1] (fun v bs' => v = .int .i64 (k + (a_pits.length : Int) + (a_stores.length : Int)) ∧ bs' = [rowO 2 1 (.slice Aa_0 a_pits.length ca_0) a_pits.length (ints_ (M.up k a_pits.length)) ga_0, rowO 2 1 (.slice Aa_1 a_stores.length ca_1) a_stores.length (ints_ (M.up (k + (a_pits.length : Int)) a_stores.length)) ga_1]) := by
 refine enterB hb @Tryd.func11 @Tryd.ntmps11 rfl rfl ?_
 refine zent ?_
 refine Js.trashE ?_
 refine zn ?_
 refine zS <| zb rfl fun b1 => Qa rfl <| zN <| Qf fh rfl <| Q0 0 rfl rfl rfl <| Qm rfl ?_
 refine zhl [1] ?_
 refine zBB 1 sp_ rfl (fun w hb _ hw => c_laws_markInt64S a_pits k hb) ?_
 rintro _ _ G2 ⟨rfl, rfl⟩
 refine znl ?_
 refine Qa rfl <| zN <| Qf fh rfl <| Q0 2 rfl rfl rfl <| Qm rfl ?_
 refine zhl [3] ?_
 refine zBB 1 sp_ rfl (fun w hb _ hw => c_laws_markInt64S a_stores (k + (a_pits.length : Int)) hb) ?_
 rintro _ _ G3 ⟨rfl, rfl⟩
 refine znl ?_
 refine Qa rfl <| zN <| Qm rfl <| Qa rfl <| JL.nil ?_
 refine zrb [2, 0] hb (Up.refl _ _) ?_
 have hE : (.int .i64 ((k + (a_pits.length : Int)) + (a_stores.length : Int)) : Value) = .int .i64 (k + (a_pits.length : Int) + (a_stores.length : Int)) := by rfl
 exact ⟨hE, rfl⟩
theorem c_laws_markText (k : Int) {w : World} (r0 : k ≤ 1000000000000 := by exact om_) : RetV Tryd.prog 26 [.int .i64 k] w (.string (sB (M.markT k))) := by
 refine enter @Tryd.func26 @Tryd.ntmps26 rfl rfl ?_
 refine zent ?_
 refine zS <| Qa rfl <| zJ <| zS <| Qm rfl <| Qk rfl rfl <| JL.nil ?_
 refine zi (fun h1 h1' => ?_) fun h1 h1' => ?_
 ·
  have hE := M.markT_z (k := k) (by have := h1'; omega)
  refine zS <| Qa rfl <| JL.nil ?_
  refine zR (Up.refl _ _) ?_
  first | (rw [hE]; rfl)
 have hp : 0 < k := by have := h1'; omega
 refine Js.skip <| zS <| Qa rfl <| zJ <| Js.block ?_
 refine zl [] (fun F U l os u m => ∃ (kk : Int) (out : List UInt8), l = F [(0, .int .i64 kk), (3, .string (sB out))] ∧ os = U [] ∧ (M.DecI k kk out) ∧ (0 ≤ kk) ∧ (kk ≤ 1000000000000) ∧ m = kk.toNat) ⟨k, ([] : List UInt8), rfl, rfl, by exact M.DecI.zero k, zt, zt, rfl⟩ ?_
 rintro _ _ u2 _ ⟨kk, out, rfl, rfl, hD, hk0, hk1, rfl⟩ x2
 refine zn ?_
 obtain ⟨t1, t2, t3, t4⟩ := M.tdiv10_bd (k := kk) (by omega) (by omega)
 have t7 : 0 ≤ kk.tmod 10 := Int.tmod_nonneg 10 hk0
 have t9 : 0 ≤ kk.tdiv 10 := Int.tdiv_nonneg hk0 (by omega)
 obtain ⟨t5, t6⟩ := M.tdiv10 kk
 have hol := hD.len (by omega) (by omega)
 have lb9 : LenB out 20 := ⟨hol⟩
 refine Js.seq <| zS <| Qm rfl <| Qg rfl rfl <| JL.nil ?_
 refine zi (fun h3 h3' => ?_) fun h3 h3' => ?_
 ·
  have hkk : kk ≠ 0 := by have := h3'; omega
  have hD2 := hD.step (d := kk.tmod 10) hkk (by omega)
  have hu6 : ((M.u8 (48 + (kk.tmod 10))).toNat : Int) = 48 + (kk.tmod 10) := M.u8_val (by omega) (by omega)
  refine Js.skip <| Js.block <| zS <| Qm rfl <| Qq (p_rem rfl rfl (by omega) rfl) <| Qp rfl rfl <| Qq (p_conv @Tryd.underlying3 @Tryd.underlying5 rfl (IntWalk.u8_in _ (by omega))) <| zbs fun b4 => ?_
  refine Qw (q_toStr1 (i := 0) und_91 @Tryd.underlying5 und_9 rfl rfl hu6) <| Qm rfl <| Qq (q_cat rfl rfl) <| Qa rfl <| zG <| Qm rfl <| Qq (p_quo rfl rfl (by omega) (IntWalk.i64_in _ (by omega))) <| Qa rfl <| JL.nil <| Js.blockEnd ?_
  refine zd [] rfl fun u7 x7 => ?_
  exact zag ⟨kk.tdiv 10, ([M.u8 (48 + (kk.tmod 10))] : List UInt8) ++ out, rfl, rfl, by exact hD2, by omega, by omega, rfl⟩ (x2.trans x7)
 have hk9 : kk = 0 := by have := h3'; omega
 subst hk9
 have hE := M.markT_end hD hp (by omega)
 have lb9 : LenB out 20 := ⟨hD.len (by omega) (by omega)⟩
 refine zx ?_
 refine zS <| Qm rfl <| Qq (q_cat rfl rfl) <| Qa rfl <| JL.nil ?_
 refine zR x2 ?_
 first | (rw [hE]; rfl)
theorem c_laws_eqStringS (a : List (List UInt8)) {v_a : Value} (b : List (List UInt8)) {v_b : Value} {w : World} (h_a : (Ty.strs 9 a).ok w v_a) (h_b : (Ty.strs 9 b).ok w v_b) (r0 : a.length ≤ 4194304 := by exact om_) (r1 : b.length ≤ 4194304 := by exact om_) : RetV Tryd.prog 9 [v_a, v_b] w (.bool (decide (a = b))) := by
 revert v_a; apply opn
 intro A1 c1 h1 bl1 bh1
 have h_a := h1
 revert v_b; apply opn
 intro A2 c2 h2 bl2 bh2
 have h_b := h2
 refine enter @Tryd.func9 @Tryd.ntmps9 rfl rfl ?_
 refine zent ?_
 refine zS <| Qa rfl <| zJ <| zS <| Qm rfl <| Qz rfl <| Qm rfl <| Qz rfl <| Qd rfl rfl <| JL.nil ?_
 refine zi (fun h3 h3' => ?_) fun h3 h3' => ?_
 ·
  have e1 : decide (a = b) = false := by simp; rintro rfl; simp at h3
  refine zS <| Qa rfl <| JL.nil ?_
  refine zR (Up.refl _ _) ?_
  simp [outV, e1]
 have hlen : a.length = b.length := by have := h3'; omega
 refine Js.skip <| Js.seq <| zS <| Qa rfl <| JL.nil <| Js.block ?_
 refine zl [0, 1] (fun F U l os u m => ∃ (k : Nat), l = F [(5, .int .i64 (k : Int))] ∧ os = U [] ∧ (k ≤ a.length) ∧ (a.take k = b.take k) ∧ m = a.length - k) ⟨0, rfl, rfl, zt, by rfl, rfl⟩ ?_
 rintro _ _ u4 _ ⟨k, rfl, rfl, hk, hU, rfl⟩ x4
 refine zn ?_
 refine Js.seq <| zS <| Qm rfl <| Qm rfl <| Qz rfl <| Ql rfl rfl <| JL.nil ?_
 refine zi (fun h5 h5' => ?_) fun h5 h5' => ?_
 ·
  obtain ⟨ye6, hye6⟩ : ∃ x, a[k]? = some x := ⟨_, List.getElem?_eq_getElem (by omega)⟩
  have hY := hye6
  obtain ⟨ye7, hye7⟩ : ∃ x, b[k]? = some x := ⟨_, List.getElem?_eq_getElem (by omega)⟩
  have hZ := hye7
  refine Js.skip <| Js.seq <| Js.block <| Js.seq ?_
  refine zdr [] ?_
  refine jM 0 rfl rfl ?_
  refine jM 1 rfl rfl ?_
  have hy8 := hye6
  obtain ⟨b8, o8, he8, hc8⟩ := strs_elem (Ty.mono _ h1 x4.vis) hy8
  refine jI 2 el_28 rfl rfl rfl he8 ?_
  refine jW 3 ty_9 rfl rfl hc8.vis ?_
  refine jM 4 rfl rfl ?_
  refine jM 5 rfl rfl ?_
  have hy9 := hye7
  obtain ⟨b9, o9, he9, hc9⟩ := strs_elem (Ty.mono _ h2 x4.vis) hy9
  refine jI 6 el_28 rfl rfl rfl he9 ?_
  refine jW 7 ty_9 rfl rfl hc9.vis ?_
  refine JH.p 8 rfl (p_neqT und_9 rfl rfl) ?_
  refine yd ?_
  refine zi (fun h10 h10' => ?_) fun h10 h10' => ?_
  ·
   have e1 := M.eqT_no hY hZ (by simpa using h10)
   refine zS <| Qa rfl <| JL.nil ?_
   refine zR x4 ?_
   simp [outV, e1]
  have hab := M.not_ne h10
  refine Js.skip <| Js.blockEnd <| Js.region <| Qm rfl <| Qp rfl rfl <| Qa rfl <| JL.nil ?_
  exact zag ⟨k + 1, rfl, rfl, zt, by exact M.eqT_step hU hY hZ hab, rfl⟩ x4
 have e1 : a = b := M.eqT_end hU (by have := h5'; omega) hlen
 refine zx ?_
 refine zS <| Qa rfl <| JL.nil ?_
 refine zR x4 ?_
 simp [outV, e1]
theorem c_laws_heldStringS (a : List (List UInt8)) {v_a : Value} (k : Int) {w : World} (h_a : (Ty.strs 9 a).ok w v_a) (r0 : a.length ≤ 4194304 := by exact om_) (r1 : 0 ≤ k := by exact om_) (r2 : k ≤ 100000000 := by exact om_) : RetV Tryd.prog 13 [v_a, .int .i64 k] w (.int .i64 (M.heldT a k)) := by
 revert v_a; apply opn
 intro A1 c1 h1 bl1 bh1
 have h_a := h1
 refine enter @Tryd.func13 @Tryd.ntmps13 rfl rfl ?_
 refine zent ?_
 refine zS <| Qa rfl <| zJ <| zS <| Qa rfl <| JL.nil <| Js.block ?_
 refine zl [0] (fun F U l os u m => ∃ (i : Nat) (kk : Int), l = F [(1, .int .i64 kk), (5, .int .i64 (i : Int))] ∧ os = U [] ∧ (a.take i = M.upT k i) ∧ (i ≤ a.length) ∧ (kk = k + (i : Int)) ∧ m = a.length - i) ⟨0, k, rfl, rfl, by rfl, zt, by simp, rfl⟩ ?_
 rintro _ _ u2 _ ⟨i, kk, rfl, rfl, hU, hi, hkk, rfl⟩ x2
 refine zn ?_
 refine Js.seq <| zS <| Qm rfl <| Qm rfl <| Qz rfl <| Ql rfl rfl <| JL.nil ?_
 refine zi (fun h3 h3' => ?_) fun h3 h3' => ?_
 ·
  obtain ⟨ye4, hye4⟩ : ∃ x, a[i]? = some x := ⟨_, List.getElem?_eq_getElem (by omega)⟩
  have hY := hye4
  refine Js.skip <| Js.seq <| Js.block <| Js.seq <| Js.seq ?_
  refine zdr [] ?_
  refine jM 0 rfl rfl ?_
  refine jM 1 rfl rfl ?_
  have hy5 := hye4
  obtain ⟨b5, o5, he5, hc5⟩ := strs_elem (Ty.mono _ h1 x2.vis) hy5
  refine jI 2 el_28 rfl rfl rfl he5 ?_
  refine jW 3 ty_9 rfl rfl hc5.vis ?_
  refine jM 4 rfl rfl ?_
  refine y1 5 ?_
  refine yv rfl rfl (fun w hw => c_laws_markText kk) ?_
  refine JH.p 6 rfl (p_neqT und_9 rfl rfl) ?_
  refine yd ?_
  refine zi (fun h6 h6' => ?_) fun h6 h6' => ?_
  ·
   have hE := M.heldT_no (k := k) hY (by rw [← hkk]; simpa using h6)
   refine zS <| Qa rfl <| JL.nil ?_
   refine zR x2 ?_
   first | (rw [hE]; rfl) | (rw [hE, hkk]; rfl)
  have he := M.not_ne h6
  rw [hkk] at he
  refine Js.skip <| Js.region <| Qm rfl <| Qp rfl rfl <| Qa rfl <| JL.nil <| Js.blockEnd <| Js.region <| Qm rfl <| Qp rfl rfl <| Qa rfl <| JL.nil ?_
  exact zag ⟨i + 1, kk + 1, rfl, rfl, by exact M.heldT_step hY hU he, zt, zt, rfl⟩ x2
 have hE := M.heldT_yes (a := a) (k := k) (i := i) (by have := h3'; omega) hU
 refine zx ?_
 refine zS <| Qm rfl <| Qa rfl <| JL.nil ?_
 refine zR x2 ?_
 first | (rw [hE]; rfl) | (rw [hE, hkk]; rfl)
theorem c_laws_markStringS (a : List (List UInt8)) {Aa_0 : Option Addr} {ca_0 : Nat} {ga_0 : List Nat} (k : Int) {w : World} (hb : Bw w [rowO 9 1 (.slice Aa_0 a.length ca_0) a.length (txs_ a) ga_0]) (bd0 : a.length ≤ ca_0 := by exact om_) (bd1 : ca_0 ≤ 9223372036854775807 := by exact om_) (r0 : a.length ≤ 4194304 := by exact om_) (r1 : 0 ≤ k := by exact om_) (r2 : k ≤ 100000000 := by exact om_) : RetB Tryd.prog 12 [.slice Aa_0 a.length ca_0, .int .i64 k] w [rowO 9 1 (.slice Aa_0 a.length ca_0) a.length (txs_ a) ga_0] (fun v bs' => v = .int .i64 (k + (a.length : Int)) ∧ bs' = [rowO 9 1 (.slice Aa_0 a.length ca_0) a.length (txs_ (M.upT k a.length)) ga_0]) := by
 refine enterB hb @Tryd.func12 @Tryd.ntmps12 rfl rfl ?_
 refine zent ?_
 refine Js.trashE ?_
 refine zn ?_
 refine zS <| Qa rfl <| zJ <| zS <| Qa rfl <| JL.nil <| Js.block ?_
 refine zl [0] (fun F U l os u m => ∃ (i : Nat) (kk : Int) (xs : List (List UInt8)) (G1_1 : List Nat), l = F [(1, .int .i64 kk), (5, .int .i64 (i : Int))] ∧ os = U [some (rowO 9 1 (.slice Aa_0 a.length ca_0) a.length (txs_ xs) ga_0), some (anyO G1_1)] ∧ (xs = M.mkdT a k i) ∧ (i ≤ a.length) ∧ (xs.length = a.length) ∧ (kk = k + (i : Int)) ∧ m = a.length - i) ⟨0, k, a, _, rfl, rfl, by exact M.mkdT_zero a k, zt, by rfl, by simp, rfl⟩ ?_
 rintro _ _ u1 _ ⟨i, kk, xs, G1_1, rfl, rfl, hX, hi, hl, hkk, rfl⟩ x1
 refine zn ?_
 refine Js.seq <| zS <| Qm rfl <| Qm rfl <| Qz rfl <| Ql rfl rfl <| JL.nil ?_
 refine zi (fun h2 h2' => ?_) fun h2 h2' => ?_
 ·
  refine Js.skip <| Js.seq <| Js.block <| zS <| Qm rfl <| Qm rfl <| Qm rfl <| zv rfl (fun w hw => c_laws_markText kk) ?_
  refine JL.fact (row_some (i := 0) rfl (by omega)) (fun hf4 => ?_)
  obtain ⟨b4, rfl⟩ := hf4
  refine Qq (p_indexAddr el_28 rfl rfl (by omega) (by omega) rfl) ?_
  refine JL.s (e_storeRow (i := 0) (xs' := txs_ (xs.set i (M.markT kk))) ty_9.h rfl rfl rfl rfl rfl rfl (txs_lt (i := i) (by omega)) (txs_setL (i := i) (by omega))) ?_
  rintro _ _ _ ⟨rfl, rfl⟩ _
  refine znl ?_
  refine zG <| Qm rfl <| Qp rfl rfl <| Qa rfl <| JL.nil <| Js.blockEnd <| Js.region <| Qm rfl <| Qp rfl rfl <| Qa rfl <| JL.nil ?_
  exact zag ⟨i + 1, kk + 1, xs.set i (M.markT kk), _, rfl, rfl, by rw [hX, hkk]; exact M.mkdT_step (by omega), zt, by rw [List.length_set]; exact hl, zt, rfl⟩ x1
 have hi2 : i = a.length := by have := h2'; omega
 have hM : M.upT k a.length = xs := by rw [hX]; exact (M.mkdT_end hi2).symm
 refine zx ?_
 refine zS <| Qm rfl <| Qa rfl <| JL.nil ?_
 refine zrb [0] hb x1 ?_
 have hE : (.int .i64 kk : Value) = .int .i64 (k + (a.length : Int)) := by first | exact hM | (refine congrArg (Value.int .i64) ?_; omega)
 have hE1 : M.upT k a.length = xs := by first | exact hM | (refine congrArg (Value.int .i64) ?_; omega)
 refine ⟨hE, ?_⟩
 · rw [hE1]
theorem c_laws_FnExactExplainMove (aR : M.Rul) {v_aR : Value} (aP : M.Pos) {v_aP : Value} (aMove : Int) {w : World} (h_aR : (Ty.agg (cRules aR)).ok w v_aR) (h_aP : (Ty.agg (cPosition aP)).ok w v_aP) (h_tab : tabT.ok w undef) : RetV Tryd.prog 3 [v_aR, v_aP, .int .i64 aMove] w (.bool true) := by
 have q4 := M.szL_cases (aP.pits.length + aP.stores.length) 1048576
 change (1048576 < _ ∧ M.szP aP 1048576 = -1) ∨ (_ ≤ _ ∧ M.szP aP 1048576 = _) at q4
 have z3 := M.explR_len aR aP aMove
 have z4 := M.upT_length 1 (M.explR aR aP aMove).1.length
 revert v_aR; apply opn
 revert v_aP; apply opn
 intro A1 c1 h1 bl1 bh1 A2 c2 h2 bl2 bh2
 refine enter @Tryd.func3 @Tryd.ntmps3 rfl rfl ?_
 refine zent ?_
 refine zS <| zb rfl fun b3 => zb rfl fun b4 => Qa rfl <| zN <| Qa rfl <| zN <| Q9 0 rfl rfl ?_
 refine Qm rfl <| zv rfl (fun w hw => c_laws_szPosition aP 1048576 (ok_ hw)) <| Qa rfl <| zJ <| zS <| Qm rfl <| Ql rfl rfl <| JL.nil ?_
 refine zi (fun h5 h5' => ?_) fun h5 h5' => ?_
 ·
  refine zS <| Qa rfl <| JL.nil ?_
  exact zr (Up.refl _ _)
 refine Js.skip <| Js.seq ?_
 refine zdr [] ?_
 refine JH.q 0 rfl (L9 1 rfl rfl) ?_
 refine JH.q 2 rfl (L9 0 rfl rfl) ?_
 refine jM 4 rfl rfl ?_
 refine y1 1 ?_
 refine yp rfl rfl (fun w hw => c_laws_toRules aR (ok_ hw)) ?_
 intro u6 x6
 refine y1 3 ?_
 refine yp rfl rfl (fun w hw => c_laws_toPosition aP (ok_ hw)) ?_
 intro u7 x7 A8 c8 h8 bl8 bh8 A9 c9 h9 bl9 bh9
 refine y1 5 ?_
 refine yp rfl rfl (fun w hw => c_spec_ExplainMove aR aP aMove (ok_ hw) (ok_ hw)) ?_
 intro u10 x10 A11 c11 h11 bl11 bh11
 refine jM 6 rfl rfl ?_
 refine JH.p 7 rfl (p_extract rfl rfl) ?_
 refine JH.p 8 rfl (p_extract rfl rfl) ?_
 refine jA 9 rfl rfl ?_
 refine jA 10 rfl rfl ?_
 refine yd ?_
 refine zS <| Q9 0 rfl rfl ?_
 refine zc rfl (fun w hw => c_laws_toPosition aP (ok_ hw)) ?_
 intro A13 c13 bl13 bh13 A14 c14 bl14 bh14
 refine za zeh fun b15 => zw 0 rfl rfl rfl ?_
 refine zJ ?_
 refine zdr [] ?_
 refine JH.q 0 rfl (L9 4 rfl rfl) ?_
 refine JH.q 2 rfl (L9 0 rfl rfl) ?_
 refine jM 3 rfl rfl ?_
 refine y1 1 ?_
 refine yp rfl rfl (fun w hw => c_laws_toRules aR (ok_ hw)) ?_
 intro u16 x16
 refine y1 4 ?_
 refine ycs rfl rfl (fun w hw => c_impl_ExplainMove aR aP aMove (ok_ hw) (ok_ hw) (ok_ hw)) ?_
 intro A18 c18 bl18 bh18
 refine jM 5 rfl rfl ?_
 refine JH.p 6 rfl (p_extract rfl rfl) ?_
 refine JH.p 7 rfl (p_extract rfl rfl) ?_
 refine jA 8 rfl rfl ?_
 refine jA 9 rfl rfl ?_
 refine yd ?_
 refine Js.seq <| zS <| Qm rfl <| Qm rfl <| zv rfl (fun w hw => c_laws_eqStringS ((M.explR aR aP aMove).1) ((M.explR aR aP aMove).1) (strs_rowok (xs := ((M.explR aR aP aMove).1)) (hw.pr (i := 0) rfl)) (ok_ hw)) <| Qt rfl <| Qm rfl <| zg (Gd.f1 rfl rfl rfl) (fun hc => p_move rfl) <| zg (Gd.f1 rfl rfl rfl) (fun hc => p_move rfl) <| zg (Gd.f1 rfl rfl rfl) (fun hc => p_neq (gh hc rfl) (gh hc rfl)) <| Qq (p_pickOr rfl rfl rfl) <| JL.nil ?_
 refine zi (fun h19 h19' => ?_) fun h19 h19' => ?_
 · exact absurd h19 (by simp)
 refine Js.skip <| Js.seq <| Js.seq ?_
 refine zdr [] ?_
 refine JH.q 0 rfl (L9 1 rfl rfl) ?_
 refine JH.q 1 rfl (L9 4 rfl rfl) ?_
 refine y1 2 ?_
 refine yp rfl rfl (fun w hw => c_laws_toPosition aP (ok_ hw)) ?_
 intro u20 x20 A21 c21 h21 bl21 bh21 A22 c22 h22 bl22 bh22
 refine y1 3 ?_
 refine yv rfl rfl (fun w hw => c_laws_eqPosition aP aP (ok_ hw) (ok_ hw)) ?_
 refine JH.p 4 rfl (p_not rfl) ?_
 refine yd ?_
 refine zi (fun h23 h23' => ?_) fun h23 h23' => ?_
 · exact absurd h23 (by simp)
 refine Js.skip <| zS <| Qa rfl <| zN <| Q9 1 rfl rfl ?_
 refine Qm rfl ?_
 refine zhl [3, 2] ?_
 refine zB 2 sp_ rfl (fun w hb hw => c_laws_markPosition aP.pits aP.stores aP.player 1 hb) ?_
 rintro _ _ G24 ⟨rfl, rfl⟩
 refine znl ?_
 refine Qa rfl <| zJ <| zS <| Qm rfl <| Ql rfl rfl <| Qm rfl <| zg (Gd.f1 rfl rfl rfl) (fun hc => p_move rfl) <| zg (Gd.f1 rfl rfl rfl) (fun hc => p_move rfl) <| zgv (Gd.f1 rfl rfl rfl) (fun hc => (opds_2 (gh hc rfl) (gh hc rfl))) (fun hc => (fun w hw => c_laws_eqStringS ((M.explR aR aP aMove).1) ((M.explR aR aP aMove).1) (strs_rowok (xs := ((M.explR aR aP aMove).1)) (hw.pr (i := 3) rfl)) (ok_ hw) (r0 := (by have hc9 := hc; (try simp only [Bool.not_eq_true', decide_eq_false_iff_not, Int.not_lt] at hc9); omega)) (r1 := (by have hc9 := hc; (try simp only [Bool.not_eq_true', decide_eq_false_iff_not, Int.not_lt] at hc9); omega)))) ?_
 refine zg (Gd.f1 rfl rfl rfl) (fun hc => p_not (gh hc rfl)) <| Qq (p_pickOr rfl rfl rfl) <| Qm rfl <| zg (Gd.f1 rfl rfl rfl) (fun hc => p_move rfl) <| zg (Gd.f1 rfl rfl rfl) (fun hc => p_move rfl) <| zg (Gd.f1 rfl rfl rfl) (fun hc => p_neq (gh hc rfl) (gh hc rfl)) <| Qq (p_pickOr rfl rfl rfl) <| JL.nil ?_
 refine zi (fun h25 h25' => ?_) fun h25 h25' => ?_
 · exact absurd h25 (by simp only [decide_true, Bool.not_true, Bool.or_false, decide_eq_true_eq]; omega)
 refine Js.skip <| zS <| Qa rfl <| zN <| Qm rfl <| Qm rfl ?_
 refine zhl [3] ?_
 refine zB 1 sp_ rfl (fun w hb hw => c_laws_markStringS ((M.explR aR aP aMove).1) 1 hb) ?_
 rintro _ _ G26 ⟨rfl, rfl⟩
 refine znl ?_
 refine Qa rfl <| zN <| Qa rfl <| zN <| Qm rfl <| Qm rfl <| zv rfl (fun w hw => c_laws_heldStringS (M.upT 1 ((M.explR aR aP aMove).1).length) 1 (strs_rowok (xs := (M.upT 1 ((M.explR aR aP aMove).1).length)) (hw.pr (i := 0) rfl))) <| Qa rfl <| zJ <| zS <| Qm rfl <| Ql rfl rfl <| JL.nil ?_
 refine zi (fun h27 h27' => ?_) fun h27 h27' => ?_
 · exact absurd h27 (by rw [M.heldT_up]; simp only [decide_eq_true_eq]; omega)
 refine Js.skip <| Js.seq <| zS <| Qm rfl <| Qm rfl <| Qd rfl rfl <| JL.nil ?_
 refine zi (fun h28 h28' => ?_) fun h28 h28' => ?_
 · exact absurd h28 (by rw [M.heldT_up]; simp)
 refine Js.skip <| Js.seq ?_
 refine zdr [] ?_
 refine JH.q 0 rfl (L9 7 rfl rfl) ?_
 refine JH.q 2 rfl (L9 6 rfl rfl) ?_
 refine jM 4 rfl rfl ?_
 refine y1 1 ?_
 refine yp rfl rfl (fun w hw => c_laws_toRules aR (ok_ hw)) ?_
 intro u29 x29
 refine y1 3 ?_
 refine yp rfl rfl (fun w hw => c_laws_toPosition aP (ok_ hw)) ?_
 intro u30 x30 A31 c31 h31 bl31 bh31 A32 c32 h32 bl32 bh32
 refine y1 5 ?_
 refine yp rfl rfl (fun w hw => c_impl_ExplainMove aR aP aMove (ok_ hw) (ok_ hw) (ok_ hw)) ?_
 intro u33 x33 A34 c34 h34 bl34 bh34
 refine jM 6 rfl rfl ?_
 refine JH.p 7 rfl (p_extract rfl rfl) ?_
 refine JH.p 8 rfl (p_extract rfl rfl) ?_
 refine jA 9 rfl rfl ?_
 refine jA 10 rfl rfl ?_
 refine yd ?_
 refine Js.seq <| zS <| Qm rfl <| Qm rfl <| zv rfl (fun w hw => c_laws_eqStringS ((M.explR aR aP aMove).1) ((M.explR aR aP aMove).1) (ok_ hw) (ok_ hw)) <| Qt rfl <| Qm rfl <| zg (Gd.f1 rfl rfl rfl) (fun hc => p_move rfl) <| zg (Gd.f1 rfl rfl rfl) (fun hc => p_move rfl) <| zg (Gd.f1 rfl rfl rfl) (fun hc => p_neq (gh hc rfl) (gh hc rfl)) <| Qq (p_pickOr rfl rfl rfl) <| JL.nil ?_
 refine Js.condF rfl h19 ?_
 refine Js.skip <| zS <| Qa rfl <| zN <| Qm rfl <| Qm rfl <| zv rfl (fun w hw => c_laws_heldStringS (M.upT 1 ((M.explR aR aP aMove).1).length) 1 (strs_rowok (xs := (M.upT 1 ((M.explR aR aP aMove).1).length)) (hw.pr (i := 0) rfl))) <| Qa rfl <| zJ <| zS <| Qm rfl <| Ql rfl rfl <| JL.nil ?_
 refine Js.condF rfl h27 ?_
 refine Js.skip <| Js.seq <| zS <| Qm rfl <| Qm rfl <| Qd rfl rfl <| JL.nil ?_
 refine Js.condF rfl h28 ?_
 refine Js.skip <| zS <| Qa rfl <| JL.nil ?_
 exact zr (((((((x6.trans x7).trans x10).trans x16).trans x20).trans x29).trans x30).trans x33)
end Go.Proofs.YtjgohnaobbphpaaDoor

/- Walks: K49. -/
import Derived.Test.YthdmaamdlibjaaaDoorZbA3
import Derived.Test.YthdmaamdlibjaaaDoorZbA5
import Derived.Test.YthdmaamdlibjaaaDoorZbA2
import Derived.Test.YthdmaamdlibjaaaDoorZbA4
set_option linter.unusedSimpArgs false
set_option linter.unusedVariables false
set_option maxRecDepth 100000
attribute [local irreducible] Go.Proofs.YthdmaamdlibjaaaDoor.gv
set_option maxHeartbeats 16000000
namespace Go.Proofs.YthdmaamdlibjaaaDoor
open Go.RowKit
theorem c_spec_l03Index (list : List (List UInt8)) {v_list : Value} (t : List UInt8) {w : World} (h_list : (Ty.strs 9 list).ok w v_list) (r0 : list.length ≤ 4194304 := by exact om_) : RetV Tryd.prog 41 [v_list, .string (sB t)] w (.int .i64 (M.idx list t)) := by
 revert v_list; apply opn
 intro A1 c1 h1 bl1 bh1
 have h_list := h1
 refine enter @Tryd.func41 @Tryd.ntmps41 rfl rfl ?_
 refine zent ?_
 refine zS <| Qa rfl <| zJ <| zS <| Qa rfl <| JL.nil <| Js.block ?_
 refine zl [0, 1] (fun F U l os u m => ∃ (k : Nat), l = F [(5, .int .i64 (k : Int))] ∧ os = U [] ∧ (k ≤ list.length) ∧ (M.Nix list t k) ∧ m = list.length - k) ⟨0, rfl, rfl, zt, by exact M.Nix.zero _ _, rfl⟩ ?_
 rintro _ _ u2 _ ⟨k, rfl, rfl, hk, hN, rfl⟩ x2
 refine zn ?_
 refine Js.seq <| zS <| Qm rfl <| Qm rfl <| Qz rfl <| Ql rfl rfl <| JL.nil ?_
 refine zi (fun h3 h3' => ?_) fun h3 h3' => ?_
 ·
  obtain ⟨ye4, hye4⟩ : ∃ x, list[k]? = some x := ⟨_, List.getElem?_eq_getElem (by omega)⟩
  have hy5 := hye4
  obtain ⟨b5, o5, he5, hc5⟩ := strs_elem (Ty.mono _ h1 x2.vis) hy5
  refine Js.skip <| Js.seq <| Js.block <| zS <| Qm rfl <| Qm rfl <| Qq (p_indexAddr el_38 rfl rfl (by omega) (by omega) he5) <| QC hc5 rfl <| Qm rfl <| Qq (p_eqlT und_9 rfl rfl) <| JL.nil ?_
  refine zi (fun h6 h6' => ?_) fun h6 h6' => ?_
  ·
   have hE := hN.hit hye4 (by simpa using h6)
   refine zS <| Qm rfl <| Qa rfl <| JL.nil ?_
   refine zR x2 ?_
   rw [hE]; rfl
  have hN2 := hN.step hye4 (by simpa using h6)
  refine Js.skip <| Js.blockEnd <| Js.region <| Qm rfl <| Qp rfl rfl <| Qa rfl <| JL.nil ?_
  exact zag ⟨k + 1, rfl, rfl, zt, by exact hN2, rfl⟩ x2
 have hE := hN.miss (by have := h3'; omega)
 refine zx ?_
 refine zS <| Qa rfl <| JL.nil ?_
 refine zR x2 ?_
 rw [hE]; rfl
theorem c_spec_l03Parts (s : List UInt8) {w : World} (r0 : s.length ≤ 4000000 := by exact om_) : Ret Tryd.prog 69 [.string (sB s)] w (Ty.tup [Ty.strs 9 (M.wds s), Ty.ints 2 (M.pls s)]) := by
 refine enter @Tryd.func69 @Tryd.ntmps69 rfl rfl ?_
 refine zent ?_
 refine zS <| Qa rfl <| Qa rfl <| zN <| zbs fun b1 => ?_
 refine Qa rfl <| zN <| zbs fun b3 => ?_
 refine Qa rfl <| zJ <| zS <| Qa rfl <| JL.nil <| Js.block ?_
 refine zl [0] (fun F U l os u m => ∃ (i : Nat) (ps : List Int) (ws : List (List UInt8)) (A5_4 : Option Addr) (c5_4 : Nat) (g5_4 : List Nat) (A5_5 : Option Addr) (c5_5 : Nat) (g5_5 : List Nat), l = F [(4, .slice A5_4 ws.length c5_4), (5, .slice A5_5 ps.length c5_5), (6, .int .i64 (i : Int))] ∧ os = U [some (rowO 2 1 (.slice A5_5 ps.length c5_5) ps.length (ints_ ps) g5_5), some (rowO 9 1 (.slice A5_4 ws.length c5_4) ws.length (txs_ ws) g5_4)] ∧ (M.PrtI s i ws ps) ∧ (i ≤ s.length) ∧ (ws.length ≤ c5_4) ∧ (c5_4 ≤ 9223372036854775807) ∧ (ps.length ≤ c5_5) ∧ (c5_5 ≤ 9223372036854775807) ∧ m = s.length - i) ⟨0, [], [], _, _, _, _, _, _, rfl, rfl, by exact M.PrtI.zero s, zt, zu, zu, zu, zu, rfl⟩ ?_
 rintro _ _ u5 _ ⟨i, ps, ws, A5_4, c5_4, g5_4, A5_5, c5_5, g5_5, rfl, rfl, hP, hi, f5_2, f5_3, f5_4, f5_5, rfl⟩ x5
 refine zn ?_
 obtain ⟨l1, l2⟩ := hP.len
 refine Js.seq <| zS <| Qm rfl <| Qm rfl <| Qq (p_lenS und_9 rfl) <| Ql rfl rfl <| JL.nil ?_
 refine zi (fun h6 h6' => ?_) fun h6 h6' => ?_
 ·
  have hbt7 := M.bat_bd s i
  refine Js.skip <| Js.block <| Js.seq <| zS <| Qm rfl <| Qm rfl <| Qq (p_byteS (i := i) und_9 rfl rfl (by omega)) <| Qe rfl rfl <| JL.nil ?_
  refine zi (fun h8 h8' => ?_) fun h8 h8' => ?_
  ·
   have hP2 := hP.blank (by omega) (by simpa using h8)
   refine zS <| Qm rfl <| Qp rfl rfl <| Qa rfl <| JL.nil ?_
   refine zx ?_
   exact zag ⟨i + 1, ps, ws, _, _, _, _, _, _, rfl, rfl, by exact hP2, zt, zu, zu, zu, zu, rfl⟩ x5
  have hb0 : ¬ M.bat s i = 32 := by simpa using h8
  refine Js.skip <| zS <| Qm rfl <| Qa rfl <| zJ <| Js.block ?_
  refine zl [0, 4, 5, 6] (fun F U l os u m => ∃ (k : Nat), l = F [(7, .int .i64 (k : Int))] ∧ os = U [] ∧ (M.WrdI s i k) ∧ m = s.length - k) ⟨i, rfl, rfl, by exact M.WrdI.zero hi, rfl⟩ ?_
  rintro _ _ u9 _ ⟨k, rfl, rfl, hW, rfl⟩ x9
  refine zn ?_
  have hW1 := hW.l
  have hW3 := hW.u
  have hbt10 := M.bat_bd s k
  refine Js.seq <| zS <| Qm rfl <| Qm rfl <| Qq (p_lenS und_9 rfl) <| Ql rfl rfl <| Qm rfl <| zg (Gd.t1 rfl rfl rfl) (fun hc => p_move rfl) <| zg (Gd.t1 rfl rfl rfl) (fun hc => p_move rfl) <| zg (Gd.t1 rfl rfl rfl) (fun hc => p_byteS (i := k) und_9 (gh hc rfl) (gh hc rfl) (by first | have hc9 := hc; (try simp only [decide_eq_true_eq] at hc9); omega | (have h9 := List.length_pos_iff.2 (by simpa using hc); omega))) ?_
  refine zg (Gd.t1 rfl rfl rfl) (fun hc => p_neq (gh hc rfl) rfl) <| Qq (p_pickAnd rfl rfl rfl) <| JL.nil ?_
  refine zi (fun h11 h11' => ?_) fun h11 h11' => ?_
  ·
   have hb1 : k < s.length ∧ ¬ M.bat s k = 32 := by have h9 := h11; simp at h9; exact h9
   have hW2 := hW.step hb1.1 hb1.2
   refine Js.skip <| Js.block <| Js.region <| Qm rfl <| Qp rfl rfl <| Qa rfl <| JL.nil <| Js.blockEnd ?_
   exact zag ⟨k + 1, rfl, rfl, by exact hW2, rfl⟩ x9
  have hb2 : k = s.length ∨ k < s.length ∧ M.bat s k = 32 := by have h9 := h11; simp at h9; have := hW.u; by_cases h8 : k < s.length; exact .inr ⟨h8, h9 h8⟩; exact .inl (by omega)
  have hik : i < k := by have := hW.l; rcases Nat.lt_or_ge i k with h8 | h8; exact h8; (have h7 : k = i := by omega); subst h7; rcases hb2 with h9 | ⟨_, h9⟩; omega; exact absurd h9 hb0
  have hP2 := hP.word hW hik hb2
  have hW1 := hW.l
  have hW3 := hW.u
  refine zx ?_
  refine zS <| Qm rfl <| Qm rfl <| Qm rfl <| Qm rfl <| Qq (p_midS (i := i) (j := k) und_9 rfl rfl rfl (by omega) (by omega)) <| zbs fun b12 => ?_
  refine JL.e (e_append (i := 2) (n' := (ws ++ [(s.drop i).take (k - i)]).length) (vs' := txs_ (ws ++ [(s.drop i).take (k - i)])) el_38 rfl rfl rfl rfl (src_row (i := 0) und_38 rfl rfl) (by omega) (by omega) ln2_ (by first | rfl | (simp [txs_]; done))) ?_
  rintro v14 _ _ ⟨⟨g15, rfl⟩, rfl⟩ _
  refine JL.fact (row_form' (i := 2) rfl) (fun hf16 => ?_)
  obtain ⟨A16, c16, rfl, bl16, bh16⟩ := hf16
  refine znl ?_
  refine Qa rfl <| zN <| Qm rfl <| Qm rfl <| zbs fun b17 => ?_
  refine JL.e (e_append (i := 2) (n' := (ps ++ [(i : Int)]).length) (vs' := ints_ (ps ++ [(i : Int)])) el_65 rfl rfl rfl rfl (src_row (i := 0) und_65 rfl rfl) (by omega) (by omega) ln2_ (by simp [ints_])) ?_
  rintro v19 _ _ ⟨⟨g20, rfl⟩, rfl⟩ _
  refine JL.fact (row_form' (i := 2) rfl) (fun hf21 => ?_)
  obtain ⟨A21, c21, rfl, bl21, bh21⟩ := hf21
  refine znl ?_
  refine Qa rfl <| zG <| Qm rfl <| Qa rfl <| JL.nil <| Js.blockEnd ?_
  refine zd [2, 2] rfl fun u22 x22 => ?_
  exact zag ⟨k, ps ++ [(i : Int)], ws ++ [(s.drop i).take (k - i)], _, _, _, _, _, _, rfl, rfl, by exact hP2, zt, zu, zu, zu, zu, rfl⟩ ((x5.trans x9).trans x22)
 obtain ⟨hE1, hE2⟩ := hP.done (by have := h6'; omega)
 have hpl := M.pls_len s
 have hwl := M.wds_len s
 refine zx ?_
 have hq0 : ws = (M.wds s) := by first | exact hE1 | exact hE2
 have hq1 : ps = (M.pls s) := by first | exact hE1 | exact hE2
 refine zS <| Qm rfl <| Qm rfl <| Qa rfl <| Qa rfl <| JL.nil ?_
 exact zro x5 (g := by exact (gv_tup (gvc (gv_strsE (ys := ws) po_ (by assumption) (by rfl)) (gvc gv_ gvn))))
theorem c_spec_l03Cut (s : List UInt8) {w : World} (r0 : s.length ≤ 4194304 := by exact om_) : RetV Tryd.prog 78 [.string (sB s)] w (.tuple #[.string (sB ((M.cutS s [61]).1)), .string (sB ((M.cutS s [61]).2.1)), .bool ((M.cutS s [61]).2.2)]) := by
 refine enter @Tryd.func78 @Tryd.ntmps78 rfl rfl ?_
 refine zent ?_
 refine zS <| Qa rfl <| Qa rfl <| Qa rfl <| zJ <| zS <| Qa rfl <| JL.nil <| Js.block ?_
 refine zl [0] (fun F U l os u m => ∃ (k : Nat), l = F [(5, .int .i64 (k : Int))] ∧ os = U [] ∧ (k ≤ s.length) ∧ (∀ i, i < k → (s.drop i).take ([61] : List UInt8).length ≠ [61]) ∧ m = s.length - k) ⟨0, rfl, rfl, zt, by exact fun i h => absurd h (by omega), rfl⟩ ?_
 rintro _ _ u1 _ ⟨k, rfl, rfl, hk, hn, rfl⟩ x1
 refine zn ?_
 refine Js.seq <| zS <| Qm rfl <| Qm rfl <| Qq (p_lenS und_9 rfl) <| Ql rfl rfl <| JL.nil ?_
 refine zi (fun h2 h2' => ?_) fun h2 h2' => ?_
 ·
  have hks : k + 1 ≤ s.length := by have := h2'; omega
  have hbt3 := M.bat_bd s k
  refine Js.skip <| Js.seq <| Js.block <| zS <| Qm rfl <| Qm rfl <| Qq (p_byteS (i := k) und_9 rfl rfl (by omega)) <| Qe rfl rfl <| JL.nil ?_
  refine zi (fun h4 h4' => ?_) fun h4 h4' => ?_
  ·
   have hE := M.cutS_yes (sep := [61]) hks (M.take1 hks (by simpa using h4)) hn
   refine Js.seq ?_
   refine zdr [] ?_
   refine jM 0 rfl rfl ?_
   refine jM 1 rfl rfl ?_
   refine JH.p 2 rfl (p_takeS (i := k) und_9 rfl rfl (by omega)) ?_
   refine jM 3 rfl rfl ?_
   refine jM 4 rfl rfl ?_
   refine JH.p 5 rfl (p_add rfl rfl (IntWalk.i64_in _ (by omega))) ?_
   refine JH.p 6 rfl (p_dropS (i := k + 1) und_9 rfl rfl (by omega)) ?_
   refine jA 7 rfl rfl ?_
   refine jA 8 rfl rfl ?_
   refine jA 9 rfl rfl ?_
   refine yd ?_
   refine zR x1 ?_
   rw [hE]; rfl
  have hn2 := M.miss_step hn (M.take1n hks (by simpa using h4))
  refine Js.skip <| Js.blockEnd <| Js.region <| Qm rfl <| Qp rfl rfl <| Qa rfl <| JL.nil ?_
  exact zag ⟨k + 1, rfl, rfl, zt, by exact hn2, rfl⟩ x1
 have hE := M.cutS_no (sep := [61]) (k := k) (by have := h2'; simp only [List.length_cons, List.length_nil]; omega) hn
 refine zx ?_
 refine zS <| Qm rfl <| Qa rfl <| Qa rfl <| Qa rfl <| JL.nil ?_
 refine zR x1 ?_
 rw [hE]; rfl
theorem c_spec_l03Word (wd : List UInt8) {w : World} (r0 : wd.length ≤ 4194304 := by exact om_) : RetV Tryd.prog 70 [.string (sB wd)] w (.tuple #[.int .i64 ((M.wrd wd).1), .int .i64 ((M.wrd wd).2.1), .int .i64 ((M.wrd wd).2.2)]) := by
 have hcl := M.cutS_len wd [61]
 have hl9 : M.fieldNames.length = 9 := rfl
 have hl4 : M.capNames.length = 4 := rfl
 have hl3 : M.slamNames.length = 3 := rfl
 have hkb := M.idx_bd M.fieldNames (M.cutS wd [61]).1
 have hsb := M.idx_bd M.slamNames (M.cutS wd [61]).2.1
 have hpb := M.idx_bd M.capNames (M.cutS wd [61]).2.1
 obtain ⟨hnb1, hnb2⟩ := M.num_bd (M.cutS wd [61]).2.1
 refine enter @Tryd.func70 @Tryd.ntmps70 rfl rfl ?_
 refine zent ?_
 refine zS <| Qa rfl <| Qa rfl <| Qa rfl <| zN <| Qm rfl <| zv rfl (fun w hw => c_spec_l03Cut wd) <| Qm rfl <| Qx rfl rfl <| Qx rfl rfl <| Qx rfl rfl <| Qa rfl <| Qa rfl <| Qa rfl ?_
 refine zN <| zp rfl (fun w hw => c_spec_FieldNames) ?_
 intro u1 x1 A2 c2 h2 bl2 bh2
 refine Qm rfl <| zv rfl (fun w hw => c_spec_l03Index M.fieldNames ((M.cutS wd [61]).1) (ok_ hw)) <| Qa rfl <| zJ <| zS <| Qm rfl <| Ql rfl rfl <| Qm rfl <| zg (Gd.f1 rfl rfl rfl) (fun hc => p_move rfl) <| zg (Gd.f1 rfl rfl rfl) (fun hc => p_move rfl) <| zgv (Gd.f1 rfl rfl rfl) (fun hc => (opds_3 (gh hc rfl) rfl rfl)) (fun hc => (fun w hw => c_spec_l00In (M.idx M.fieldNames ((M.cutS wd [61]).1)) 2 6)) ?_
 refine zg (Gd.f1 rfl rfl rfl) (fun hc => p_eqlB und_4 (gh hc rfl) (gh hc rfl)) <| Qq (p_pickOr rfl rfl rfl) <| JL.nil ?_
 refine zi (fun h3 h3' => ?_) fun h3 h3' => ?_
 ·
  have hE := M.wrd_1 (w := wd) (by have h9 := h3; simp only [Bool.or_eq_true, decide_eq_true_eq, beq_iff_eq] at h9; exact h9)
  refine zS <| Qa rfl <| Qa rfl <| Qa rfl <| JL.nil ?_
  refine zR x1 ?_
  rw [hE]; rfl
 have h1 : ¬ ((M.idx M.fieldNames (M.cutS wd [61]).1) < 0 ∨ (M.cutS wd [61]).2.2 = M.betw (M.idx M.fieldNames (M.cutS wd [61]).1) 2 6) := by have h9 := h3; simp only [Bool.or_eq_false_iff, decide_eq_false_iff_not, beq_eq_false_iff_ne] at h9; rintro (h8 | h8); exact h9.1 h8; exact h9.2 h8
 refine Js.skip <| Js.seq <| zS <| Qm rfl <| JL.nil <| Js.block <| Js.seq <| zS <| Qe rfl rfl <| Qa rfl <| JL.nil ?_
 refine zi (fun h4 h4' => ?_) fun h4 h4' => ?_
 ·
  refine Js.skip ?_
  refine Js.condT rfl h4 ?_
  refine zS <| Qm rfl <| zv rfl (fun w hw => c_spec_l01Number ((M.cutS wd [61]).2.1)) <| Qm rfl <| Qx rfl rfl <| Qx rfl rfl <| Qa rfl <| Qa rfl <| zJ <| zS <| Qm rfl <| Qt rfl <| JL.nil ?_
  refine zi (fun h5 h5' => ?_) fun h5 h5' => ?_
  ·
   have hE := M.wrd_3 h1 (by omega) (by simpa using h5)
   refine zS <| Qm rfl <| Qa rfl <| Qa rfl <| Qa rfl <| JL.nil ?_
   refine zR x1 ?_
   rw [hE]; rfl
  have hn : (M.num (M.cutS wd [61]).2.1).2 = true := by simpa using h5
  refine Js.skip <| Js.seq <| zS <| Qm rfl <| Qe rfl rfl <| Qm rfl <| zT (Gd.t1 rfl rfl rfl) (show (decide (M.idx M.fieldNames ((M.cutS wd [61]).1) = 0)) = true by first | exact h4 | (rw [h4]; rfl) | simp [h4]) <| Qm rfl <| zT (Gd.t1 rfl rfl rfl) (show (decide (M.idx M.fieldNames ((M.cutS wd [61]).1) = 0)) = true by first | exact h4 | (rw [h4]; rfl) | simp [h4]) <| zv rfl (fun w hw => c_spec_l00In ((M.num ((M.cutS wd [61]).2.1)).1) 2 8) <| zT (Gd.t1 rfl rfl rfl) (show (decide (M.idx M.fieldNames ((M.cutS wd [61]).1) = 0)) = true by first | exact h4 | (rw [h4]; rfl) | simp [h4]) <| Qt rfl <| Qq (p_pickAnd2 rfl rfl rfl) <| Qm rfl ?_
  refine zg (Gd.f1 rfl rfl rfl) (fun hc => p_move rfl) <| zg (Gd.f1 rfl rfl rfl) (fun hc => p_eql (gh hc rfl) rfl) <| zg (Gd.f1 rfl rfl rfl) (fun hc => p_move (gh hc rfl)) <| zg (Gd.t2 rfl rfl rfl) (fun hc => p_move rfl) <| zgv (Gd.t2 rfl rfl rfl) (fun hc => (opds_3 (gh hc rfl) rfl rfl)) (fun hc => (fun w hw => c_spec_l00In ((M.num ((M.cutS wd [61]).2.1)).1) 1 6)) ?_
  refine zg (Gd.t2 rfl rfl rfl) (fun hc => p_not (gh hc rfl)) <| zg (Gd.f1 rfl rfl rfl) (fun hc => p_pickAnd (gh hc rfl) (gvl rfl hc) rfl) <| Qq (p_pickOr rfl rfl rfl) <| JL.nil ?_
  refine zi (fun h6 h6' => ?_) fun h6 h6' => ?_
  ·
   have hE := M.wrd_4 h1 (by omega) hn (by have h9 := h6; simp only [Bool.or_eq_true, Bool.and_eq_true, decide_eq_true_eq, Bool.not_eq_true'] at h9; rcases h9 with h9 | h9 <;> first | exact .inl h9 | exact .inr h9 | exact absurd h9.2 (by decide))
   refine zS <| Qm rfl <| Qa rfl <| Qa rfl <| Qa rfl <| JL.nil ?_
   refine zR x1 ?_
   rw [hE]; rfl
  have hE := M.wrd_0 h1 (by omega) hn (by have h9 := h6; intro h8; have h7 := Bool.eq_false_iff.1 h9; apply h7; simp only [Bool.or_eq_true, Bool.and_eq_true, decide_eq_true_eq, Bool.not_eq_true']; rcases h8 with h8 | h8 <;> first | exact .inl h8 | exact .inr h8 | exact absurd h8.1 (by omega))
  refine Js.skip <| zS <| Qm rfl <| Qm rfl <| Qa rfl <| Qa rfl <| Qa rfl <| JL.nil ?_
  refine zR x1 ?_
  rw [hE]; rfl
 refine Js.region <| Qe rfl rfl <| Qa rfl <| JL.nil ?_
 refine zi (fun h7 h7' => ?_) fun h7 h7' => ?_
 ·
  refine zS <| Qm rfl <| zv rfl (fun w hw => c_spec_l01Number ((M.cutS wd [61]).2.1)) <| Qm rfl <| Qx rfl rfl <| Qx rfl rfl <| Qa rfl <| Qa rfl <| zJ <| zS <| Qm rfl <| Qt rfl <| JL.nil ?_
  refine zi (fun h8 h8' => ?_) fun h8 h8' => ?_
  ·
   have hE := M.wrd_3 h1 (by omega) (by simpa using h8)
   refine zS <| Qm rfl <| Qa rfl <| Qa rfl <| Qa rfl <| JL.nil ?_
   refine zR x1 ?_
   rw [hE]; rfl
  have hn : (M.num (M.cutS wd [61]).2.1).2 = true := by simpa using h8
  refine Js.skip <| Js.seq <| zS <| Qm rfl <| Qe rfl rfl <| Qm rfl ?_
  refine JL.g (v := undef) (Gd.t1 rfl rfl rfl) (fun hc => absurd hc (by first | (rw [h4]; simp; done) | simp [h4])) ?_
  refine JL.g (v := .bool false) (Gd.t1 rfl rfl rfl) (fun hc => absurd hc (by first | (rw [h4]; simp; done) | simp [h4])) ?_
  refine JL.g (v := .bool false) (Gd.t1 rfl rfl rfl) (fun hc => absurd hc (by first | (rw [h4]; simp; done) | simp [h4])) ?_
  refine Qq (p_pickAnd rfl rfl rfl) <| Qm rfl <| zg (Gd.f1 rfl rfl rfl) (fun hc => p_move rfl) <| zg (Gd.f1 rfl rfl rfl) (fun hc => p_eql (gh hc rfl) rfl) <| zg (Gd.f1 rfl rfl rfl) (fun hc => p_move (gh hc rfl)) <| zg (Gd.t2 rfl rfl rfl) (fun hc => p_move rfl) <| zgv (Gd.t2 rfl rfl rfl) (fun hc => (opds_3 (gh hc rfl) rfl rfl)) (fun hc => (fun w hw => c_spec_l00In ((M.num ((M.cutS wd [61]).2.1)).1) 1 6)) ?_
  refine zg (Gd.t2 rfl rfl rfl) (fun hc => p_not (gh hc rfl)) <| zg (Gd.f1 rfl rfl rfl) (fun hc => p_pickAnd (gh hc rfl) (gvl rfl hc) rfl) <| Qq (p_pickOr rfl rfl rfl) <| JL.nil ?_
  refine zi (fun h9 h9' => ?_) fun h9 h9' => ?_
  ·
   have hE := M.wrd_4 h1 (by omega) hn (by have h9 := h9; simp only [Bool.or_eq_true, Bool.and_eq_true, decide_eq_true_eq, Bool.not_eq_true'] at h9; rcases h9 with h9 | h9 <;> first | exact .inl h9 | exact .inr h9 | exact absurd h9.2 (by decide))
   refine zS <| Qm rfl <| Qa rfl <| Qa rfl <| Qa rfl <| JL.nil ?_
   refine zR x1 ?_
   rw [hE]; rfl
  have hE := M.wrd_0 h1 (by omega) hn (by have h9 := h9; intro h8; have h7 := Bool.eq_false_iff.1 h9; apply h7; simp only [Bool.or_eq_true, Bool.and_eq_true, decide_eq_true_eq, Bool.not_eq_true']; rcases h8 with h8 | h8 <;> first | exact .inl h8 | exact .inr h8 | exact absurd h8.1 (by omega))
  refine Js.skip <| zS <| Qm rfl <| Qm rfl <| Qa rfl <| Qa rfl <| Qa rfl <| JL.nil ?_
  refine zR x1 ?_
  rw [hE]; rfl
 refine Js.seq <| zS <| Qe rfl rfl <| Qa rfl <| JL.nil ?_
 refine zi (fun h10 h10' => ?_) fun h10 h10' => ?_
 ·
  refine Js.skip ?_
  refine Js.condT rfl h10 ?_
  refine zS <| zp rfl (fun w hw => c_spec_l06Names) ?_
  intro u11 x11 A12 c12 h12 bl12 bh12
  refine Qa rfl <| zJ <| zS <| Qm rfl <| Qe rfl rfl <| JL.nil ?_
  refine zi (fun h13 h13' => ?_) fun h13 h13' => ?_
  ·
   refine Js.region <| zp rfl (fun w hw => c_spec_l03Slams) ?_
   intro u14 x14 A15 c15 h15 bl15 bh15
   refine Qa rfl <| zN <| Qm rfl <| Qm rfl <| zv rfl (fun w hw => c_spec_l03Index M.slamNames ((M.cutS wd [61]).2.1) (ok_ hw)) <| Qa rfl <| zJ <| zS <| Qm rfl <| Ql rfl rfl <| JL.nil ?_
   refine zi (fun h16 h16' => ?_) fun h16 h16' => ?_
   ·
    have hE := M.wrd_5 (w := wd) h1 (by omega) (by omega) (by first | rw [if_pos (by omega)] | rw [if_neg (by omega)]) (by have := h16'; assumption)
    refine zS <| Qm rfl <| Qa rfl <| Qa rfl <| Qa rfl <| JL.nil ?_
    refine zR ((x1.trans x11).trans x14) ?_
    rw [hE]; rfl
   have hE := M.wrd_6 (w := wd) h1 (by omega) (by omega) (by first | rw [if_pos (by omega)] | rw [if_neg (by omega)]) (by have := h16'; omega)
   refine Js.skip <| zS <| Qm rfl <| Qm rfl <| Qa rfl <| Qa rfl <| Qa rfl <| JL.nil ?_
   refine zR ((x1.trans x11).trans x14) ?_
   rw [hE]; rfl
  refine Js.skip <| zS <| Qm rfl <| Qm rfl <| zv rfl (fun w hw => c_spec_l03Index M.capNames ((M.cutS wd [61]).2.1) (ok_ hw)) <| Qa rfl <| zJ <| zS <| Qm rfl <| Ql rfl rfl <| JL.nil ?_
  refine zi (fun h17 h17' => ?_) fun h17 h17' => ?_
  ·
   have hE := M.wrd_5 (w := wd) h1 (by omega) (by omega) (by first | rw [if_pos (by omega)] | rw [if_neg (by omega)]) (by have := h17'; assumption)
   refine zS <| Qm rfl <| Qa rfl <| Qa rfl <| Qa rfl <| JL.nil ?_
   refine zR (x1.trans x11) ?_
   rw [hE]; rfl
  have hE := M.wrd_6 (w := wd) h1 (by omega) (by omega) (by first | rw [if_pos (by omega)] | rw [if_neg (by omega)]) (by have := h17'; omega)
  refine Js.skip <| zS <| Qm rfl <| Qm rfl <| Qa rfl <| Qa rfl <| Qa rfl <| JL.nil ?_
  refine zR (x1.trans x11) ?_
  rw [hE]; rfl
 refine Js.region <| Qe rfl rfl <| Qa rfl <| JL.nil ?_
 refine zi (fun h18 h18' => ?_) fun h18 h18' => ?_
 ·
  refine zS <| zp rfl (fun w hw => c_spec_l06Names) ?_
  intro u19 x19 A20 c20 h20 bl20 bh20
  refine Qa rfl <| zJ <| zS <| Qm rfl <| Qe rfl rfl <| JL.nil ?_
  refine Js.condT rfl h18 ?_
  refine Js.region <| zp rfl (fun w hw => c_spec_l03Slams) ?_
  intro u21 x21 A22 c22 h22 bl22 bh22
  refine Qa rfl <| zN <| Qm rfl <| Qm rfl <| zv rfl (fun w hw => c_spec_l03Index M.slamNames ((M.cutS wd [61]).2.1) (ok_ hw)) <| Qa rfl <| zJ <| zS <| Qm rfl <| Ql rfl rfl <| JL.nil ?_
  refine zi (fun h23 h23' => ?_) fun h23 h23' => ?_
  ·
   have hE := M.wrd_5 (w := wd) h1 (by omega) (by omega) (by first | rw [if_pos (by omega)] | rw [if_neg (by omega)]) (by have := h23'; assumption)
   refine zS <| Qm rfl <| Qa rfl <| Qa rfl <| Qa rfl <| JL.nil ?_
   refine zR ((x1.trans x19).trans x21) ?_
   rw [hE]; rfl
  have hE := M.wrd_6 (w := wd) h1 (by omega) (by omega) (by first | rw [if_pos (by omega)] | rw [if_neg (by omega)]) (by have := h23'; omega)
  refine Js.skip <| zS <| Qm rfl <| Qm rfl <| Qa rfl <| Qa rfl <| Qa rfl <| JL.nil ?_
  refine zR ((x1.trans x19).trans x21) ?_
  rw [hE]; rfl
 have hE := M.wrd_7 h1 (by omega) (by omega)
 refine Js.skip <| Js.blockEnd <| zS <| Qm rfl <| Qa rfl <| Qa rfl <| Qa rfl <| JL.nil ?_
 refine zR x1 ?_
 rw [hE]; rfl
theorem c_spec_l03Rules (v : List Int) {v_v : Value} {w : World} (h_v : (Ty.ints 2 v).ok w v_v) (r0 : v.length = 9 := by exact om_) : Ret Tryd.prog 71 [v_v] w (Ty.agg (cRules (M.rulV v))) := by
 revert v_v; apply opn
 intro A1 c1 h1 bl1 bh1
 have h_v := h1
 refine enter @Tryd.func71 @Tryd.ntmps71 rfl rfl ?_
 refine zent ?_
 refine zS <| za zeh fun b2 => zJ ?_
 refine zdr [33] ?_
 refine jM 0 rfl rfl ?_
 obtain ⟨b3, o3, he3, hc3⟩ := ints_elem h1 (i := 0) (by omega)
 refine jI 1 el_65 rfl rfl rfl he3 ?_
 refine jW 2 ty_2 rfl rfl hc3.vis ?_
 refine jM 3 rfl rfl ?_
 obtain ⟨b4, o4, he4, hc4⟩ := ints_elem h1 (i := 1) (by omega)
 refine jI 4 el_65 rfl rfl rfl he4 ?_
 refine jW 5 ty_2 rfl rfl hc4.vis ?_
 refine jM 6 rfl rfl ?_
 obtain ⟨b5, o5, he5, hc5⟩ := ints_elem h1 (i := 2) (by omega)
 refine jI 7 el_65 rfl rfl rfl he5 ?_
 refine jW 8 ty_2 rfl rfl hc5.vis ?_
 refine JH.p 9 rfl (p_eql rfl rfl) ?_
 refine jM 10 rfl rfl ?_
 obtain ⟨b6, o6, he6, hc6⟩ := ints_elem h1 (i := 3) (by omega)
 refine jI 11 el_65 rfl rfl rfl he6 ?_
 refine jW 12 ty_2 rfl rfl hc6.vis ?_
 refine JH.p 13 rfl (p_eql rfl rfl) ?_
 refine jM 14 rfl rfl ?_
 obtain ⟨b7, o7, he7, hc7⟩ := ints_elem h1 (i := 4) (by omega)
 refine jI 15 el_65 rfl rfl rfl he7 ?_
 refine jW 16 ty_2 rfl rfl hc7.vis ?_
 refine JH.p 17 rfl (p_eql rfl rfl) ?_
 refine jM 18 rfl rfl ?_
 obtain ⟨b8, o8, he8, hc8⟩ := ints_elem h1 (i := 5) (by omega)
 refine jI 19 el_65 rfl rfl rfl he8 ?_
 refine jW 20 ty_2 rfl rfl hc8.vis ?_
 refine JH.p 21 rfl (p_eql rfl rfl) ?_
 refine jM 22 rfl rfl ?_
 obtain ⟨b9, o9, he9, hc9⟩ := ints_elem h1 (i := 6) (by omega)
 refine jI 23 el_65 rfl rfl rfl he9 ?_
 refine jW 24 ty_2 rfl rfl hc9.vis ?_
 refine JH.p 25 rfl (p_eql rfl rfl) ?_
 refine jM 26 rfl rfl ?_
 obtain ⟨b10, o10, he10, hc10⟩ := ints_elem h1 (i := 7) (by omega)
 refine jI 27 el_65 rfl rfl rfl he10 ?_
 refine jW 28 ty_2 rfl rfl hc10.vis ?_
 refine jM 29 rfl rfl ?_
 obtain ⟨b11, o11, he11, hc11⟩ := ints_elem h1 (i := 8) (by omega)
 refine jI 30 el_65 rfl rfl rfl he11 ?_
 refine jW 31 ty_2 rfl rfl hc11.vis ?_
 refine JH.p 32 rfl (q_bld) ?_
 refine y1 33 ?_
 refine yst rfl rfl rfl ?_
 refine yd ?_
 have hq0 : (M.nth v 0) = (M.rulV v).pits := by first | rfl | (simp; done) | omega
 have hq1 : (M.nth v 1) = (M.rulV v).seeds := by first | rfl | (simp; done) | omega
 have hq2 : (decide (M.nth v 2 = 1)) = (M.rulV v).stores := by first | rfl | (simp; done) | omega
 have hq3 : (decide (M.nth v 3 = 1)) = (M.rulV v).skip := by first | rfl | (simp; done) | omega
 have hq4 : (decide (M.nth v 4 = 1)) = (M.rulV v).relay := by first | rfl | (simp; done) | omega
 have hq5 : (decide (M.nth v 5 = 1)) = (M.rulV v).feed := by first | rfl | (simp; done) | omega
 have hq6 : (decide (M.nth v 6 = 1)) = (M.rulV v).again := by first | rfl | (simp; done) | omega
 have hq7 : (M.nth v 7) = (M.rulV v).capture := by first | rfl | (simp; done) | omega
 have hq8 : (M.nth v 8) = (M.rulV v).slam := by first | rfl | (simp; done) | omega
 exact zro (Up.refl _ _)
theorem c_spec_l03Check (s : List UInt8) {w : World} (r0 : s.length ≤ 1000000 := by exact om_) : Ret Tryd.prog 47 [.string (sB s)] w (Ty.tup [Ty.agg (cRules (M.chkR s)), Ty.sl 35 3 (M.chkO s).length (lProblem (M.chkO s))]) := by
 have hwl := M.wds_len s
 have hpl := M.pls_len s
 have hl9 : M.fieldNames.length = 9 := rfl
 refine enter @Tryd.func47 @Tryd.ntmps47 rfl rfl ?_
 refine zent ?_
 refine zS <| za zeh fun b1 => Qa rfl <| zN <| Qm rfl <| zp rfl (fun w hw => c_spec_l03Parts s) ?_
 intro u2 x2 A3 c3 h3 bl3 bh3 A4 c4 h4 bl4 bh4
 refine Qm rfl <| Qx rfl rfl <| Qx rfl rfl <| Qa rfl <| Qa rfl <| zN <| zmk (a0 := 9) (m := 9) (by omega) (by omega) fun b5 => Qa rfl <| zN <| zmkF vcbool false (a0 := 9) (m := 9) (by omega) (by omega) fun b6 => Qa rfl <| zN <| zbs fun b7 => ?_
 refine Qa rfl <| zN <| Qa rfl <| zJ <| zS <| Qa rfl <| JL.nil <| Js.block ?_
 refine zl [0, 2, 4, 5, 6, 7] (fun F U l os u m => ∃ (k : Nat) (v : List Int) (seen : List Bool) (again : Int) (out : List M.Prb) (A9_8 : Option Addr) (c9_8 : Nat) (g9_8 : List Nat), l = F [(8, .slice A9_8 out.length c9_8), (9, .int .i64 again), (10, .int .i64 (k : Int))] ∧ os = U [some (rowO 35 3 (.slice A9_8 out.length c9_8) out.length (fltV vcProblem out) g9_8), some (rowO 4 1 (.slice (some ⟨b6, 0, none⟩) 9 9) 9 (fltV vcbool seen) []), some (rowO 2 1 (.slice (some ⟨b5, 0, none⟩) 9 9) 9 (ints_ v) [])] ∧ (M.chkN s k = ⟨v, seen, again, out⟩) ∧ (k ≤ (M.wds s).length) ∧ (out.length ≤ c9_8) ∧ (c9_8 ≤ 9223372036854775807) ∧ m = (M.wds s).length - k) ⟨0, List.replicate 9 0, List.replicate 9 false, 0, [], _, _, _, rfl, rfl, by rfl, zt, zu, zu, rfl⟩ ?_
 rintro _ _ u9 _ ⟨k, v, seen, again, out, A9_8, c9_8, g9_8, rfl, rfl, hC, hk, f9_2, f9_3, rfl⟩ x9
 refine zn ?_
 obtain ⟨hv9, hs9, ho9⟩ := M.chkN_len s k
 rw [hC] at hv9 hs9 ho9
 dsimp only at hv9 hs9 ho9
 refine Js.seq <| zS <| Qm rfl <| Qm rfl <| Qz rfl <| Ql rfl rfl <| JL.nil ?_
 refine zi (fun h10 h10' => ?_) fun h10 h10' => ?_
 ·
  obtain ⟨ye11, hye11⟩ : ∃ x, (M.wds s)[k]? = some x := ⟨_, List.getElem?_eq_getElem (by omega)⟩
  have hY : (M.wds s)[k]? = some ye11 := hye11
  have hw9 := M.wds_mem hY
  obtain ⟨w1, w2, w3, w4, w5, w6⟩ := M.wrd_bd ye11
  have w7 := M.wrd_ne2 ye11
  have hy12 := hye11
  obtain ⟨b12, o12, he12, hc12⟩ := strs_elem (Ty.mono _ h3 x9.vis) hy12
  have hy13 : seen[((M.wrd ye11).1).toNat]? = some (M.blt seen (((M.wrd ye11).1).toNat)) := M.blt_get len_
  refine Js.skip <| Js.seq <| Js.block <| zS <| Qm rfl <| Qm rfl <| Qq (p_indexAddr el_38 rfl rfl (by omega) (by omega) he12) <| QC hc12 rfl <| zv rfl (fun w hw => c_spec_l03Word ye11) <| Qm rfl <| Qx rfl rfl <| Qx rfl rfl <| Qx rfl rfl <| Qa rfl ?_
  refine Qa rfl <| Qa rfl <| zJ <| zS <| Qm rfl <| Qd rfl rfl <| Qm rfl <| zg (Gd.t1 rfl rfl rfl) (fun hc => p_move rfl) <| zg (Gd.t1 rfl rfl rfl) (fun hc => p_move rfl) <| zg (Gd.t1 rfl rfl rfl) (fun hc => p_indexAddr el_95 (gh hc rfl) (gh hc rfl) (by have hc9 := hc; (try simp only [Bool.not_eq_true', decide_eq_false_iff_not] at hc9); first | omega | (simp only [List.length_set, List.length_append, List.length_cons, List.length_nil, List.length_take, List.length_drop, List.length_replicate]; omega)) (by have hc9 := hc; (try simp only [Bool.not_eq_true', decide_eq_false_iff_not] at hc9); first | omega | (simp only [List.length_set, List.length_append, List.length_cons, List.length_nil, List.length_take, List.length_drop, List.length_replicate]; omega)) rfl) ?_
  refine zgq (Gd.t1 rfl rfl rfl) (fun hc => q_load1 ty_4.h (gh hc rfl) (fun w hw => (Mem.rowR' (i := 1) rfl (fltV_at (C := vcbool) (fun _ => rfl) hy13) w hw) 0 _ rfl)) <| Qq (p_pickAnd rfl rfl rfl) <| JL.nil ?_
  refine zi (fun h14 h14' => ?_) fun h14 h14' => ?_
  ·
   have hq : ¬ (M.wrd ye11).2.2 = 1 ∧ M.blt seen (M.wrd ye11).1.toNat = true := by have h9 := h14; simp at h9; exact h9
   have hE := M.chk_t hC hY hq.1 hq.2
   refine Js.region <| Qa rfl <| zJ <| zS <| Qm rfl <| Qd rfl rfl <| JL.nil ?_
   refine Js.condT rfl (by decide) ?_
   refine zdr [12] ?_
   refine jM 0 rfl rfl ?_
   refine jM 1 rfl rfl ?_
   refine jM 2 rfl rfl ?_
   refine jM 3 rfl rfl ?_
   obtain ⟨b15, o15, he15, hc15⟩ := ints_elem (Ty.mono _ h4 x9.vis) (i := k) (by omega)
   refine jI 4 el_65 rfl rfl rfl he15 ?_
   refine jW 5 ty_2 rfl rfl hc15.vis ?_
   refine jM 6 rfl rfl ?_
   refine jM 7 rfl rfl ?_
   have hy16 := hye11
   obtain ⟨b16, o16, he16, hc16⟩ := strs_elem (Ty.mono _ h3 x9.vis) hy16
   refine jI 8 el_38 rfl rfl rfl he16 ?_
   refine jW 9 ty_9 rfl rfl hc16.vis ?_
   refine JH.p 10 rfl (q_bld) ?_
   refine y1 11 ?_
   refine ybs rfl fun b17 => ?_
   refine y1 12 ?_
   refine JHo.e rfl (e_append (i := 1) (n' := (out ++ [(M.Prb.mk 2 (M.nth (M.pls s) k) ye11)]).length) (vs' := fltV vcProblem (out ++ [(M.Prb.mk 2 (M.nth (M.pls s) k) ye11)])) el_41 rfl rfl rfl rfl (src_row (i := 0) und_41 rfl rfl) (by omega) (by omega) ln2_ (by first | rfl | exact fltV_app _ _ _ | exact fltV_snoc _ _ _ | (simp [fltV]; done))) (.inr rfl) ?_
   rintro v19 _ _ ⟨⟨g20, rfl⟩, rfl⟩ _
   refine JH.fact (row_form' (i := 1) rfl) (fun hf21 => ?_)
   obtain ⟨A21, c21, rfl, bl21, bh21⟩ := hf21
   refine znh ?_
   refine jA 13 rfl rfl ?_
   refine yd ?_
   refine Js.seq <| zS <| Qm rfl <| Qe rfl rfl <| Qm rfl <| zg (Gd.f1 rfl rfl rfl) (fun hc => p_move rfl) <| zg (Gd.f1 rfl rfl rfl) (fun hc => p_eql (gh hc rfl) rfl) <| Qq (p_pickOr rfl rfl rfl) <| JL.nil ?_
   refine zi (fun h22 h22' => ?_) fun h22 h22' => ?_
   ·
    refine zx ?_
    refine Js.region <| Qm rfl <| Qp rfl rfl <| Qa rfl <| JL.nil ?_
    refine zd [1, 1, 1, 1] rfl fun u23 x23 => ?_
    exact zag ⟨k + 1, v, seen, again, out ++ [(M.Prb.mk 2 (M.nth (M.pls s) k) ye11)], _, _, _, rfl, rfl, by first | exact hE | (exfalso; omega) | (exfalso; simp at hx; done), zt, zu, zu, rfl⟩ (x9.trans x23)
   have hx := h22
   have hy24 : seen[((M.wrd ye11).1).toNat]? = some (M.blt seen (((M.wrd ye11).1).toNat)) := M.blt_get len_
   refine Js.skip <| zS <| Qm rfl <| Qm rfl <| Qq (p_indexAddr el_95 rfl rfl len_ len_ rfl) ?_
   refine JL.s (e_storeRow (i := 2) (xs' := fltV vcbool (seen.set (((M.wrd ye11).1).toNat) true)) ty_4.h rfl rfl rfl rfl rfl rfl (fltV_lt (C := vcbool) (j := 0) (fun _ => rfl) len_ (by decide)) (fltV_set (C := vcbool) (y := true) (fun _ => rfl) len_)) ?_
   rintro _ _ _ ⟨rfl, rfl⟩ _
   refine znl ?_
   refine zN <| Qm rfl <| Qm rfl <| Qm rfl <| Qq (p_indexAddr el_65 rfl rfl (by omega) (by omega) rfl) ?_
   refine JL.s (e_storeRow (i := 3) (xs' := ints_ (M.setI v ((M.wrd ye11).1) ((M.wrd ye11).2.1))) ty_2.h rfl rfl rfl rfl rfl rfl (ints_lt (i := ((M.wrd ye11).1).toNat) (by omega)) (ints_setL (i := ((M.wrd ye11).1).toNat) (by omega))) ?_
   rintro _ _ _ ⟨rfl, rfl⟩ _
   refine znl ?_
   refine zN <| Qm rfl <| Qe rfl rfl <| JL.nil ?_
   refine zi (fun h26 h26' => ?_) fun h26 h26' => ?_
   ·
    obtain ⟨b27, o27, he27, hc27⟩ := ints_elem (Ty.mono _ h4 x9.vis) (i := k) (by omega)
    refine Js.region <| Qm rfl <| Qm rfl <| Qq (p_indexAddr el_65 rfl rfl (by omega) (by omega) he27) <| QC hc27 rfl <| Qa rfl <| JL.nil <| Js.blockEnd <| Js.region <| Qm rfl <| Qp rfl rfl <| Qa rfl <| JL.nil ?_
    refine zd [1, 1, 1, 1] rfl fun u28 x28 => ?_
    exact zag ⟨k + 1, M.setI v ((M.wrd ye11).1) ((M.wrd ye11).2.1), seen.set (((M.wrd ye11).1).toNat) true, M.nth (M.pls s) k, out ++ [(M.Prb.mk 2 (M.nth (M.pls s) k) ye11)], _, _, _, rfl, rfl, by first | exact hE | (exfalso; omega) | (exfalso; simp at hx; done), zt, zu, zu, rfl⟩ (x9.trans x28)
   refine Js.skip <| Js.blockEnd <| Js.region <| Qm rfl <| Qp rfl rfl <| Qa rfl <| JL.nil ?_
   refine zd [1, 1, 1, 1] rfl fun u29 x29 => ?_
   exact zag ⟨k + 1, M.setI v ((M.wrd ye11).1) ((M.wrd ye11).2.1), seen.set (((M.wrd ye11).1).toNat) true, again, out ++ [(M.Prb.mk 2 (M.nth (M.pls s) k) ye11)], _, _, _, rfl, rfl, by first | exact hE | (exfalso; omega) | (exfalso; simp at hx; done), zt, zu, zu, rfl⟩ (x9.trans x29)
  have hq : ¬ (M.wrd ye11).2.2 = 1 → M.blt seen (M.wrd ye11).1.toNat = false := by have h9 := h14; simp at h9; exact h9
  refine Js.skip <| Js.seq <| zS <| Qm rfl <| Qd rfl rfl <| JL.nil ?_
  refine zi (fun h30 h30' => ?_) fun h30 h30' => ?_
  ·
   have h0 : ¬ (M.wrd ye11).2.2 = 0 := by simpa using h30
   have hZ := fun (h1 : ¬ (M.wrd ye11).2.2 = 1) => M.chk_o hC hY h1 (by rw [hq h1]; decide) h0
   refine zdr [12] ?_
   refine jM 0 rfl rfl ?_
   refine jM 1 rfl rfl ?_
   refine jM 2 rfl rfl ?_
   refine jM 3 rfl rfl ?_
   obtain ⟨b31, o31, he31, hc31⟩ := ints_elem (Ty.mono _ h4 x9.vis) (i := k) (by omega)
   refine jI 4 el_65 rfl rfl rfl he31 ?_
   refine jW 5 ty_2 rfl rfl hc31.vis ?_
   refine jM 6 rfl rfl ?_
   refine jM 7 rfl rfl ?_
   have hy32 := hye11
   obtain ⟨b32, o32, he32, hc32⟩ := strs_elem (Ty.mono _ h3 x9.vis) hy32
   refine jI 8 el_38 rfl rfl rfl he32 ?_
   refine jW 9 ty_9 rfl rfl hc32.vis ?_
   refine JH.p 10 rfl (q_bld) ?_
   refine y1 11 ?_
   refine ybs rfl fun b33 => ?_
   refine y1 12 ?_
   refine JHo.e rfl (e_append (i := 1) (n' := (out ++ [(M.Prb.mk ((M.wrd ye11).2.2) (M.nth (M.pls s) k) ye11)]).length) (vs' := fltV vcProblem (out ++ [(M.Prb.mk ((M.wrd ye11).2.2) (M.nth (M.pls s) k) ye11)])) el_41 rfl rfl rfl rfl (src_row (i := 0) und_41 rfl rfl) (by omega) (by omega) ln2_ (by first | rfl | exact fltV_app _ _ _ | exact fltV_snoc _ _ _ | (simp [fltV]; done))) (.inr rfl) ?_
   rintro v35 _ _ ⟨⟨g36, rfl⟩, rfl⟩ _
   refine JH.fact (row_form' (i := 1) rfl) (fun hf37 => ?_)
   obtain ⟨A37, c37, rfl, bl37, bh37⟩ := hf37
   refine znh ?_
   refine jA 13 rfl rfl ?_
   refine yd ?_
   refine Js.seq <| zS <| Qm rfl <| Qe rfl rfl <| Qm rfl <| zg (Gd.f1 rfl rfl rfl) (fun hc => p_move rfl) <| zg (Gd.f1 rfl rfl rfl) (fun hc => p_eql (gh hc rfl) rfl) <| Qq (p_pickOr rfl rfl rfl) <| JL.nil ?_
   refine zi (fun h38 h38' => ?_) fun h38 h38' => ?_
   ·
    have hu : (M.wrd ye11).2.2 = 1 ∨ (M.wrd ye11).2.2 = 2 := by have h9 := h38; simp only [Bool.or_eq_true, decide_eq_true_eq] at h9; exact h9
    have hE := M.chk_u hC hY (by omega)
    refine zx ?_
    refine Js.region <| Qm rfl <| Qp rfl rfl <| Qa rfl <| JL.nil ?_
    refine zd [1, 1, 1, 1] rfl fun u39 x39 => ?_
    exact zag ⟨k + 1, v, seen, again, out ++ [(M.Prb.mk ((M.wrd ye11).2.2) (M.nth (M.pls s) k) ye11)], _, _, _, rfl, rfl, by first | exact hE | (exfalso; omega) | (exfalso; simp at hx; done), zt, zu, zu, rfl⟩ (x9.trans x39)
   have hu : ¬ ((M.wrd ye11).2.2 = 1 ∨ (M.wrd ye11).2.2 = 2) := by have h9 := h38; simp only [Bool.or_eq_false_iff, decide_eq_false_iff_not] at h9; rintro (h8 | h8); exact h9.1 h8; exact h9.2 h8
   have hE := hZ (by omega)
   have hy40 : seen[((M.wrd ye11).1).toNat]? = some (M.blt seen (((M.wrd ye11).1).toNat)) := M.blt_get len_
   refine Js.skip <| zS <| Qm rfl <| Qm rfl <| Qq (p_indexAddr el_95 rfl rfl len_ len_ rfl) ?_
   refine JL.s (e_storeRow (i := 2) (xs' := fltV vcbool (seen.set (((M.wrd ye11).1).toNat) true)) ty_4.h rfl rfl rfl rfl rfl rfl (fltV_lt (C := vcbool) (j := 0) (fun _ => rfl) len_ (by decide)) (fltV_set (C := vcbool) (y := true) (fun _ => rfl) len_)) ?_
   rintro _ _ _ ⟨rfl, rfl⟩ _
   refine znl ?_
   refine zN <| Qm rfl <| Qm rfl <| Qm rfl <| Qq (p_indexAddr el_65 rfl rfl (by omega) (by omega) rfl) ?_
   refine JL.s (e_storeRow (i := 3) (xs' := ints_ (M.setI v ((M.wrd ye11).1) ((M.wrd ye11).2.1))) ty_2.h rfl rfl rfl rfl rfl rfl (ints_lt (i := ((M.wrd ye11).1).toNat) (by omega)) (ints_setL (i := ((M.wrd ye11).1).toNat) (by omega))) ?_
   rintro _ _ _ ⟨rfl, rfl⟩ _
   refine znl ?_
   refine zN <| Qm rfl <| Qe rfl rfl <| JL.nil ?_
   refine zi (fun h42 h42' => ?_) fun h42 h42' => ?_
   ·
    rw [if_pos (show (M.wrd ye11).1 = 6 from by simpa using h42)] at hE
    obtain ⟨b43, o43, he43, hc43⟩ := ints_elem (Ty.mono _ h4 x9.vis) (i := k) (by omega)
    refine Js.region <| Qm rfl <| Qm rfl <| Qq (p_indexAddr el_65 rfl rfl (by omega) (by omega) he43) <| QC hc43 rfl <| Qa rfl <| JL.nil <| Js.blockEnd <| Js.region <| Qm rfl <| Qp rfl rfl <| Qa rfl <| JL.nil ?_
    refine zd [1, 1, 1, 1] rfl fun u44 x44 => ?_
    exact zag ⟨k + 1, M.setI v ((M.wrd ye11).1) ((M.wrd ye11).2.1), seen.set (((M.wrd ye11).1).toNat) true, M.nth (M.pls s) k, out ++ [(M.Prb.mk ((M.wrd ye11).2.2) (M.nth (M.pls s) k) ye11)], _, _, _, rfl, rfl, by first | exact hE | (exfalso; omega) | (exfalso; simp at hx; done), zt, zu, zu, rfl⟩ (x9.trans x44)
   rw [if_neg (show ¬ (M.wrd ye11).1 = 6 from by simpa using h42)] at hE
   refine Js.skip <| Js.blockEnd <| Js.region <| Qm rfl <| Qp rfl rfl <| Qa rfl <| JL.nil ?_
   refine zd [1, 1, 1, 1] rfl fun u45 x45 => ?_
   exact zag ⟨k + 1, M.setI v ((M.wrd ye11).1) ((M.wrd ye11).2.1), seen.set (((M.wrd ye11).1).toNat) true, again, out ++ [(M.Prb.mk ((M.wrd ye11).2.2) (M.nth (M.pls s) k) ye11)], _, _, _, rfl, rfl, by first | exact hE | (exfalso; omega) | (exfalso; simp at hx; done), zt, zu, zu, rfl⟩ (x9.trans x45)
  have h0 : (M.wrd ye11).2.2 = 0 := by simpa using h30
  have hZ := fun (h1 : ¬ (M.wrd ye11).2.2 = 1) => M.chk_z hC hY (by rw [hq h1]; decide) h0
  refine Js.skip <| Js.seq <| zS <| Qm rfl <| Qe rfl rfl <| Qm rfl <| zg (Gd.f1 rfl rfl rfl) (fun hc => p_move rfl) <| zg (Gd.f1 rfl rfl rfl) (fun hc => p_eql (gh hc rfl) rfl) <| Qq (p_pickOr rfl rfl rfl) <| JL.nil ?_
  refine zi (fun h46 h46' => ?_) fun h46 h46' => ?_
  ·
   have hu : (M.wrd ye11).2.2 = 1 ∨ (M.wrd ye11).2.2 = 2 := by have h9 := h46; simp only [Bool.or_eq_true, decide_eq_true_eq] at h9; exact h9
   have hE := M.chk_u hC hY (by omega)
   refine zx ?_
   refine Js.region <| Qm rfl <| Qp rfl rfl <| Qa rfl <| JL.nil ?_
   exact zag ⟨k + 1, v, seen, again, out, _, _, _, rfl, rfl, by first | exact hE | (exfalso; omega) | (exfalso; simp at hx; done), zt, zu, zu, rfl⟩ x9
  have hu : ¬ ((M.wrd ye11).2.2 = 1 ∨ (M.wrd ye11).2.2 = 2) := by have h9 := h46; simp only [Bool.or_eq_false_iff, decide_eq_false_iff_not] at h9; rintro (h8 | h8); exact h9.1 h8; exact h9.2 h8
  have hE := hZ (by omega)
  have hy47 : seen[((M.wrd ye11).1).toNat]? = some (M.blt seen (((M.wrd ye11).1).toNat)) := M.blt_get len_
  refine Js.skip <| zS <| Qm rfl <| Qm rfl <| Qq (p_indexAddr el_95 rfl rfl len_ len_ rfl) ?_
  refine JL.s (e_storeRow (i := 1) (xs' := fltV vcbool (seen.set (((M.wrd ye11).1).toNat) true)) ty_4.h rfl rfl rfl rfl rfl rfl (fltV_lt (C := vcbool) (j := 0) (fun _ => rfl) len_ (by decide)) (fltV_set (C := vcbool) (y := true) (fun _ => rfl) len_)) ?_
  rintro _ _ _ ⟨rfl, rfl⟩ _
  refine znl ?_
  refine zN <| Qm rfl <| Qm rfl <| Qm rfl <| Qq (p_indexAddr el_65 rfl rfl (by omega) (by omega) rfl) ?_
  refine JL.s (e_storeRow (i := 2) (xs' := ints_ (M.setI v ((M.wrd ye11).1) ((M.wrd ye11).2.1))) ty_2.h rfl rfl rfl rfl rfl rfl (ints_lt (i := ((M.wrd ye11).1).toNat) (by omega)) (ints_setL (i := ((M.wrd ye11).1).toNat) (by omega))) ?_
  rintro _ _ _ ⟨rfl, rfl⟩ _
  refine znl ?_
  refine zN <| Qm rfl <| Qe rfl rfl <| JL.nil ?_
  refine zi (fun h49 h49' => ?_) fun h49 h49' => ?_
  ·
   rw [if_pos (show (M.wrd ye11).1 = 6 from by simpa using h49)] at hE
   obtain ⟨b50, o50, he50, hc50⟩ := ints_elem (Ty.mono _ h4 x9.vis) (i := k) (by omega)
   refine Js.region <| Qm rfl <| Qm rfl <| Qq (p_indexAddr el_65 rfl rfl (by omega) (by omega) he50) <| QC hc50 rfl <| Qa rfl <| JL.nil <| Js.blockEnd <| Js.region <| Qm rfl <| Qp rfl rfl <| Qa rfl <| JL.nil ?_
   exact zag ⟨k + 1, M.setI v ((M.wrd ye11).1) ((M.wrd ye11).2.1), seen.set (((M.wrd ye11).1).toNat) true, M.nth (M.pls s) k, out, _, _, _, rfl, rfl, by first | exact hE | (exfalso; omega) | (exfalso; simp at hx; done), zt, zu, zu, rfl⟩ x9
  rw [if_neg (show ¬ (M.wrd ye11).1 = 6 from by simpa using h49)] at hE
  refine Js.skip <| Js.blockEnd <| Js.region <| Qm rfl <| Qp rfl rfl <| Qa rfl <| JL.nil ?_
  exact zag ⟨k + 1, M.setI v ((M.wrd ye11).1) ((M.wrd ye11).2.1), seen.set (((M.wrd ye11).1).toNat) true, again, out, _, _, _, rfl, rfl, by first | exact hE | (exfalso; omega) | (exfalso; simp at hx; done), zt, zu, zu, rfl⟩ x9
 have hA := M.chk_e hC (by have := h10'; omega) hk
 obtain ⟨hv9, hs9, ho9⟩ := M.chkN_len s k
 rw [hC] at hv9 hs9 ho9
 dsimp only at hv9 hs9 ho9
 refine zx ?_
 refine Js.seq <| zS <| Qa rfl <| JL.nil <| Js.block ?_
 refine zl [0, 2, 6, 7, 9] (fun F U l os u m => ∃ (j : Nat) (out2 : List M.Prb) (A51_8 : Option Addr) (c51_8 : Nat) (g51_8 : List Nat), l = F [(8, .slice A51_8 out2.length c51_8), (14, .int .i64 (j : Int))] ∧ os = U [some (rowO 35 3 (.slice A51_8 out2.length c51_8) out2.length (fltV vcProblem out2) g51_8)] ∧ (out2 = M.chkM s j) ∧ (j ≤ 2) ∧ (out2.length ≤ c51_8) ∧ (c51_8 ≤ 9223372036854775807) ∧ m = 2 - j) ⟨0, out, _, _, _, rfl, rfl, by rw [M.chkM, hA], zt, zu, zu, rfl⟩ ?_
 rintro _ _ u51 _ ⟨j, out2, A51_8, c51_8, g51_8, rfl, rfl, hM, hj, f51_2, f51_3, rfl⟩ x51
 refine zn ?_
 have hml := M.chkM_len s j
 rw [← hM] at hml
 refine Js.seq <| zS <| Qm rfl <| Ql rfl rfl <| JL.nil ?_
 refine zi (fun h52 h52' => ?_) fun h52 h52' => ?_
 ·
  have hy53 : seen[j]? = some (M.blt seen j) := M.blt_get len_
  refine Js.skip <| Js.seq <| Js.block <| zS <| Qm rfl <| Qm rfl <| Qq (p_indexAddr el_95 rfl rfl len_ len_ rfl) <| Qw (q_load1 ty_4.h rfl (fun w hw => (Mem.rowR' (i := 1) rfl (fltV_at (C := vcbool) (fun _ => rfl) hy53) w hw) 0 _ rfl)) <| Qt rfl <| JL.nil ?_
  refine zi (fun h54 h54' => ?_) fun h54 h54' => ?_
  ·
   have hb9 : ¬ M.blt seen j = true := by simpa using h54
   obtain ⟨ye55, hye55⟩ : ∃ x, M.fieldNames[j]? = some x := ⟨_, List.getElem?_eq_getElem (by omega)⟩
   have hY2 : M.fieldNames[j]? = some ye55 := hye55
   refine Js.region <| Qm rfl <| Qm rfl <| Qq (p_lenS und_9 rfl) <| zp rfl (fun w hw => c_spec_FieldNames) ?_
   intro u56 x56 A57 c57 h57 bl57 bh57
   have hy58 := hye55
   obtain ⟨b58, o58, he58, hc58⟩ := strs_elem h57 hy58
   refine Qm rfl <| Qq (p_indexAddr el_38 rfl rfl (by omega) (by omega) he58) <| QC hc58 rfl <| Qb ?_
   refine zbs fun b59 => ?_
   refine JL.e (e_append (i := 1) (n' := (out2 ++ [(M.Prb.mk 5 (s.length : Int) ye55)]).length) (vs' := fltV vcProblem (out2 ++ [(M.Prb.mk 5 (s.length : Int) ye55)])) el_41 rfl rfl rfl rfl (src_row (i := 0) und_41 rfl rfl) (by omega) (by omega) ln2_ (by first | rfl | exact fltV_app _ _ _ | exact fltV_snoc _ _ _ | (simp [fltV]; done))) ?_
   rintro v61 _ _ ⟨⟨g62, rfl⟩, rfl⟩ _
   refine JL.fact (row_form' (i := 1) rfl) (fun hf63 => ?_)
   obtain ⟨A63, c63, rfl, bl63, bh63⟩ := hf63
   refine znl ?_
   refine Qa rfl <| JL.nil <| Js.blockEnd <| Js.region <| Qm rfl <| Qp rfl rfl <| Qa rfl <| JL.nil ?_
   refine zd [1, 1, 1, 1] rfl fun u64 x64 => ?_
   exact zag ⟨j + 1, out2 ++ [(M.Prb.mk 5 (s.length : Int) ye55)], _, _, _, rfl, rfl, by first | exact hM2 | exact M.chkM_f hA hM hb9 hY2, zt, zu, zu, rfl⟩ ((x51.trans x56).trans x64)
  have hM2 := M.chkM_t hA hM (by simpa using h54)
  refine Js.skip <| Js.blockEnd <| Js.region <| Qm rfl <| Qp rfl rfl <| Qa rfl <| JL.nil ?_
  exact zag ⟨j + 1, out2, _, _, _, rfl, rfl, by first | exact hM2 | exact M.chkM_f hA hM hb9 hY2, zt, zu, zu, rfl⟩ x51
 have hj2 : j = 2 := by have := h52'; omega
 have hml := M.chkM_len s j
 rw [← hM] at hml
 have hE2 := M.chkR_e hA
 refine zx ?_
 refine Js.seq <| zS <| Qm rfl <| Qq (p_indexAddr el_65 rfl rfl (by omega) (by omega) rfl) <| Qw (q_load1 ty_2.h rfl (Mem.row (i := 2) rfl (ints_get (i := 6) (by omega)))) <| Qe rfl rfl <| Qm rfl <| zg (Gd.t1 rfl rfl rfl) (fun hc => p_move rfl) <| zg (Gd.t1 rfl rfl rfl) (fun hc => p_indexAddr el_65 (gh hc rfl) rfl (oh_ hc) (oh_ hc) rfl) ?_
 refine zgq (Gd.t1 rfl rfl rfl) (fun hc => q_load1 ty_2.h (gh hc rfl) (Mem.row (i := 2) rfl (ints_get (i := 2) (oh_ hc)))) ?_
 refine zg (Gd.t1 rfl rfl rfl) (fun hc => p_eql (gh hc rfl) rfl) <| Qq (p_pickAnd rfl rfl rfl) <| JL.nil ?_
 refine zi (fun h67 h67' => ?_) fun h67 h67' => ?_
 ·
  have hq2 : M.nth v 6 = 1 ∧ M.nth v 2 = 0 := by have h9 := h67; simp at h9; exact h9
  have hE := M.chkO_t hA hM hj2 hq2.1 hq2.2
  refine Js.region <| Qm rfl <| Qm rfl <| Qb ?_
  refine zbs fun b68 => ?_
  refine JL.e (e_append (i := 1) (n' := (out2 ++ ([(M.Prb.mk 6 again ([97, 103, 97, 105, 110] : List UInt8))])).length) (vs' := fltV vcProblem (out2 ++ ([(M.Prb.mk 6 again ([97, 103, 97, 105, 110] : List UInt8))]))) el_41 rfl rfl rfl rfl (src_row (i := 0) und_41 rfl rfl) (by omega) (by omega) ln2_ (by first | rfl | exact fltV_app _ _ _ | exact fltV_snoc _ _ _ | (simp [fltV]; done))) ?_
  rintro v70 _ _ ⟨⟨g71, rfl⟩, rfl⟩ _
  refine JL.fact (row_form' (i := 1) rfl) (fun hf72 => ?_)
  obtain ⟨A72, c72, rfl, bl72, bh72⟩ := hf72
  refine znl ?_
  refine Qa rfl <| zN <| Qm rfl <| zp rfl (fun w hw => c_spec_l03Rules v (ok_ hw)) ?_
  intro u73 x73
  have hq0 : ((M.rulV v).pits) = (M.chkR s).pits := by first | (rw [hE2]; done) | exact hE | (rw [hE]; done)
  have hq1 : ((M.rulV v).seeds) = (M.chkR s).seeds := by first | (rw [hE2]; done) | exact hE | (rw [hE]; done)
  have hq2 : ((M.rulV v).stores) = (M.chkR s).stores := by first | (rw [hE2]; done) | exact hE | (rw [hE]; done)
  have hq3 : ((M.rulV v).skip) = (M.chkR s).skip := by first | (rw [hE2]; done) | exact hE | (rw [hE]; done)
  have hq4 : ((M.rulV v).relay) = (M.chkR s).relay := by first | (rw [hE2]; done) | exact hE | (rw [hE]; done)
  have hq5 : ((M.rulV v).feed) = (M.chkR s).feed := by first | (rw [hE2]; done) | exact hE | (rw [hE]; done)
  have hq6 : ((M.rulV v).again) = (M.chkR s).again := by first | (rw [hE2]; done) | exact hE | (rw [hE]; done)
  have hq7 : ((M.rulV v).capture) = (M.chkR s).capture := by first | (rw [hE2]; done) | exact hE | (rw [hE]; done)
  have hq8 : ((M.rulV v).slam) = (M.chkR s).slam := by first | (rw [hE2]; done) | exact hE | (rw [hE]; done)
  have hq9 : (out2 ++ ([(M.Prb.mk 6 again ([97, 103, 97, 105, 110] : List UInt8))])) = (M.chkO s) := by first | (rw [hE2]; done) | exact hE | (rw [hE]; done)
  refine Qm rfl <| zw 4 rfl rfl rfl ?_
  refine Qa rfl <| JL.nil ?_
  exact zro (((x2.trans x9).trans x51).trans x73) (g := by exact (gv_tup (gvc gv_ (gvc (gv_flat lProblem (xs := (out2 ++ ([(M.Prb.mk 6 again ([97, 103, 97, 105, 110] : List UInt8))]))) po_ (by first | rfl | (simp [fltV]; done)) (by first | with_reducible rfl | assumption | rfl)) gvn))))
 have hq2 : ¬ (M.nth v 6 = 1 ∧ M.nth v 2 = 0) := by have h9 := h67; simp at h9; rintro ⟨h8, h7⟩; exact h9 h8 h7
 have hE := M.chkO_f hA hM hj2 hq2
 refine Js.skip <| zS <| Qm rfl <| zp rfl (fun w hw => c_spec_l03Rules v (ok_ hw)) ?_
 intro u74 x74
 have hq0 : ((M.rulV v).pits) = (M.chkR s).pits := by first | (rw [hE2]; done) | exact hE | (rw [hE]; done)
 have hq1 : ((M.rulV v).seeds) = (M.chkR s).seeds := by first | (rw [hE2]; done) | exact hE | (rw [hE]; done)
 have hq2 : ((M.rulV v).stores) = (M.chkR s).stores := by first | (rw [hE2]; done) | exact hE | (rw [hE]; done)
 have hq3 : ((M.rulV v).skip) = (M.chkR s).skip := by first | (rw [hE2]; done) | exact hE | (rw [hE]; done)
 have hq4 : ((M.rulV v).relay) = (M.chkR s).relay := by first | (rw [hE2]; done) | exact hE | (rw [hE]; done)
 have hq5 : ((M.rulV v).feed) = (M.chkR s).feed := by first | (rw [hE2]; done) | exact hE | (rw [hE]; done)
 have hq6 : ((M.rulV v).again) = (M.chkR s).again := by first | (rw [hE2]; done) | exact hE | (rw [hE]; done)
 have hq7 : ((M.rulV v).capture) = (M.chkR s).capture := by first | (rw [hE2]; done) | exact hE | (rw [hE]; done)
 have hq8 : ((M.rulV v).slam) = (M.chkR s).slam := by first | (rw [hE2]; done) | exact hE | (rw [hE]; done)
 have hq9 : out2 = (M.chkO s) := by first | (rw [hE2]; done) | exact hE | (rw [hE]; done)
 refine Qm rfl <| zw 3 rfl rfl rfl ?_
 refine Qa rfl <| JL.nil ?_
 exact zro (((x2.trans x9).trans x51).trans x74) (g := by exact (gv_tup (gvc gv_ (gvc (gv_flat lProblem (xs := out2) po_ (by first | rfl | (simp [fltV]; done)) (by first | with_reducible rfl | assumption | rfl)) gvn))))
theorem c_spec_CheckRules (s : List UInt8) {w : World} (r0 : s.length ≤ 4194304 := by exact om_) : Ret Tryd.prog 22 [.string (sB s)] w (Ty.tup [Ty.agg (cRules ((M.chkT s).1)), Ty.sl 35 3 ((M.chkT s).2.1).length (lProblem ((M.chkT s).2.1)), Ty.int ((M.chkT s).2.2)]) := by
 refine enter @Tryd.func22 @Tryd.ntmps22 rfl rfl ?_
 refine zent ?_
 refine zS <| za zeh fun b1 => Qa rfl <| Qa rfl <| zJ <| zS <| Qm rfl <| Qq (p_lenS und_9 rfl) <| Qg rfl rfl <| JL.nil ?_
 refine zi (fun h2 h2' => ?_) fun h2 h2' => ?_
 ·
  have hE := M.chkT_5 (s := s) (by have := h2'; omega)
  have hq0 : 0 = ((M.chkT s).1).pits := rp_ hE
  have hq1 : 0 = ((M.chkT s).1).seeds := rp_ hE
  have hq2 : false = ((M.chkT s).1).stores := rp_ hE
  have hq3 : false = ((M.chkT s).1).skip := rp_ hE
  have hq4 : false = ((M.chkT s).1).relay := rp_ hE
  have hq5 : false = ((M.chkT s).1).feed := rp_ hE
  have hq6 : false = ((M.chkT s).1).again := rp_ hE
  have hq7 : 0 = ((M.chkT s).1).capture := rp_ hE
  have hq8 : 0 = ((M.chkT s).1).slam := rp_ hE
  have hq9 : [] = (M.chkT s).2.1 := rp_ hE
  have hq10 : 5 = (M.chkT s).2.2 := rp_ hE
  refine zS <| Qb ?_
  refine zw 0 rfl rfl rfl ?_
  refine Qa rfl <| Qa rfl <| JL.nil ?_
  exact zro (Up.refl _ _)
 have h200 : ¬ 200 < s.length := by have := h2'; omega
 have hol := M.chkO_len s
 refine Js.skip <| zS <| Qm rfl <| zcs rfl (fun w hw => c_spec_l03Check s) ?_
 intro f4 A5 c5 bl5 bh5
 refine Qm rfl <| Qx rfl rfl <| Qx rfl rfl <| za zeh fun b6 => zw 0 rfl rfl rfl ?_
 refine Qa rfl <| zJ <| zS <| Qm rfl <| Qz rfl <| Qg rfl rfl <| JL.nil ?_
 refine zi (fun h7 h7' => ?_) fun h7 h7' => ?_
 ·
  have hE := M.chkT_O h200 (by have := h7'; omega)
  have hq0 : 0 = ((M.chkT s).1).pits := rp_ hE
  have hq1 : 0 = ((M.chkT s).1).seeds := rp_ hE
  have hq2 : false = ((M.chkT s).1).stores := rp_ hE
  have hq3 : false = ((M.chkT s).1).skip := rp_ hE
  have hq4 : false = ((M.chkT s).1).relay := rp_ hE
  have hq5 : false = ((M.chkT s).1).feed := rp_ hE
  have hq6 : false = ((M.chkT s).1).again := rp_ hE
  have hq7 : 0 = ((M.chkT s).1).capture := rp_ hE
  have hq8 : 0 = ((M.chkT s).1).slam := rp_ hE
  have hq9 : (M.chkO s) = (M.chkT s).2.1 := rp_ hE
  have hq10 : 0 = (M.chkT s).2.2 := rp_ hE
  refine zS <| Qb ?_
  refine Qm rfl <| zw 3 rfl rfl rfl ?_
  refine Qa rfl <| Qa rfl <| JL.nil ?_
  exact zro (Up.refl _ _) (g := by exact (gv_tup (gvc gv_ (gvc (gv_flat lProblem (xs := (M.chkO s)) po_ (by first | rfl | (simp [fltV]; done)) (by first | with_reducible rfl | assumption | rfl)) (gvc gv_ gvn)))))
 have hE := M.chkT_R h200 (by have := h7'; omega)
 have hq0 : ((M.chkR s).pits) = ((M.chkT s).1).pits := rp_ hE
 have hq1 : ((M.chkR s).seeds) = ((M.chkT s).1).seeds := rp_ hE
 have hq2 : ((M.chkR s).stores) = ((M.chkT s).1).stores := rp_ hE
 have hq3 : ((M.chkR s).skip) = ((M.chkT s).1).skip := rp_ hE
 have hq4 : ((M.chkR s).relay) = ((M.chkT s).1).relay := rp_ hE
 have hq5 : ((M.chkR s).feed) = ((M.chkT s).1).feed := rp_ hE
 have hq6 : ((M.chkR s).again) = ((M.chkT s).1).again := rp_ hE
 have hq7 : ((M.chkR s).capture) = ((M.chkT s).1).capture := rp_ hE
 have hq8 : ((M.chkR s).slam) = ((M.chkT s).1).slam := rp_ hE
 have hq9 : [] = (M.chkT s).2.1 := rp_ hE
 have hq10 : 0 = (M.chkT s).2.2 := rp_ hE
 refine Js.skip <| zS <| Q9 0 rfl rfl ?_
 refine zbs fun b8 => ?_
 refine zw 4 rfl rfl rfl ?_
 refine Qa rfl <| Qa rfl <| JL.nil ?_
 exact zro (Up.refl _ _) (g := by exact (gv_tup (gvc gv_ (gvc (gv_flat lProblem (xs := []) po_ (by first | rfl | (simp [fltV]; done)) (by first | with_reducible rfl | assumption | rfl)) (gvc gv_ gvn)))))
theorem c_laws_eqRules (a : M.Rul) {v_a : Value} (b : M.Rul) {v_b : Value} {w : World} (h_a : (Ty.agg (cRules a)).ok w v_a) (h_b : (Ty.agg (cRules b)).ok w v_b) : RetV Tryd.prog 24 [v_a, v_b] w (.bool (decide (a = b))) := by
 revert v_a; apply opn
 revert v_b; apply opn
 refine enter @Tryd.func24 @Tryd.ntmps24 rfl rfl ?_
 refine zent ?_
 refine zS <| zb rfl fun b1 => zb rfl fun b2 => Qa rfl <| zJ <| zS <| Qf fh rfl <| Q0 1 rfl rfl rfl <| Qf fh rfl <| Q0 0 rfl rfl rfl <| Qd rfl rfl <| JL.nil ?_
 refine zi (fun h3 h3' => ?_) fun h3 h3' => ?_
 ·
  have hne : a ≠ b := by rintro rfl; simp at h3
  refine zS <| Qa rfl <| JL.nil ?_
  refine zR (Up.refl _ _) ?_
  first | (rw [decide_eq_false hne]; rfl) | (rw [decide_eq_true (M.rul_ext q0 q1 q2 q3 q4 q5 q6 q7 q8)]; rfl)
 have q0 : a.pits = b.pits := by simpa using h3
 refine Js.skip <| Js.seq <| zS <| Qf fh rfl <| Q0 1 rfl rfl rfl <| Qf fh rfl <| Q0 0 rfl rfl rfl <| Qd rfl rfl <| JL.nil ?_
 refine zi (fun h4 h4' => ?_) fun h4 h4' => ?_
 ·
  have hne : a ≠ b := by rintro rfl; simp at h4
  refine zS <| Qa rfl <| JL.nil ?_
  refine zR (Up.refl _ _) ?_
  first | (rw [decide_eq_false hne]; rfl) | (rw [decide_eq_true (M.rul_ext q0 q1 q2 q3 q4 q5 q6 q7 q8)]; rfl)
 have q1 : a.seeds = b.seeds := by simpa using h4
 refine Js.skip <| Js.seq <| zS <| Qf fh rfl <| Q0 1 rfl rfl rfl <| Qf fh rfl <| Q0 0 rfl rfl rfl <| Qq (p_neqB und_4 rfl rfl) <| JL.nil ?_
 refine zi (fun h5 h5' => ?_) fun h5 h5' => ?_
 ·
  have hne : a ≠ b := by rintro rfl; simp at h5
  refine zS <| Qa rfl <| JL.nil ?_
  refine zR (Up.refl _ _) ?_
  first | (rw [decide_eq_false hne]; rfl) | (rw [decide_eq_true (M.rul_ext q0 q1 q2 q3 q4 q5 q6 q7 q8)]; rfl)
 have q2 : a.stores = b.stores := by simpa using h5
 refine Js.skip <| Js.seq <| zS <| Qf fh rfl <| Q0 1 rfl rfl rfl <| Qf fh rfl <| Q0 0 rfl rfl rfl <| Qq (p_neqB und_4 rfl rfl) <| JL.nil ?_
 refine zi (fun h6 h6' => ?_) fun h6 h6' => ?_
 ·
  have hne : a ≠ b := by rintro rfl; simp at h6
  refine zS <| Qa rfl <| JL.nil ?_
  refine zR (Up.refl _ _) ?_
  first | (rw [decide_eq_false hne]; rfl) | (rw [decide_eq_true (M.rul_ext q0 q1 q2 q3 q4 q5 q6 q7 q8)]; rfl)
 have q3 : a.skip = b.skip := by simpa using h6
 refine Js.skip <| Js.seq <| zS <| Qf fh rfl <| Q0 1 rfl rfl rfl <| Qf fh rfl <| Q0 0 rfl rfl rfl <| Qq (p_neqB und_4 rfl rfl) <| JL.nil ?_
 refine zi (fun h7 h7' => ?_) fun h7 h7' => ?_
 ·
  have hne : a ≠ b := by rintro rfl; simp at h7
  refine zS <| Qa rfl <| JL.nil ?_
  refine zR (Up.refl _ _) ?_
  first | (rw [decide_eq_false hne]; rfl) | (rw [decide_eq_true (M.rul_ext q0 q1 q2 q3 q4 q5 q6 q7 q8)]; rfl)
 have q4 : a.relay = b.relay := by simpa using h7
 refine Js.skip <| Js.seq <| zS <| Qf fh rfl <| Q0 1 rfl rfl rfl <| Qf fh rfl <| Q0 0 rfl rfl rfl <| Qq (p_neqB und_4 rfl rfl) <| JL.nil ?_
 refine zi (fun h8 h8' => ?_) fun h8 h8' => ?_
 ·
  have hne : a ≠ b := by rintro rfl; simp at h8
  refine zS <| Qa rfl <| JL.nil ?_
  refine zR (Up.refl _ _) ?_
  first | (rw [decide_eq_false hne]; rfl) | (rw [decide_eq_true (M.rul_ext q0 q1 q2 q3 q4 q5 q6 q7 q8)]; rfl)
 have q5 : a.feed = b.feed := by simpa using h8
 refine Js.skip <| Js.seq <| zS <| Qf fh rfl <| Q0 1 rfl rfl rfl <| Qf fh rfl <| Q0 0 rfl rfl rfl <| Qq (p_neqB und_4 rfl rfl) <| JL.nil ?_
 refine zi (fun h9 h9' => ?_) fun h9 h9' => ?_
 ·
  have hne : a ≠ b := by rintro rfl; simp at h9
  refine zS <| Qa rfl <| JL.nil ?_
  refine zR (Up.refl _ _) ?_
  first | (rw [decide_eq_false hne]; rfl) | (rw [decide_eq_true (M.rul_ext q0 q1 q2 q3 q4 q5 q6 q7 q8)]; rfl)
 have q6 : a.again = b.again := by simpa using h9
 refine Js.skip <| Js.seq <| zS <| Qf fh rfl <| Q0 1 rfl rfl rfl <| Qf fh rfl <| Q0 0 rfl rfl rfl <| Qd rfl rfl <| JL.nil ?_
 refine zi (fun h10 h10' => ?_) fun h10 h10' => ?_
 ·
  have hne : a ≠ b := by rintro rfl; simp at h10
  refine zS <| Qa rfl <| JL.nil ?_
  refine zR (Up.refl _ _) ?_
  first | (rw [decide_eq_false hne]; rfl) | (rw [decide_eq_true (M.rul_ext q0 q1 q2 q3 q4 q5 q6 q7 q8)]; rfl)
 have q7 : a.capture = b.capture := by simpa using h10
 refine Js.skip <| Js.seq <| zS <| Qf fh rfl <| Q0 1 rfl rfl rfl <| Qf fh rfl <| Q0 0 rfl rfl rfl <| Qd rfl rfl <| JL.nil ?_
 refine zi (fun h11 h11' => ?_) fun h11 h11' => ?_
 ·
  have hne : a ≠ b := by rintro rfl; simp at h11
  refine zS <| Qa rfl <| JL.nil ?_
  refine zR (Up.refl _ _) ?_
  first | (rw [decide_eq_false hne]; rfl) | (rw [decide_eq_true (M.rul_ext q0 q1 q2 q3 q4 q5 q6 q7 q8)]; rfl)
 have q8 : a.slam = b.slam := by simpa using h11
 refine Js.skip <| zS <| Qa rfl <| JL.nil ?_
 refine zR (Up.refl _ _) ?_
 first | (rw [decide_eq_false hne]; rfl) | (rw [decide_eq_true (M.rul_ext q0 q1 q2 q3 q4 q5 q6 q7 q8)]; rfl)
theorem c_laws_markText (k : Int) {w : World} (r0 : k ≤ 1000000000000 := by exact om_) : RetV Tryd.prog 58 [.int .i64 k] w (.string (sB (M.markT k))) := by
 refine enter @Tryd.func58 @Tryd.ntmps58 rfl rfl ?_
 refine zent ?_
 refine zS <| Qa rfl <| zJ <| zS <| Qm rfl <| Qk rfl rfl <| JL.nil ?_
 refine zi (fun h1 h1' => ?_) fun h1 h1' => ?_
 ·
  have hE := M.markT_z (k := k) (by have := h1'; omega)
  refine zS <| Qa rfl <| JL.nil ?_
  refine zR (Up.refl _ _) ?_
  first | (rw [hE]; rfl)
 have hp : 0 < k := by have := h1'; omega
 refine Js.skip <| zS <| Qa rfl <| zJ <| Js.block ?_
 refine zl [] (fun F U l os u m => ∃ (kk : Int) (out : List UInt8), l = F [(0, .int .i64 kk), (3, .string (sB out))] ∧ os = U [] ∧ (M.DecI k kk out) ∧ (0 ≤ kk) ∧ (kk ≤ 1000000000000) ∧ m = kk.toNat) ⟨k, ([] : List UInt8), rfl, rfl, by exact M.DecI.zero k, zt, zt, rfl⟩ ?_
 rintro _ _ u2 _ ⟨kk, out, rfl, rfl, hD, hk0, hk1, rfl⟩ x2
 refine zn ?_
 obtain ⟨t1, t2, t3, t4⟩ := M.tdiv10_bd (k := kk) (by omega) (by omega)
 have t7 : 0 ≤ kk.tmod 10 := Int.tmod_nonneg 10 hk0
 have t9 : 0 ≤ kk.tdiv 10 := Int.tdiv_nonneg hk0 (by omega)
 obtain ⟨t5, t6⟩ := M.tdiv10 kk
 have hol := hD.len (by omega) (by omega)
 have lb9 : LenB out 20 := ⟨hol⟩
 refine Js.seq <| zS <| Qm rfl <| Qg rfl rfl <| JL.nil ?_
 refine zi (fun h3 h3' => ?_) fun h3 h3' => ?_
 ·
  have hkk : kk ≠ 0 := by have := h3'; omega
  have hD2 := hD.step (d := kk.tmod 10) hkk (by omega)
  have hu6 : ((M.u8 (48 + (kk.tmod 10))).toNat : Int) = 48 + (kk.tmod 10) := M.u8_val (by omega) (by omega)
  refine Js.skip <| Js.block <| zS <| Qm rfl <| Qq (p_rem rfl rfl (by omega) rfl) <| Qp rfl rfl <| Qq (p_conv @Tryd.underlying3 @Tryd.underlying5 rfl (IntWalk.u8_in _ (by omega))) <| zbs fun b4 => ?_
  refine Qw (q_toStr1 (i := 0) und_22 @Tryd.underlying5 und_9 rfl rfl hu6) <| Qm rfl <| Qq (q_cat rfl rfl) <| Qa rfl <| zG <| Qm rfl <| Qq (p_quo rfl rfl (by omega) (IntWalk.i64_in _ (by omega))) <| Qa rfl <| JL.nil <| Js.blockEnd ?_
  refine zd [] rfl fun u7 x7 => ?_
  exact zag ⟨kk.tdiv 10, ([M.u8 (48 + (kk.tmod 10))] : List UInt8) ++ out, rfl, rfl, by exact hD2, by omega, by omega, rfl⟩ (x2.trans x7)
 have hk9 : kk = 0 := by have := h3'; omega
 subst hk9
 have hE := M.markT_end hD hp (by omega)
 have lb9 : LenB out 20 := ⟨hD.len (by omega) (by omega)⟩
 refine zx ?_
 refine zS <| Qm rfl <| Qq (q_cat rfl rfl) <| Qa rfl <| JL.nil ?_
 refine zR x2 ?_
 first | (rw [hE]; rfl)
theorem c_laws_eqProblem (a : M.Prb) {v_a : Value} (b : M.Prb) {v_b : Value} {w : World} (h_a : (Ty.agg (cProblem a)).ok w v_a) (h_b : (Ty.agg (cProblem b)).ok w v_b) : RetV Tryd.prog 57 [v_a, v_b] w (.bool (decide (a = b))) := by
 revert v_a; apply opn
 revert v_b; apply opn
 refine enter @Tryd.func57 @Tryd.ntmps57 rfl rfl ?_
 refine zent ?_
 refine zS <| zb rfl fun b1 => zb rfl fun b2 => Qa rfl <| zJ <| zS <| Qf fh rfl <| Q0 1 rfl rfl rfl <| Qf fh rfl <| Q0 0 rfl rfl rfl <| Qd rfl rfl <| JL.nil ?_
 refine zi (fun h3 h3' => ?_) fun h3 h3' => ?_
 ·
  have hne : a ≠ b := by rintro rfl; simp at h3
  refine zS <| Qa rfl <| JL.nil ?_
  refine zR (Up.refl _ _) ?_
  first | (rw [decide_eq_false hne]; rfl) | (rw [decide_eq_true (M.prb_ext q0 q1 q2)]; rfl)
 have q0 : a.kind = b.kind := by simpa using h3
 refine Js.skip <| Js.seq <| zS <| Qf fh rfl <| Q0 1 rfl rfl rfl <| Qf fh rfl <| Q0 0 rfl rfl rfl <| Qd rfl rfl <| JL.nil ?_
 refine zi (fun h4 h4' => ?_) fun h4 h4' => ?_
 ·
  have hne : a ≠ b := by rintro rfl; simp at h4
  refine zS <| Qa rfl <| JL.nil ?_
  refine zR (Up.refl _ _) ?_
  first | (rw [decide_eq_false hne]; rfl) | (rw [decide_eq_true (M.prb_ext q0 q1 q2)]; rfl)
 have q1 : a.at1 = b.at1 := by simpa using h4
 refine Js.skip <| Js.seq <| zS <| Qf fh rfl <| Q0 1 rfl rfl rfl <| Qf fh rfl <| Q0 0 rfl rfl rfl <| Qq (p_neqT und_9 rfl rfl) <| JL.nil ?_
 refine zi (fun h5 h5' => ?_) fun h5 h5' => ?_
 ·
  have hne : a ≠ b := by rintro rfl; simp at h5
  refine zS <| Qa rfl <| JL.nil ?_
  refine zR (Up.refl _ _) ?_
  first | (rw [decide_eq_false hne]; rfl) | (rw [decide_eq_true (M.prb_ext q0 q1 q2)]; rfl)
 have q2 : a.word = b.word := by simpa using h5
 refine Js.skip <| zS <| Qa rfl <| JL.nil ?_
 refine zR (Up.refl _ _) ?_
 first | (rw [decide_eq_false hne]; rfl) | (rw [decide_eq_true (M.prb_ext q0 q1 q2)]; rfl)
theorem c_laws_eqProblemS (a : List M.Prb) {v_a : Value} (b : List M.Prb) {v_b : Value} {w : World} (h_a : (Ty.sl 35 3 a.length (lProblem a)).ok w v_a) (h_b : (Ty.sl 35 3 b.length (lProblem b)).ok w v_b) (r0 : a.length ≤ 4194304 := by exact om_) (r1 : b.length ≤ 4194304 := by exact om_) : RetV Tryd.prog 25 [v_a, v_b] w (.bool (decide (a = b))) := by
 revert v_a; apply opn
 intro A1 c1 h1 bl1 bh1
 have h_a := h1
 revert v_b; apply opn
 intro A2 c2 h2 bl2 bh2
 have h_b := h2
 refine enter @Tryd.func25 @Tryd.ntmps25 rfl rfl ?_
 refine zent ?_
 refine zS <| Qa rfl <| zJ <| zS <| Qm rfl <| Qz rfl <| Qm rfl <| Qz rfl <| Qd rfl rfl <| JL.nil ?_
 refine zi (fun h3 h3' => ?_) fun h3 h3' => ?_
 ·
  have e1 : decide (a = b) = false := by simp; rintro rfl; simp at h3
  refine zS <| Qa rfl <| JL.nil ?_
  refine zR (Up.refl _ _) ?_
  simp [outV, e1]
 have hlen : a.length = b.length := by have := h3'; omega
 refine Js.skip <| Js.seq <| zS <| Qa rfl <| JL.nil <| Js.block ?_
 refine zl [0, 1] (fun F U l os u m => ∃ (k : Nat), l = F [(5, .int .i64 (k : Int))] ∧ os = U [] ∧ (k ≤ a.length) ∧ (a.take k = b.take k) ∧ m = a.length - k) ⟨0, rfl, rfl, zt, by rfl, rfl⟩ ?_
 rintro _ _ u4 _ ⟨k, rfl, rfl, hk, hU, rfl⟩ x4
 refine zn ?_
 refine Js.seq <| zS <| Qm rfl <| Qm rfl <| Qz rfl <| Ql rfl rfl <| JL.nil ?_
 refine zi (fun h5 h5' => ?_) fun h5 h5' => ?_
 ·
  obtain ⟨ye6, hye6⟩ : ∃ x, a[k]? = some x := ⟨_, List.getElem?_eq_getElem (by omega)⟩
  obtain ⟨ye7, hye7⟩ : ∃ x, b[k]? = some x := ⟨_, List.getElem?_eq_getElem (by omega)⟩
  refine Js.skip <| Js.seq <| Js.block <| Js.seq ?_
  refine zdr [] ?_
  refine jM 0 rfl rfl ?_
  refine jM 1 rfl rfl ?_
  have hy8 := hye6
  obtain ⟨b8, o8, he8, hr8⟩ := elem_Problem (Ty.mono _ h1 x4.vis) hy8
  refine jI 2 el_41 rfl rfl rfl he8 ?_
  refine JH.w 3 rfl (fun os' u' hv => LS 0 (hr8.vis hv) rfl) ?_
  refine jM 4 rfl rfl ?_
  refine jM 5 rfl rfl ?_
  have hy9 := hye7
  obtain ⟨b9, o9, he9, hr9⟩ := elem_Problem (Ty.mono _ h2 x4.vis) hy9
  refine jI 6 el_41 rfl rfl rfl he9 ?_
  refine JH.w 7 rfl (fun os' u' hv => LS 0 (hr9.vis hv) rfl) ?_
  refine y1 8 ?_
  refine yv rfl rfl (fun w hw => c_laws_eqProblem ye6 ye7 (ok_ hw) (ok_ hw)) ?_
  refine JH.p 9 rfl (p_not rfl) ?_
  refine yd ?_
  refine zi (fun h10 h10' => ?_) fun h10 h10' => ?_
  ·
   have e1 : decide (a = b) = false := decide_eq_false (M.upto_ne hye6 hye7 (by simpa using h10))
   refine zS <| Qa rfl <| JL.nil ?_
   refine zR x4 ?_
   simp [outV, e1]
  have hab : ye6 = ye7 := by simpa using h10
  rw [← hab] at hye7
  have hU2 := M.upto_step hU hye6 hye7
  refine Js.skip <| Js.blockEnd <| Js.region <| Qm rfl <| Qp rfl rfl <| Qa rfl <| JL.nil ?_
  exact zag ⟨k + 1, rfl, rfl, zt, by exact hU2, rfl⟩ x4
 have e1 : a = b := M.upto_done hU (by have := h5'; omega) (by have := h5'; omega)
 refine zx ?_
 refine zS <| Qa rfl <| JL.nil ?_
 refine zR x4 ?_
 simp [outV, e1]
theorem c_laws_markProblemS (a : List M.Prb) {Aa_0 : Option Addr} {ca_0 : Nat} {ga_0 : List Nat} (k : Int) {w : World} (hb : Bw w [rowO 35 3 (.slice Aa_0 a.length ca_0) a.length (fltV vcProblem a) ga_0]) (bd0 : a.length ≤ ca_0 := by exact om_) (bd1 : ca_0 ≤ 9223372036854775807 := by exact om_) (r0 : a.length ≤ 4194304 := by exact om_) (r1 : 0 ≤ k := by exact om_) (r2 : k ≤ 50000000 := by exact om_) : RetB Tryd.prog 26 [.slice Aa_0 a.length ca_0, .int .i64 k] w [rowO 35 3 (.slice Aa_0 a.length ca_0) a.length (fltV vcProblem a) ga_0] (fun v bs' => v = .int .i64 (k + 3 * (a.length : Int)) ∧ bs' = [rowO 35 3 (.slice Aa_0 a.length ca_0) a.length (fltV vcProblem (M.mkL M.fP M.sP k a)) ga_0]) := by
 refine enterB hb @Tryd.func26 @Tryd.ntmps26 rfl rfl ?_
 refine zent ?_
 refine Js.trashE ?_
 refine zn ?_
 refine zS <| Qa rfl <| zJ <| zS <| Qa rfl <| JL.nil <| Js.block ?_
 refine zl [0] (fun F U l os u m => ∃ (i : Nat) (kk : Int) (xs : List M.Prb) (G1_1 : List Nat), l = F [(1, .int .i64 kk), (5, .int .i64 (i : Int))] ∧ os = U [some (rowO 35 3 (.slice Aa_0 a.length ca_0) a.length (fltV vcProblem xs) ga_0), some (anyO G1_1)] ∧ (xs = M.mkd2 M.fP M.sP k a i) ∧ (i ≤ a.length) ∧ (xs.length = a.length) ∧ (kk = k + 3 * (i : Int)) ∧ m = a.length - i) ⟨0, k, a, _, rfl, rfl, by exact M.mkd2_zero _ _ k a, zt, by rfl, by simp, rfl⟩ ?_
 rintro _ _ u1 _ ⟨i, kk, xs, G1_1, rfl, rfl, hX, hi, hl, hkk, rfl⟩ x1
 refine zn ?_
 refine Js.seq <| zS <| Qm rfl <| Qm rfl <| Qz rfl <| Ql rfl rfl <| JL.nil ?_
 refine zi (fun h2 h2' => ?_) fun h2 h2' => ?_
 ·
  have hxi : i < xs.length := by have := h2'; omega
  have hya9 := M.mkd2_get M.fP M.sP (k := k) (by rw [← hX]; exact M.prb_get hxi)
  have hs9 : M.szs M.sP (a.take i) = 3 * (i : Int) := by rw [M.szs_P, List.length_take]; omega
  have hq9 : xs.set i ⟨kk, kk + 1, M.markT (kk + 1 + 1)⟩ = M.mkd2 M.fP M.sP k a (i + 1) := by have h7 := M.mkd2_step M.fP M.sP (k := k) hya9; rw [← hX, hs9, ← hkk] at h7; rw [show kk + 1 + 1 = kk + 2 by omega]; exact h7
  refine Js.skip <| Js.seq <| Js.block <| zS <| Qm rfl <| Qm rfl <| Qm rfl ?_
  refine JL.fact (row_some (i := 0) rfl len_) (fun hf4 => ?_)
  obtain ⟨b4, rfl⟩ := hf4
  have hy3 : xs[i]? = some (M.prb xs i) := M.prb_get len_
  refine Qq (p_indexAddr el_41 rfl rfl len_ len_ rfl) <| Qf fh rfl ?_
  refine JL.s (e_storeRow (i := 0) (xs' := fltV vcProblem (xs.set i (M.Prb.mk kk ((M.prb xs i).at1) ((M.prb xs i).word)))) ty_2.h rfl rfl rfl rfl rfl rfl (fltV_lt (C := vcProblem) (j := 0) (fun _ => rfl) len_ (by decide)) (fltV_cell (C := vcProblem) (j := 0) (y' := (M.Prb.mk kk ((M.prb xs i).at1) ((M.prb xs i).word))) (fun _ => rfl) hy3 (by decide) rfl)) ?_
  rintro _ _ _ ⟨rfl, rfl⟩ _
  refine znl ?_
  have hy5 : (xs.set i (M.Prb.mk kk ((M.prb xs i).at1) ((M.prb xs i).word)))[i]? = some (M.prb (xs.set i (M.Prb.mk kk ((M.prb xs i).at1) ((M.prb xs i).word))) i) := M.prb_get len_
  refine zN <| Qm rfl <| Qp rfl rfl <| Qa rfl <| zN <| Qm rfl <| Qm rfl <| Qm rfl <| Qq (p_indexAddr el_41 rfl rfl len_ len_ rfl) <| Qf fh rfl ?_
  refine JL.s (e_storeRow (i := 0) (xs' := fltV vcProblem ((xs.set i (M.Prb.mk kk ((M.prb xs i).at1) ((M.prb xs i).word))).set i (M.Prb.mk ((M.prb (xs.set i (M.Prb.mk kk ((M.prb xs i).at1) ((M.prb xs i).word))) i).kind) (kk + 1) ((M.prb (xs.set i (M.Prb.mk kk ((M.prb xs i).at1) ((M.prb xs i).word))) i).word)))) ty_2.h rfl rfl rfl rfl rfl rfl (fltV_lt (C := vcProblem) (j := 1) (fun _ => rfl) len_ (by decide)) (fltV_cell (C := vcProblem) (j := 1) (y' := (M.Prb.mk ((M.prb (xs.set i (M.Prb.mk kk ((M.prb xs i).at1) ((M.prb xs i).word))) i).kind) (kk + 1) ((M.prb (xs.set i (M.Prb.mk kk ((M.prb xs i).at1) ((M.prb xs i).word))) i).word))) (fun _ => rfl) hy5 (by decide) rfl)) ?_
  rintro _ _ _ ⟨rfl, rfl⟩ _
  refine znl ?_
  have hy6 : ((xs.set i (M.Prb.mk kk ((M.prb xs i).at1) ((M.prb xs i).word))).set i (M.Prb.mk ((M.prb (xs.set i (M.Prb.mk kk ((M.prb xs i).at1) ((M.prb xs i).word))) i).kind) (kk + 1) ((M.prb (xs.set i (M.Prb.mk kk ((M.prb xs i).at1) ((M.prb xs i).word))) i).word)))[i]? = some (M.prb ((xs.set i (M.Prb.mk kk ((M.prb xs i).at1) ((M.prb xs i).word))).set i (M.Prb.mk ((M.prb (xs.set i (M.Prb.mk kk ((M.prb xs i).at1) ((M.prb xs i).word))) i).kind) (kk + 1) ((M.prb (xs.set i (M.Prb.mk kk ((M.prb xs i).at1) ((M.prb xs i).word))) i).word))) i) := M.prb_get len_
  refine zN <| Qm rfl <| Qp rfl rfl <| Qa rfl <| zN <| Qm rfl <| Qm rfl <| Qm rfl <| zv rfl (fun w hw => c_laws_markText ((kk + 1) + 1)) <| Qq (p_indexAddr el_41 rfl rfl len_ len_ rfl) <| Qf fh rfl ?_
  refine JL.s (e_storeRow (i := 0) (xs' := fltV vcProblem (((xs.set i (M.Prb.mk kk ((M.prb xs i).at1) ((M.prb xs i).word))).set i (M.Prb.mk ((M.prb (xs.set i (M.Prb.mk kk ((M.prb xs i).at1) ((M.prb xs i).word))) i).kind) (kk + 1) ((M.prb (xs.set i (M.Prb.mk kk ((M.prb xs i).at1) ((M.prb xs i).word))) i).word))).set i (M.Prb.mk ((M.prb ((xs.set i (M.Prb.mk kk ((M.prb xs i).at1) ((M.prb xs i).word))).set i (M.Prb.mk ((M.prb (xs.set i (M.Prb.mk kk ((M.prb xs i).at1) ((M.prb xs i).word))) i).kind) (kk + 1) ((M.prb (xs.set i (M.Prb.mk kk ((M.prb xs i).at1) ((M.prb xs i).word))) i).word))) i).kind) ((M.prb ((xs.set i (M.Prb.mk kk ((M.prb xs i).at1) ((M.prb xs i).word))).set i (M.Prb.mk ((M.prb (xs.set i (M.Prb.mk kk ((M.prb xs i).at1) ((M.prb xs i).word))) i).kind) (kk + 1) ((M.prb (xs.set i (M.Prb.mk kk ((M.prb xs i).at1) ((M.prb xs i).word))) i).word))) i).at1) (M.markT ((kk + 1) + 1))))) ty_9.h rfl rfl rfl rfl rfl rfl (fltV_lt (C := vcProblem) (j := 2) (fun _ => rfl) len_ (by decide)) (fltV_cell (C := vcProblem) (j := 2) (y' := (M.Prb.mk ((M.prb ((xs.set i (M.Prb.mk kk ((M.prb xs i).at1) ((M.prb xs i).word))).set i (M.Prb.mk ((M.prb (xs.set i (M.Prb.mk kk ((M.prb xs i).at1) ((M.prb xs i).word))) i).kind) (kk + 1) ((M.prb (xs.set i (M.Prb.mk kk ((M.prb xs i).at1) ((M.prb xs i).word))) i).word))) i).kind) ((M.prb ((xs.set i (M.Prb.mk kk ((M.prb xs i).at1) ((M.prb xs i).word))).set i (M.Prb.mk ((M.prb (xs.set i (M.Prb.mk kk ((M.prb xs i).at1) ((M.prb xs i).word))) i).kind) (kk + 1) ((M.prb (xs.set i (M.Prb.mk kk ((M.prb xs i).at1) ((M.prb xs i).word))) i).word))) i).at1) (M.markT ((kk + 1) + 1)))) (fun _ => rfl) hy6 (by decide) rfl)) ?_
  rintro _ _ _ ⟨rfl, rfl⟩ _
  refine znl ?_
  refine zG <| Qm rfl <| Qp rfl rfl <| Qa rfl <| JL.nil <| Js.blockEnd <| Js.region <| Qm rfl <| Qp rfl rfl <| Qa rfl <| JL.nil ?_
  exact zag ⟨i + 1, ((kk + 1) + 1) + 1, ((xs.set i (M.Prb.mk kk ((M.prb xs i).at1) ((M.prb xs i).word))).set i (M.Prb.mk ((M.prb (xs.set i (M.Prb.mk kk ((M.prb xs i).at1) ((M.prb xs i).word))) i).kind) (kk + 1) ((M.prb (xs.set i (M.Prb.mk kk ((M.prb xs i).at1) ((M.prb xs i).word))) i).word))).set i (M.Prb.mk ((M.prb ((xs.set i (M.Prb.mk kk ((M.prb xs i).at1) ((M.prb xs i).word))).set i (M.Prb.mk ((M.prb (xs.set i (M.Prb.mk kk ((M.prb xs i).at1) ((M.prb xs i).word))) i).kind) (kk + 1) ((M.prb (xs.set i (M.Prb.mk kk ((M.prb xs i).at1) ((M.prb xs i).word))) i).word))) i).kind) ((M.prb ((xs.set i (M.Prb.mk kk ((M.prb xs i).at1) ((M.prb xs i).word))).set i (M.Prb.mk ((M.prb (xs.set i (M.Prb.mk kk ((M.prb xs i).at1) ((M.prb xs i).word))) i).kind) (kk + 1) ((M.prb (xs.set i (M.Prb.mk kk ((M.prb xs i).at1) ((M.prb xs i).word))) i).word))) i).at1) (M.markT ((kk + 1) + 1))), _, rfl, rfl, by rw [M.prb_set (by omega), M.prb_set (by simp; omega), List.set_set, List.set_set]; exact hq9, zt, by simp; exact hl, zt, rfl⟩ x1
 have hi2 : i = a.length := by have := h2'; omega
 have hM : M.mkL M.fP M.sP k a = xs := by rw [hX]; exact (M.mkd2_end _ _ hi2).symm
 refine zx ?_
 refine zS <| Qm rfl <| Qa rfl <| JL.nil ?_
 refine zrb [0] hb x1 ?_
 have hE : (.int .i64 kk : Value) = .int .i64 (k + 3 * (a.length : Int)) := by first | exact hM | (refine congrArg (Value.int .i64) ?_; omega)
 have hE1 : M.mkL M.fP M.sP k a = xs := by first | exact hM | (refine congrArg (Value.int .i64) ?_; omega)
 refine ⟨hE, ?_⟩
 · rw [hE1]
theorem c_laws_heldProblemS (a : List M.Prb) {v_a : Value} (k : Int) {w : World} (h_a : (Ty.sl 35 3 a.length (lProblem a)).ok w v_a) (r0 : a.length ≤ 4194304 := by exact om_) (r1 : 0 ≤ k := by exact om_) (r2 : k ≤ 50000000 := by exact om_) : RetV Tryd.prog 27 [v_a, .int .i64 k] w (.int .i64 (M.heldL M.hP k a)) := by
 revert v_a; apply opn
 intro A1 c1 h1 bl1 bh1
 have h_a := h1
 refine enter @Tryd.func27 @Tryd.ntmps27 rfl rfl ?_
 refine zent ?_
 refine zS <| Qa rfl <| zJ <| zS <| Qa rfl <| JL.nil <| Js.block ?_
 refine zl [0] (fun F U l os u m => ∃ (i : Nat) (kk : Int), l = F [(1, .int .i64 kk), (5, .int .i64 (i : Int))] ∧ os = U [] ∧ (M.heldL M.hP kk (a.drop i) = M.heldL M.hP k a) ∧ (i ≤ a.length) ∧ (kk = k + 3 * (i : Int)) ∧ m = a.length - i) ⟨0, k, rfl, rfl, by rfl, zt, by simp, rfl⟩ ?_
 rintro _ _ u2 _ ⟨i, kk, rfl, rfl, hS, hi, hkk, rfl⟩ x2
 refine zn ?_
 refine Js.seq <| zS <| Qm rfl <| Qm rfl <| Qz rfl <| Ql rfl rfl <| JL.nil ?_
 refine zi (fun h3 h3' => ?_) fun h3 h3' => ?_
 ·
  have hia : i < a.length := by have := h3'; omega
  have hY := M.prb_get hia
  have hy4 : a[i]? = some (M.prb a i) := M.prb_get (by omega)
  obtain ⟨b4, o4, he4, hr4⟩ := elem_Problem (Ty.mono _ h1 x2.vis) hy4
  refine Js.skip <| Js.seq <| Js.block <| Js.seq <| zS <| Qm rfl <| Qm rfl <| Qq (p_indexAddr el_41 rfl rfl (by omega) (by omega) he4) <| Qf fh rfl <| QC (hr4 0 _ rfl) rfl <| Qm rfl <| Qd rfl rfl <| JL.nil ?_
  refine zi (fun h5 h5' => ?_) fun h5 h5' => ?_
  ·
   have hE := M.heldL_no M.hP hS hY (by rw [M.hP_1 (by simpa using h5)]; decide)
   refine zS <| Qa rfl <| JL.nil ?_
   refine zR x2 ?_
   first | (rw [hE]; rfl)
  have q1 : (M.prb a i).kind = kk := by simpa using h5
  have hy6 : a[i]? = some (M.prb a i) := M.prb_get (by omega)
  obtain ⟨b6, o6, he6, hr6⟩ := elem_Problem (Ty.mono _ h1 x2.vis) hy6
  refine Js.skip <| zS <| Qm rfl <| Qp rfl rfl <| Qa rfl <| zJ <| zS <| Qm rfl <| Qm rfl <| Qq (p_indexAddr el_41 rfl rfl (by omega) (by omega) he6) <| Qf fh rfl <| QC (hr6 1 _ rfl) rfl <| Qm rfl <| Qd rfl rfl ?_
  refine JL.nil ?_
  refine zi (fun h7 h7' => ?_) fun h7 h7' => ?_
  ·
   have hE := M.heldL_no M.hP hS hY (by rw [M.hP_2 q1 (by simpa using h7)]; decide)
   refine zS <| Qa rfl <| JL.nil ?_
   refine zR x2 ?_
   first | (rw [hE]; rfl)
  have q2 : (M.prb a i).at1 = kk + 1 := by simpa using h7
  have hk2 : kk + 1 + 1 = kk + 2 := by omega
  refine Js.skip <| zS <| Qm rfl <| Qp rfl rfl <| Qa rfl <| zJ <| Js.seq ?_
  refine zdr [] ?_
  refine jM 0 rfl rfl ?_
  refine jM 1 rfl rfl ?_
  have hy8 : a[i]? = some (M.prb a i) := M.prb_get (by omega)
  obtain ⟨b8, o8, he8, hr8⟩ := elem_Problem (Ty.mono _ h1 x2.vis) hy8
  refine jI 2 el_41 rfl rfl rfl he8 ?_
  refine jF 3 fld_35_2 rfl rfl ?_
  refine jW 4 ty_9 rfl rfl (fun hv => (hr8.vis hv) 2 _ rfl) ?_
  refine jM 5 rfl rfl ?_
  refine y1 6 ?_
  refine yv rfl rfl (fun w hw => c_laws_markText ((kk + 1) + 1)) ?_
  refine JH.p 7 rfl (p_neqT und_9 rfl rfl) ?_
  refine yd ?_
  refine zi (fun h9 h9' => ?_) fun h9 h9' => ?_
  ·
   have hE := M.heldL_no M.hP hS hY (by rw [M.hP_3 q1 q2 (by rw [← hk2]; simpa using h9)]; decide)
   refine zS <| Qa rfl <| JL.nil ?_
   refine zR x2 ?_
   first | (rw [hE]; rfl)
  have q3 : (M.prb a i).word = M.markT (kk + 2) := by rw [← hk2]; simpa using h9
  have q4 := M.hP_0 q1 q2 q3
  have hS2 := M.heldL_step M.hP hS hY (by omega)
  rw [q4] at hS2
  have q5 : kk + 1 + 1 + 1 = kk + 3 := by omega
  rw [← q5] at hS2
  refine Js.skip <| Js.region <| Qm rfl <| Qp rfl rfl <| Qa rfl <| JL.nil <| Js.blockEnd <| Js.region <| Qm rfl <| Qp rfl rfl <| Qa rfl <| JL.nil ?_
  exact zag ⟨i + 1, ((kk + 1) + 1) + 1, rfl, rfl, by exact hS2, zt, zt, rfl⟩ x2
 have hE := M.heldL_end M.hP hS (by have := h3'; omega)
 refine zx ?_
 refine zS <| Qm rfl <| Qa rfl <| JL.nil ?_
 refine zR x2 ?_
 first | (rw [hE]; rfl)
theorem c_laws_FnExactCheckRules (aS : List UInt8) {w : World} (h_tab : tabT.ok w undef) : RetV Tryd.prog 4 [.string (sB aS)] w (.bool true) := by
 have hcl9 := M.chkT_len aS
 have hml9 := M.mkL_len M.fP M.sP 1 (M.chkT aS).2.1
 refine enter @Tryd.func4 @Tryd.ntmps4 rfl rfl ?_
 refine zent ?_
 refine zS <| Qa rfl <| zJ <| zS <| Qm rfl <| Qq (p_lenS und_9 rfl) <| Qg rfl rfl <| JL.nil ?_
 refine zi (fun h1 h1' => ?_) fun h1 h1' => ?_
 ·
  refine zS <| Qa rfl <| JL.nil ?_
  exact zr (Up.refl _ _)
 refine Js.skip <| zS <| Qm rfl <| zp rfl (fun w hw => c_spec_CheckRules aS) ?_
 intro u2 x2 A3 c3 h3 bl3 bh3
 refine Qm rfl <| Qx rfl rfl <| Qx rfl rfl <| Qx rfl rfl <| za zeh fun b4 => zw 0 rfl rfl rfl ?_
 refine Qa rfl <| Qa rfl <| zN <| Qm rfl <| zcs rfl (fun w hw => c_impl_CheckRules aS (ok_ hw)) ?_
 intro f6 A7 c7 bl7 bh7
 refine Qm rfl <| Qx rfl rfl <| Qx rfl rfl <| Qx rfl rfl <| za zeh fun b8 => zw 0 rfl rfl rfl ?_
 refine Qa rfl <| Qa rfl <| zJ <| zS <| Q9 0 rfl rfl ?_
 refine Q9 3 rfl rfl ?_
 refine zv rfl (fun w hw => c_laws_eqRules ((M.chkT aS).1) ((M.chkT aS).1) (ok_ hw) (ok_ hw)) <| Qt rfl <| Qm rfl <| zg (Gd.f1 rfl rfl rfl) (fun hc => p_move rfl) <| zg (Gd.f1 rfl rfl rfl) (fun hc => p_move rfl) <| zgv (Gd.f1 rfl rfl rfl) (fun hc => (opds_2 (gh hc rfl) (gh hc rfl))) (fun hc => (fun w hw => c_laws_eqProblemS ((M.chkT aS).2.1) ((M.chkT aS).2.1) (flat_rowok lProblem (xs := ((M.chkT aS).2.1)) (hw.pr (i := 1) rfl)) (ok_ hw) (r0 := (by have hc9 := hc; (try simp only [Bool.not_eq_true', Bool.not_eq_false', decide_eq_true_eq] at hc9); omega)) (r1 := (by have hc9 := hc; (try simp only [Bool.not_eq_true', Bool.not_eq_false', decide_eq_true_eq] at hc9); omega)))) ?_
 refine zg (Gd.f1 rfl rfl rfl) (fun hc => p_not (gh hc rfl)) <| Qq (p_pickOr rfl rfl rfl) <| Qm rfl <| zg (Gd.f1 rfl rfl rfl) (fun hc => p_move rfl) <| zg (Gd.f1 rfl rfl rfl) (fun hc => p_move rfl) <| zg (Gd.f1 rfl rfl rfl) (fun hc => p_neq (gh hc rfl) (gh hc rfl)) <| Qq (p_pickOr rfl rfl rfl) <| JL.nil ?_
 refine zi (fun h9 h9' => ?_) fun h9 h9' => ?_
 · exact absurd h9 (by simp)
 refine Js.skip <| zS <| Qa rfl <| zN <| Qm rfl <| Qm rfl ?_
 refine zhl [1] ?_
 refine zB 1 sp_ rfl (fun w hb hw => c_laws_markProblemS ((M.chkT aS).2.1) 1 hb) ?_
 rintro _ _ G10 ⟨rfl, rfl⟩
 refine znl ?_
 refine Qa rfl <| zN <| Qa rfl <| zN <| Qm rfl <| Qm rfl <| zv rfl (fun w hw => c_laws_heldProblemS (M.mkL M.fP M.sP 1 ((M.chkT aS).2.1)) 1 (flat_rowok lProblem (xs := (M.mkL M.fP M.sP 1 ((M.chkT aS).2.1))) (hw.pr (i := 0) rfl))) <| Qa rfl <| zJ <| zS <| Qm rfl <| Ql rfl rfl <| JL.nil ?_
 refine zi (fun h11 h11' => ?_) fun h11 h11' => ?_
 · exact absurd h11 (by rw [M.held_P _ (by decide)]; simp only [decide_eq_true_eq]; omega)
 refine Js.skip <| Js.seq <| zS <| Qm rfl <| Qm rfl <| Qd rfl rfl <| JL.nil ?_
 refine zi (fun h12 h12' => ?_) fun h12 h12' => ?_
 · exact absurd h12 (by rw [M.held_P _ (by decide)]; simp)
 refine Js.skip <| zS <| Qm rfl <| zp rfl (fun w hw => c_impl_CheckRules aS (ok_ hw)) ?_
 intro u13 x13 A14 c14 h14 bl14 bh14
 refine Qm rfl <| Qx rfl rfl <| Qx rfl rfl <| Qx rfl rfl <| za zeh fun b15 => zw 0 rfl rfl rfl ?_
 refine Qa rfl <| Qa rfl <| zJ <| zS <| Q9 0 rfl rfl ?_
 refine Q9 5 rfl rfl ?_
 refine zv rfl (fun w hw => c_laws_eqRules ((M.chkT aS).1) ((M.chkT aS).1) (ok_ hw) (ok_ hw)) <| Qt rfl <| Qm rfl <| zg (Gd.f1 rfl rfl rfl) (fun hc => p_move rfl) <| zg (Gd.f1 rfl rfl rfl) (fun hc => p_move rfl) <| zgv (Gd.f1 rfl rfl rfl) (fun hc => (opds_2 (gh hc rfl) (gh hc rfl))) (fun hc => (fun w hw => c_laws_eqProblemS ((M.chkT aS).2.1) ((M.chkT aS).2.1) (ok_ hw) (ok_ hw) (r0 := (by have hc9 := hc; (try simp only [Bool.not_eq_true', Bool.not_eq_false', decide_eq_true_eq] at hc9); omega)) (r1 := (by have hc9 := hc; (try simp only [Bool.not_eq_true', Bool.not_eq_false', decide_eq_true_eq] at hc9); omega)))) ?_
 refine zg (Gd.f1 rfl rfl rfl) (fun hc => p_not (gh hc rfl)) <| Qq (p_pickOr rfl rfl rfl) <| Qm rfl <| zg (Gd.f1 rfl rfl rfl) (fun hc => p_move rfl) <| zg (Gd.f1 rfl rfl rfl) (fun hc => p_move rfl) <| zg (Gd.f1 rfl rfl rfl) (fun hc => p_neq (gh hc rfl) (gh hc rfl)) <| Qq (p_pickOr rfl rfl rfl) <| JL.nil ?_
 refine Js.condF rfl h9 ?_
 refine Js.skip <| zS <| Qa rfl <| zN <| Qm rfl <| Qm rfl <| zv rfl (fun w hw => c_laws_heldProblemS (M.mkL M.fP M.sP 1 ((M.chkT aS).2.1)) 1 (flat_rowok lProblem (xs := (M.mkL M.fP M.sP 1 ((M.chkT aS).2.1))) (hw.pr (i := 1) rfl))) <| Qa rfl <| zJ <| zS <| Qm rfl <| Ql rfl rfl <| JL.nil ?_
 refine Js.condF rfl h11 ?_
 refine Js.skip <| Js.seq <| zS <| Qm rfl <| Qm rfl <| Qd rfl rfl <| JL.nil ?_
 refine Js.condF rfl h12 ?_
 refine Js.skip <| zS <| Qa rfl <| JL.nil ?_
 exact zr (x2.trans x13)
end Go.Proofs.YthdmaamdlibjaaaDoor

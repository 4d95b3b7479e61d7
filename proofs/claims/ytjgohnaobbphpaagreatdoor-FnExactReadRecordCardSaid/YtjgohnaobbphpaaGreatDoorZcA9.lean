/- Walks: K49. -/
import Derived.Test.YtjgohnaobbphpaaGreatDoorZcA3
import Derived.Test.YtjgohnaobbphpaaGreatDoorZcA8
import Derived.Test.YtjgohnaobbphpaaGreatDoorZcA4
import Derived.Test.YtjgohnaobbphpaaGreatDoorZcA1
import Derived.Test.YtjgohnaobbphpaaGreatDoorZcA2
set_option linter.unusedSimpArgs false
set_option linter.unusedVariables false
set_option maxRecDepth 100000
attribute [local irreducible] Go.Proofs.YtjgohnaobbphpaaGreatDoor.gv
set_option maxHeartbeats 16000000
namespace Go.Proofs.YtjgohnaobbphpaaGreatDoor
open Go.RowKit
theorem c_spec_l03Index (list : List (List UInt8)) {v_list : Value} (t : List UInt8) {w : World} (h_list : (Ty.strs 9 list).ok w v_list) (r0 : list.length ≤ 4194304 := by exact om_) : RetV Tryz.prog 210 [v_list, .string (sB t)] w (.int .i64 (M.idx list t)) := by
 revert v_list; apply opn
 intro A1 c1 h1 bl1 bh1
 have h_list := h1
 refine enter @Tryz.func210 @Tryz.ntmps210 rfl rfl ?_
 refine zent ?_
 refine zS <| Qa rfl <| zJ <| zS <| Qa rfl <| JL.nil <| Js.block ?_
 refine zl [0, 1] (fun F U l os u m => ∃ (k : Nat), l = F [(5, .int .i64 (k : Int))] ∧ os = U [] ∧ (k ≤ list.length) ∧ (M.Nix list t k) ∧ m = list.length - k) ⟨0, rfl, rfl, zt, by exact M.Nix.zero _ _, rfl⟩ ?_
 rintro _ _ u2 _ ⟨k, rfl, rfl, hk, hN, rfl⟩ x2
 refine zn ?_
 refine Js.seq <| zS <| Qm rfl <| Qm rfl <| Qz rfl <| Ql rfl rfl <| JL.nil ?_
 refine zi (fun h3 h3' => ?_) fun h3 h3' => ?_
 ·
  obtain ⟨ye4, hye4⟩ : ∃ x, list[k]? = some x := ⟨_, List.getElem?_eq_getElem (by omega)⟩
  have hy5 := hye4
  obtain ⟨b5, o5, he5, hc5⟩ := strs_elem (Ty.mono _ h1 x2.vis) hy5
  refine Js.skip <| Js.seq <| Js.block <| zS <| Qm rfl <| Qm rfl <| Qq (p_indexAddr el_31 rfl rfl (by omega) (by omega) he5) <| QC hc5 rfl <| Qm rfl <| Qq (p_eqlT und_9 rfl rfl) <| JL.nil ?_
  refine zi (fun h6 h6' => ?_) fun h6 h6' => ?_
  ·
   have hE := hN.hit hye4 (by simpa using h6)
   refine zS <| Qm rfl <| Qa rfl <| JL.nil ?_
   refine zR x2 ?_
   rw [hE]; rfl
  have hN2 := hN.step hye4 (by simpa using h6)
  refine Js.skip <| Js.blockEnd <| Js.region <| Qm rfl <| Qp rfl rfl <| Qa rfl <| JL.nil ?_
  exact zag ⟨k + 1, rfl, rfl, zt, by exact hN2, rfl⟩ x2
 have hE := hN.miss (by have := h3'; omega)
 refine zx ?_
 refine zS <| Qa rfl <| JL.nil ?_
 refine zR x2 ?_
 rw [hE]; rfl
theorem c_spec_l03Parts (s : List UInt8) {w : World} (r0 : s.length ≤ 4000000 := by exact om_) : Ret Tryz.prog 200 [.string (sB s)] w (Ty.tup [Ty.strs 9 (M.wds s), Ty.ints 2 (M.pls s)]) := by
 refine enter @Tryz.func200 @Tryz.ntmps200 rfl rfl ?_
 refine zent ?_
 refine zS <| Qa rfl <| Qa rfl <| zN <| zbs fun b1 => ?_
 refine Qa rfl <| zN <| zbs fun b3 => ?_
 refine Qa rfl <| zJ <| zS <| Qa rfl <| JL.nil <| Js.block ?_
 refine zl [0] (fun F U l os u m => ∃ (i : Nat) (ps : List Int) (ws : List (List UInt8)) (A5_4 : Option Addr) (c5_4 : Nat) (g5_4 : List Nat) (A5_5 : Option Addr) (c5_5 : Nat) (g5_5 : List Nat), l = F [(4, .slice A5_4 ws.length c5_4), (5, .slice A5_5 ps.length c5_5), (6, .int .i64 (i : Int))] ∧ os = U [some (rowO 2 1 (.slice A5_5 ps.length c5_5) ps.length (ints_ ps) g5_5), some (rowO 9 1 (.slice A5_4 ws.length c5_4) ws.length (txs_ ws) g5_4)] ∧ (M.PrtI s i ws ps) ∧ (i ≤ s.length) ∧ (ws.length ≤ c5_4) ∧ (c5_4 ≤ 9223372036854775807) ∧ (ps.length ≤ c5_5) ∧ (c5_5 ≤ 9223372036854775807) ∧ m = s.length - i) ⟨0, [], [], _, _, _, _, _, _, rfl, rfl, by exact M.PrtI.zero s, zt, zu, zu, zu, zu, rfl⟩ ?_
 rintro _ _ u5 _ ⟨i, ps, ws, A5_4, c5_4, g5_4, A5_5, c5_5, g5_5, rfl, rfl, hP, hi, f5_2, f5_3, f5_4, f5_5, rfl⟩ x5
 refine zn ?_
 obtain ⟨l1, l2⟩ := hP.len
 refine Js.seq <| zS <| Qm rfl <| Qm rfl <| Qq (p_lenS und_9 rfl) <| Ql rfl rfl <| JL.nil ?_
 refine zi (fun h6 h6' => ?_) fun h6 h6' => ?_
 ·
  have hbt7 := M.bat_bd s i
  refine Js.skip <| Js.block <| Js.seq <| zS <| Qm rfl <| Qm rfl <| Qq (p_byteS (i := i) und_9 rfl rfl (by omega)) <| Qe rfl rfl <| JL.nil ?_
  refine zi (fun h8 h8' => ?_) fun h8 h8' => ?_
  ·
   have hP2 := hP.blank (by omega) (by simpa using h8)
   refine zS <| Qm rfl <| Qp rfl rfl <| Qa rfl <| JL.nil ?_
   refine zx ?_
   exact zag ⟨i + 1, ps, ws, _, _, _, _, _, _, rfl, rfl, by exact hP2, zt, zu, zu, zu, zu, rfl⟩ x5
  have hb0 : ¬ M.bat s i = 32 := by simpa using h8
  refine Js.skip <| zS <| Qm rfl <| Qa rfl <| zJ <| Js.block ?_
  refine zl [0, 4, 5, 6] (fun F U l os u m => ∃ (k : Nat), l = F [(7, .int .i64 (k : Int))] ∧ os = U [] ∧ (M.WrdI s i k) ∧ m = s.length - k) ⟨i, rfl, rfl, by exact M.WrdI.zero hi, rfl⟩ ?_
  rintro _ _ u9 _ ⟨k, rfl, rfl, hW, rfl⟩ x9
  refine zn ?_
  have hW1 := hW.l
  have hW3 := hW.u
  have hbt10 := M.bat_bd s k
  refine Js.seq <| zS <| Qm rfl <| Qm rfl <| Qq (p_lenS und_9 rfl) <| Ql rfl rfl <| Qm rfl <| zg (Gd.t1 rfl rfl rfl) (fun hc => p_move rfl) <| zg (Gd.t1 rfl rfl rfl) (fun hc => p_move rfl) <| zg (Gd.t1 rfl rfl rfl) (fun hc => p_byteS (i := k) und_9 (gh hc rfl) (gh hc rfl) (by first | have hc9 := hc; (try simp only [decide_eq_true_eq] at hc9); omega | (have h9 := List.length_pos_iff.2 (by simpa using hc); omega) | (have h9 := hc; simp at h9; omega))) ?_
  refine zg (Gd.t1 rfl rfl rfl) (fun hc => p_neq (gh hc rfl) rfl) <| Qq (p_pickAnd rfl rfl rfl) <| JL.nil ?_
  refine zi (fun h11 h11' => ?_) fun h11 h11' => ?_
  ·
   have hb1 : k < s.length ∧ ¬ M.bat s k = 32 := by have h9 := h11; simp at h9; exact h9
   have hW2 := hW.step hb1.1 hb1.2
   refine Js.skip <| Js.block <| Js.region <| Qm rfl <| Qp rfl rfl <| Qa rfl <| JL.nil <| Js.blockEnd ?_
   exact zag ⟨k + 1, rfl, rfl, by exact hW2, rfl⟩ x9
  have hb2 : k = s.length ∨ k < s.length ∧ M.bat s k = 32 := by have h9 := h11; simp at h9; have := hW.u; by_cases h8 : k < s.length; exact .inr ⟨h8, h9 h8⟩; exact .inl (by omega)
  have hik : i < k := by have := hW.l; rcases Nat.lt_or_ge i k with h8 | h8; exact h8; (have h7 : k = i := by omega); subst h7; rcases hb2 with h9 | ⟨_, h9⟩; omega; exact absurd h9 hb0
  have hP2 := hP.word hW hik hb2
  have hW1 := hW.l
  have hW3 := hW.u
  refine zx ?_
  refine zS <| Qm rfl <| Qm rfl <| Qm rfl <| Qm rfl <| Qq (p_midS (i := i) (j := k) und_9 rfl rfl rfl (by omega) (by omega)) <| zbs fun b12 => ?_
  refine JL.e (e_append (i := 2) (n' := (ws ++ [(s.drop i).take (k - i)]).length) (vs' := txs_ (ws ++ [(s.drop i).take (k - i)])) el_31 rfl rfl rfl rfl (src_row (i := 0) und_31 rfl rfl) (by omega) (by omega) ln2_ (by first | rfl | (simp [txs_]; done))) ?_
  rintro v14 _ _ ⟨⟨g15, rfl⟩, rfl⟩ _
  refine JL.fact (row_form' (i := 2) rfl) (fun hf16 => ?_)
  obtain ⟨A16, c16, rfl, bl16, bh16⟩ := hf16
  refine znl ?_
  refine Qa rfl <| zN <| Qm rfl <| Qm rfl <| zbs fun b17 => ?_
  refine JL.e (e_append (i := 2) (n' := (ps ++ [(i : Int)]).length) (vs' := ints_ (ps ++ [(i : Int)])) el_26 rfl rfl rfl rfl (src_row (i := 0) und_26 rfl rfl) (by omega) (by omega) ln2_ (by simp [ints_])) ?_
  rintro v19 _ _ ⟨⟨g20, rfl⟩, rfl⟩ _
  refine JL.fact (row_form' (i := 2) rfl) (fun hf21 => ?_)
  obtain ⟨A21, c21, rfl, bl21, bh21⟩ := hf21
  refine znl ?_
  refine Qa rfl <| zG <| Qm rfl <| Qa rfl <| JL.nil <| Js.blockEnd ?_
  refine zd [2, 2] rfl fun u22 x22 => ?_
  exact zag ⟨k, ps ++ [(i : Int)], ws ++ [(s.drop i).take (k - i)], _, _, _, _, _, _, rfl, rfl, by exact hP2, zt, zu, zu, zu, zu, rfl⟩ ((x5.trans x9).trans x22)
 obtain ⟨hE1, hE2⟩ := hP.done (by have := h6'; omega)
 have hpl := M.pls_len s
 have hwl := M.wds_len s
 refine zx ?_
 have hq0 : ws = (M.wds s) := by first | exact hE1 | exact hE2
 have hq1 : ps = (M.pls s) := by first | exact hE1 | exact hE2
 refine zS <| Qm rfl <| Qm rfl <| Qa rfl <| Qa rfl <| JL.nil ?_
 exact zro x5 (g := by exact (gv_tup (gvc (gv_strsE (ys := ws) po_ (by assumption) (by rfl)) (gvc gv_ gvn))))
theorem c_spec_l03Cut (s : List UInt8) {w : World} (r0 : s.length ≤ 4194304 := by exact om_) : RetV Tryz.prog 209 [.string (sB s)] w (.tuple #[.string (sB ((M.cutS s [61]).1)), .string (sB ((M.cutS s [61]).2.1)), .bool ((M.cutS s [61]).2.2)]) := by
 refine enter @Tryz.func209 @Tryz.ntmps209 rfl rfl ?_
 refine zent ?_
 refine zS <| Qa rfl <| Qa rfl <| Qa rfl <| zJ <| zS <| Qa rfl <| JL.nil <| Js.block ?_
 refine zl [0] (fun F U l os u m => ∃ (k : Nat), l = F [(5, .int .i64 (k : Int))] ∧ os = U [] ∧ (k ≤ s.length) ∧ (∀ i, i < k → (s.drop i).take ([61] : List UInt8).length ≠ [61]) ∧ m = s.length - k) ⟨0, rfl, rfl, zt, by exact fun i h => absurd h (by omega), rfl⟩ ?_
 rintro _ _ u1 _ ⟨k, rfl, rfl, hk, hn, rfl⟩ x1
 refine zn ?_
 refine Js.seq <| zS <| Qm rfl <| Qm rfl <| Qq (p_lenS und_9 rfl) <| Ql rfl rfl <| JL.nil ?_
 refine zi (fun h2 h2' => ?_) fun h2 h2' => ?_
 ·
  have hks : k + 1 ≤ s.length := by have := h2'; omega
  have hbt3 := M.bat_bd s k
  refine Js.skip <| Js.seq <| Js.block <| zS <| Qm rfl <| Qm rfl <| Qq (p_byteS (i := k) und_9 rfl rfl (by omega)) <| Qe rfl rfl <| JL.nil ?_
  refine zi (fun h4 h4' => ?_) fun h4 h4' => ?_
  ·
   have hE := M.cutS_yes (sep := [61]) hks (M.take1 hks (by simpa using h4)) hn
   refine Js.seq ?_
   refine zdr [] ?_
   refine jM 0 rfl rfl ?_
   refine jM 1 rfl rfl ?_
   refine JH.p 2 rfl (p_takeS (i := k) und_9 rfl rfl (by omega)) ?_
   refine jM 3 rfl rfl ?_
   refine jM 4 rfl rfl ?_
   refine JH.p 5 rfl (p_add rfl rfl (IntWalk.i64_in _ (by omega))) ?_
   refine JH.p 6 rfl (p_dropS (i := k + 1) und_9 rfl rfl (by omega)) ?_
   refine jA 7 rfl rfl ?_
   refine jA 8 rfl rfl ?_
   refine jA 9 rfl rfl ?_
   refine yd ?_
   refine zR x1 ?_
   rw [hE]; rfl
  have hn2 := M.miss_step hn (M.take1n hks (by simpa using h4))
  refine Js.skip <| Js.blockEnd <| Js.region <| Qm rfl <| Qp rfl rfl <| Qa rfl <| JL.nil ?_
  exact zag ⟨k + 1, rfl, rfl, zt, by exact hn2, rfl⟩ x1
 have hE := M.cutS_no (sep := [61]) (k := k) (by have := h2'; simp only [List.length_cons, List.length_nil]; omega) hn
 refine zx ?_
 refine zS <| Qm rfl <| Qa rfl <| Qa rfl <| Qa rfl <| JL.nil ?_
 refine zR x1 ?_
 rw [hE]; rfl
theorem c_spec_l03Word (wd : List UInt8) {w : World} (r0 : wd.length ≤ 4194304 := by exact om_) : RetV Tryz.prog 201 [.string (sB wd)] w (.tuple #[.int .i64 ((M.wrd wd).1), .int .i64 ((M.wrd wd).2.1), .int .i64 ((M.wrd wd).2.2)]) := by
 have hcl := M.cutS_len wd [61]
 have hl9 : M.fieldNames.length = 9 := rfl
 have hl4 : M.capNames.length = 4 := rfl
 have hl3 : M.slamNames.length = 3 := rfl
 have hkb := M.idx_bd M.fieldNames (M.cutS wd [61]).1
 have hsb := M.idx_bd M.slamNames (M.cutS wd [61]).2.1
 have hpb := M.idx_bd M.capNames (M.cutS wd [61]).2.1
 obtain ⟨hnb1, hnb2⟩ := M.num_bd (M.cutS wd [61]).2.1
 refine enter @Tryz.func201 @Tryz.ntmps201 rfl rfl ?_
 refine zent ?_
 refine zS <| Qa rfl <| Qa rfl <| Qa rfl <| zN <| Qm rfl <| zv rfl (fun w hw => c_spec_l03Cut wd) <| Qm rfl <| Qx rfl rfl <| Qx rfl rfl <| Qx rfl rfl <| Qa rfl <| Qa rfl <| Qa rfl ?_
 refine zN <| zp rfl (fun w hw => c_spec_FieldNames) ?_
 intro u1 x1 A2 c2 h2 bl2 bh2
 refine Qm rfl <| zv rfl (fun w hw => c_spec_l03Index M.fieldNames ((M.cutS wd [61]).1) (ok_ hw)) <| Qa rfl <| zJ <| zS <| Qm rfl <| Ql rfl rfl <| Qm rfl <| zg (Gd.f1 rfl rfl rfl) (fun hc => p_move rfl) <| zg (Gd.f1 rfl rfl rfl) (fun hc => p_move rfl) <| zgv (Gd.f1 rfl rfl rfl) (fun hc => (opds_3 (gh hc rfl) rfl rfl)) (fun hc => (fun w hw => c_spec_l00In (M.idx M.fieldNames ((M.cutS wd [61]).1)) 2 6)) ?_
 refine zg (Gd.f1 rfl rfl rfl) (fun hc => p_eqlB und_4 (gh hc rfl) (gh hc rfl)) <| Qq (p_pickOr rfl rfl rfl) <| JL.nil ?_
 refine zi (fun h3 h3' => ?_) fun h3 h3' => ?_
 ·
  have hE := M.wrd_1 (w := wd) (by have h9 := h3; simp only [Bool.or_eq_true, decide_eq_true_eq, beq_iff_eq] at h9; exact h9)
  refine zS <| Qa rfl <| Qa rfl <| Qa rfl <| JL.nil ?_
  refine zR x1 ?_
  rw [hE]; rfl
 have h1 : ¬ ((M.idx M.fieldNames (M.cutS wd [61]).1) < 0 ∨ (M.cutS wd [61]).2.2 = M.betw (M.idx M.fieldNames (M.cutS wd [61]).1) 2 6) := by have h9 := h3; simp only [Bool.or_eq_false_iff, decide_eq_false_iff_not, beq_eq_false_iff_ne] at h9; rintro (h8 | h8); exact h9.1 h8; exact h9.2 h8
 refine Js.skip <| Js.seq <| zS <| Qm rfl <| JL.nil <| Js.block <| Js.seq <| zS <| Qe rfl rfl <| Qa rfl <| JL.nil ?_
 refine zi (fun h4 h4' => ?_) fun h4 h4' => ?_
 ·
  refine Js.skip ?_
  refine Js.condT rfl h4 ?_
  refine zS <| Qm rfl <| zv rfl (fun w hw => c_spec_l01Number ((M.cutS wd [61]).2.1)) <| Qm rfl <| Qx rfl rfl <| Qx rfl rfl <| Qa rfl <| Qa rfl <| zJ <| zS <| Qm rfl <| Qt rfl <| JL.nil ?_
  refine zi (fun h5 h5' => ?_) fun h5 h5' => ?_
  ·
   have hE := M.wrd_3 h1 (by omega) (by simpa using h5)
   refine zS <| Qm rfl <| Qa rfl <| Qa rfl <| Qa rfl <| JL.nil ?_
   refine zR x1 ?_
   rw [hE]; rfl
  have hn : (M.num (M.cutS wd [61]).2.1).2 = true := by simpa using h5
  refine Js.skip <| Js.seq <| zS <| Qm rfl <| Qe rfl rfl <| Qm rfl <| zT (Gd.t1 rfl rfl rfl) (show (decide (M.idx M.fieldNames ((M.cutS wd [61]).1) = 0)) = true by first | exact h4 | (rw [h4]; rfl) | simp [h4]) <| Qm rfl <| zT (Gd.t1 rfl rfl rfl) (show (decide (M.idx M.fieldNames ((M.cutS wd [61]).1) = 0)) = true by first | exact h4 | (rw [h4]; rfl) | simp [h4]) <| zv rfl (fun w hw => c_spec_l00In ((M.num ((M.cutS wd [61]).2.1)).1) 2 8) <| zT (Gd.t1 rfl rfl rfl) (show (decide (M.idx M.fieldNames ((M.cutS wd [61]).1) = 0)) = true by first | exact h4 | (rw [h4]; rfl) | simp [h4]) <| Qt rfl <| Qq (p_pickAnd2 rfl rfl rfl) <| Qm rfl ?_
  refine zg (Gd.f1 rfl rfl rfl) (fun hc => p_move rfl) <| zg (Gd.f1 rfl rfl rfl) (fun hc => p_eql (gh hc rfl) rfl) <| zg (Gd.f1 rfl rfl rfl) (fun hc => p_move (gh hc rfl)) <| zg (Gd.t2 rfl rfl rfl) (fun hc => p_move rfl) <| zgv (Gd.t2 rfl rfl rfl) (fun hc => (opds_3 (gh hc rfl) rfl rfl)) (fun hc => (fun w hw => c_spec_l00In ((M.num ((M.cutS wd [61]).2.1)).1) 1 6)) ?_
  refine zg (Gd.t2 rfl rfl rfl) (fun hc => p_not (gh hc rfl)) <| zg (Gd.f1 rfl rfl rfl) (fun hc => p_pickAnd (gh hc rfl) (gvl rfl hc) rfl) <| Qq (p_pickOr rfl rfl rfl) <| JL.nil ?_
  refine zi (fun h6 h6' => ?_) fun h6 h6' => ?_
  ·
   have hE := M.wrd_4 h1 (by omega) hn (by have h9 := h6; simp only [Bool.or_eq_true, Bool.and_eq_true, decide_eq_true_eq, Bool.not_eq_true'] at h9; rcases h9 with h9 | h9 <;> first | exact .inl h9 | exact .inr h9 | exact absurd h9.2 (by decide))
   refine zS <| Qm rfl <| Qa rfl <| Qa rfl <| Qa rfl <| JL.nil ?_
   refine zR x1 ?_
   rw [hE]; rfl
  have hE := M.wrd_0 h1 (by omega) hn (by have h9 := h6; intro h8; have h7 := Bool.eq_false_iff.1 h9; apply h7; simp only [Bool.or_eq_true, Bool.and_eq_true, decide_eq_true_eq, Bool.not_eq_true']; rcases h8 with h8 | h8 <;> first | exact .inl h8 | exact .inr h8 | exact absurd h8.1 (by omega))
  refine Js.skip <| zS <| Qm rfl <| Qm rfl <| Qa rfl <| Qa rfl <| Qa rfl <| JL.nil ?_
  refine zR x1 ?_
  rw [hE]; rfl
 refine Js.region <| Qe rfl rfl <| Qa rfl <| JL.nil ?_
 refine zi (fun h7 h7' => ?_) fun h7 h7' => ?_
 ·
  refine zS <| Qm rfl <| zv rfl (fun w hw => c_spec_l01Number ((M.cutS wd [61]).2.1)) <| Qm rfl <| Qx rfl rfl <| Qx rfl rfl <| Qa rfl <| Qa rfl <| zJ <| zS <| Qm rfl <| Qt rfl <| JL.nil ?_
  refine zi (fun h8 h8' => ?_) fun h8 h8' => ?_
  ·
   have hE := M.wrd_3 h1 (by omega) (by simpa using h8)
   refine zS <| Qm rfl <| Qa rfl <| Qa rfl <| Qa rfl <| JL.nil ?_
   refine zR x1 ?_
   rw [hE]; rfl
  have hn : (M.num (M.cutS wd [61]).2.1).2 = true := by simpa using h8
  refine Js.skip <| Js.seq <| zS <| Qm rfl <| Qe rfl rfl <| Qm rfl ?_
  refine JL.g (v := undef) (Gd.t1 rfl rfl rfl) (fun hc => absurd hc (by first | (rw [h4]; simp; done) | simp [h4])) ?_
  refine JL.g (v := .bool false) (Gd.t1 rfl rfl rfl) (fun hc => absurd hc (by first | (rw [h4]; simp; done) | simp [h4])) ?_
  refine JL.g (v := .bool false) (Gd.t1 rfl rfl rfl) (fun hc => absurd hc (by first | (rw [h4]; simp; done) | simp [h4])) ?_
  refine Qq (p_pickAnd rfl rfl rfl) <| Qm rfl <| zg (Gd.f1 rfl rfl rfl) (fun hc => p_move rfl) <| zg (Gd.f1 rfl rfl rfl) (fun hc => p_eql (gh hc rfl) rfl) <| zg (Gd.f1 rfl rfl rfl) (fun hc => p_move (gh hc rfl)) <| zg (Gd.t2 rfl rfl rfl) (fun hc => p_move rfl) <| zgv (Gd.t2 rfl rfl rfl) (fun hc => (opds_3 (gh hc rfl) rfl rfl)) (fun hc => (fun w hw => c_spec_l00In ((M.num ((M.cutS wd [61]).2.1)).1) 1 6)) ?_
  refine zg (Gd.t2 rfl rfl rfl) (fun hc => p_not (gh hc rfl)) <| zg (Gd.f1 rfl rfl rfl) (fun hc => p_pickAnd (gh hc rfl) (gvl rfl hc) rfl) <| Qq (p_pickOr rfl rfl rfl) <| JL.nil ?_
  refine zi (fun h9 h9' => ?_) fun h9 h9' => ?_
  ·
   have hE := M.wrd_4 h1 (by omega) hn (by have h9 := h9; simp only [Bool.or_eq_true, Bool.and_eq_true, decide_eq_true_eq, Bool.not_eq_true'] at h9; rcases h9 with h9 | h9 <;> first | exact .inl h9 | exact .inr h9 | exact absurd h9.2 (by decide))
   refine zS <| Qm rfl <| Qa rfl <| Qa rfl <| Qa rfl <| JL.nil ?_
   refine zR x1 ?_
   rw [hE]; rfl
  have hE := M.wrd_0 h1 (by omega) hn (by have h9 := h9; intro h8; have h7 := Bool.eq_false_iff.1 h9; apply h7; simp only [Bool.or_eq_true, Bool.and_eq_true, decide_eq_true_eq, Bool.not_eq_true']; rcases h8 with h8 | h8 <;> first | exact .inl h8 | exact .inr h8 | exact absurd h8.1 (by omega))
  refine Js.skip <| zS <| Qm rfl <| Qm rfl <| Qa rfl <| Qa rfl <| Qa rfl <| JL.nil ?_
  refine zR x1 ?_
  rw [hE]; rfl
 refine Js.seq <| zS <| Qe rfl rfl <| Qa rfl <| JL.nil ?_
 refine zi (fun h10 h10' => ?_) fun h10 h10' => ?_
 ·
  refine Js.skip ?_
  refine Js.condT rfl h10 ?_
  refine zS <| zp rfl (fun w hw => c_spec_l06Names) ?_
  intro u11 x11 A12 c12 h12 bl12 bh12
  refine Qa rfl <| zJ <| zS <| Qm rfl <| Qe rfl rfl <| JL.nil ?_
  refine zi (fun h13 h13' => ?_) fun h13 h13' => ?_
  ·
   refine Js.region <| zp rfl (fun w hw => c_spec_l03Slams) ?_
   intro u14 x14 A15 c15 h15 bl15 bh15
   refine Qa rfl <| zN <| Qm rfl <| Qm rfl <| zv rfl (fun w hw => c_spec_l03Index M.slamNames ((M.cutS wd [61]).2.1) (ok_ hw)) <| Qa rfl <| zJ <| zS <| Qm rfl <| Ql rfl rfl <| JL.nil ?_
   refine zi (fun h16 h16' => ?_) fun h16 h16' => ?_
   ·
    have hE := M.wrd_5 (w := wd) h1 (by omega) (by omega) (by first | rw [if_pos (by omega)] | rw [if_neg (by omega)]) (by have := h16'; assumption)
    refine zS <| Qm rfl <| Qa rfl <| Qa rfl <| Qa rfl <| JL.nil ?_
    refine zR ((x1.trans x11).trans x14) ?_
    rw [hE]; rfl
   have hE := M.wrd_6 (w := wd) h1 (by omega) (by omega) (by first | rw [if_pos (by omega)] | rw [if_neg (by omega)]) (by have := h16'; omega)
   refine Js.skip <| zS <| Qm rfl <| Qm rfl <| Qa rfl <| Qa rfl <| Qa rfl <| JL.nil ?_
   refine zR ((x1.trans x11).trans x14) ?_
   rw [hE]; rfl
  refine Js.skip <| zS <| Qm rfl <| Qm rfl <| zv rfl (fun w hw => c_spec_l03Index M.capNames ((M.cutS wd [61]).2.1) (ok_ hw)) <| Qa rfl <| zJ <| zS <| Qm rfl <| Ql rfl rfl <| JL.nil ?_
  refine zi (fun h17 h17' => ?_) fun h17 h17' => ?_
  ·
   have hE := M.wrd_5 (w := wd) h1 (by omega) (by omega) (by first | rw [if_pos (by omega)] | rw [if_neg (by omega)]) (by have := h17'; assumption)
   refine zS <| Qm rfl <| Qa rfl <| Qa rfl <| Qa rfl <| JL.nil ?_
   refine zR (x1.trans x11) ?_
   rw [hE]; rfl
  have hE := M.wrd_6 (w := wd) h1 (by omega) (by omega) (by first | rw [if_pos (by omega)] | rw [if_neg (by omega)]) (by have := h17'; omega)
  refine Js.skip <| zS <| Qm rfl <| Qm rfl <| Qa rfl <| Qa rfl <| Qa rfl <| JL.nil ?_
  refine zR (x1.trans x11) ?_
  rw [hE]; rfl
 refine Js.region <| Qe rfl rfl <| Qa rfl <| JL.nil ?_
 refine zi (fun h18 h18' => ?_) fun h18 h18' => ?_
 ·
  refine zS <| zp rfl (fun w hw => c_spec_l06Names) ?_
  intro u19 x19 A20 c20 h20 bl20 bh20
  refine Qa rfl <| zJ <| zS <| Qm rfl <| Qe rfl rfl <| JL.nil ?_
  refine Js.condT rfl h18 ?_
  refine Js.region <| zp rfl (fun w hw => c_spec_l03Slams) ?_
  intro u21 x21 A22 c22 h22 bl22 bh22
  refine Qa rfl <| zN <| Qm rfl <| Qm rfl <| zv rfl (fun w hw => c_spec_l03Index M.slamNames ((M.cutS wd [61]).2.1) (ok_ hw)) <| Qa rfl <| zJ <| zS <| Qm rfl <| Ql rfl rfl <| JL.nil ?_
  refine zi (fun h23 h23' => ?_) fun h23 h23' => ?_
  ·
   have hE := M.wrd_5 (w := wd) h1 (by omega) (by omega) (by first | rw [if_pos (by omega)] | rw [if_neg (by omega)]) (by have := h23'; assumption)
   refine zS <| Qm rfl <| Qa rfl <| Qa rfl <| Qa rfl <| JL.nil ?_
   refine zR ((x1.trans x19).trans x21) ?_
   rw [hE]; rfl
  have hE := M.wrd_6 (w := wd) h1 (by omega) (by omega) (by first | rw [if_pos (by omega)] | rw [if_neg (by omega)]) (by have := h23'; omega)
  refine Js.skip <| zS <| Qm rfl <| Qm rfl <| Qa rfl <| Qa rfl <| Qa rfl <| JL.nil ?_
  refine zR ((x1.trans x19).trans x21) ?_
  rw [hE]; rfl
 have hE := M.wrd_7 h1 (by omega) (by omega)
 refine Js.skip <| Js.blockEnd <| zS <| Qm rfl <| Qa rfl <| Qa rfl <| Qa rfl <| JL.nil ?_
 refine zR x1 ?_
 rw [hE]; rfl
theorem c_spec_l03Rules (v : List Int) {v_v : Value} {w : World} (h_v : (Ty.ints 2 v).ok w v_v) (r0 : v.length = 9 := by exact om_) : Ret Tryz.prog 202 [v_v] w (Ty.agg (cRules (M.rulV v))) := by
 revert v_v; apply opn
 intro A1 c1 h1 bl1 bh1
 have h_v := h1
 refine enter @Tryz.func202 @Tryz.ntmps202 rfl rfl ?_
 refine zent ?_
 refine zS <| za zeh fun b2 => zJ ?_
 refine zdr [33] ?_
 refine jM 0 rfl rfl ?_
 obtain ⟨b3, o3, he3, hc3⟩ := ints_elem h1 (i := 0) (by omega)
 refine jI 1 el_26 rfl rfl rfl he3 ?_
 refine jW 2 ty_2 rfl rfl hc3.vis ?_
 refine jM 3 rfl rfl ?_
 obtain ⟨b4, o4, he4, hc4⟩ := ints_elem h1 (i := 1) (by omega)
 refine jI 4 el_26 rfl rfl rfl he4 ?_
 refine jW 5 ty_2 rfl rfl hc4.vis ?_
 refine jM 6 rfl rfl ?_
 obtain ⟨b5, o5, he5, hc5⟩ := ints_elem h1 (i := 2) (by omega)
 refine jI 7 el_26 rfl rfl rfl he5 ?_
 refine jW 8 ty_2 rfl rfl hc5.vis ?_
 refine JH.p 9 rfl (p_eql rfl rfl) ?_
 refine jM 10 rfl rfl ?_
 obtain ⟨b6, o6, he6, hc6⟩ := ints_elem h1 (i := 3) (by omega)
 refine jI 11 el_26 rfl rfl rfl he6 ?_
 refine jW 12 ty_2 rfl rfl hc6.vis ?_
 refine JH.p 13 rfl (p_eql rfl rfl) ?_
 refine jM 14 rfl rfl ?_
 obtain ⟨b7, o7, he7, hc7⟩ := ints_elem h1 (i := 4) (by omega)
 refine jI 15 el_26 rfl rfl rfl he7 ?_
 refine jW 16 ty_2 rfl rfl hc7.vis ?_
 refine JH.p 17 rfl (p_eql rfl rfl) ?_
 refine jM 18 rfl rfl ?_
 obtain ⟨b8, o8, he8, hc8⟩ := ints_elem h1 (i := 5) (by omega)
 refine jI 19 el_26 rfl rfl rfl he8 ?_
 refine jW 20 ty_2 rfl rfl hc8.vis ?_
 refine JH.p 21 rfl (p_eql rfl rfl) ?_
 refine jM 22 rfl rfl ?_
 obtain ⟨b9, o9, he9, hc9⟩ := ints_elem h1 (i := 6) (by omega)
 refine jI 23 el_26 rfl rfl rfl he9 ?_
 refine jW 24 ty_2 rfl rfl hc9.vis ?_
 refine JH.p 25 rfl (p_eql rfl rfl) ?_
 refine jM 26 rfl rfl ?_
 obtain ⟨b10, o10, he10, hc10⟩ := ints_elem h1 (i := 7) (by omega)
 refine jI 27 el_26 rfl rfl rfl he10 ?_
 refine jW 28 ty_2 rfl rfl hc10.vis ?_
 refine jM 29 rfl rfl ?_
 obtain ⟨b11, o11, he11, hc11⟩ := ints_elem h1 (i := 8) (by omega)
 refine jI 30 el_26 rfl rfl rfl he11 ?_
 refine jW 31 ty_2 rfl rfl hc11.vis ?_
 refine JH.p 32 rfl (q_bld) ?_
 refine y1 33 ?_
 refine yst rfl rfl rfl ?_
 refine yd ?_
 have hq0 : (M.nth v 0) = (M.rulV v).pits := by first | rfl | (simp; done) | omega
 have hq1 : (M.nth v 1) = (M.rulV v).seeds := by first | rfl | (simp; done) | omega
 have hq2 : (decide (M.nth v 2 = 1)) = (M.rulV v).stores := by first | rfl | (simp; done) | omega
 have hq3 : (decide (M.nth v 3 = 1)) = (M.rulV v).skip := by first | rfl | (simp; done) | omega
 have hq4 : (decide (M.nth v 4 = 1)) = (M.rulV v).relay := by first | rfl | (simp; done) | omega
 have hq5 : (decide (M.nth v 5 = 1)) = (M.rulV v).feed := by first | rfl | (simp; done) | omega
 have hq6 : (decide (M.nth v 6 = 1)) = (M.rulV v).again := by first | rfl | (simp; done) | omega
 have hq7 : (M.nth v 7) = (M.rulV v).capture := by first | rfl | (simp; done) | omega
 have hq8 : (M.nth v 8) = (M.rulV v).slam := by first | rfl | (simp; done) | omega
 exact zro (Up.refl _ _)
theorem c_spec_l03Check (s : List UInt8) {w : World} (r0 : s.length ≤ 1000000 := by exact om_) : Ret Tryz.prog 185 [.string (sB s)] w (Ty.tup [Ty.agg (cRules (M.chkR s)), Ty.sl 239 3 (M.chkO s).length (lProblem (M.chkO s))]) := by
 have hwl := M.wds_len s
 have hpl := M.pls_len s
 have hl9 : M.fieldNames.length = 9 := rfl
 refine enter @Tryz.func185 @Tryz.ntmps185 rfl rfl ?_
 refine zent ?_
 refine zS <| za zeh fun b1 => Qa rfl <| zN <| Qm rfl <| zp rfl (fun w hw => c_spec_l03Parts s) ?_
 intro u2 x2 A3 c3 h3 bl3 bh3 A4 c4 h4 bl4 bh4
 refine Qm rfl <| Qx rfl rfl <| Qx rfl rfl <| Qa rfl <| Qa rfl <| zN <| zmk (a0 := 9) (m := 9) (by omega) (by omega) fun b5 => Qa rfl <| zN <| zmkF vcbool false (a0 := 9) (m := 9) (by omega) (by omega) fun b6 => Qa rfl <| zN <| zbs fun b7 => ?_
 refine Qa rfl <| zN <| Qa rfl <| zJ <| zS <| Qa rfl <| JL.nil <| Js.block ?_
 refine zl [0, 2, 4, 5, 6, 7] (fun F U l os u m => ∃ (k : Nat) (v : List Int) (seen : List Bool) (again : Int) (out : List M.Prb) (A9_8 : Option Addr) (c9_8 : Nat) (g9_8 : List Nat), l = F [(8, .slice A9_8 out.length c9_8), (9, .int .i64 again), (10, .int .i64 (k : Int))] ∧ os = U [some (rowO 239 3 (.slice A9_8 out.length c9_8) out.length (fltV vcProblem out) g9_8), some (rowO 4 1 (.slice (some ⟨b6, 0, none⟩) 9 9) 9 (fltV vcbool seen) []), some (rowO 2 1 (.slice (some ⟨b5, 0, none⟩) 9 9) 9 (ints_ v) [])] ∧ (M.chkN s k = ⟨v, seen, again, out⟩) ∧ (k ≤ (M.wds s).length) ∧ (out.length ≤ c9_8) ∧ (c9_8 ≤ 9223372036854775807) ∧ m = (M.wds s).length - k) ⟨0, List.replicate 9 0, List.replicate 9 false, 0, [], _, _, _, rfl, rfl, by rfl, zt, zu, zu, rfl⟩ ?_
 rintro _ _ u9 _ ⟨k, v, seen, again, out, A9_8, c9_8, g9_8, rfl, rfl, hC, hk, f9_2, f9_3, rfl⟩ x9
 refine zn ?_
 obtain ⟨hv9, hs9, ho9⟩ := M.chkN_len s k
 rw [hC] at hv9 hs9 ho9
 dsimp only at hv9 hs9 ho9
 refine Js.seq <| zS <| Qm rfl <| Qm rfl <| Qz rfl <| Ql rfl rfl <| JL.nil ?_
 refine zi (fun h10 h10' => ?_) fun h10 h10' => ?_
 ·
  obtain ⟨ye11, hye11⟩ : ∃ x, (M.wds s)[k]? = some x := ⟨_, List.getElem?_eq_getElem (by omega)⟩
  have hY : (M.wds s)[k]? = some ye11 := hye11
  have hw9 := M.wds_mem hY
  obtain ⟨w1, w2, w3, w4, w5, w6⟩ := M.wrd_bd ye11
  have w7 := M.wrd_ne2 ye11
  have hy12 := hye11
  obtain ⟨b12, o12, he12, hc12⟩ := strs_elem (Ty.mono _ h3 x9.vis) hy12
  have hy13 : seen[((M.wrd ye11).1).toNat]? = some (M.blt seen (((M.wrd ye11).1).toNat)) := M.blt_get len_
  refine Js.skip <| Js.seq <| Js.block <| zS <| Qm rfl <| Qm rfl <| Qq (p_indexAddr el_31 rfl rfl (by omega) (by omega) he12) <| QC hc12 rfl <| zv rfl (fun w hw => c_spec_l03Word ye11) <| Qm rfl <| Qx rfl rfl <| Qx rfl rfl <| Qx rfl rfl <| Qa rfl ?_
  refine Qa rfl <| Qa rfl <| zJ <| zS <| Qm rfl <| Qd rfl rfl <| Qm rfl <| zg (Gd.t1 rfl rfl rfl) (fun hc => p_move rfl) <| zg (Gd.t1 rfl rfl rfl) (fun hc => p_move rfl) <| zg (Gd.t1 rfl rfl rfl) (fun hc => p_indexAddr el_237 (gh hc rfl) (gh hc rfl) (by have hc9 := hc; (try simp only [Bool.not_eq_true', decide_eq_false_iff_not] at hc9); first | omega | (simp only [List.length_set, List.length_append, List.length_cons, List.length_nil, List.length_take, List.length_drop, List.length_replicate]; omega)) (by have hc9 := hc; (try simp only [Bool.not_eq_true', decide_eq_false_iff_not] at hc9); first | omega | (simp only [List.length_set, List.length_append, List.length_cons, List.length_nil, List.length_take, List.length_drop, List.length_replicate]; omega)) rfl) ?_
  refine zgq (Gd.t1 rfl rfl rfl) (fun hc => q_load1 ty_4.h (gh hc rfl) (fun w hw => (Mem.rowR' (i := 1) rfl (fltV_at (C := vcbool) (fun _ => rfl) hy13) w hw) 0 _ rfl)) <| Qq (p_pickAnd rfl rfl rfl) <| JL.nil ?_
  refine zi (fun h14 h14' => ?_) fun h14 h14' => ?_
  ·
   have hq : ¬ (M.wrd ye11).2.2 = 1 ∧ M.blt seen (M.wrd ye11).1.toNat = true := by have h9 := h14; simp at h9; exact h9
   have hE := M.chk_t hC hY hq.1 hq.2
   refine Js.region <| Qa rfl <| zJ <| zS <| Qm rfl <| Qd rfl rfl <| JL.nil ?_
   refine Js.condT rfl (by decide) ?_
   refine zdr [12] ?_
   refine jM 0 rfl rfl ?_
   refine jM 1 rfl rfl ?_
   refine jM 2 rfl rfl ?_
   refine jM 3 rfl rfl ?_
   obtain ⟨b15, o15, he15, hc15⟩ := ints_elem (Ty.mono _ h4 x9.vis) (i := k) (by omega)
   refine jI 4 el_26 rfl rfl rfl he15 ?_
   refine jW 5 ty_2 rfl rfl hc15.vis ?_
   refine jM 6 rfl rfl ?_
   refine jM 7 rfl rfl ?_
   have hy16 := hye11
   obtain ⟨b16, o16, he16, hc16⟩ := strs_elem (Ty.mono _ h3 x9.vis) hy16
   refine jI 8 el_31 rfl rfl rfl he16 ?_
   refine jW 9 ty_9 rfl rfl hc16.vis ?_
   refine JH.p 10 rfl (q_bld) ?_
   refine y1 11 ?_
   refine ybs rfl fun b17 => ?_
   refine y1 12 ?_
   refine JHo.e rfl (e_append (i := 1) (n' := (out ++ [(M.Prb.mk 2 (M.nth (M.pls s) k) ye11)]).length) (vs' := fltV vcProblem (out ++ [(M.Prb.mk 2 (M.nth (M.pls s) k) ye11)])) el_215 rfl rfl rfl rfl (src_row (i := 0) und_215 rfl rfl) (by omega) (by omega) ln2_ (by first | rfl | exact fltV_app _ _ _ | exact fltV_snoc _ _ _ | (simp [fltV]; done))) (.inr rfl) ?_
   rintro v19 _ _ ⟨⟨g20, rfl⟩, rfl⟩ _
   refine JH.fact (row_form' (i := 1) rfl) (fun hf21 => ?_)
   obtain ⟨A21, c21, rfl, bl21, bh21⟩ := hf21
   refine znh ?_
   refine jA 13 rfl rfl ?_
   refine yd ?_
   refine Js.seq <| zS <| Qm rfl <| Qe rfl rfl <| Qm rfl <| zg (Gd.f1 rfl rfl rfl) (fun hc => p_move rfl) <| zg (Gd.f1 rfl rfl rfl) (fun hc => p_eql (gh hc rfl) rfl) <| Qq (p_pickOr rfl rfl rfl) <| JL.nil ?_
   refine zi (fun h22 h22' => ?_) fun h22 h22' => ?_
   ·
    refine zx ?_
    refine Js.region <| Qm rfl <| Qp rfl rfl <| Qa rfl <| JL.nil ?_
    refine zd [1, 1, 1, 1] rfl fun u23 x23 => ?_
    exact zag ⟨k + 1, v, seen, again, out ++ [(M.Prb.mk 2 (M.nth (M.pls s) k) ye11)], _, _, _, rfl, rfl, by first | exact hE | (exfalso; omega) | (exfalso; simp at hx; done), zt, zu, zu, rfl⟩ (x9.trans x23)
   have hx := h22
   have hy24 : seen[((M.wrd ye11).1).toNat]? = some (M.blt seen (((M.wrd ye11).1).toNat)) := M.blt_get len_
   refine Js.skip <| zS <| Qm rfl <| Qm rfl <| Qq (p_indexAddr el_237 rfl rfl len_ len_ rfl) ?_
   refine JL.s (e_storeRow (i := 2) (xs' := fltV vcbool (seen.set (((M.wrd ye11).1).toNat) true)) ty_4.h rfl rfl rfl rfl rfl rfl (fltV_lt (C := vcbool) (j := 0) (fun _ => rfl) len_ (by decide)) (fltV_set (C := vcbool) (y := true) (fun _ => rfl) len_)) ?_
   rintro _ _ _ ⟨rfl, rfl⟩ _
   refine znl ?_
   refine zN <| Qm rfl <| Qm rfl <| Qm rfl <| Qq (p_indexAddr el_26 rfl rfl (by omega) (by omega) rfl) ?_
   refine JL.s (e_storeRow (i := 3) (xs' := ints_ (M.setI v ((M.wrd ye11).1) ((M.wrd ye11).2.1))) ty_2.h rfl rfl rfl rfl rfl rfl (ints_lt (i := ((M.wrd ye11).1).toNat) (by omega)) (ints_setL (i := ((M.wrd ye11).1).toNat) (by omega))) ?_
   rintro _ _ _ ⟨rfl, rfl⟩ _
   refine znl ?_
   refine zN <| Qm rfl <| Qe rfl rfl <| JL.nil ?_
   refine zi (fun h26 h26' => ?_) fun h26 h26' => ?_
   ·
    obtain ⟨b27, o27, he27, hc27⟩ := ints_elem (Ty.mono _ h4 x9.vis) (i := k) (by omega)
    refine Js.region <| Qm rfl <| Qm rfl <| Qq (p_indexAddr el_26 rfl rfl (by omega) (by omega) he27) <| QC hc27 rfl <| Qa rfl <| JL.nil <| Js.blockEnd <| Js.region <| Qm rfl <| Qp rfl rfl <| Qa rfl <| JL.nil ?_
    refine zd [1, 1, 1, 1] rfl fun u28 x28 => ?_
    exact zag ⟨k + 1, M.setI v ((M.wrd ye11).1) ((M.wrd ye11).2.1), seen.set (((M.wrd ye11).1).toNat) true, M.nth (M.pls s) k, out ++ [(M.Prb.mk 2 (M.nth (M.pls s) k) ye11)], _, _, _, rfl, rfl, by first | exact hE | (exfalso; omega) | (exfalso; simp at hx; done), zt, zu, zu, rfl⟩ (x9.trans x28)
   refine Js.skip <| Js.blockEnd <| Js.region <| Qm rfl <| Qp rfl rfl <| Qa rfl <| JL.nil ?_
   refine zd [1, 1, 1, 1] rfl fun u29 x29 => ?_
   exact zag ⟨k + 1, M.setI v ((M.wrd ye11).1) ((M.wrd ye11).2.1), seen.set (((M.wrd ye11).1).toNat) true, again, out ++ [(M.Prb.mk 2 (M.nth (M.pls s) k) ye11)], _, _, _, rfl, rfl, by first | exact hE | (exfalso; omega) | (exfalso; simp at hx; done), zt, zu, zu, rfl⟩ (x9.trans x29)
  have hq : ¬ (M.wrd ye11).2.2 = 1 → M.blt seen (M.wrd ye11).1.toNat = false := by have h9 := h14; simp at h9; exact h9
  refine Js.skip <| Js.seq <| zS <| Qm rfl <| Qd rfl rfl <| JL.nil ?_
  refine zi (fun h30 h30' => ?_) fun h30 h30' => ?_
  ·
   have h0 : ¬ (M.wrd ye11).2.2 = 0 := by simpa using h30
   have hZ := fun (h1 : ¬ (M.wrd ye11).2.2 = 1) => M.chk_o hC hY h1 (by rw [hq h1]; decide) h0
   refine zdr [12] ?_
   refine jM 0 rfl rfl ?_
   refine jM 1 rfl rfl ?_
   refine jM 2 rfl rfl ?_
   refine jM 3 rfl rfl ?_
   obtain ⟨b31, o31, he31, hc31⟩ := ints_elem (Ty.mono _ h4 x9.vis) (i := k) (by omega)
   refine jI 4 el_26 rfl rfl rfl he31 ?_
   refine jW 5 ty_2 rfl rfl hc31.vis ?_
   refine jM 6 rfl rfl ?_
   refine jM 7 rfl rfl ?_
   have hy32 := hye11
   obtain ⟨b32, o32, he32, hc32⟩ := strs_elem (Ty.mono _ h3 x9.vis) hy32
   refine jI 8 el_31 rfl rfl rfl he32 ?_
   refine jW 9 ty_9 rfl rfl hc32.vis ?_
   refine JH.p 10 rfl (q_bld) ?_
   refine y1 11 ?_
   refine ybs rfl fun b33 => ?_
   refine y1 12 ?_
   refine JHo.e rfl (e_append (i := 1) (n' := (out ++ [(M.Prb.mk ((M.wrd ye11).2.2) (M.nth (M.pls s) k) ye11)]).length) (vs' := fltV vcProblem (out ++ [(M.Prb.mk ((M.wrd ye11).2.2) (M.nth (M.pls s) k) ye11)])) el_215 rfl rfl rfl rfl (src_row (i := 0) und_215 rfl rfl) (by omega) (by omega) ln2_ (by first | rfl | exact fltV_app _ _ _ | exact fltV_snoc _ _ _ | (simp [fltV]; done))) (.inr rfl) ?_
   rintro v35 _ _ ⟨⟨g36, rfl⟩, rfl⟩ _
   refine JH.fact (row_form' (i := 1) rfl) (fun hf37 => ?_)
   obtain ⟨A37, c37, rfl, bl37, bh37⟩ := hf37
   refine znh ?_
   refine jA 13 rfl rfl ?_
   refine yd ?_
   refine Js.seq <| zS <| Qm rfl <| Qe rfl rfl <| Qm rfl <| zg (Gd.f1 rfl rfl rfl) (fun hc => p_move rfl) <| zg (Gd.f1 rfl rfl rfl) (fun hc => p_eql (gh hc rfl) rfl) <| Qq (p_pickOr rfl rfl rfl) <| JL.nil ?_
   refine zi (fun h38 h38' => ?_) fun h38 h38' => ?_
   ·
    have hu : (M.wrd ye11).2.2 = 1 ∨ (M.wrd ye11).2.2 = 2 := by have h9 := h38; simp only [Bool.or_eq_true, decide_eq_true_eq] at h9; exact h9
    have hE := M.chk_u hC hY (by omega)
    refine zx ?_
    refine Js.region <| Qm rfl <| Qp rfl rfl <| Qa rfl <| JL.nil ?_
    refine zd [1, 1, 1, 1] rfl fun u39 x39 => ?_
    exact zag ⟨k + 1, v, seen, again, out ++ [(M.Prb.mk ((M.wrd ye11).2.2) (M.nth (M.pls s) k) ye11)], _, _, _, rfl, rfl, by first | exact hE | (exfalso; omega) | (exfalso; simp at hx; done), zt, zu, zu, rfl⟩ (x9.trans x39)
   have hu : ¬ ((M.wrd ye11).2.2 = 1 ∨ (M.wrd ye11).2.2 = 2) := by have h9 := h38; simp only [Bool.or_eq_false_iff, decide_eq_false_iff_not] at h9; rintro (h8 | h8); exact h9.1 h8; exact h9.2 h8
   have hE := hZ (by omega)
   have hy40 : seen[((M.wrd ye11).1).toNat]? = some (M.blt seen (((M.wrd ye11).1).toNat)) := M.blt_get len_
   refine Js.skip <| zS <| Qm rfl <| Qm rfl <| Qq (p_indexAddr el_237 rfl rfl len_ len_ rfl) ?_
   refine JL.s (e_storeRow (i := 2) (xs' := fltV vcbool (seen.set (((M.wrd ye11).1).toNat) true)) ty_4.h rfl rfl rfl rfl rfl rfl (fltV_lt (C := vcbool) (j := 0) (fun _ => rfl) len_ (by decide)) (fltV_set (C := vcbool) (y := true) (fun _ => rfl) len_)) ?_
   rintro _ _ _ ⟨rfl, rfl⟩ _
   refine znl ?_
   refine zN <| Qm rfl <| Qm rfl <| Qm rfl <| Qq (p_indexAddr el_26 rfl rfl (by omega) (by omega) rfl) ?_
   refine JL.s (e_storeRow (i := 3) (xs' := ints_ (M.setI v ((M.wrd ye11).1) ((M.wrd ye11).2.1))) ty_2.h rfl rfl rfl rfl rfl rfl (ints_lt (i := ((M.wrd ye11).1).toNat) (by omega)) (ints_setL (i := ((M.wrd ye11).1).toNat) (by omega))) ?_
   rintro _ _ _ ⟨rfl, rfl⟩ _
   refine znl ?_
   refine zN <| Qm rfl <| Qe rfl rfl <| JL.nil ?_
   refine zi (fun h42 h42' => ?_) fun h42 h42' => ?_
   ·
    rw [if_pos (show (M.wrd ye11).1 = 6 from by simpa using h42)] at hE
    obtain ⟨b43, o43, he43, hc43⟩ := ints_elem (Ty.mono _ h4 x9.vis) (i := k) (by omega)
    refine Js.region <| Qm rfl <| Qm rfl <| Qq (p_indexAddr el_26 rfl rfl (by omega) (by omega) he43) <| QC hc43 rfl <| Qa rfl <| JL.nil <| Js.blockEnd <| Js.region <| Qm rfl <| Qp rfl rfl <| Qa rfl <| JL.nil ?_
    refine zd [1, 1, 1, 1] rfl fun u44 x44 => ?_
    exact zag ⟨k + 1, M.setI v ((M.wrd ye11).1) ((M.wrd ye11).2.1), seen.set (((M.wrd ye11).1).toNat) true, M.nth (M.pls s) k, out ++ [(M.Prb.mk ((M.wrd ye11).2.2) (M.nth (M.pls s) k) ye11)], _, _, _, rfl, rfl, by first | exact hE | (exfalso; omega) | (exfalso; simp at hx; done), zt, zu, zu, rfl⟩ (x9.trans x44)
   rw [if_neg (show ¬ (M.wrd ye11).1 = 6 from by simpa using h42)] at hE
   refine Js.skip <| Js.blockEnd <| Js.region <| Qm rfl <| Qp rfl rfl <| Qa rfl <| JL.nil ?_
   refine zd [1, 1, 1, 1] rfl fun u45 x45 => ?_
   exact zag ⟨k + 1, M.setI v ((M.wrd ye11).1) ((M.wrd ye11).2.1), seen.set (((M.wrd ye11).1).toNat) true, again, out ++ [(M.Prb.mk ((M.wrd ye11).2.2) (M.nth (M.pls s) k) ye11)], _, _, _, rfl, rfl, by first | exact hE | (exfalso; omega) | (exfalso; simp at hx; done), zt, zu, zu, rfl⟩ (x9.trans x45)
  have h0 : (M.wrd ye11).2.2 = 0 := by simpa using h30
  have hZ := fun (h1 : ¬ (M.wrd ye11).2.2 = 1) => M.chk_z hC hY (by rw [hq h1]; decide) h0
  refine Js.skip <| Js.seq <| zS <| Qm rfl <| Qe rfl rfl <| Qm rfl <| zg (Gd.f1 rfl rfl rfl) (fun hc => p_move rfl) <| zg (Gd.f1 rfl rfl rfl) (fun hc => p_eql (gh hc rfl) rfl) <| Qq (p_pickOr rfl rfl rfl) <| JL.nil ?_
  refine zi (fun h46 h46' => ?_) fun h46 h46' => ?_
  ·
   have hu : (M.wrd ye11).2.2 = 1 ∨ (M.wrd ye11).2.2 = 2 := by have h9 := h46; simp only [Bool.or_eq_true, decide_eq_true_eq] at h9; exact h9
   have hE := M.chk_u hC hY (by omega)
   refine zx ?_
   refine Js.region <| Qm rfl <| Qp rfl rfl <| Qa rfl <| JL.nil ?_
   exact zag ⟨k + 1, v, seen, again, out, _, _, _, rfl, rfl, by first | exact hE | (exfalso; omega) | (exfalso; simp at hx; done), zt, zu, zu, rfl⟩ x9
  have hu : ¬ ((M.wrd ye11).2.2 = 1 ∨ (M.wrd ye11).2.2 = 2) := by have h9 := h46; simp only [Bool.or_eq_false_iff, decide_eq_false_iff_not] at h9; rintro (h8 | h8); exact h9.1 h8; exact h9.2 h8
  have hE := hZ (by omega)
  have hy47 : seen[((M.wrd ye11).1).toNat]? = some (M.blt seen (((M.wrd ye11).1).toNat)) := M.blt_get len_
  refine Js.skip <| zS <| Qm rfl <| Qm rfl <| Qq (p_indexAddr el_237 rfl rfl len_ len_ rfl) ?_
  refine JL.s (e_storeRow (i := 1) (xs' := fltV vcbool (seen.set (((M.wrd ye11).1).toNat) true)) ty_4.h rfl rfl rfl rfl rfl rfl (fltV_lt (C := vcbool) (j := 0) (fun _ => rfl) len_ (by decide)) (fltV_set (C := vcbool) (y := true) (fun _ => rfl) len_)) ?_
  rintro _ _ _ ⟨rfl, rfl⟩ _
  refine znl ?_
  refine zN <| Qm rfl <| Qm rfl <| Qm rfl <| Qq (p_indexAddr el_26 rfl rfl (by omega) (by omega) rfl) ?_
  refine JL.s (e_storeRow (i := 2) (xs' := ints_ (M.setI v ((M.wrd ye11).1) ((M.wrd ye11).2.1))) ty_2.h rfl rfl rfl rfl rfl rfl (ints_lt (i := ((M.wrd ye11).1).toNat) (by omega)) (ints_setL (i := ((M.wrd ye11).1).toNat) (by omega))) ?_
  rintro _ _ _ ⟨rfl, rfl⟩ _
  refine znl ?_
  refine zN <| Qm rfl <| Qe rfl rfl <| JL.nil ?_
  refine zi (fun h49 h49' => ?_) fun h49 h49' => ?_
  ·
   rw [if_pos (show (M.wrd ye11).1 = 6 from by simpa using h49)] at hE
   obtain ⟨b50, o50, he50, hc50⟩ := ints_elem (Ty.mono _ h4 x9.vis) (i := k) (by omega)
   refine Js.region <| Qm rfl <| Qm rfl <| Qq (p_indexAddr el_26 rfl rfl (by omega) (by omega) he50) <| QC hc50 rfl <| Qa rfl <| JL.nil <| Js.blockEnd <| Js.region <| Qm rfl <| Qp rfl rfl <| Qa rfl <| JL.nil ?_
   exact zag ⟨k + 1, M.setI v ((M.wrd ye11).1) ((M.wrd ye11).2.1), seen.set (((M.wrd ye11).1).toNat) true, M.nth (M.pls s) k, out, _, _, _, rfl, rfl, by first | exact hE | (exfalso; omega) | (exfalso; simp at hx; done), zt, zu, zu, rfl⟩ x9
  rw [if_neg (show ¬ (M.wrd ye11).1 = 6 from by simpa using h49)] at hE
  refine Js.skip <| Js.blockEnd <| Js.region <| Qm rfl <| Qp rfl rfl <| Qa rfl <| JL.nil ?_
  exact zag ⟨k + 1, M.setI v ((M.wrd ye11).1) ((M.wrd ye11).2.1), seen.set (((M.wrd ye11).1).toNat) true, again, out, _, _, _, rfl, rfl, by first | exact hE | (exfalso; omega) | (exfalso; simp at hx; done), zt, zu, zu, rfl⟩ x9
 have hA := M.chk_e hC (by have := h10'; omega) hk
 obtain ⟨hv9, hs9, ho9⟩ := M.chkN_len s k
 rw [hC] at hv9 hs9 ho9
 dsimp only at hv9 hs9 ho9
 refine zx ?_
 refine Js.seq <| zS <| Qa rfl <| JL.nil <| Js.block ?_
 refine zl [0, 2, 6, 7, 9] (fun F U l os u m => ∃ (j : Nat) (out2 : List M.Prb) (A51_8 : Option Addr) (c51_8 : Nat) (g51_8 : List Nat), l = F [(8, .slice A51_8 out2.length c51_8), (14, .int .i64 (j : Int))] ∧ os = U [some (rowO 239 3 (.slice A51_8 out2.length c51_8) out2.length (fltV vcProblem out2) g51_8)] ∧ (out2 = M.chkM s j) ∧ (j ≤ 2) ∧ (out2.length ≤ c51_8) ∧ (c51_8 ≤ 9223372036854775807) ∧ m = 2 - j) ⟨0, out, _, _, _, rfl, rfl, by rw [M.chkM, hA], zt, zu, zu, rfl⟩ ?_
 rintro _ _ u51 _ ⟨j, out2, A51_8, c51_8, g51_8, rfl, rfl, hM, hj, f51_2, f51_3, rfl⟩ x51
 refine zn ?_
 have hml := M.chkM_len s j
 rw [← hM] at hml
 refine Js.seq <| zS <| Qm rfl <| Ql rfl rfl <| JL.nil ?_
 refine zi (fun h52 h52' => ?_) fun h52 h52' => ?_
 ·
  have hy53 : seen[j]? = some (M.blt seen j) := M.blt_get len_
  refine Js.skip <| Js.seq <| Js.block <| zS <| Qm rfl <| Qm rfl <| Qq (p_indexAddr el_237 rfl rfl len_ len_ rfl) <| Qw (q_load1 ty_4.h rfl (fun w hw => (Mem.rowR' (i := 1) rfl (fltV_at (C := vcbool) (fun _ => rfl) hy53) w hw) 0 _ rfl)) <| Qt rfl <| JL.nil ?_
  refine zi (fun h54 h54' => ?_) fun h54 h54' => ?_
  ·
   have hb9 : ¬ M.blt seen j = true := by simpa using h54
   obtain ⟨ye55, hye55⟩ : ∃ x, M.fieldNames[j]? = some x := ⟨_, List.getElem?_eq_getElem (by omega)⟩
   have hY2 : M.fieldNames[j]? = some ye55 := hye55
   refine Js.region <| Qm rfl <| Qm rfl <| Qq (p_lenS und_9 rfl) <| zp rfl (fun w hw => c_spec_FieldNames) ?_
   intro u56 x56 A57 c57 h57 bl57 bh57
   have hy58 := hye55
   obtain ⟨b58, o58, he58, hc58⟩ := strs_elem h57 hy58
   refine Qm rfl <| Qq (p_indexAddr el_31 rfl rfl (by omega) (by omega) he58) <| QC hc58 rfl <| Qb ?_
   refine zbs fun b59 => ?_
   refine JL.e (e_append (i := 1) (n' := (out2 ++ [(M.Prb.mk 5 (s.length : Int) ye55)]).length) (vs' := fltV vcProblem (out2 ++ [(M.Prb.mk 5 (s.length : Int) ye55)])) el_215 rfl rfl rfl rfl (src_row (i := 0) und_215 rfl rfl) (by omega) (by omega) ln2_ (by first | rfl | exact fltV_app _ _ _ | exact fltV_snoc _ _ _ | (simp [fltV]; done))) ?_
   rintro v61 _ _ ⟨⟨g62, rfl⟩, rfl⟩ _
   refine JL.fact (row_form' (i := 1) rfl) (fun hf63 => ?_)
   obtain ⟨A63, c63, rfl, bl63, bh63⟩ := hf63
   refine znl ?_
   refine Qa rfl <| JL.nil <| Js.blockEnd <| Js.region <| Qm rfl <| Qp rfl rfl <| Qa rfl <| JL.nil ?_
   refine zd [1, 1, 1, 1] rfl fun u64 x64 => ?_
   exact zag ⟨j + 1, out2 ++ [(M.Prb.mk 5 (s.length : Int) ye55)], _, _, _, rfl, rfl, by first | exact hM2 | exact M.chkM_f hA hM hb9 hY2, zt, zu, zu, rfl⟩ ((x51.trans x56).trans x64)
  have hM2 := M.chkM_t hA hM (by simpa using h54)
  refine Js.skip <| Js.blockEnd <| Js.region <| Qm rfl <| Qp rfl rfl <| Qa rfl <| JL.nil ?_
  exact zag ⟨j + 1, out2, _, _, _, rfl, rfl, by first | exact hM2 | exact M.chkM_f hA hM hb9 hY2, zt, zu, zu, rfl⟩ x51
 have hj2 : j = 2 := by have := h52'; omega
 have hml := M.chkM_len s j
 rw [← hM] at hml
 have hE2 := M.chkR_e hA
 refine zx ?_
 refine Js.seq <| zS <| Qm rfl <| Qq (p_indexAddr el_26 rfl rfl (by omega) (by omega) rfl) <| Qw (q_load1 ty_2.h rfl (Mem.row (i := 2) rfl (ints_get (i := 6) (by omega)))) <| Qe rfl rfl <| Qm rfl <| zg (Gd.t1 rfl rfl rfl) (fun hc => p_move rfl) <| zg (Gd.t1 rfl rfl rfl) (fun hc => p_indexAddr el_26 (gh hc rfl) rfl (oh_ hc) (oh_ hc) rfl) ?_
 refine zgq (Gd.t1 rfl rfl rfl) (fun hc => q_load1 ty_2.h (gh hc rfl) (Mem.row (i := 2) rfl (ints_get (i := 2) (oh_ hc)))) ?_
 refine zg (Gd.t1 rfl rfl rfl) (fun hc => p_eql (gh hc rfl) rfl) <| Qq (p_pickAnd rfl rfl rfl) <| JL.nil ?_
 refine zi (fun h67 h67' => ?_) fun h67 h67' => ?_
 ·
  have hq2 : M.nth v 6 = 1 ∧ M.nth v 2 = 0 := by have h9 := h67; simp at h9; exact h9
  have hE := M.chkO_t hA hM hj2 hq2.1 hq2.2
  refine Js.region <| Qm rfl <| Qm rfl <| Qb ?_
  refine zbs fun b68 => ?_
  refine JL.e (e_append (i := 1) (n' := (out2 ++ ([(M.Prb.mk 6 again ([97, 103, 97, 105, 110] : List UInt8))])).length) (vs' := fltV vcProblem (out2 ++ ([(M.Prb.mk 6 again ([97, 103, 97, 105, 110] : List UInt8))]))) el_215 rfl rfl rfl rfl (src_row (i := 0) und_215 rfl rfl) (by omega) (by omega) ln2_ (by first | rfl | exact fltV_app _ _ _ | exact fltV_snoc _ _ _ | (simp [fltV]; done))) ?_
  rintro v70 _ _ ⟨⟨g71, rfl⟩, rfl⟩ _
  refine JL.fact (row_form' (i := 1) rfl) (fun hf72 => ?_)
  obtain ⟨A72, c72, rfl, bl72, bh72⟩ := hf72
  refine znl ?_
  refine Qa rfl <| zN <| Qm rfl <| zp rfl (fun w hw => c_spec_l03Rules v (ok_ hw)) ?_
  intro u73 x73
  have hq0 : ((M.rulV v).pits) = (M.chkR s).pits := by first | (rw [hE2]; done) | exact hE | (rw [hE]; done)
  have hq1 : ((M.rulV v).seeds) = (M.chkR s).seeds := by first | (rw [hE2]; done) | exact hE | (rw [hE]; done)
  have hq2 : ((M.rulV v).stores) = (M.chkR s).stores := by first | (rw [hE2]; done) | exact hE | (rw [hE]; done)
  have hq3 : ((M.rulV v).skip) = (M.chkR s).skip := by first | (rw [hE2]; done) | exact hE | (rw [hE]; done)
  have hq4 : ((M.rulV v).relay) = (M.chkR s).relay := by first | (rw [hE2]; done) | exact hE | (rw [hE]; done)
  have hq5 : ((M.rulV v).feed) = (M.chkR s).feed := by first | (rw [hE2]; done) | exact hE | (rw [hE]; done)
  have hq6 : ((M.rulV v).again) = (M.chkR s).again := by first | (rw [hE2]; done) | exact hE | (rw [hE]; done)
  have hq7 : ((M.rulV v).capture) = (M.chkR s).capture := by first | (rw [hE2]; done) | exact hE | (rw [hE]; done)
  have hq8 : ((M.rulV v).slam) = (M.chkR s).slam := by first | (rw [hE2]; done) | exact hE | (rw [hE]; done)
  have hq9 : (out2 ++ ([(M.Prb.mk 6 again ([97, 103, 97, 105, 110] : List UInt8))])) = (M.chkO s) := by first | (rw [hE2]; done) | exact hE | (rw [hE]; done)
  refine Qm rfl <| zw 4 rfl rfl rfl ?_
  refine Qa rfl <| JL.nil ?_
  exact zro (((x2.trans x9).trans x51).trans x73) (g := by exact (gv_tup (gvc gv_ (gvc (gv_flat lProblem (xs := (out2 ++ ([(M.Prb.mk 6 again ([97, 103, 97, 105, 110] : List UInt8))]))) po_ (by first | rfl | (simp [fltV]; done)) (by first | with_reducible rfl | assumption | rfl)) gvn))))
 have hq2 : ¬ (M.nth v 6 = 1 ∧ M.nth v 2 = 0) := by have h9 := h67; simp at h9; rintro ⟨h8, h7⟩; exact h9 h8 h7
 have hE := M.chkO_f hA hM hj2 hq2
 refine Js.skip <| zS <| Qm rfl <| zp rfl (fun w hw => c_spec_l03Rules v (ok_ hw)) ?_
 intro u74 x74
 have hq0 : ((M.rulV v).pits) = (M.chkR s).pits := by first | (rw [hE2]; done) | exact hE | (rw [hE]; done)
 have hq1 : ((M.rulV v).seeds) = (M.chkR s).seeds := by first | (rw [hE2]; done) | exact hE | (rw [hE]; done)
 have hq2 : ((M.rulV v).stores) = (M.chkR s).stores := by first | (rw [hE2]; done) | exact hE | (rw [hE]; done)
 have hq3 : ((M.rulV v).skip) = (M.chkR s).skip := by first | (rw [hE2]; done) | exact hE | (rw [hE]; done)
 have hq4 : ((M.rulV v).relay) = (M.chkR s).relay := by first | (rw [hE2]; done) | exact hE | (rw [hE]; done)
 have hq5 : ((M.rulV v).feed) = (M.chkR s).feed := by first | (rw [hE2]; done) | exact hE | (rw [hE]; done)
 have hq6 : ((M.rulV v).again) = (M.chkR s).again := by first | (rw [hE2]; done) | exact hE | (rw [hE]; done)
 have hq7 : ((M.rulV v).capture) = (M.chkR s).capture := by first | (rw [hE2]; done) | exact hE | (rw [hE]; done)
 have hq8 : ((M.rulV v).slam) = (M.chkR s).slam := by first | (rw [hE2]; done) | exact hE | (rw [hE]; done)
 have hq9 : out2 = (M.chkO s) := by first | (rw [hE2]; done) | exact hE | (rw [hE]; done)
 refine Qm rfl <| zw 3 rfl rfl rfl ?_
 refine Qa rfl <| JL.nil ?_
 exact zro (((x2.trans x9).trans x51).trans x74) (g := by exact (gv_tup (gvc gv_ (gvc (gv_flat lProblem (xs := out2) po_ (by first | rfl | (simp [fltV]; done)) (by first | with_reducible rfl | assumption | rfl)) gvn))))
theorem c_spec_ReadRules (s : List UInt8) {w : World} (r0 : s.length ≤ 4194304 := by exact om_) : Ret Tryz.prog 155 [.string (sB s)] w (Ty.tup [Ty.agg (cRules ((M.readR s).1)), Ty.bool ((M.readR s).2)]) := by
 refine enter @Tryz.func155 @Tryz.ntmps155 rfl rfl ?_
 refine zent ?_
 refine zS <| za zeh fun b1 => Qa rfl <| zJ <| zS <| Qm rfl <| Qq (p_lenS und_9 rfl) <| Qg rfl rfl <| JL.nil ?_
 refine zi (fun h2 h2' => ?_) fun h2 h2' => ?_
 ·
  have hE := M.readR_5 (s := s) (by have := h2'; omega)
  have hq0 : 0 = ((M.readR s).1).pits := rp_ hE
  have hq1 : 0 = ((M.readR s).1).seeds := rp_ hE
  have hq2 : false = ((M.readR s).1).stores := rp_ hE
  have hq3 : false = ((M.readR s).1).skip := rp_ hE
  have hq4 : false = ((M.readR s).1).relay := rp_ hE
  have hq5 : false = ((M.readR s).1).feed := rp_ hE
  have hq6 : false = ((M.readR s).1).again := rp_ hE
  have hq7 : 0 = ((M.readR s).1).capture := rp_ hE
  have hq8 : 0 = ((M.readR s).1).slam := rp_ hE
  have hq9 : false = (M.readR s).2 := rp_ hE
  refine zS <| Qb ?_
  refine zw 0 rfl rfl rfl ?_
  refine Qa rfl <| JL.nil ?_
  exact zro (Up.refl _ _)
 have h200 : ¬ 200 < s.length := by have := h2'; omega
 have hol := M.chkO_len s
 have hrl := M.rulesT_len (M.chkR s)
 refine Js.skip <| zS <| Qm rfl <| zcs rfl (fun w hw => c_spec_l03Check s) ?_
 intro f4 A5 c5 bl5 bh5
 refine Qm rfl <| Qx rfl rfl <| Qx rfl rfl <| za zeh fun b6 => zw 0 rfl rfl rfl ?_
 refine Qa rfl <| zJ <| zS <| Qm rfl <| Qz rfl <| Qg rfl rfl <| Qm rfl <| zgv (Gd.f1 rfl rfl rfl) (fun hc => rfl) (fun hc => (fun w hw => c_spec_l03Text (M.chkR s) (ok_ hw) (r0 := (M.chk_okR (by have h9 := hc; simp at h9; first | exact h9 | exact List.length_eq_zero_iff.1 (by omega)))))) ?_
 refine zg (Gd.f1 rfl rfl rfl) (fun hc => p_move rfl) <| zg (Gd.f1 rfl rfl rfl) (fun hc => p_neqT und_9 (gh hc rfl) (gh hc rfl)) <| Qq (p_pickOr rfl rfl rfl) <| JL.nil ?_
 refine zi (fun h7 h7' => ?_) fun h7 h7' => ?_
 ·
  have hE : M.readR s = (M.Rul.zero, false) := by have h9 := h7; simp only [Bool.or_eq_true, Bool.not_eq_true', decide_eq_true_eq, decide_eq_false_iff_not] at h9; by_cases h8 : M.chkO s = []; (rcases h9 with h9 | h9; (rw [h8] at h9; exact absurd h9 (by decide)); exact M.readR_f h200 h8 h9); exact M.readR_p h200 h8
  have hq0 : 0 = ((M.readR s).1).pits := rp_ hE
  have hq1 : 0 = ((M.readR s).1).seeds := rp_ hE
  have hq2 : false = ((M.readR s).1).stores := rp_ hE
  have hq3 : false = ((M.readR s).1).skip := rp_ hE
  have hq4 : false = ((M.readR s).1).relay := rp_ hE
  have hq5 : false = ((M.readR s).1).feed := rp_ hE
  have hq6 : false = ((M.readR s).1).again := rp_ hE
  have hq7 : 0 = ((M.readR s).1).capture := rp_ hE
  have hq8 : 0 = ((M.readR s).1).slam := rp_ hE
  have hq9 : false = (M.readR s).2 := rp_ hE
  refine zS <| Qb ?_
  refine zw 3 rfl rfl rfl ?_
  refine Qa rfl <| JL.nil ?_
  exact zro (Up.refl _ _)
 have h8 : M.chkO s = [] ∧ M.rulesT (M.chkR s) = s := by have h9 := h7; simp only [Bool.or_eq_false_iff, Bool.not_eq_false', decide_eq_true_eq, decide_eq_false_iff_not] at h9; exact ⟨List.length_eq_zero_iff.1 (by have := h9.1; omega), h9.2⟩
 have hE := M.readR_t h200 h8.1 h8.2
 have hq0 : ((M.chkR s).pits) = ((M.readR s).1).pits := rp_ hE
 have hq1 : ((M.chkR s).seeds) = ((M.readR s).1).seeds := rp_ hE
 have hq2 : ((M.chkR s).stores) = ((M.readR s).1).stores := rp_ hE
 have hq3 : ((M.chkR s).skip) = ((M.readR s).1).skip := rp_ hE
 have hq4 : ((M.chkR s).relay) = ((M.readR s).1).relay := rp_ hE
 have hq5 : ((M.chkR s).feed) = ((M.readR s).1).feed := rp_ hE
 have hq6 : ((M.chkR s).again) = ((M.readR s).1).again := rp_ hE
 have hq7 : ((M.chkR s).capture) = ((M.readR s).1).capture := rp_ hE
 have hq8 : ((M.chkR s).slam) = ((M.readR s).1).slam := rp_ hE
 have hq9 : true = (M.readR s).2 := rp_ hE
 refine Js.skip <| zS <| Q9 0 rfl rfl ?_
 refine zw 3 rfl rfl rfl ?_
 refine Qa rfl <| JL.nil ?_
 exact zro (Up.refl _ _)
theorem c_spec_l04Read (s : List UInt8) {w : World} (r0 : s.length ≤ 4000000 := by exact om_) : Ret Tryz.prog 186 [.string (sB s)] w (Ty.tup [Ty.agg (cPosition ((M.readP0 s).1)), Ty.bool ((M.readP0 s).2)]) := by
 refine enter @Tryz.func186 @Tryz.ntmps186 rfl rfl ?_
 refine zent ?_
 refine zS <| za zeh fun b1 => Qa rfl <| zN <| Qm rfl <| zp rfl (fun w hw => c_spec_l01Split s 32) ?_
 intro u2 x2 A3 c3 h3 bl3 bh3
 refine Qa rfl <| zJ <| zS <| Qm rfl <| Qz rfl <| Qd rfl rfl <| JL.nil ?_
 refine zi (fun h4 h4' => ?_) fun h4 h4' => ?_
 ·
  have hE := M.readP0_no (s := s) (fun h => by have h9 := h4'; have h8 : (M.split (M.u8 32) s).length = 3 := h.1; omega)
  have hq0 : [] = ((M.readP0 s).1).pits := rp_ hE
  have hq1 : [] = ((M.readP0 s).1).stores := rp_ hE
  have hq2 : 0 = ((M.readP0 s).1).player := rp_ hE
  have hq3 : false = (M.readP0 s).2 := rp_ hE
  refine zS <| Qb ?_
  refine zw 0 rfl rfl rfl ?_
  refine Qa rfl <| JL.nil ?_
  exact zro x2
 have hl3 : (M.split (M.u8 32) s).length = 3 := by have := h4'; omega
 have hw0 : (M.split (M.u8 32) s)[0]? = some (M.w3 s 0) := M.w3_get (s := s) (by exact (by omega : 0 < (M.split (M.u8 32) s).length))
 have hw1 : (M.split (M.u8 32) s)[1]? = some (M.w3 s 1) := M.w3_get (s := s) (by exact (by omega : 1 < (M.split (M.u8 32) s).length))
 have hw2 : (M.split (M.u8 32) s)[2]? = some (M.w3 s 2) := M.w3_get (s := s) (by exact (by omega : 2 < (M.split (M.u8 32) s).length))
 have q0 := M.w3_len (s := s) (i := 0)
 have q1 := M.w3_len (s := s) (i := 1)
 have q2 := M.w3_len (s := s) (i := 2)
 have hy5 := hw1
 obtain ⟨b5, o5, he5, hc5⟩ := strs_elem h3 hy5
 refine Js.skip <| zS <| Qm rfl <| Qq (p_indexAddr el_31 rfl rfl (by omega) (by omega) he5) <| QC hc5 rfl <| zp rfl (fun w hw => c_spec_l01Split (M.w3 s 1) 47) ?_
 intro u6 x6 A7 c7 h7 bl7 bh7
 refine Qa rfl <| zJ <| zS <| Qm rfl <| Qz rfl <| Qd rfl rfl <| JL.nil ?_
 refine zi (fun h8 h8' => ?_) fun h8 h8' => ?_
 ·
  have hE := M.readP0_no (s := s) (fun h => by have h9 := h8'; have h8 : (M.split (M.u8 47) (M.w3 s 1)).length = 2 := h.2.1; omega)
  have hq0 : [] = ((M.readP0 s).1).pits := rp_ hE
  have hq1 : [] = ((M.readP0 s).1).stores := rp_ hE
  have hq2 : 0 = ((M.readP0 s).1).player := rp_ hE
  have hq3 : false = (M.readP0 s).2 := rp_ hE
  refine zS <| Qb ?_
  refine zw 0 rfl rfl rfl ?_
  refine Qa rfl <| JL.nil ?_
  exact zro (x2.trans x6)
 have hl2 : (M.split (M.u8 47) (M.w3 s 1)).length = 2 := by have := h8'; omega
 have q10 := M.x2_sum (s := s) hl2
 have hx0 : (M.split (M.u8 47) (M.w3 s 1))[0]? = some (M.x2 s 0) := M.x2_get (s := s) (by exact (by omega : 0 < (M.split (M.u8 47) (M.w3 s 1)).length))
 have hx1 : (M.split (M.u8 47) (M.w3 s 1))[1]? = some (M.x2 s 1) := M.x2_get (s := s) (by exact (by omega : 1 < (M.split (M.u8 47) (M.w3 s 1)).length))
 have q3 := M.x2_len (s := s) (i := 0)
 have q4 := M.x2_len (s := s) (i := 1)
 have q5 := M.nums_len (M.x2 s 0)
 have q6 := M.nums_len (M.x2 s 1)
 have q7 := M.nums_len (M.w3 s 2)
 have q9 : ((M.nums (M.x2 s 0)).1 ++ (M.nums (M.x2 s 1)).1).length ≤ 4194304 := by rw [List.length_append]; omega
 have hy9 := hw0
 obtain ⟨b9, o9, he9, hc9⟩ := strs_elem (Ty.mono _ h3 x6.vis) hy9
 have hy10 := hx0
 obtain ⟨b10, o10, he10, hc10⟩ := strs_elem h7 hy10
 refine Js.skip <| zS <| Qm rfl <| Qq (p_indexAddr el_31 rfl rfl (by omega) (by omega) he9) <| QC hc9 rfl <| zv rfl (fun w hw => c_spec_l01Number (M.w3 s 0)) <| Qm rfl <| Qx rfl rfl <| Qx rfl rfl <| Qa rfl <| Qa rfl <| zN <| Qm rfl <| Qq (p_indexAddr el_31 rfl rfl (by omega) (by omega) he10) ?_
 refine QC hc10 rfl <| zcs rfl (fun w hw => c_spec_l04Numbers (M.x2 s 0)) ?_
 intro A12 c12 bl12 bh12
 have hy13 := hx1
 obtain ⟨b13, o13, he13, hc13⟩ := strs_elem h7 hy13
 refine Qm rfl <| Qx rfl rfl <| Qx rfl rfl <| Qa rfl <| Qa rfl <| zN <| Qm rfl <| Qq (p_indexAddr el_31 rfl rfl (by omega) (by omega) he13) <| QC hc13 rfl <| zcs rfl (fun w hw => c_spec_l04Numbers (M.x2 s 1)) ?_
 intro A15 c15 bl15 bh15
 have hy16 := hw2
 obtain ⟨b16, o16, he16, hc16⟩ := strs_elem (Ty.mono _ h3 x6.vis) hy16
 refine Qm rfl <| Qx rfl rfl <| Qx rfl rfl <| Qa rfl <| Qa rfl <| zN <| Qm rfl <| Qq (p_indexAddr el_31 rfl rfl (by omega) (by omega) he16) <| QC hc16 rfl <| zcs rfl (fun w hw => c_spec_l04Numbers (M.w3 s 2)) ?_
 intro A18 c18 bl18 bh18
 refine Qm rfl <| Qx rfl rfl <| Qx rfl rfl <| Qa rfl <| Qa rfl <| zJ <| zS <| Qm rfl <| Qt rfl <| Qm rfl <| zg (Gd.f1 rfl rfl rfl) (fun hc => p_move rfl) <| zg (Gd.f1 rfl rfl rfl) (fun hc => p_not (gh hc rfl)) <| Qq (p_pickOr rfl rfl rfl) <| Qm rfl ?_
 refine zg (Gd.f1 rfl rfl rfl) (fun hc => p_move rfl) <| zg (Gd.f1 rfl rfl rfl) (fun hc => p_not (gh hc rfl)) <| Qq (p_pickOr rfl rfl rfl) <| Qm rfl <| zg (Gd.f1 rfl rfl rfl) (fun hc => p_move rfl) <| zg (Gd.f1 rfl rfl rfl) (fun hc => p_not (gh hc rfl)) <| Qq (p_pickOr rfl rfl rfl) <| Qm rfl <| zg (Gd.f1 rfl rfl rfl) (fun hc => p_move rfl) <| zg (Gd.f1 rfl rfl rfl) (fun hc => p_len el_26 (gh hc rfl)) <| zg (Gd.f1 rfl rfl rfl) (fun hc => p_move rfl) <| zg (Gd.f1 rfl rfl rfl) (fun hc => p_len el_26 (gh hc rfl)) <| zg (Gd.f1 rfl rfl rfl) (fun hc => p_neq (gh hc rfl) (gh hc rfl)) <| Qq (p_pickOr rfl rfl rfl) ?_
 refine JL.nil ?_
 refine zi (fun h19 h19' => ?_) fun h19 h19' => ?_
 ·
  have hE := M.readP0_no (s := s) (by rintro ⟨_, _, f1, f2, f3, f4, f5⟩; have h9 := h19; rw [f1, f2, f3, f4] at h9; simp at h9; omega)
  have hq0 : [] = ((M.readP0 s).1).pits := rp_ hE
  have hq1 : [] = ((M.readP0 s).1).stores := rp_ hE
  have hq2 : 0 = ((M.readP0 s).1).player := rp_ hE
  have hq3 : false = (M.readP0 s).2 := rp_ hE
  refine zS <| Qb ?_
  refine zw 3 rfl rfl rfl ?_
  refine Qa rfl <| JL.nil ?_
  exact zro (x2.trans x6)
 have hE := M.readP0_yes (s := s) (by have h9 := h19; simp only [Bool.or_eq_false_iff, Bool.not_eq_false', decide_eq_true_eq] at h9; exact ⟨hl3, hl2, h9.1.1.1.1, h9.1.1.1.2, h9.1.1.2, h9.1.2, by have := h9.2; omega⟩)
 refine Js.skip <| zS <| Qm rfl <| Qm rfl ?_
 refine JL.e (e_append (i := 2) (n' := (((M.nums (M.x2 s 0)).1) ++ ((M.nums (M.x2 s 1)).1)).length) (vs' := ints_ (((M.nums (M.x2 s 0)).1) ++ ((M.nums (M.x2 s 1)).1))) el_26 rfl rfl rfl rfl (src_rowH (i := 1) und_26 rfl (ints_one _)) (by omega) (by omega) ln2_ (by simp [ints_])) ?_
 rintro v20 _ _ ⟨⟨g21, rfl⟩, rfl⟩ _
 refine JL.fact (row_form' (i := 2) rfl) (fun hf22 => ?_)
 obtain ⟨A22, c22, rfl, bl22, bh22⟩ := hf22
 refine znl ?_
 have hq0 : (((M.nums (M.x2 s 0)).1) ++ ((M.nums (M.x2 s 1)).1)) = ((M.readP0 s).1).pits := rp_ hE
 have hq1 : ((M.nums (M.w3 s 2)).1) = ((M.readP0 s).1).stores := rp_ hE
 have hq2 : ((M.num (M.w3 s 0)).1) = ((M.readP0 s).1).player := rp_ hE
 have hq3 : true = (M.readP0 s).2 := rp_ hE
 refine Qm rfl <| Qm rfl <| Qb ?_
 refine zw 3 rfl rfl rfl ?_
 refine Qa rfl <| JL.nil ?_
 exact zro (x2.trans x6)
theorem c_spec_ReadPosition (r : M.Rul) {v_r : Value} (s : List UInt8) {w : World} (h_r : (Ty.agg (cRules r)).ok w v_r) (r0 : s.length ≤ 4000000 := by exact om_) : Ret Tryz.prog 156 [v_r, .string (sB s)] w (Ty.tup [Ty.agg (cPosition ((M.readP r s).1)), Ty.bool ((M.readP r s).2)]) := by
 have q1 := M.readP0_len s
 revert v_r; apply opn
 refine enter @Tryz.func156 @Tryz.ntmps156 rfl rfl ?_
 refine zent ?_
 refine zS <| zb rfl fun b1 => za zeh fun b2 => Qa rfl <| zN <| Qm rfl <| zc rfl (fun w hw => c_spec_l04Read s) ?_
 intro A5 c5 bl5 bh5 A6 c6 bl6 bh6
 refine Qm rfl <| Qx rfl rfl <| Qx rfl rfl <| za zeh fun b7 => zw 0 rfl rfl rfl ?_
 refine Qa rfl <| zJ <| zS <| Qm rfl <| Qt rfl <| Qm rfl <| zgv (Gd.f1 rfl rfl rfl) (fun hc => rfl) (fun hc => (fun w hw => c_spec_l04Ok r ((M.readP0 s).1) (ok_ hw) (ok_ hw) (r0 := (by have hc9 := hc; (try simp only [Bool.not_eq_true', Bool.not_eq_false'] at hc9); omega)) (r1 := (by have hc9 := hc; (try simp only [Bool.not_eq_true', Bool.not_eq_false'] at hc9); omega)))) ?_
 refine zg (Gd.f1 rfl rfl rfl) (fun hc => p_not (gh hc rfl)) <| Qq (p_pickOr rfl rfl rfl) <| JL.nil ?_
 refine zi (fun h8 h8' => ?_) fun h8 h8' => ?_
 ·
  have hE := M.readP_n (r := r) (s := s) (by rintro ⟨f1, f2⟩; have h9 := h8; rw [f1, f2] at h9; simp at h9)
  have hq0 : [] = ((M.readP r s).1).pits := rp_ hE
  have hq1 : [] = ((M.readP r s).1).stores := rp_ hE
  have hq2 : 0 = ((M.readP r s).1).player := rp_ hE
  have hq3 : false = (M.readP r s).2 := rp_ hE
  refine zS <| Qb ?_
  refine zw 3 rfl rfl rfl ?_
  refine Qa rfl <| JL.nil ?_
  exact zro (Up.refl _ _)
 have h8 : (M.readP0 s).2 = true ∧ M.okP r (M.readP0 s).1 = true := by have h9 := h8; simpa using h9
 have hE := M.readP_y h8.1 h8.2
 have hq0 : (((M.readP0 s).1).pits) = ((M.readP r s).1).pits := rp_ hE
 have hq1 : (((M.readP0 s).1).stores) = ((M.readP r s).1).stores := rp_ hE
 have hq2 : (((M.readP0 s).1).player) = ((M.readP r s).1).player := rp_ hE
 have hq3 : true = (M.readP r s).2 := rp_ hE
 refine Js.skip <| zS <| Q9 0 rfl rfl ?_
 refine zw 3 rfl rfl rfl ?_
 refine Qa rfl <| JL.nil ?_
 exact zro (Up.refl _ _)
theorem c_spec_l08Own (g : M.Gam) {v_g : Value} {w : World} (h_g : (Ty.ref (cGame g)).ok w v_g) (r0 : g.start.pits.length ≤ 4194304 := by exact om_) (r1 : g.start.stores.length ≤ 4194304 := by exact om_) (r2 : g.moves.length ≤ 4194304 := by exact om_) (r3 : g.now.pits.length ≤ 4194304 := by exact om_) (r4 : g.now.stores.length ≤ 4194304 := by exact om_) : Ret Tryz.prog 187 [v_g] w (Ty.agg (cGame g)) := by
 revert v_g; apply opn
 intro b6 o6 A1 c1 h1 bl1 bh1 A2 c2 h2 bl2 bh2 A3 c3 h3 bl3 bh3 A4 c4 h4 bl4 bh4 A5 c5 h5 bl5 bh5 hr6
 refine enter @Tryz.func187 @Tryz.ntmps187 rfl rfl ?_
 refine zent ?_
 refine zS <| za zeh fun b7 => zJ ?_
 refine zdr [22] ?_
 refine jM 0 rfl rfl ?_
 refine jN 1 rfl rfl ?_
 refine jF 2 fld_53_0 rfl rfl ?_
 refine JH.w 3 rfl (fun os' u' hv => LS 0 (hr6.vis hv) rfl) ?_
 refine jM 4 rfl rfl ?_
 refine jN 5 rfl rfl ?_
 refine jF 6 fld_53_1 rfl rfl ?_
 refine jM 8 rfl rfl ?_
 refine jN 9 rfl rfl ?_
 refine jF 10 fld_53_2 rfl rfl ?_
 refine jW 11 ty_26 rfl rfl (fun hv => (hr6.vis hv) 12 _ rfl) ?_
 refine jM 13 rfl rfl ?_
 refine jN 14 rfl rfl ?_
 refine jF 15 fld_53_3 rfl rfl ?_
 refine jM 17 rfl rfl ?_
 refine jN 18 rfl rfl ?_
 refine jF 19 fld_53_4 rfl rfl ?_
 refine jW 20 ty_2 rfl rfl (fun hv => (hr6.vis hv) 16 _ rfl) ?_
 refine y1 7 ?_
 refine yc rfl rfl (fun w hw => c_spec_l04Own g.start (ok_ hw)) ?_
 intro A9 c9 bl9 bh9 A10 c10 bl10 bh10
 refine y1 12 ?_
 refine ycs rfl rfl (fun w hw => c_spec_l00Own g.moves (ok_ hw)) ?_
 intro A11 c11 bl11 bh11
 refine y1 16 ?_
 refine yc rfl rfl (fun w hw => c_spec_l04Own g.now (ok_ hw)) ?_
 intro A13 c13 bl13 bh13 A14 c14 bl14 bh14
 refine JH.p 21 rfl (q_bld) ?_
 refine y1 22 ?_
 refine yst rfl rfl rfl ?_
 refine yd ?_
 exact zro (Up.refl _ _)
theorem c_spec_l08Play (g : M.Gam) {v_g : Value} (move : Int) {w : World} (h_g : (Ty.ref (cGame g)).ok w v_g) (r0 : g.start.pits.length ≤ 4194304 := by exact om_) (r1 : g.start.stores.length ≤ 4194304 := by exact om_) (r2 : g.moves.length ≤ 4194304 := by exact om_) (r3 : g.now.pits.length ≤ 4194304 := by exact om_) (r4 : g.now.stores.length ≤ 4194304 := by exact om_) (r5 : g.moves.length ≤ 120 := by exact om_) : Ret Tryz.prog 159 [v_g, .int .i64 move] w (Ty.tup [Ty.agg (cGame ((M.play g move).1)), Ty.int ((M.play g move).2)]) := by
 revert v_g; apply opn
 intro b6 o6 A1 c1 h1 bl1 bh1 A2 c2 h2 bl2 bh2 A3 c3 h3 bl3 bh3 A4 c4 h4 bl4 bh4 A5 c5 h5 bl5 bh5 hr6
 refine enter @Tryz.func159 @Tryz.ntmps159 rfl rfl ?_
 refine zent ?_
 refine zS <| za zeh fun b7 => Qa rfl <| zJ <| zS <| Qm rfl <| Qc rfl <| Qf fh rfl <| QC (hr6 16 _ rfl) rfl <| Qh rfl rfl <| JL.nil ?_
 refine zi (fun h8 h8' => ?_) fun h8 h8' => ?_
 ·
  have hE := M.play_6 (g := g) (move := move) (by simpa using h8)
  have hq0 : 0 = (((M.play g move).1).rules).pits := rp_ hE
  have hq1 : 0 = (((M.play g move).1).rules).seeds := rp_ hE
  have hq2 : false = (((M.play g move).1).rules).stores := rp_ hE
  have hq3 : false = (((M.play g move).1).rules).skip := rp_ hE
  have hq4 : false = (((M.play g move).1).rules).relay := rp_ hE
  have hq5 : false = (((M.play g move).1).rules).feed := rp_ hE
  have hq6 : false = (((M.play g move).1).rules).again := rp_ hE
  have hq7 : 0 = (((M.play g move).1).rules).capture := rp_ hE
  have hq8 : 0 = (((M.play g move).1).rules).slam := rp_ hE
  have hq9 : [] = (((M.play g move).1).start).pits := rp_ hE
  have hq10 : [] = (((M.play g move).1).start).stores := rp_ hE
  have hq11 : 0 = (((M.play g move).1).start).player := rp_ hE
  have hq12 : [] = ((M.play g move).1).moves := rp_ hE
  have hq13 : [] = (((M.play g move).1).now).pits := rp_ hE
  have hq14 : [] = (((M.play g move).1).now).stores := rp_ hE
  have hq15 : 0 = (((M.play g move).1).now).player := rp_ hE
  have hq16 : 0 = ((M.play g move).1).resigned := rp_ hE
  have hq17 : 6 = (M.play g move).2 := rp_ hE
  refine zS <| Qb ?_
  refine zw 0 rfl rfl rfl ?_
  refine Qa rfl <| JL.nil ?_
  exact zro (Up.refl _ _)
 have q1 : ¬ 0 ≤ g.resigned := by simpa using h8
 refine Js.skip <| Js.seq <| zS <| Qm rfl <| Qc rfl <| Qf fh rfl <| QC (hr6 12 _ rfl) rfl <| Qz rfl <| Qh rfl rfl <| JL.nil ?_
 refine zi (fun h9 h9' => ?_) fun h9 h9' => ?_
 ·
  have hE := M.play_5 (move := move) q1 (by have := h9'; omega)
  have hq0 : 0 = (((M.play g move).1).rules).pits := rp_ hE
  have hq1 : 0 = (((M.play g move).1).rules).seeds := rp_ hE
  have hq2 : false = (((M.play g move).1).rules).stores := rp_ hE
  have hq3 : false = (((M.play g move).1).rules).skip := rp_ hE
  have hq4 : false = (((M.play g move).1).rules).relay := rp_ hE
  have hq5 : false = (((M.play g move).1).rules).feed := rp_ hE
  have hq6 : false = (((M.play g move).1).rules).again := rp_ hE
  have hq7 : 0 = (((M.play g move).1).rules).capture := rp_ hE
  have hq8 : 0 = (((M.play g move).1).rules).slam := rp_ hE
  have hq9 : [] = (((M.play g move).1).start).pits := rp_ hE
  have hq10 : [] = (((M.play g move).1).start).stores := rp_ hE
  have hq11 : 0 = (((M.play g move).1).start).player := rp_ hE
  have hq12 : [] = ((M.play g move).1).moves := rp_ hE
  have hq13 : [] = (((M.play g move).1).now).pits := rp_ hE
  have hq14 : [] = (((M.play g move).1).now).stores := rp_ hE
  have hq15 : 0 = (((M.play g move).1).now).player := rp_ hE
  have hq16 : 0 = ((M.play g move).1).resigned := rp_ hE
  have hq17 : 5 = (M.play g move).2 := rp_ hE
  refine zS <| Qb ?_
  refine zw 0 rfl rfl rfl ?_
  refine Qa rfl <| JL.nil ?_
  exact zro (Up.refl _ _)
 have q2 : g.moves.length ≠ 120 := by have := h9'; omega
 refine Js.skip <| Js.seq ?_
 refine zk [0, 1, 4] (fun F U l os u => ∃ (b13 : Nat) (A11 : Option Addr) (c11 : Nat) (A12 : Option Addr) (c12 : Nat), l = F [(6, .pointer (some ⟨b13, 0, none⟩)), (7, .int .i64 ((M.make g.rules g.now move).2))] ∧ os = [boxO b13 [.int .i64 (((M.make g.rules g.now move).1).move), .int .i64 (((M.make g.rules g.now move).1).gain), .bool (((M.make g.rules g.now move).1).again), .slice A11 (((((M.make g.rules g.now move).1).next).pits).length) c11, .slice A12 (((((M.make g.rules g.now move).1).next).stores).length) c12, .int .i64 ((((M.make g.rules g.now move).1).next).player)] 109] ++ U [] ∧ (((((M.make g.rules g.now move).1).next).pits).length ≤ c11) ∧ (c11 ≤ 9223372036854775807) ∧ ((Ty.ints 2 ((((M.make g.rules g.now move).1).next).pits)).ok u (.slice A11 (((((M.make g.rules g.now move).1).next).pits).length) c11)) ∧ (((((M.make g.rules g.now move).1).next).stores).length ≤ c12) ∧ (c12 ≤ 9223372036854775807) ∧ ((Ty.ints 2 ((((M.make g.rules g.now move).1).next).stores)).ok u (.slice A12 (((((M.make g.rules g.now move).1).next).stores).length) c12))) ?_ ?_
 ·
  refine zdr [12] ?_
  refine jM 0 rfl rfl ?_
  refine jN 1 rfl rfl ?_
  refine jF 2 fld_53_0 rfl rfl ?_
  refine jM 3 rfl rfl ?_
  refine jN 4 rfl rfl ?_
  refine jF 5 fld_53_3 rfl rfl ?_
  refine jM 6 rfl rfl ?_
  refine y2 7 11 ?_ ?_
  ·
   refine yp rfl rfl (fun w hw => c_spec_l07Make g.rules g.now move (ok_ hw) (ok_ hw)) ?_
   intro u19 x19 A20 c20 h20 bl20 bh20 A21 c21 h21 bl21 bh21
   refine jM 8 rfl rfl ?_
   refine JH.p 9 rfl (p_extract rfl rfl) ?_
   refine JH.p 10 rfl (p_extract rfl rfl) ?_
   refine y1 11 ?_
   refine ya rfl fun b22 => ?_
   refine y1 12 ?_
   refine yst rfl rfl rfl ?_
   refine jA 13 rfl rfl ?_
   refine yd ?_
   exact zm ⟨_, _, _, _, _, rfl, rfl, zt, zt, h20, zt, zt, h21⟩ x19
  refine ya rfl fun b23 => ?_
  refine y1 7 ?_
  refine yp rfl rfl (fun w hw => c_spec_l07Make g.rules g.now move (ok_ hw) (ok_ hw)) ?_
  intro u24 x24 A25 c25 h25 bl25 bh25 A26 c26 h26 bl26 bh26
  refine jM 8 rfl rfl ?_
  refine JH.p 9 rfl (p_extract rfl rfl) ?_
  refine JH.p 10 rfl (p_extract rfl rfl) ?_
  refine y1 12 ?_
  refine yst rfl rfl rfl ?_
  refine jA 13 rfl rfl ?_
  refine yd ?_
  exact zm ⟨_, _, _, _, _, rfl, rfl, zt, zt, h25, zt, zt, h26⟩ x24
 rintro _ _ u18 ⟨b13, A11, c11, A12, c12, rfl, rfl, f18_0, f18_1, f18_2, f18_3, f18_4, f18_5⟩ x18
 refine zn ?_
 refine Js.seq <| zS <| Qm rfl <| Qd rfl rfl <| JL.nil ?_
 refine zi (fun h27 h27' => ?_) fun h27 h27' => ?_
 ·
  have hE := M.play_c q1 q2 (move := move) (by simpa using h27)
  have hq0 : 0 = (((M.play g move).1).rules).pits := rp_ hE
  have hq1 : 0 = (((M.play g move).1).rules).seeds := rp_ hE
  have hq2 : false = (((M.play g move).1).rules).stores := rp_ hE
  have hq3 : false = (((M.play g move).1).rules).skip := rp_ hE
  have hq4 : false = (((M.play g move).1).rules).relay := rp_ hE
  have hq5 : false = (((M.play g move).1).rules).feed := rp_ hE
  have hq6 : false = (((M.play g move).1).rules).again := rp_ hE
  have hq7 : 0 = (((M.play g move).1).rules).capture := rp_ hE
  have hq8 : 0 = (((M.play g move).1).rules).slam := rp_ hE
  have hq9 : [] = (((M.play g move).1).start).pits := rp_ hE
  have hq10 : [] = (((M.play g move).1).start).stores := rp_ hE
  have hq11 : 0 = (((M.play g move).1).start).player := rp_ hE
  have hq12 : [] = ((M.play g move).1).moves := rp_ hE
  have hq13 : [] = (((M.play g move).1).now).pits := rp_ hE
  have hq14 : [] = (((M.play g move).1).now).stores := rp_ hE
  have hq15 : 0 = (((M.play g move).1).now).player := rp_ hE
  have hq16 : 0 = ((M.play g move).1).resigned := rp_ hE
  have hq17 : ((M.make g.rules g.now move).2) = (M.play g move).2 := rp_ hE
  refine zS <| Qb ?_
  refine Qm rfl <| zw 1 rfl rfl rfl ?_
  refine Qa rfl <| JL.nil ?_
  exact zro x18
 have hz : (M.make g.rules g.now move).2 = 0 := by simpa using h27
 have hE := M.play_0 q1 q2 hz
 have hl2 := M.okP_len (M.make_ok hz).2.2.2.1
 refine Js.skip <| zS <| Qm rfl <| zc rfl (fun w hw => c_spec_l08Own g (ok_ hw)) ?_
 intro A29 c29 bl29 bh29 A30 c30 bl30 bh30 A31 c31 bl31 bh31 A32 c32 bl32 bh32 A33 c33 bl33 bh33
 refine za zeh fun b34 => zw 0 rfl rfl rfl ?_
 refine zN <| Qf fh rfl <| Q0 0 rfl rfl rfl <| Qm rfl <| zbs fun b35 => ?_
 refine JL.e (e_append (i := 4) (n' := (g.moves ++ [move]).length) (vs' := ints_ (g.moves ++ [move])) el_26 rfl rfl rfl rfl (src_row (i := 0) und_26 rfl rfl) (by omega) (by omega) ln2_ (by simp [ints_])) ?_
 rintro v37 _ _ ⟨⟨g38, rfl⟩, rfl⟩ _
 refine JL.fact (row_form' (i := 4) rfl) (fun hf39 => ?_)
 obtain ⟨A39, c39, rfl, bl39, bh39⟩ := hf39
 refine znl ?_
 refine Qf fh rfl <| zw 1 rfl rfl rfl ?_
 refine zN <| Qf fh rfl <| zc rfl (fun w hw => c_spec_l04Own (((M.make g.rules g.now move).1).next) ⟨_, _, [.slice A11 (((((M.make g.rules g.now move).1).next).pits).length) c11, .slice A12 (((((M.make g.rules g.now move).1).next).stores).length) c12, .int .i64 ((((M.make g.rules g.now move).1).next).player)], rfl, ⟨(ok_ hw), (ok_ hw), rfl, trivial⟩, Mem.boxR (i := 7) rfl 3 3 _ hw⟩) ?_
 intro A41 c41 bl41 bh41 A42 c42 bl42 bh42
 have hq0 : g.rules.pits = (((M.play g move).1).rules).pits := rp_ hE
 have hq1 : g.rules.seeds = (((M.play g move).1).rules).seeds := rp_ hE
 have hq2 : g.rules.stores = (((M.play g move).1).rules).stores := rp_ hE
 have hq3 : g.rules.skip = (((M.play g move).1).rules).skip := rp_ hE
 have hq4 : g.rules.relay = (((M.play g move).1).rules).relay := rp_ hE
 have hq5 : g.rules.feed = (((M.play g move).1).rules).feed := rp_ hE
 have hq6 : g.rules.again = (((M.play g move).1).rules).again := rp_ hE
 have hq7 : g.rules.capture = (((M.play g move).1).rules).capture := rp_ hE
 have hq8 : g.rules.slam = (((M.play g move).1).rules).slam := rp_ hE
 have hq9 : g.start.pits = (((M.play g move).1).start).pits := rp_ hE
 have hq10 : g.start.stores = (((M.play g move).1).start).stores := rp_ hE
 have hq11 : g.start.player = (((M.play g move).1).start).player := rp_ hE
 have hq12 : (g.moves ++ [move]) = ((M.play g move).1).moves := rp_ hE
 have hq13 : ((((M.make g.rules g.now move).1).next).pits) = (((M.play g move).1).now).pits := rp_ hE
 have hq14 : ((((M.make g.rules g.now move).1).next).stores) = (((M.play g move).1).now).stores := rp_ hE
 have hq15 : ((((M.make g.rules g.now move).1).next).player) = (((M.play g move).1).now).player := rp_ hE
 have hq16 : g.resigned = ((M.play g move).1).resigned := rp_ hE
 have hq17 : 0 = (M.play g move).2 := rp_ hE
 refine Qf fh rfl <| zw 3 rfl rfl rfl ?_
 refine zN <| Q9 3 rfl rfl ?_
 refine zw 10 rfl rfl rfl ?_
 refine Qa rfl <| JL.nil ?_
 exact zro x18
theorem c_spec_l08New (r : M.Rul) {v_r : Value} (p : M.Pos) {v_p : Value} {w : World} (h_r : (Ty.ref (cRules r)).ok w v_r) (h_p : (Ty.ref (cPosition p)).ok w v_p) (r0 : p.pits.length ≤ 4194304 := by exact om_) (r1 : p.stores.length ≤ 4194304 := by exact om_) : Ret Tryz.prog 157 [v_r, v_p] w (Ty.agg (cGame (M.Gam.mk r p [] p (-1)))) := by
 revert v_r; apply opn
 intro b1 o1 hr1
 revert v_p; apply opn
 intro b4 o4 A2 c2 h2 bl2 bh2 A3 c3 h3 bl3 bh3 hr4
 refine enter @Tryz.func157 @Tryz.ntmps157 rfl rfl ?_
 refine zent ?_
 refine zS <| za zeh fun b5 => zJ ?_
 refine zdr [8] ?_
 refine jM 0 rfl rfl ?_
 refine jN 1 rfl rfl ?_
 refine JH.w 2 rfl (fun os' u' hv => LS 0 (hr1.vis hv) rfl) ?_
 refine jM 3 rfl rfl ?_
 refine jM 5 rfl rfl ?_
 refine y1 4 ?_
 refine yc rfl rfl (fun w hw => c_spec_l04Own p (ok_ hw)) ?_
 intro A7 c7 bl7 bh7 A8 c8 bl8 bh8
 refine y1 6 ?_
 refine yc rfl rfl (fun w hw => c_spec_l04Own p (ok_ hw)) ?_
 intro A10 c10 bl10 bh10 A11 c11 bl11 bh11
 refine JH.p 7 rfl (q_bld) ?_
 refine y1 8 ?_
 refine yst rfl rfl rfl ?_
 refine yd ?_
 exact zro (Up.refl _ _)
theorem c_spec_l10After (line word : List UInt8) {w : World} (r0 : line.length ≤ 100000 := by exact om_) (r1 : word.length ≤ 1000 := by exact om_) : RetV Tryz.prog 117 [.string (sB line), .string (sB word)] w (.tuple #[.string (sB ((M.aft line word).1)), .bool ((M.aft line word).2)]) := by
 have lbw : LenB word 1000 := ⟨r1⟩
 refine enter @Tryz.func117 @Tryz.ntmps117 rfl rfl ?_
 refine zent ?_
 refine zS <| Qa rfl <| Qa rfl <| zN <| Qm rfl <| Qq (p_lenS und_9 rfl) <| Qp rfl rfl <| Qa rfl <| zJ <| Js.seq ?_
 rcases Bool.eq_false_or_eq_true (decide ((line.length : Int) < (word.length : Int) + 1)) with h1 | h1
 ·
  have h1' := h1; simp only [decide_eq_true_eq, Int.not_lt, Int.not_le] at h1'
  refine Js.region <| Qm rfl <| Qq (p_lenS und_9 rfl) <| Qm rfl <| Ql rfl rfl <| Qm rfl ?_
  refine JL.g (v := undef) (Gd.f1 rfl rfl rfl) (fun hc => absurd hc (by first | (rw [h1]; simp; done) | simp [h1])) ?_
  refine JL.g (v := undef) (Gd.f1 rfl rfl rfl) (fun hc => absurd hc (by first | (rw [h1]; simp; done) | simp [h1])) ?_
  refine JL.g (v := undef) (Gd.f1 rfl rfl rfl) (fun hc => absurd hc (by first | (rw [h1]; simp; done) | simp [h1])) ?_
  refine JL.g (v := undef) (Gd.f1 rfl rfl rfl) (fun hc => absurd hc (by first | (rw [h1]; simp; done) | simp [h1])) ?_
  refine JL.g (v := undef) (Gd.f1 rfl rfl rfl) (fun hc => absurd hc (by first | (rw [h1]; simp; done) | simp [h1])) ?_
  refine JL.g (v := .bool false) (Gd.f1 rfl rfl rfl) (fun hc => absurd hc (by first | (rw [h1]; simp; done) | simp [h1])) ?_
  refine Qq (p_pickOr rfl rfl rfl) <| JL.nil ?_
  -- known
  have hE := M.aft_n (t := line) (w := word) (fun ⟨d1, d2⟩ => by have h9 := h1; first | omega | (simp [d2] at h9; omega) | (simp [d2] at h9))
  refine Js.condT rfl (by rw [h1]; rfl) ?_
  refine zS <| Qa rfl <| Qa rfl <| JL.nil ?_
  refine zR (Up.refl _ _) ?_
  first | (rw [hE]; done) | (rw [hE]; rfl)
 have h1' := h1; simp only [decide_eq_false_iff_not, Int.not_lt, Int.not_le] at h1'
 refine Js.region <| Qm rfl <| Qq (p_lenS und_9 rfl) <| Qm rfl <| Ql rfl rfl <| Qm rfl <| zT (Gd.f1 rfl rfl rfl) (show (!(decide ((line.length : Int) < (word.length : Int) + 1))) = true by first | exact h1 | (rw [h1]; rfl) | simp [h1]) <| Qm rfl <| zT (Gd.f1 rfl rfl rfl) (show (!(decide ((line.length : Int) < (word.length : Int) + 1))) = true by first | exact h1 | (rw [h1]; rfl) | simp [h1]) <| Qm rfl <| zT (Gd.f1 rfl rfl rfl) (show (!(decide ((line.length : Int) < (word.length : Int) + 1))) = true by first | exact h1 | (rw [h1]; rfl) | simp [h1]) <| Qq (p_takeS (i := word.length + 1) und_9 rfl rfl (by omega)) <| zT (Gd.f1 rfl rfl rfl) (show (!(decide ((line.length : Int) < (word.length : Int) + 1))) = true by first | exact h1 | (rw [h1]; rfl) | simp [h1]) <| Qm rfl ?_
 refine zT (Gd.f1 rfl rfl rfl) (show (!(decide ((line.length : Int) < (word.length : Int) + 1))) = true by first | exact h1 | (rw [h1]; rfl) | simp [h1]) <| Qq (q_cat rfl rfl) <| zT (Gd.f1 rfl rfl rfl) (show (!(decide ((line.length : Int) < (word.length : Int) + 1))) = true by first | exact h1 | (rw [h1]; rfl) | simp [h1]) <| Qq (p_neqT und_9 rfl rfl) <| Qq (p_pickOr2 rfl rfl rfl) <| JL.nil ?_
 refine zi (fun h2 h2' => ?_) fun h2 h2' => ?_
 ·
  have hE := M.aft_n (t := line) (w := word) (fun ⟨d1, d2⟩ => by have h9 := h2; first | omega | (simp [d2] at h9; omega) | (simp [d2] at h9))
  refine zS <| Qa rfl <| Qa rfl <| JL.nil ?_
  refine zR (Up.refl _ _) ?_
  first | (rw [hE]; done) | (rw [hE]; rfl)
 have hE := M.aft_y (t := line) (w := word) (by have h9 := h2; simp at h9; omega) (by have h9 := h2; simp at h9; first | exact h9.2 | exact h9)
 refine Js.skip <| zS <| Qm rfl <| Qm rfl <| Qq (p_dropS (i := word.length + 1) und_9 rfl rfl (by omega)) <| Qa rfl <| Qa rfl <| JL.nil ?_
 refine zR (Up.refl _ _) ?_
 first | (rw [hE]; done) | (rw [hE]; rfl)
theorem c_spec_l10Parts (line : List UInt8) {w : World} (r0 : line.length ≤ 100000 := by exact om_) : RetV Tryz.prog 158 [.string (sB line)] w (.tuple #[.int .i64 ((M.numR line).1.1), .int .i64 ((M.numR line).1.2.1), .int .i64 ((M.numR line).1.2.2), .bool ((M.numR line).2)]) := by
 refine enter @Tryz.func158 @Tryz.ntmps158 rfl rfl ?_
 refine zent ?_
 refine zS <| Qa rfl <| Qa rfl <| Qa rfl <| Qa rfl <| zN <| Qm rfl <| zp rfl (fun w hw => c_spec_l01Split line 32) ?_
 intro u1 x1 A2 c2 h2 bl2 bh2
 have hp : 0 < (M.split (M.u8 32) line).length := List.length_pos_iff.2 (M.split_ne 32 line)
 obtain ⟨ye3, hye3⟩ : ∃ x, (M.split (M.u8 32) line)[0]? = some x := ⟨_, List.getElem?_eq_getElem (by omega)⟩
 have hm_w0 := M.split_mem 32 _ _ (List.mem_of_getElem? hye3)
 refine Qa rfl <| zJ <| Js.seq ?_
 refine zdr [] ?_
 refine jM 0 rfl rfl ?_
 refine JH.p 1 rfl (p_len el_31 rfl) ?_
 refine JH.p 2 rfl (p_neq rfl rfl) ?_
 refine jM 3 rfl rfl ?_
 refine JH.pg 4 rfl (Gd.f1 rfl rfl rfl) (fun hc => p_move rfl) ?_
 have hy4 := hye3
 obtain ⟨b4, o4, he4, hc4⟩ := strs_elem h2 hy4
 refine JH.pg 5 rfl (Gd.f1 rfl rfl rfl) (fun hc => p_indexAddr el_31 (gvt rfl hc) rfl (by omega) (by omega) he4) ?_
 refine JH.wg 6 rfl (Gd.f1 rfl rfl rfl) (fun hc os' u' hv => q_load1 ty_9.h (gvt rfl hc) (Mem.pub (hc4.vis hv))) ?_
 refine JH.pg 7 rfl (Gd.f1 rfl rfl rfl) (fun hc => p_lenS und_9 (gvt rfl hc)) ?_
 refine JH.pg 8 rfl (Gd.f1 rfl rfl rfl) (fun hc => p_lss (gvt rfl hc) rfl) ?_
 refine JH.p 9 rfl (p_pickOr rfl rfl rfl) ?_
 refine jM 10 rfl rfl ?_
 refine JH.pg 11 rfl (Gd.f1 rfl rfl rfl) (fun hc => p_move rfl) ?_
 have hy5 := hye3
 obtain ⟨b5, o5, he5, hc5⟩ := strs_elem h2 hy5
 refine JH.pg 12 rfl (Gd.f1 rfl rfl rfl) (fun hc => p_indexAddr el_31 (gvt rfl hc) rfl (by omega) (by omega) he5) ?_
 refine JH.wg 13 rfl (Gd.f1 rfl rfl rfl) (fun hc os' u' hv => q_load1 ty_9.h (gvt rfl hc) (Mem.pub (hc5.vis hv))) ?_
 refine JH.pg 14 rfl (Gd.f1 rfl rfl rfl) (fun hc => p_move rfl) ?_
 have hy6 := hye3
 obtain ⟨b6, o6, he6, hc6⟩ := strs_elem h2 hy6
 refine JH.pg 15 rfl (Gd.f1 rfl rfl rfl) (fun hc => p_indexAddr el_31 (gvt rfl hc) rfl (by omega) (by omega) he6) ?_
 refine JH.wg 16 rfl (Gd.f1 rfl rfl rfl) (fun hc os' u' hv => q_load1 ty_9.h (gvt rfl hc) (Mem.pub (hc6.vis hv))) ?_
 refine JH.pg 17 rfl (Gd.f1 rfl rfl rfl) (fun hc => p_lenS und_9 (gvt rfl hc)) ?_
 refine JH.pg 18 rfl (Gd.f1 rfl rfl rfl) (fun hc => p_sub (gvt rfl hc) rfl (IntWalk.i64_in _ (by have hc9 := hc; (try simp only [Bool.not_eq_true', Bool.or_eq_false_iff, Bool.not_eq_false', decide_eq_true_eq, decide_eq_false_iff_not, Int.not_lt] at hc9); omega))) ?_
 refine y1 19 ?_
 have hbt7 := M.bat_bd ye3 (((ye3.length : Int) - 1).toNat)
 refine JHo.qg rfl (Gd.f1 rfl rfl rfl) (fun hc => OpP.q (p_byteS (i := ((ye3.length : Int) - 1).toNat) und_9 (gvt rfl hc) (by rw [Int.toNat_of_nonneg (by first | omega | (have h9 := hc; simp at h9; omega))]; exact (gvt rfl hc)) (by first | have hc9 := hc; (try simp only [Bool.not_eq_true', Bool.or_eq_false_iff, Bool.not_eq_false', decide_eq_true_eq, decide_eq_false_iff_not, Int.not_lt] at hc9); omega | (have h9 := List.length_pos_iff.2 (by simpa using hc); omega) | (have h9 := hc; simp at h9; omega)))) ?_
 refine JH.pg 20 rfl (Gd.f1 rfl rfl rfl) (fun hc => p_neq (gvt rfl hc) rfl) ?_
 refine JH.p 21 rfl (p_pickOr rfl rfl rfl) ?_
 refine yd ?_
 refine zi (fun h8 h8' => ?_) fun h8 h8' => ?_
 ·
  have hE := M.numR_n (t := line) (fun hf => by have h9 := h8; have f1 : (M.split (M.u8 32) line).length = 2 := hf.1; obtain ⟨f2, f3⟩ := M.fmS_0 hye3 hf; have f4 := (M.bat_46 (a := ye3) (k := ye3.length - 1) (by omega)).2 f3; simp [f1, f4] at h9; omega)
  refine zS <| Qa rfl <| Qa rfl <| Qa rfl <| Qa rfl <| JL.nil ?_
  refine zR x1 ?_
  first | (rw [hE]; done) | (rw [hE]; rfl)
 have hq9 := h8
 have k2 : (M.split 32 line).length = 2 := by have h9 := hq9; simp at h9; have h8 := h9.1.1; first | exact h8 | (exact_mod_cast h8)
 have kl : 2 ≤ ye3.length := by have h9 := hq9; simp at h9; omega
 have kd : ye3[ye3.length - 1]? = some 46 := by have h9 := hq9; simp at h9; exact (M.bat_46 (a := ye3) (k := ye3.length - 1) (by omega)).1 h9.2
 have hp1 : 1 < (M.split (M.u8 32) line).length := by have h9 : (M.split (M.u8 32) line).length = 2 := k2; omega
 obtain ⟨ye9, hye9⟩ : ∃ x, (M.split (M.u8 32) line)[1]? = some x := ⟨_, List.getElem?_eq_getElem (by omega)⟩
 have hm_w1 := M.split_mem 32 _ _ (List.mem_of_getElem? hye9)
 have hy10 := hye9
 obtain ⟨b10, o10, he10, hc10⟩ := strs_elem h2 hy10
 refine Js.skip <| zS <| Qm rfl <| Qq (p_indexAddr el_31 rfl rfl (by omega) (by omega) he10) <| QC hc10 rfl <| zp rfl (fun w hw => c_spec_l01Split ye9 43) ?_
 intro u11 x11 A12 c12 h12 bl12 bh12
 refine Qa rfl <| zJ <| zS <| Qm rfl <| Qz rfl <| Qd rfl rfl <| JL.nil ?_
 refine zi (fun h13 h13' => ?_) fun h13 h13' => ?_
 ·
  have hE := M.numR_n (t := line) (fun hf => by have h8 := h13'; have h9 : (M.split (M.u8 43) ye9).length = 2 := M.fmS_1 hye9 hf; omega)
  refine zS <| Qa rfl <| Qa rfl <| Qa rfl <| Qa rfl <| JL.nil ?_
  refine zR (x1.trans x11) ?_
  first | (rw [hE]; done) | (rw [hE]; rfl)
 have v2 : (M.split (M.u8 43) ye9).length = 2 := by have h8 := h13'; omega
 obtain ⟨ye14, hye14⟩ : ∃ x, (M.split (M.u8 43) ye9)[0]? = some x := ⟨_, List.getElem?_eq_getElem (by omega)⟩
 have hm_v0 := M.split_mem 43 _ _ (List.mem_of_getElem? hye14)
 obtain ⟨ye15, hye15⟩ : ∃ x, (M.split (M.u8 43) ye9)[1]? = some x := ⟨_, List.getElem?_eq_getElem (by omega)⟩
 have hm_v1 := M.split_mem 43 _ _ (List.mem_of_getElem? hye15)
 have hE := M.numR_y k2 hye3 hye9 kl kd v2 hye14 hye15
 rw [show ye3.length - 1 = ((ye3.length : Int) - 1).toNat by omega] at hE
 refine Js.skip <| Js.seq ?_
 refine zdr [] ?_
 refine jM 0 rfl rfl ?_
 have hy16 := hye3
 obtain ⟨b16, o16, he16, hc16⟩ := strs_elem (Ty.mono _ h2 x11.vis) hy16
 refine jI 1 el_31 rfl rfl rfl he16 ?_
 refine jW 2 ty_9 rfl rfl hc16.vis ?_
 refine jM 3 rfl rfl ?_
 have hy17 := hye3
 obtain ⟨b17, o17, he17, hc17⟩ := strs_elem (Ty.mono _ h2 x11.vis) hy17
 refine jI 4 el_31 rfl rfl rfl he17 ?_
 refine jW 5 ty_9 rfl rfl hc17.vis ?_
 refine JH.p 6 rfl (p_lenS und_9 rfl) ?_
 refine JH.p 7 rfl (p_sub rfl rfl (IntWalk.i64_in _ (by omega))) ?_
 refine JH.p 8 rfl (p_takeS (i := ((ye3.length : Int) - 1).toNat) und_9 rfl (by rw [Int.toNat_of_nonneg (by omega)]; exact rfl) (by omega)) ?_
 refine y1 9 ?_
 refine yv rfl rfl (fun w hw => c_spec_l01Number (ye3.take (((ye3.length : Int) - 1).toNat)) (r0 := (by first | omega | (rw [List.length_take]; omega)))) ?_
 refine jM 10 rfl rfl ?_
 refine JH.p 11 rfl (p_extract rfl rfl) ?_
 refine JH.p 12 rfl (p_extract rfl rfl) ?_
 refine jA 13 rfl rfl ?_
 refine jA 14 rfl rfl ?_
 refine yd ?_
 have hy18 := hye14
 obtain ⟨b18, o18, he18, hc18⟩ := strs_elem h12 hy18
 have hy19 := hye15
 obtain ⟨b19, o19, he19, hc19⟩ := strs_elem h12 hy19
 refine zS <| Qm rfl <| Qq (p_indexAddr el_31 rfl rfl (by omega) (by omega) he18) <| QC hc18 rfl <| zv rfl (fun w hw => c_spec_l01Number ye14 (r0 := (by first | omega | (rw [List.length_take]; omega)))) <| Qm rfl <| Qx rfl rfl <| Qx rfl rfl <| Qa rfl <| Qa rfl <| zN <| Qm rfl <| Qq (p_indexAddr el_31 rfl rfl (by omega) (by omega) he19) <| QC hc19 rfl ?_
 refine zv rfl (fun w hw => c_spec_l01Number ye15 (r0 := (by first | omega | (rw [List.length_take]; omega)))) <| Qm rfl <| Qx rfl rfl <| Qx rfl rfl <| Qa rfl <| Qa rfl <| zN <| Qm rfl <| Qm rfl <| Qm rfl <| Qm rfl <| Qm rfl <| zg (Gd.t1 rfl rfl rfl) (fun hc => p_move rfl) <| Qq (p_pickAnd rfl rfl rfl) ?_
 refine Qm rfl <| zg (Gd.t1 rfl rfl rfl) (fun hc => p_move rfl) <| Qq (p_pickAnd rfl rfl rfl) <| Qa rfl <| Qa rfl <| Qa rfl <| Qa rfl <| JL.nil ?_
 refine zR (x1.trans x11) ?_
 first | (rw [hE]; done) | (rw [hE]; rfl)
theorem c_spec_l10Next (g : M.Gam) {v_g : Value} (line : List UInt8) {w : World} (h_g : (Ty.ref (cGame g)).ok w v_g) (r0 : g.start.pits.length ≤ 4194304 := by exact om_) (r1 : g.start.stores.length ≤ 4194304 := by exact om_) (r2 : g.moves.length ≤ 120 := by exact om_) (r3 : g.now.pits.length ≤ 4194304 := by exact om_) (r4 : g.now.stores.length ≤ 4194304 := by exact om_) (r5 : line.length ≤ 100000 := by exact om_) : Ret Tryz.prog 118 [v_g, .string (sB line)] w (Ty.tup [Ty.agg (cGame ((M.nextR g (M.numR line)).1)), Ty.int ((M.nextR g (M.numR line)).2)]) := by
 revert v_g; apply opn
 intro b6 o6 A1 c1 h1 bl1 bh1 A2 c2 h2 bl2 bh2 A3 c3 h3 bl3 bh3 A4 c4 h4 bl4 bh4 A5 c5 h5 bl5 bh5 hr6
 refine enter @Tryz.func118 @Tryz.ntmps118 rfl rfl ?_
 refine zent ?_
 refine zS <| za zeh fun b7 => Qa rfl <| zN <| Qm rfl <| zv rfl (fun w hw => c_spec_l10Parts line) <| Qm rfl <| Qx rfl rfl <| Qx rfl rfl <| Qx rfl rfl <| Qx rfl rfl <| Qa rfl <| Qa rfl <| Qa rfl ?_
 refine Qa rfl <| zJ <| zS <| Qm rfl <| Qt rfl <| JL.nil ?_
 refine zi (fun h8 h8' => ?_) fun h8 h8' => ?_
 ·
  have hE := M.nextR_3 (g := g) (x := (M.numR line)) (by simpa using h8)
  have hq0 : 0 = (((M.nextR g (M.numR line)).1).rules).pits := rp_ hE
  have hq1 : 0 = (((M.nextR g (M.numR line)).1).rules).seeds := rp_ hE
  have hq2 : false = (((M.nextR g (M.numR line)).1).rules).stores := rp_ hE
  have hq3 : false = (((M.nextR g (M.numR line)).1).rules).skip := rp_ hE
  have hq4 : false = (((M.nextR g (M.numR line)).1).rules).relay := rp_ hE
  have hq5 : false = (((M.nextR g (M.numR line)).1).rules).feed := rp_ hE
  have hq6 : false = (((M.nextR g (M.numR line)).1).rules).again := rp_ hE
  have hq7 : 0 = (((M.nextR g (M.numR line)).1).rules).capture := rp_ hE
  have hq8 : 0 = (((M.nextR g (M.numR line)).1).rules).slam := rp_ hE
  have hq9 : [] = (((M.nextR g (M.numR line)).1).start).pits := rp_ hE
  have hq10 : [] = (((M.nextR g (M.numR line)).1).start).stores := rp_ hE
  have hq11 : 0 = (((M.nextR g (M.numR line)).1).start).player := rp_ hE
  have hq12 : [] = ((M.nextR g (M.numR line)).1).moves := rp_ hE
  have hq13 : [] = (((M.nextR g (M.numR line)).1).now).pits := rp_ hE
  have hq14 : [] = (((M.nextR g (M.numR line)).1).now).stores := rp_ hE
  have hq15 : 0 = (((M.nextR g (M.numR line)).1).now).player := rp_ hE
  have hq16 : 0 = ((M.nextR g (M.numR line)).1).resigned := rp_ hE
  have hq17 : 3 = (M.nextR g (M.numR line)).2 := rp_ hE
  refine zS <| Qb ?_
  refine zw 0 rfl rfl rfl ?_
  refine Qa rfl <| JL.nil ?_
  exact zro (Up.refl _ _)
 have c1 : (M.numR line).2 = true := by simpa using h8
 refine Js.skip <| Js.seq <| zS <| Qm rfl <| Qm rfl <| Qc rfl <| Qf fh rfl <| QC (hr6 12 _ rfl) rfl <| Qz rfl <| Qp rfl rfl <| Qd rfl rfl <| JL.nil ?_
 refine zi (fun h9 h9' => ?_) fun h9 h9' => ?_
 ·
  have hE := M.nextR_4 (g := g) c1 (by simpa using h9)
  have hq0 : 0 = (((M.nextR g (M.numR line)).1).rules).pits := rp_ hE
  have hq1 : 0 = (((M.nextR g (M.numR line)).1).rules).seeds := rp_ hE
  have hq2 : false = (((M.nextR g (M.numR line)).1).rules).stores := rp_ hE
  have hq3 : false = (((M.nextR g (M.numR line)).1).rules).skip := rp_ hE
  have hq4 : false = (((M.nextR g (M.numR line)).1).rules).relay := rp_ hE
  have hq5 : false = (((M.nextR g (M.numR line)).1).rules).feed := rp_ hE
  have hq6 : false = (((M.nextR g (M.numR line)).1).rules).again := rp_ hE
  have hq7 : 0 = (((M.nextR g (M.numR line)).1).rules).capture := rp_ hE
  have hq8 : 0 = (((M.nextR g (M.numR line)).1).rules).slam := rp_ hE
  have hq9 : [] = (((M.nextR g (M.numR line)).1).start).pits := rp_ hE
  have hq10 : [] = (((M.nextR g (M.numR line)).1).start).stores := rp_ hE
  have hq11 : 0 = (((M.nextR g (M.numR line)).1).start).player := rp_ hE
  have hq12 : [] = ((M.nextR g (M.numR line)).1).moves := rp_ hE
  have hq13 : [] = (((M.nextR g (M.numR line)).1).now).pits := rp_ hE
  have hq14 : [] = (((M.nextR g (M.numR line)).1).now).stores := rp_ hE
  have hq15 : 0 = (((M.nextR g (M.numR line)).1).now).player := rp_ hE
  have hq16 : 0 = ((M.nextR g (M.numR line)).1).resigned := rp_ hE
  have hq17 : 4 = (M.nextR g (M.numR line)).2 := rp_ hE
  refine zS <| Qb ?_
  refine zw 0 rfl rfl rfl ?_
  refine Qa rfl <| JL.nil ?_
  exact zro (Up.refl _ _)
 have c2 : (M.numR line).1.1 = (g.moves.length : Int) + 1 := by simpa using h9
 refine Js.skip <| Js.seq ?_
 refine zk [0, 4, 7, 8] (fun F U l os u => ∃ (b13 : Nat) (A11 : Option Addr) (c11 : Nat) (A12 : Option Addr) (c12 : Nat), l = F [(10, .pointer (some ⟨b13, 0, none⟩))] ∧ os = [boxO b13 [.int .i64 (((M.make g.rules g.now ((M.numR line).1.2.1)).1).move), .int .i64 (((M.make g.rules g.now ((M.numR line).1.2.1)).1).gain), .bool (((M.make g.rules g.now ((M.numR line).1.2.1)).1).again), .slice A11 (((((M.make g.rules g.now ((M.numR line).1.2.1)).1).next).pits).length) c11, .slice A12 (((((M.make g.rules g.now ((M.numR line).1.2.1)).1).next).stores).length) c12, .int .i64 ((((M.make g.rules g.now ((M.numR line).1.2.1)).1).next).player)] 109] ++ U [] ∧ (((((M.make g.rules g.now ((M.numR line).1.2.1)).1).next).pits).length ≤ c11) ∧ (c11 ≤ 9223372036854775807) ∧ ((Ty.ints 2 ((((M.make g.rules g.now ((M.numR line).1.2.1)).1).next).pits)).ok u (.slice A11 (((((M.make g.rules g.now ((M.numR line).1.2.1)).1).next).pits).length) c11)) ∧ (((((M.make g.rules g.now ((M.numR line).1.2.1)).1).next).stores).length ≤ c12) ∧ (c12 ≤ 9223372036854775807) ∧ ((Ty.ints 2 ((((M.make g.rules g.now ((M.numR line).1.2.1)).1).next).stores)).ok u (.slice A12 (((((M.make g.rules g.now ((M.numR line).1.2.1)).1).next).stores).length) c12))) ?_ ?_
 ·
  refine zdr [12] ?_
  refine jM 0 rfl rfl ?_
  refine jN 1 rfl rfl ?_
  refine jF 2 fld_53_0 rfl rfl ?_
  refine jM 3 rfl rfl ?_
  refine jN 4 rfl rfl ?_
  refine jF 5 fld_53_3 rfl rfl ?_
  refine jM 6 rfl rfl ?_
  refine y2 7 11 ?_ ?_
  ·
   refine yp rfl rfl (fun w hw => c_spec_l07Make g.rules g.now ((M.numR line).1.2.1) (ok_ hw) (ok_ hw)) ?_
   intro u19 x19 A20 c20 h20 bl20 bh20 A21 c21 h21 bl21 bh21
   refine jM 8 rfl rfl ?_
   refine JH.p 9 rfl (p_extract rfl rfl) ?_
   refine JH.p 10 rfl (p_extract rfl rfl) ?_
   refine y1 11 ?_
   refine ya rfl fun b22 => ?_
   refine y1 12 ?_
   refine yst rfl rfl rfl ?_
   refine jA 13 rfl rfl ?_
   refine yd ?_
   exact zm ⟨_, _, _, _, _, rfl, rfl, zt, zt, h20, zt, zt, h21⟩ x19
  refine ya rfl fun b23 => ?_
  refine y1 7 ?_
  refine yp rfl rfl (fun w hw => c_spec_l07Make g.rules g.now ((M.numR line).1.2.1) (ok_ hw) (ok_ hw)) ?_
  intro u24 x24 A25 c25 h25 bl25 bh25 A26 c26 h26 bl26 bh26
  refine jM 8 rfl rfl ?_
  refine JH.p 9 rfl (p_extract rfl rfl) ?_
  refine JH.p 10 rfl (p_extract rfl rfl) ?_
  refine y1 12 ?_
  refine yst rfl rfl rfl ?_
  refine jA 13 rfl rfl ?_
  refine yd ?_
  exact zm ⟨_, _, _, _, _, rfl, rfl, zt, zt, h25, zt, zt, h26⟩ x24
 rintro _ _ u18 ⟨b13, A11, c11, A12, c12, rfl, rfl, f18_0, f18_1, f18_2, f18_3, f18_4, f18_5⟩ x18
 refine zn ?_
 refine zS <| Qm rfl <| Qm rfl <| zc rfl (fun w hw => c_spec_l08Play g ((M.numR line).1.2.1) (ok_ hw)) ?_
 intro A29 c29 bl29 bh29 A30 c30 bl30 bh30 A31 c31 bl31 bh31 A32 c32 bl32 bh32 A33 c33 bl33 bh33
 refine Qm rfl <| Qx rfl rfl <| Qx rfl rfl <| za zeh fun b34 => zw 0 rfl rfl rfl ?_
 refine Qa rfl <| zJ <| zS <| Qm rfl <| Qd rfl rfl <| JL.nil ?_
 refine zi (fun h35 h35' => ?_) fun h35 h35' => ?_
 ·
  have hE := M.nextR_5 (g := g) c1 c2 (by simpa using h35)
  have hq0 : 0 = (((M.nextR g (M.numR line)).1).rules).pits := rp_ hE
  have hq1 : 0 = (((M.nextR g (M.numR line)).1).rules).seeds := rp_ hE
  have hq2 : false = (((M.nextR g (M.numR line)).1).rules).stores := rp_ hE
  have hq3 : false = (((M.nextR g (M.numR line)).1).rules).skip := rp_ hE
  have hq4 : false = (((M.nextR g (M.numR line)).1).rules).relay := rp_ hE
  have hq5 : false = (((M.nextR g (M.numR line)).1).rules).feed := rp_ hE
  have hq6 : false = (((M.nextR g (M.numR line)).1).rules).again := rp_ hE
  have hq7 : 0 = (((M.nextR g (M.numR line)).1).rules).capture := rp_ hE
  have hq8 : 0 = (((M.nextR g (M.numR line)).1).rules).slam := rp_ hE
  have hq9 : [] = (((M.nextR g (M.numR line)).1).start).pits := rp_ hE
  have hq10 : [] = (((M.nextR g (M.numR line)).1).start).stores := rp_ hE
  have hq11 : 0 = (((M.nextR g (M.numR line)).1).start).player := rp_ hE
  have hq12 : [] = ((M.nextR g (M.numR line)).1).moves := rp_ hE
  have hq13 : [] = (((M.nextR g (M.numR line)).1).now).pits := rp_ hE
  have hq14 : [] = (((M.nextR g (M.numR line)).1).now).stores := rp_ hE
  have hq15 : 0 = (((M.nextR g (M.numR line)).1).now).player := rp_ hE
  have hq16 : 0 = ((M.nextR g (M.numR line)).1).resigned := rp_ hE
  have hq17 : 5 = (M.nextR g (M.numR line)).2 := rp_ hE
  refine zS <| Qb ?_
  refine zw 7 rfl rfl rfl ?_
  refine Qa rfl <| JL.nil ?_
  exact zro x18
 have c3 : (M.play g (M.numR line).1.2.1).2 = 0 := by simpa using h35
 refine Js.skip <| Js.seq <| zS <| Qf fh rfl <| Q0 6 rfl rfl rfl <| Qm rfl <| Qd rfl rfl <| JL.nil ?_
 refine zi (fun h36 h36' => ?_) fun h36 h36' => ?_
 ·
  have hE := M.nextR_6 (g := g) c1 c2 c3 (by simpa using h36)
  have hq0 : 0 = (((M.nextR g (M.numR line)).1).rules).pits := rp_ hE
  have hq1 : 0 = (((M.nextR g (M.numR line)).1).rules).seeds := rp_ hE
  have hq2 : false = (((M.nextR g (M.numR line)).1).rules).stores := rp_ hE
  have hq3 : false = (((M.nextR g (M.numR line)).1).rules).skip := rp_ hE
  have hq4 : false = (((M.nextR g (M.numR line)).1).rules).relay := rp_ hE
  have hq5 : false = (((M.nextR g (M.numR line)).1).rules).feed := rp_ hE
  have hq6 : false = (((M.nextR g (M.numR line)).1).rules).again := rp_ hE
  have hq7 : 0 = (((M.nextR g (M.numR line)).1).rules).capture := rp_ hE
  have hq8 : 0 = (((M.nextR g (M.numR line)).1).rules).slam := rp_ hE
  have hq9 : [] = (((M.nextR g (M.numR line)).1).start).pits := rp_ hE
  have hq10 : [] = (((M.nextR g (M.numR line)).1).start).stores := rp_ hE
  have hq11 : 0 = (((M.nextR g (M.numR line)).1).start).player := rp_ hE
  have hq12 : [] = ((M.nextR g (M.numR line)).1).moves := rp_ hE
  have hq13 : [] = (((M.nextR g (M.numR line)).1).now).pits := rp_ hE
  have hq14 : [] = (((M.nextR g (M.numR line)).1).now).stores := rp_ hE
  have hq15 : 0 = (((M.nextR g (M.numR line)).1).now).player := rp_ hE
  have hq16 : 0 = ((M.nextR g (M.numR line)).1).resigned := rp_ hE
  have hq17 : 6 = (M.nextR g (M.numR line)).2 := rp_ hE
  refine zS <| Qb ?_
  refine zw 7 rfl rfl rfl ?_
  refine Qa rfl <| JL.nil ?_
  exact zro x18
 have hE := M.nextR_0 (g := g) c1 c2 c3 (by simpa using h36)
 have hq0 : ((((M.play g ((M.numR line).1.2.1)).1).rules).pits) = (((M.nextR g (M.numR line)).1).rules).pits := rp_ hE
 have hq1 : ((((M.play g ((M.numR line).1.2.1)).1).rules).seeds) = (((M.nextR g (M.numR line)).1).rules).seeds := rp_ hE
 have hq2 : ((((M.play g ((M.numR line).1.2.1)).1).rules).stores) = (((M.nextR g (M.numR line)).1).rules).stores := rp_ hE
 have hq3 : ((((M.play g ((M.numR line).1.2.1)).1).rules).skip) = (((M.nextR g (M.numR line)).1).rules).skip := rp_ hE
 have hq4 : ((((M.play g ((M.numR line).1.2.1)).1).rules).relay) = (((M.nextR g (M.numR line)).1).rules).relay := rp_ hE
 have hq5 : ((((M.play g ((M.numR line).1.2.1)).1).rules).feed) = (((M.nextR g (M.numR line)).1).rules).feed := rp_ hE
 have hq6 : ((((M.play g ((M.numR line).1.2.1)).1).rules).again) = (((M.nextR g (M.numR line)).1).rules).again := rp_ hE
 have hq7 : ((((M.play g ((M.numR line).1.2.1)).1).rules).capture) = (((M.nextR g (M.numR line)).1).rules).capture := rp_ hE
 have hq8 : ((((M.play g ((M.numR line).1.2.1)).1).rules).slam) = (((M.nextR g (M.numR line)).1).rules).slam := rp_ hE
 have hq9 : ((((M.play g ((M.numR line).1.2.1)).1).start).pits) = (((M.nextR g (M.numR line)).1).start).pits := rp_ hE
 have hq10 : ((((M.play g ((M.numR line).1.2.1)).1).start).stores) = (((M.nextR g (M.numR line)).1).start).stores := rp_ hE
 have hq11 : ((((M.play g ((M.numR line).1.2.1)).1).start).player) = (((M.nextR g (M.numR line)).1).start).player := rp_ hE
 have hq12 : (((M.play g ((M.numR line).1.2.1)).1).moves) = ((M.nextR g (M.numR line)).1).moves := rp_ hE
 have hq13 : ((((M.play g ((M.numR line).1.2.1)).1).now).pits) = (((M.nextR g (M.numR line)).1).now).pits := rp_ hE
 have hq14 : ((((M.play g ((M.numR line).1.2.1)).1).now).stores) = (((M.nextR g (M.numR line)).1).now).stores := rp_ hE
 have hq15 : ((((M.play g ((M.numR line).1.2.1)).1).now).player) = (((M.nextR g (M.numR line)).1).now).player := rp_ hE
 have hq16 : (((M.play g ((M.numR line).1.2.1)).1).resigned) = ((M.nextR g (M.numR line)).1).resigned := rp_ hE
 have hq17 : 0 = (M.nextR g (M.numR line)).2 := rp_ hE
 refine Js.skip <| zS <| Q9 0 rfl rfl ?_
 refine zw 7 rfl rfl rfl ?_
 refine Qa rfl <| JL.nil ?_
 exact zro x18
theorem c_spec_l10Head (lines : List (List UInt8)) {v_lines : Value} (whole : Bool) {w : World} (h_lines : (Ty.strs 9 lines).ok w v_lines) (r0 : 2 ≤ lines.length := by exact om_) (r1 : ∀ x ∈ lines, x.length ≤ 90000 := by exact om_) : Ret Tryz.prog 116 [v_lines, .bool whole] w (Ty.tup [Ty.agg (cGame ((M.headS (M.ln lines 0) (M.ln lines 1) (decide (lines.length = 2) && !whole)).1)), Ty.int ((M.headS (M.ln lines 0) (M.ln lines 1) (decide (lines.length = 2) && !whole)).2.1), Ty.int ((M.headS (M.ln lines 0) (M.ln lines 1) (decide (lines.length = 2) && !whole)).2.2)]) := by
 revert v_lines; apply opn
 intro A1 c1 h1 bl1 bh1
 have h_lines := h1
 refine enter @Tryz.func116 @Tryz.ntmps116 rfl rfl ?_
 refine zent ?_
 obtain ⟨ye3, hye3⟩ : ∃ x, lines[0]? = some x := ⟨_, List.getElem?_eq_getElem (by omega)⟩
 have e0 := M.ln_get hye3
 have b0 := r1 _ (List.mem_of_getElem? hye3)
 have ba0 := M.aft_len ye3 ([114, 117, 108, 101, 115] : List UInt8)
 have hy4 := hye3
 obtain ⟨b4, o4, he4, hc4⟩ := strs_elem h1 hy4
 refine zS <| za zeh fun b2 => Qa rfl <| Qa rfl <| zN <| Qm rfl <| Qq (p_indexAddr el_31 rfl rfl (by omega) (by omega) he4) <| QC hc4 rfl <| zv rfl (fun w hw => c_spec_l10After ye3 ([114, 117, 108, 101, 115] : List UInt8)) <| Qm rfl <| Qx rfl rfl <| Qx rfl rfl <| Qa rfl <| Qa rfl ?_
 refine zN <| Qm rfl <| zp rfl (fun w hw => c_spec_ReadRules ((M.aft ye3 ([114, 117, 108, 101, 115] : List UInt8)).1)) ?_
 intro u5 x5
 refine Qm rfl <| Qx rfl rfl <| Qx rfl rfl <| za zeh fun b6 => zw 0 rfl rfl rfl ?_
 refine Qa rfl <| zJ <| zS <| Qm rfl <| Qt rfl <| Qm rfl <| zg (Gd.f1 rfl rfl rfl) (fun hc => p_move rfl) <| zg (Gd.f1 rfl rfl rfl) (fun hc => p_not (gh hc rfl)) <| Qq (p_pickOr rfl rfl rfl) <| JL.nil ?_
 refine zi (fun h7 h7' => ?_) fun h7 h7' => ?_
 ·
  have c0 : ¬ ((M.aft (M.ln lines 0) M.rulesW).2 = true ∧ (M.readR (M.aft (M.ln lines 0) M.rulesW).1).2 = true) := fun ⟨d1, d2⟩ => by have h9 := h7; rw [e0] at d1 d2; simp_all [M.rulesW]
  have hE := M.headS_1 (l1 := M.ln lines 1) (tw := decide (lines.length = 2) && !whole) c0
  have hq0 : 0 = (((M.headS (M.ln lines 0) (M.ln lines 1) (decide (lines.length = 2) && !whole)).1).rules).pits := rp_ hE
  have hq1 : 0 = (((M.headS (M.ln lines 0) (M.ln lines 1) (decide (lines.length = 2) && !whole)).1).rules).seeds := rp_ hE
  have hq2 : false = (((M.headS (M.ln lines 0) (M.ln lines 1) (decide (lines.length = 2) && !whole)).1).rules).stores := rp_ hE
  have hq3 : false = (((M.headS (M.ln lines 0) (M.ln lines 1) (decide (lines.length = 2) && !whole)).1).rules).skip := rp_ hE
  have hq4 : false = (((M.headS (M.ln lines 0) (M.ln lines 1) (decide (lines.length = 2) && !whole)).1).rules).relay := rp_ hE
  have hq5 : false = (((M.headS (M.ln lines 0) (M.ln lines 1) (decide (lines.length = 2) && !whole)).1).rules).feed := rp_ hE
  have hq6 : false = (((M.headS (M.ln lines 0) (M.ln lines 1) (decide (lines.length = 2) && !whole)).1).rules).again := rp_ hE
  have hq7 : 0 = (((M.headS (M.ln lines 0) (M.ln lines 1) (decide (lines.length = 2) && !whole)).1).rules).capture := rp_ hE
  have hq8 : 0 = (((M.headS (M.ln lines 0) (M.ln lines 1) (decide (lines.length = 2) && !whole)).1).rules).slam := rp_ hE
  have hq9 : [] = (((M.headS (M.ln lines 0) (M.ln lines 1) (decide (lines.length = 2) && !whole)).1).start).pits := rp_ hE
  have hq10 : [] = (((M.headS (M.ln lines 0) (M.ln lines 1) (decide (lines.length = 2) && !whole)).1).start).stores := rp_ hE
  have hq11 : 0 = (((M.headS (M.ln lines 0) (M.ln lines 1) (decide (lines.length = 2) && !whole)).1).start).player := rp_ hE
  have hq12 : [] = ((M.headS (M.ln lines 0) (M.ln lines 1) (decide (lines.length = 2) && !whole)).1).moves := rp_ hE
  have hq13 : [] = (((M.headS (M.ln lines 0) (M.ln lines 1) (decide (lines.length = 2) && !whole)).1).now).pits := rp_ hE
  have hq14 : [] = (((M.headS (M.ln lines 0) (M.ln lines 1) (decide (lines.length = 2) && !whole)).1).now).stores := rp_ hE
  have hq15 : 0 = (((M.headS (M.ln lines 0) (M.ln lines 1) (decide (lines.length = 2) && !whole)).1).now).player := rp_ hE
  have hq16 : 0 = ((M.headS (M.ln lines 0) (M.ln lines 1) (decide (lines.length = 2) && !whole)).1).resigned := rp_ hE
  have hq17 : 0 = (M.headS (M.ln lines 0) (M.ln lines 1) (decide (lines.length = 2) && !whole)).2.1 := rp_ hE
  have hq18 : 1 = (M.headS (M.ln lines 0) (M.ln lines 1) (decide (lines.length = 2) && !whole)).2.2 := rp_ hE
  refine zS <| Qb ?_
  refine zw 1 rfl rfl rfl ?_
  refine Qa rfl <| Qa rfl <| JL.nil ?_
  exact zro x5
 have c0 : (M.aft (M.ln lines 0) M.rulesW).2 = true ∧ (M.readR (M.aft (M.ln lines 0) M.rulesW).1).2 = true := by have h9 := h7; rw [e0]; simpa [M.rulesW] using h9
 refine Js.skip <| Js.seq <| zS <| Qm rfl <| Qz rfl <| Qe rfl rfl <| Qm rfl <| zg (Gd.t1 rfl rfl rfl) (fun hc => p_move rfl) <| zg (Gd.t1 rfl rfl rfl) (fun hc => p_not (gh hc rfl)) <| Qq (p_pickAnd rfl rfl rfl) <| JL.nil ?_
 refine zi (fun h8 h8' => ?_) fun h8 h8' => ?_
 ·
  have hE := M.headS_7 (l1 := M.ln lines 1) (tw := decide (lines.length = 2) && !whole) c0 (by have h9 := h8; simp at h9 ⊢; first | exact h9 | exact ⟨by omega, h9.2⟩)
  have hq0 : 0 = (((M.headS (M.ln lines 0) (M.ln lines 1) (decide (lines.length = 2) && !whole)).1).rules).pits := rp_ hE
  have hq1 : 0 = (((M.headS (M.ln lines 0) (M.ln lines 1) (decide (lines.length = 2) && !whole)).1).rules).seeds := rp_ hE
  have hq2 : false = (((M.headS (M.ln lines 0) (M.ln lines 1) (decide (lines.length = 2) && !whole)).1).rules).stores := rp_ hE
  have hq3 : false = (((M.headS (M.ln lines 0) (M.ln lines 1) (decide (lines.length = 2) && !whole)).1).rules).skip := rp_ hE
  have hq4 : false = (((M.headS (M.ln lines 0) (M.ln lines 1) (decide (lines.length = 2) && !whole)).1).rules).relay := rp_ hE
  have hq5 : false = (((M.headS (M.ln lines 0) (M.ln lines 1) (decide (lines.length = 2) && !whole)).1).rules).feed := rp_ hE
  have hq6 : false = (((M.headS (M.ln lines 0) (M.ln lines 1) (decide (lines.length = 2) && !whole)).1).rules).again := rp_ hE
  have hq7 : 0 = (((M.headS (M.ln lines 0) (M.ln lines 1) (decide (lines.length = 2) && !whole)).1).rules).capture := rp_ hE
  have hq8 : 0 = (((M.headS (M.ln lines 0) (M.ln lines 1) (decide (lines.length = 2) && !whole)).1).rules).slam := rp_ hE
  have hq9 : [] = (((M.headS (M.ln lines 0) (M.ln lines 1) (decide (lines.length = 2) && !whole)).1).start).pits := rp_ hE
  have hq10 : [] = (((M.headS (M.ln lines 0) (M.ln lines 1) (decide (lines.length = 2) && !whole)).1).start).stores := rp_ hE
  have hq11 : 0 = (((M.headS (M.ln lines 0) (M.ln lines 1) (decide (lines.length = 2) && !whole)).1).start).player := rp_ hE
  have hq12 : [] = ((M.headS (M.ln lines 0) (M.ln lines 1) (decide (lines.length = 2) && !whole)).1).moves := rp_ hE
  have hq13 : [] = (((M.headS (M.ln lines 0) (M.ln lines 1) (decide (lines.length = 2) && !whole)).1).now).pits := rp_ hE
  have hq14 : [] = (((M.headS (M.ln lines 0) (M.ln lines 1) (decide (lines.length = 2) && !whole)).1).now).stores := rp_ hE
  have hq15 : 0 = (((M.headS (M.ln lines 0) (M.ln lines 1) (decide (lines.length = 2) && !whole)).1).now).player := rp_ hE
  have hq16 : 0 = ((M.headS (M.ln lines 0) (M.ln lines 1) (decide (lines.length = 2) && !whole)).1).resigned := rp_ hE
  have hq17 : 0 = (M.headS (M.ln lines 0) (M.ln lines 1) (decide (lines.length = 2) && !whole)).2.1 := rp_ hE
  have hq18 : 7 = (M.headS (M.ln lines 0) (M.ln lines 1) (decide (lines.length = 2) && !whole)).2.2 := rp_ hE
  refine zS <| Qb ?_
  refine zw 1 rfl rfl rfl ?_
  refine Qa rfl <| Qa rfl <| JL.nil ?_
  exact zro x5
 have ct : ¬ (decide (lines.length = 2) && !whole) = true := fun h7 => by have h9 := h8; have e9 : decide ((lines.length : Int) = 2) = decide (lines.length = 2) := (by simp only [decide_eq_decide]; omega); rw [e9, h7] at h9; exact absurd h9 (by decide)
 obtain ⟨ye9, hye9⟩ : ∃ x, lines[1]? = some x := ⟨_, List.getElem?_eq_getElem (by omega)⟩
 have e1 := M.ln_get hye9
 have b1 := r1 _ (List.mem_of_getElem? hye9)
 have ba1 := M.aft_len ye9 ([115, 116, 97, 114, 116] : List UInt8)
 obtain ⟨q1, q2⟩ := M.readP_bd (M.readR (M.aft ye3 ([114, 117, 108, 101, 115] : List UInt8)).1).1 (M.aft ye9 ([115, 116, 97, 114, 116] : List UInt8)).1
 have hy10 := hye9
 obtain ⟨b10, o10, he10, hc10⟩ := strs_elem (Ty.mono _ h1 x5.vis) hy10
 refine Js.skip <| zS <| Qm rfl <| Qq (p_indexAddr el_31 rfl rfl (by omega) (by omega) he10) <| QC hc10 rfl <| zv rfl (fun w hw => c_spec_l10After ye9 ([115, 116, 97, 114, 116] : List UInt8)) <| Qm rfl <| Qx rfl rfl <| Qx rfl rfl <| Qa rfl <| Qa rfl <| zN <| Q9 0 rfl rfl ?_
 refine Qm rfl <| zc rfl (fun w hw => c_spec_ReadPosition ((M.readR ((M.aft ye3 ([114, 117, 108, 101, 115] : List UInt8)).1)).1) ((M.aft ye9 ([115, 116, 97, 114, 116] : List UInt8)).1) (ok_ hw)) ?_
 intro A13 c13 bl13 bh13 A14 c14 bl14 bh14
 refine Qm rfl <| Qx rfl rfl <| Qx rfl rfl <| za zeh fun b15 => zw 0 rfl rfl rfl ?_
 refine Qa rfl <| zJ <| zS <| Qm rfl <| Qt rfl <| Qm rfl <| zg (Gd.f1 rfl rfl rfl) (fun hc => p_move rfl) <| zg (Gd.f1 rfl rfl rfl) (fun hc => p_not (gh hc rfl)) <| Qq (p_pickOr rfl rfl rfl) <| JL.nil ?_
 refine zi (fun h16 h16' => ?_) fun h16 h16' => ?_
 ·
  have hE := M.headS_2 (l1 := M.ln lines 1) c0 ct (fun ⟨d1, d2⟩ => by have h9 := h16; rw [e0, e1] at d2; rw [e1] at d1; simp_all [M.startW, M.rulesW])
  have hq0 : 0 = (((M.headS (M.ln lines 0) (M.ln lines 1) (decide (lines.length = 2) && !whole)).1).rules).pits := rp_ hE
  have hq1 : 0 = (((M.headS (M.ln lines 0) (M.ln lines 1) (decide (lines.length = 2) && !whole)).1).rules).seeds := rp_ hE
  have hq2 : false = (((M.headS (M.ln lines 0) (M.ln lines 1) (decide (lines.length = 2) && !whole)).1).rules).stores := rp_ hE
  have hq3 : false = (((M.headS (M.ln lines 0) (M.ln lines 1) (decide (lines.length = 2) && !whole)).1).rules).skip := rp_ hE
  have hq4 : false = (((M.headS (M.ln lines 0) (M.ln lines 1) (decide (lines.length = 2) && !whole)).1).rules).relay := rp_ hE
  have hq5 : false = (((M.headS (M.ln lines 0) (M.ln lines 1) (decide (lines.length = 2) && !whole)).1).rules).feed := rp_ hE
  have hq6 : false = (((M.headS (M.ln lines 0) (M.ln lines 1) (decide (lines.length = 2) && !whole)).1).rules).again := rp_ hE
  have hq7 : 0 = (((M.headS (M.ln lines 0) (M.ln lines 1) (decide (lines.length = 2) && !whole)).1).rules).capture := rp_ hE
  have hq8 : 0 = (((M.headS (M.ln lines 0) (M.ln lines 1) (decide (lines.length = 2) && !whole)).1).rules).slam := rp_ hE
  have hq9 : [] = (((M.headS (M.ln lines 0) (M.ln lines 1) (decide (lines.length = 2) && !whole)).1).start).pits := rp_ hE
  have hq10 : [] = (((M.headS (M.ln lines 0) (M.ln lines 1) (decide (lines.length = 2) && !whole)).1).start).stores := rp_ hE
  have hq11 : 0 = (((M.headS (M.ln lines 0) (M.ln lines 1) (decide (lines.length = 2) && !whole)).1).start).player := rp_ hE
  have hq12 : [] = ((M.headS (M.ln lines 0) (M.ln lines 1) (decide (lines.length = 2) && !whole)).1).moves := rp_ hE
  have hq13 : [] = (((M.headS (M.ln lines 0) (M.ln lines 1) (decide (lines.length = 2) && !whole)).1).now).pits := rp_ hE
  have hq14 : [] = (((M.headS (M.ln lines 0) (M.ln lines 1) (decide (lines.length = 2) && !whole)).1).now).stores := rp_ hE
  have hq15 : 0 = (((M.headS (M.ln lines 0) (M.ln lines 1) (decide (lines.length = 2) && !whole)).1).now).player := rp_ hE
  have hq16 : 0 = ((M.headS (M.ln lines 0) (M.ln lines 1) (decide (lines.length = 2) && !whole)).1).resigned := rp_ hE
  have hq17 : 1 = (M.headS (M.ln lines 0) (M.ln lines 1) (decide (lines.length = 2) && !whole)).2.1 := rp_ hE
  have hq18 : 2 = (M.headS (M.ln lines 0) (M.ln lines 1) (decide (lines.length = 2) && !whole)).2.2 := rp_ hE
  refine zS <| Qb ?_
  refine zw 4 rfl rfl rfl ?_
  refine Qa rfl <| Qa rfl <| JL.nil ?_
  exact zro x5
 have hE9 := M.headS_0 (l1 := M.ln lines 1) c0 ct (by have h9 := h16; rw [e0, e1]; simpa [M.startW, M.rulesW] using h9)
 have hE : (M.headS (M.ln lines 0) (M.ln lines 1) (decide (lines.length = 2) && !whole)) = (M.freshG (M.readR (M.aft ye3 ([114, 117, 108, 101, 115] : List UInt8)).1).1 (M.readP (M.readR (M.aft ye3 ([114, 117, 108, 101, 115] : List UInt8)).1).1 (M.aft ye9 ([115, 116, 97, 114, 116] : List UInt8)).1).1, 0, 0) := hE9.trans (by rw [e0, e1]; rfl)
 refine Js.skip <| zS <| zc rfl (fun w hw => c_spec_l08New ((M.readR ((M.aft ye3 ([114, 117, 108, 101, 115] : List UInt8)).1)).1) ((M.readP ((M.readR ((M.aft ye3 ([114, 117, 108, 101, 115] : List UInt8)).1)).1) ((M.aft ye9 ([115, 116, 97, 114, 116] : List UInt8)).1)).1) (ok_ hw) (ok_ hw)) ?_
 intro A18 c18 bl18 bh18 A19 c19 bl19 bh19 A20 c20 bl20 bh20 A21 c21 bl21 bh21 A22 c22 bl22 bh22
 have hq0 : (((M.readR ((M.aft ye3 ([114, 117, 108, 101, 115] : List UInt8)).1)).1).pits) = (((M.headS (M.ln lines 0) (M.ln lines 1) (decide (lines.length = 2) && !whole)).1).rules).pits := rp_ hE
 have hq1 : (((M.readR ((M.aft ye3 ([114, 117, 108, 101, 115] : List UInt8)).1)).1).seeds) = (((M.headS (M.ln lines 0) (M.ln lines 1) (decide (lines.length = 2) && !whole)).1).rules).seeds := rp_ hE
 have hq2 : (((M.readR ((M.aft ye3 ([114, 117, 108, 101, 115] : List UInt8)).1)).1).stores) = (((M.headS (M.ln lines 0) (M.ln lines 1) (decide (lines.length = 2) && !whole)).1).rules).stores := rp_ hE
 have hq3 : (((M.readR ((M.aft ye3 ([114, 117, 108, 101, 115] : List UInt8)).1)).1).skip) = (((M.headS (M.ln lines 0) (M.ln lines 1) (decide (lines.length = 2) && !whole)).1).rules).skip := rp_ hE
 have hq4 : (((M.readR ((M.aft ye3 ([114, 117, 108, 101, 115] : List UInt8)).1)).1).relay) = (((M.headS (M.ln lines 0) (M.ln lines 1) (decide (lines.length = 2) && !whole)).1).rules).relay := rp_ hE
 have hq5 : (((M.readR ((M.aft ye3 ([114, 117, 108, 101, 115] : List UInt8)).1)).1).feed) = (((M.headS (M.ln lines 0) (M.ln lines 1) (decide (lines.length = 2) && !whole)).1).rules).feed := rp_ hE
 have hq6 : (((M.readR ((M.aft ye3 ([114, 117, 108, 101, 115] : List UInt8)).1)).1).again) = (((M.headS (M.ln lines 0) (M.ln lines 1) (decide (lines.length = 2) && !whole)).1).rules).again := rp_ hE
 have hq7 : (((M.readR ((M.aft ye3 ([114, 117, 108, 101, 115] : List UInt8)).1)).1).capture) = (((M.headS (M.ln lines 0) (M.ln lines 1) (decide (lines.length = 2) && !whole)).1).rules).capture := rp_ hE
 have hq8 : (((M.readR ((M.aft ye3 ([114, 117, 108, 101, 115] : List UInt8)).1)).1).slam) = (((M.headS (M.ln lines 0) (M.ln lines 1) (decide (lines.length = 2) && !whole)).1).rules).slam := rp_ hE
 have hq9 : (((M.readP ((M.readR ((M.aft ye3 ([114, 117, 108, 101, 115] : List UInt8)).1)).1) ((M.aft ye9 ([115, 116, 97, 114, 116] : List UInt8)).1)).1).pits) = (((M.headS (M.ln lines 0) (M.ln lines 1) (decide (lines.length = 2) && !whole)).1).start).pits := rp_ hE
 have hq10 : (((M.readP ((M.readR ((M.aft ye3 ([114, 117, 108, 101, 115] : List UInt8)).1)).1) ((M.aft ye9 ([115, 116, 97, 114, 116] : List UInt8)).1)).1).stores) = (((M.headS (M.ln lines 0) (M.ln lines 1) (decide (lines.length = 2) && !whole)).1).start).stores := rp_ hE
 have hq11 : (((M.readP ((M.readR ((M.aft ye3 ([114, 117, 108, 101, 115] : List UInt8)).1)).1) ((M.aft ye9 ([115, 116, 97, 114, 116] : List UInt8)).1)).1).player) = (((M.headS (M.ln lines 0) (M.ln lines 1) (decide (lines.length = 2) && !whole)).1).start).player := rp_ hE
 have hq12 : [] = ((M.headS (M.ln lines 0) (M.ln lines 1) (decide (lines.length = 2) && !whole)).1).moves := rp_ hE
 have hq13 : (((M.readP ((M.readR ((M.aft ye3 ([114, 117, 108, 101, 115] : List UInt8)).1)).1) ((M.aft ye9 ([115, 116, 97, 114, 116] : List UInt8)).1)).1).pits) = (((M.headS (M.ln lines 0) (M.ln lines 1) (decide (lines.length = 2) && !whole)).1).now).pits := rp_ hE
 have hq14 : (((M.readP ((M.readR ((M.aft ye3 ([114, 117, 108, 101, 115] : List UInt8)).1)).1) ((M.aft ye9 ([115, 116, 97, 114, 116] : List UInt8)).1)).1).stores) = (((M.headS (M.ln lines 0) (M.ln lines 1) (decide (lines.length = 2) && !whole)).1).now).stores := rp_ hE
 have hq15 : (((M.readP ((M.readR ((M.aft ye3 ([114, 117, 108, 101, 115] : List UInt8)).1)).1) ((M.aft ye9 ([115, 116, 97, 114, 116] : List UInt8)).1)).1).player) = (((M.headS (M.ln lines 0) (M.ln lines 1) (decide (lines.length = 2) && !whole)).1).now).player := rp_ hE
 have hq16 : (-1) = ((M.headS (M.ln lines 0) (M.ln lines 1) (decide (lines.length = 2) && !whole)).1).resigned := rp_ hE
 have hq17 : 0 = (M.headS (M.ln lines 0) (M.ln lines 1) (decide (lines.length = 2) && !whole)).2.1 := rp_ hE
 have hq18 : 0 = (M.headS (M.ln lines 0) (M.ln lines 1) (decide (lines.length = 2) && !whole)).2.2 := rp_ hE
 refine zw 9 rfl rfl rfl ?_
 refine Qa rfl <| Qa rfl <| JL.nil ?_
 exact zro x5
end Go.Proofs.YtjgohnaobbphpaaGreatDoor

/- Walks: L9. -/
import Derived.Test.YtinkeciedmjjmaaTy
import Derived.Test.YtinkeciedmjjmaaG10
import Derived.Test.YtinkeciedmjjmaaK8
import Derived.Test.YtinkeciedmjjmaaL8
set_option linter.unusedSimpArgs false
set_option linter.unusedVariables false
namespace Go.Proofs.Ytinkeciedmjjmaa
open Go.RowKit

set_option maxRecDepth 100000 in
set_option maxHeartbeats 2000000 in
theorem c_laws_FnExactSearchLine (aR : M.Rul) (v_aR : Value) (aP : M.Pos) (v_aP : Value) (aDepth : Int) (w : World) (h_aR : (Ty.agg (cRules aR)).ok w v_aR) (h_aP : (Ty.agg (cPosition aP)).ok w v_aP) : RetV Try.prog 4 [v_aR, v_aP, .int .i64 aDepth] w (.bool true) := by
  have q4 := M.szL_cases (aP.pits.length + aP.stores.length) 1048576
  change (1048576 < _ ∧ M.szP aP 1048576 = -1) ∨ (_ ≤ _ ∧ M.szP aP 1048576 = _) at q4
  have z3 := M.lineR_len aR aP aDepth
  have z4 := M.up_length 1 (M.lineR aR aP aDepth).length
  obtain rfl := open_Rules h_aR
  obtain ⟨A2_0, c2_0, A2_1, c2_1, rfl, h2_0, h2_1, bl2_0, bh2_0, bl2_1, bh2_1⟩ := open_Position h_aP
  refine enter @Try.func4 @Try.ntmps4 rfl rfl ?_
  refine Js.seq ?_
  refine Js.region ?_
  refine JL.e (e_box (c := [.int .i64 aR.pits, .int .i64 aR.seeds, .bool aR.stores, .bool aR.skip, .bool aR.relay, .bool aR.feed, .bool aR.again, .int .i64 aR.capture, .int .i64 aR.slam]) rfl rfl) ?_
  rintro _ _ _ ⟨b3, rfl, rfl, rfl⟩ _
  refine JL.e (e_box (c := [.slice A2_0 aP.pits.length c2_0, .slice A2_1 aP.stores.length c2_1, .int .i64 aP.player]) rfl rfl) ?_
  rintro _ _ _ ⟨b4, rfl, rfl, rfl⟩ _
  refine JL.q (OpP.q (p_assign rfl)) ?_
  refine JL.nil ?_
  refine Js.seq ?_
  refine Js.region ?_
  refine JL.q (OpP.q (p_assign rfl)) ?_
  refine JL.nil ?_
  refine Js.seq ?_
  refine Js.region ?_
  refine JL.q (q_loadN ty_26 rfl (Mem.boxR (i := 0) rfl 0 3) rfl rfl) ?_
  refine JL.q (OpP.q (p_move rfl)) ?_
  refine JL.e (e_callV fn_10 rfl (fun w hw => c_laws_szPosition aP _ 1048576 w ⟨_, rfl, ⟨(Ty.mono _ h2_0 hw.vis), (Ty.mono _ h2_1 hw.vis), rfl, trivial⟩⟩ (by omega) (by omega))) ?_
  rintro _ _ _ ⟨rfl, rfl, rfl⟩ _
  refine JL.q (OpP.q (p_assign rfl)) ?_
  refine JL.nil ?_
  refine Js.seq ?_
  refine Js.seq ?_
  refine Js.region ?_
  refine JL.q (OpP.q (p_move rfl)) ?_
  refine JL.q (OpP.q (p_lss rfl rfl)) ?_
  refine JL.nil ?_
  refine Js.cond rfl (fun h5 => ?_) (fun h5 => ?_)
  ·
    have h5' := h5
    try simp only [decide_eq_true_eq] at h5'
    refine Js.seq ?_
    refine Js.region ?_
    refine JL.q (OpP.q (p_assign rfl)) ?_
    refine JL.nil ?_
    refine Js.ret (R := RV w (.bool true)) @Try.results4 (fun _ _ => rfl) (ResOk.tmp rfl ResOk.nil) (fun w1 hw => ?_)
    refine ⟨?_, hw.ext (Up.refl _ _)⟩
    first | rfl | (simp [outV]; done)
  ·
    have h5' := h5
    try simp only [decide_eq_false_iff_not, Int.not_lt] at h5'
    refine Js.skip ?_
    refine Js.seq ?_
    refine Js.drawn _ [] mixed_ (fun _ h => h) ?_
    refine JH.q 0 rfl (q_loadN ty_23 rfl (Mem.boxR (i := 1) rfl 0 9) rfl rfl) ?_
    refine JH.q 2 rfl (q_loadN ty_26 rfl (Mem.boxR (i := 0) rfl 0 3) rfl rfl) ?_
    refine JH.p 4 rfl (p_move rfl) ?_
    refine JH.one (i := 1) (by kernel_rfl) ?_
    refine JHo.e rfl (e_callP fn_12 rfl (fun w hw => c_laws_toRules aR _ w ⟨_, rfl, ⟨rfl, rfl, rfl, rfl, rfl, rfl, rfl, rfl, rfl, trivial⟩⟩)) (.inl rfl) ?_
    rintro v6 _ u8 ⟨h7, rfl⟩ x8
    obtain rfl := open_Rules h7
    refine JH.one (i := 3) (by kernel_rfl) ?_
    refine JHo.e rfl (e_callP fn_13 rfl (fun w hw => c_laws_toPosition aP _ w ⟨_, rfl, ⟨(Ty.mono _ h2_0 (x8.vis.trans hw.vis)), (Ty.mono _ h2_1 (x8.vis.trans hw.vis)), rfl, trivial⟩⟩ (by omega) (by omega))) (.inl rfl) ?_
    rintro v10 _ u12 ⟨h11, rfl⟩ x12
    obtain ⟨A13_0, c13_0, A13_1, c13_1, rfl, h13_0, h13_1, bl13_0, bh13_0, bl13_1, bh13_1⟩ := open_Position h11
    refine JH.one (i := 5) (by kernel_rfl) ?_
    refine JHo.e rfl (e_callP fn_20 rfl (fun w hw => c_spec_SearchLine aR _ aP _ aDepth w ⟨_, rfl, ⟨rfl, rfl, rfl, rfl, rfl, rfl, rfl, rfl, rfl, trivial⟩⟩ ⟨_, rfl, ⟨(Ty.mono _ h13_0 hw.vis), (Ty.mono _ h13_1 hw.vis), rfl, trivial⟩⟩ (by omega) (by omega))) (.inl rfl) ?_
    rintro v14 _ u16 ⟨h15, rfl⟩ x16
    obtain ⟨vs17, rfl, hv17⟩ := h15
    obtain ⟨v17_0, vs17, rfl, hw17_0, hv17⟩ := cellsOk_cons hv17
    obtain ⟨v17_1, vs17, rfl, hw17_1, hv17⟩ := cellsOk_cons hv17
    obtain rfl := cellsOk_nil hv17
    obtain ⟨A18, c18, rfl, bl18, bh18⟩ := sl_form hw17_0
    obtain rfl : v17_1 = .int .i64 (M.srchC aR aP aDepth) := hw17_1
    refine JH.p 6 rfl (p_move rfl) ?_
    refine JH.p 7 rfl (p_extract rfl rfl) ?_
    refine JH.p 8 rfl (p_extract rfl rfl) ?_
    refine JH.p 9 rfl (p_assign rfl) ?_
    refine JH.p 10 rfl (p_assign rfl) ?_
    refine JH.done (by kernel_rfl) ?_
    refine Js.seq ?_
    refine Js.region ?_
    refine JL.q (q_loadN ty_26 rfl (Mem.boxR (i := 0) rfl 0 3) rfl rfl) ?_
    refine JL.e (e_callO fn_13 rfl (Spl.agg (Spls.cons (Spl.ints _ _) (Spls.cons (Spl.ints _ _) (Spls.cons (Spl.val _) Spls.nil)))) (fun w hw => c_laws_toPosition aP _ w ⟨_, rfl, ⟨(Ty.mono _ h2_0 (((x8.vis.trans x12.vis).trans x16.vis).trans hw.vis)), (Ty.mono _ h2_1 (((x8.vis.trans x12.vis).trans x16.vis).trans hw.vis)), rfl, trivial⟩⟩ (by omega) (by omega))) ?_
    rintro v19 _ _ ⟨_, hR20, rfl, rfl⟩ _
    obtain ⟨vs21, rfl, hr21⟩ := hR20
    obtain ⟨v21_0, vs21_0, o21_0, ow21_0, rfl, hR21_0, hs21_0, rfl⟩ := RL_cons hr21
    obtain ⟨v21_1, vs21_1, o21_1, ow21_1, rfl, hR21_1, hs21_1, rfl⟩ := RL_cons hs21_0
    obtain ⟨v21_2, vs21_2, o21_2, ow21_2, rfl, hR21_2, hs21_2, rfl⟩ := RL_cons hs21_1
    obtain ⟨rfl, rfl⟩ := RL_nil hs21_2
    obtain ⟨A22, c22, rfl, rfl, bl22, bh22⟩ := hR21_0
    obtain ⟨A23, c23, rfl, rfl, bl23, bh23⟩ := hR21_1
    obtain ⟨rfl, rfl⟩ : v21_2 = .int .i64 aP.player ∧ _ := hR21_2
    refine JL.e (e_alloc zero_33) ?_
    rintro _ _ _ ⟨b24, rfl, rfl, rfl⟩ _
    refine JL.s (e_store (i := 0) (c' := [.slice A22 aP.pits.length c22, .slice A23 aP.stores.length c23, .int .i64 aP.player]) ty_33 rfl rfl rfl rfl rfl rfl rfl rfl) ?_
    rintro _ _ _ ⟨rfl, rfl⟩ _
    refine JL.nil ?_
    refine Js.seq ?_
    refine Js.drawn _ [] mixed_ (fun _ h => h) ?_
    refine JH.q 0 rfl (q_loadN ty_23 rfl (Mem.boxR (i := 4) rfl 0 9) rfl rfl) ?_
    refine JH.q 2 rfl (q_loadN ty_33 rfl (Mem.boxR (i := 0) rfl 0 3) rfl rfl) ?_
    refine JH.p 3 rfl (p_move rfl) ?_
    refine JH.one (i := 1) (by kernel_rfl) ?_
    refine JHo.e rfl (e_callP fn_12 rfl (fun w hw => c_laws_toRules aR _ w ⟨_, rfl, ⟨rfl, rfl, rfl, rfl, rfl, rfl, rfl, rfl, rfl, trivial⟩⟩)) (.inl rfl) ?_
    rintro v25 _ u27 ⟨h26, rfl⟩ x27
    obtain rfl := open_Rules h26
    refine JH.one (i := 4) (by kernel_rfl) ?_
    refine JHo.e rfl (e_callO fn_21 rfl (Spl.tup (Spls.cons (Spl.ints _ _) (Spls.cons (Spl.val _) Spls.nil))) (fun w hw => c_impl_SearchLine aR _ aP _ aDepth w ⟨_, rfl, ⟨rfl, rfl, rfl, rfl, rfl, rfl, rfl, rfl, rfl, trivial⟩⟩ ⟨_, rfl, ⟨(ints_rowok (xs := aP.pits) (hw.pr (i := 1) rfl)), (ints_rowok (xs := aP.stores) (hw.pr (i := 2) rfl)), rfl, trivial⟩⟩ (by omega) (by omega))) (.inl rfl) ?_
    rintro v29 _ _ ⟨_, hR30, rfl, rfl⟩ _
    obtain ⟨vs31, rfl, hr31⟩ := hR30
    obtain ⟨v31_0, vs31_0, o31_0, ow31_0, rfl, hR31_0, hs31_0, rfl⟩ := RL_cons hr31
    obtain ⟨v31_1, vs31_1, o31_1, ow31_1, rfl, hR31_1, hs31_1, rfl⟩ := RL_cons hs31_0
    obtain ⟨rfl, rfl⟩ := RL_nil hs31_1
    obtain ⟨A32, c32, rfl, rfl, bl32, bh32⟩ := hR31_0
    obtain ⟨rfl, rfl⟩ : v31_1 = .int .i64 (M.srchC aR aP aDepth) ∧ _ := hR31_1
    refine JH.p 5 rfl (p_move rfl) ?_
    refine JH.p 6 rfl (p_extract rfl rfl) ?_
    refine JH.p 7 rfl (p_extract rfl rfl) ?_
    refine JH.p 8 rfl (p_assign rfl) ?_
    refine JH.p 9 rfl (p_assign rfl) ?_
    refine JH.done (by kernel_rfl) ?_
    refine Js.seq ?_
    refine Js.seq ?_
    refine Js.region ?_
    refine JL.q (OpP.q (p_move rfl)) ?_
    refine JL.q (OpP.q (p_move rfl)) ?_
    refine JL.e (e_callV fn_22 rfl (fun w hw => c_laws_eqInt64S (M.lineR aR aP aDepth) _ (M.lineR aR aP aDepth) _ w (ints_rowok (xs := (M.lineR aR aP aDepth)) (hw.pr (i := 0) rfl)) (Ty.mono _ hw17_0 (x27.vis.trans hw.vis)) (by omega) (by omega))) ?_
    rintro _ _ _ ⟨rfl, rfl, rfl⟩ _
    refine JL.q (OpP.q (p_not rfl)) ?_
    refine JL.q (OpP.q (p_move rfl)) ?_
    refine JL.g (Gd.f1 rfl rfl rfl) (fun hc => OpP.q (p_move rfl)) ?_
    refine JL.g (Gd.f1 rfl rfl rfl) (fun hc => OpP.q (p_move rfl)) ?_
    refine JL.g (Gd.f1 rfl rfl rfl) (fun hc => OpP.q (p_neq (gvt rfl hc) (gvt rfl hc))) ?_
    refine JL.q (OpP.q (p_pickOr rfl rfl rfl)) ?_
    refine JL.nil ?_
    refine Js.cond rfl (fun h33 => ?_) (fun h33 => ?_)
    ·
      exact absurd h33 (by simp)
    ·
      have h33' := h33
      try simp only [Bool.or_eq_false_iff, Bool.not_eq_false', decide_eq_true_eq] at h33'
      refine Js.skip ?_
      refine Js.seq ?_
      refine Js.seq ?_
      refine Js.drawn _ [] mixed_ (fun _ h => h) ?_
      refine JH.q 0 rfl (q_loadN ty_33 rfl (Mem.boxR (i := 1) rfl 0 3) rfl rfl) ?_
      refine JH.q 1 rfl (q_loadN ty_26 rfl (Mem.boxR (i := 4) rfl 0 3) rfl rfl) ?_
      refine JH.one (i := 2) (by kernel_rfl) ?_
      refine JHo.e rfl (e_callP fn_13 rfl (fun w hw => c_laws_toPosition aP _ w ⟨_, rfl, ⟨(Ty.mono _ h2_0 ((((x8.vis.trans x12.vis).trans x16.vis).trans x27.vis).trans hw.vis)), (Ty.mono _ h2_1 ((((x8.vis.trans x12.vis).trans x16.vis).trans x27.vis).trans hw.vis)), rfl, trivial⟩⟩ (by omega) (by omega))) (.inl rfl) ?_
      rintro v34 _ u36 ⟨h35, rfl⟩ x36
      obtain ⟨A37_0, c37_0, A37_1, c37_1, rfl, h37_0, h37_1, bl37_0, bh37_0, bl37_1, bh37_1⟩ := open_Position h35
      refine JH.one (i := 3) (by kernel_rfl) ?_
      refine JHo.e rfl (e_callV fn_16 rfl (fun w hw => c_laws_eqPosition aP _ aP _ w ⟨_, rfl, ⟨(ints_rowok (xs := aP.pits) (hw.pr (i := 2) rfl)), (ints_rowok (xs := aP.stores) (hw.pr (i := 3) rfl)), rfl, trivial⟩⟩ ⟨_, rfl, ⟨(Ty.mono _ h37_0 hw.vis), (Ty.mono _ h37_1 hw.vis), rfl, trivial⟩⟩ (by omega) (by omega) (by omega) (by omega))) (.inl rfl) ?_
      rintro _ _ _ ⟨rfl, rfl, rfl⟩ _
      refine JH.p 4 rfl (p_not rfl) ?_
      refine JH.done (by kernel_rfl) ?_
      refine Js.cond rfl (fun h38 => ?_) (fun h38 => ?_)
      ·
        exact absurd h38 (by simp)
      ·
        have h38' := h38
        try simp only [Bool.not_eq_false', decide_eq_true_eq] at h38'
        refine Js.skip ?_
        refine Js.seq ?_
        refine Js.region ?_
        refine JL.q (OpP.q (p_assign rfl)) ?_
        refine JL.nil ?_
        refine Js.seq ?_
        refine Js.region ?_
        refine JL.q (q_loadN ty_33 rfl (Mem.boxR (i := 1) rfl 0 3) rfl rfl) ?_
        refine JL.q (OpP.q (p_move rfl)) ?_
        refine JL.conv (fun _ h => h.front (i := 3) rfl) ?_
        refine JL.conv (fun _ h => h.front (i := 3) rfl) ?_
        refine JL.e (e_callB (bs := [rowO 2 1 (.slice A22 aP.pits.length c22) aP.pits.length (ints_ aP.pits) [], rowO 2 1 (.slice A23 aP.stores.length c23) aP.stores.length (ints_ aP.stores) []]) (rest := [rowO 2 1 (.slice A32 ((M.lineR aR aP aDepth).length) c32) ((M.lineR aR aP aDepth).length) (ints_ (M.lineR aR aP aDepth)) [], boxO b24 [.slice A22 aP.pits.length c22, .slice A23 aP.stores.length c23, .int .i64 aP.player] 33, boxO b4 [.slice A2_0 aP.pits.length c2_0, .slice A2_1 aP.stores.length c2_1, .int .i64 aP.player] 26, boxO b3 [.int .i64 aR.pits, .int .i64 aR.seeds, .bool aR.stores, .bool aR.skip, .bool aR.relay, .bool aR.feed, .bool aR.again, .int .i64 aR.capture, .int .i64 aR.slam] 23]) fn_17 rfl (fun w hb hw => c_laws_markPosition aP.pits aP.stores aP.player A22 c22 [] A23 c23 [] 1 w hb (by omega) (by omega) (by omega) (by omega) (by omega) (by omega) (by omega) (by omega)) rfl) ?_
        rintro _ _ _ ⟨_, G39, ⟨rfl, rfl⟩, rfl, rfl⟩ _
        refine JL.q (OpP.q (p_assign rfl)) ?_
        refine JL.nil ?_
        refine Js.seq ?_
        refine Js.seq ?_
        refine Js.region ?_
        refine JL.q (OpP.q (p_move rfl)) ?_
        refine JL.q (OpP.q (p_lss rfl rfl)) ?_
        refine JL.q (OpP.q (p_move rfl)) ?_
        refine JL.g (Gd.f1 rfl rfl rfl) (fun hc => OpP.q (p_move rfl)) ?_
        refine JL.g (Gd.f1 rfl rfl rfl) (fun hc => OpP.q (p_move rfl)) ?_
        refine JL.ge (Gd.f1 rfl rfl rfl) (fun hc => e_callV fn_22 (opds_2 (gvt rfl hc) (gvt rfl hc)) (fun w hw => c_laws_eqInt64S (M.lineR aR aP aDepth) _ (M.lineR aR aP aDepth) _ w (ints_rowok (xs := (M.lineR aR aP aDepth)) (hw.pr (i := 3) rfl)) (Ty.mono _ hw17_0 ((x27.vis.trans x36.vis).trans hw.vis)) (by have hc9 := hc; (try simp only [Bool.not_eq_true', decide_eq_false_iff_not, Int.not_lt] at hc9); omega) (by have hc9 := hc; (try simp only [Bool.not_eq_true', decide_eq_false_iff_not, Int.not_lt] at hc9); omega))) ?_
        refine JL.g (Gd.f1 rfl rfl rfl) (fun hc => OpP.q (p_not (gvt rfl hc))) ?_
        refine JL.q (OpP.q (p_pickOr rfl rfl rfl)) ?_
        refine JL.q (OpP.q (p_move rfl)) ?_
        refine JL.g (Gd.f1 rfl rfl rfl) (fun hc => OpP.q (p_move rfl)) ?_
        refine JL.g (Gd.f1 rfl rfl rfl) (fun hc => OpP.q (p_move rfl)) ?_
        refine JL.g (Gd.f1 rfl rfl rfl) (fun hc => OpP.q (p_neq (gvt rfl hc) (gvt rfl hc))) ?_
        refine JL.q (OpP.q (p_pickOr rfl rfl rfl)) ?_
        refine JL.nil ?_
        refine Js.cond rfl (fun h40 => ?_) (fun h40 => ?_)
        ·
          exact absurd h40 (by simp only [decide_true, Bool.not_true, Bool.or_false, decide_eq_true_eq]; omega)
        ·
          have h40' := h40
          try simp only [Bool.or_eq_false_iff, decide_eq_false_iff_not, Int.not_lt, Bool.not_eq_false', decide_eq_true_eq] at h40'
          refine Js.skip ?_
          refine Js.seq ?_
          refine Js.region ?_
          refine JL.q (OpP.q (p_assign rfl)) ?_
          refine JL.nil ?_
          refine Js.seq ?_
          refine Js.region ?_
          refine JL.q (OpP.q (p_move rfl)) ?_
          refine JL.q (OpP.q (p_move rfl)) ?_
          refine JL.conv (fun _ h => h.front (i := 3) rfl) ?_
          refine JL.e (e_callB (bs := [rowO 2 1 (.slice A32 ((M.lineR aR aP aDepth).length) c32) ((M.lineR aR aP aDepth).length) (ints_ (M.lineR aR aP aDepth)) []]) (rest := [rowO 2 1 (.slice A22 aP.pits.length c22) aP.pits.length (ints_ (M.up 1 aP.pits.length)) [], rowO 2 1 (.slice A23 aP.stores.length c23) aP.stores.length (ints_ (M.up (1 + (aP.pits.length : Int)) aP.stores.length)) [], anyO G39, boxO b24 [.slice A22 aP.pits.length c22, .slice A23 aP.stores.length c23, .int .i64 aP.player] 33, boxO b4 [.slice A2_0 aP.pits.length c2_0, .slice A2_1 aP.stores.length c2_1, .int .i64 aP.player] 26, boxO b3 [.int .i64 aR.pits, .int .i64 aR.seeds, .bool aR.stores, .bool aR.skip, .bool aR.relay, .bool aR.feed, .bool aR.again, .int .i64 aR.capture, .int .i64 aR.slam] 23]) fn_23 rfl (fun w hb hw => c_laws_markInt64S (M.lineR aR aP aDepth) A32 c32 [] 1 w hb (by omega) (by omega) (by omega) (by omega) (by omega)) rfl) ?_
          rintro _ _ _ ⟨_, G41, ⟨rfl, rfl⟩, rfl, rfl⟩ _
          refine JL.q (OpP.q (p_assign rfl)) ?_
          refine JL.nil ?_
          refine Js.seq ?_
          refine Js.region ?_
          refine JL.q (OpP.q (p_assign rfl)) ?_
          refine JL.nil ?_
          refine Js.seq ?_
          refine Js.region ?_
          refine JL.q (OpP.q (p_move rfl)) ?_
          refine JL.q (OpP.q (p_move rfl)) ?_
          refine JL.e (e_callV fn_24 rfl (fun w hw => c_laws_heldInt64S (M.up 1 (M.lineR aR aP aDepth).length) _ 1 w (ints_rowok (xs := (M.up 1 (M.lineR aR aP aDepth).length)) (hw.pr (i := 0) rfl)) (by omega) (by omega) (by omega))) ?_
          rintro _ _ _ ⟨rfl, rfl, rfl⟩ _
          refine JL.q (OpP.q (p_assign rfl)) ?_
          refine JL.nil ?_
          refine Js.seq ?_
          refine Js.seq ?_
          refine Js.region ?_
          refine JL.q (OpP.q (p_move rfl)) ?_
          refine JL.q (OpP.q (p_lss rfl rfl)) ?_
          refine JL.nil ?_
          refine Js.cond rfl (fun h42 => ?_) (fun h42 => ?_)
          ·
            exact absurd h42 (by rw [M.held_up]; simp only [decide_eq_true_eq]; omega)
          ·
            have h42' := h42
            try simp only [decide_eq_false_iff_not, Int.not_lt] at h42'
            refine Js.skip ?_
            refine Js.seq ?_
            refine Js.seq ?_
            refine Js.region ?_
            refine JL.q (OpP.q (p_move rfl)) ?_
            refine JL.q (OpP.q (p_move rfl)) ?_
            refine JL.q (OpP.q (p_neq rfl rfl)) ?_
            refine JL.nil ?_
            refine Js.cond rfl (fun h43 => ?_) (fun h43 => ?_)
            ·
              exact absurd h43 (by rw [M.held_up]; simp)
            ·
              have h43' := h43
              try simp only [Bool.not_eq_false', decide_eq_true_eq] at h43'
              refine Js.skip ?_
              refine Js.seq ?_
              refine Js.drawn _ [] mixed_ (fun _ h => h) ?_
              refine JH.q 0 rfl (q_loadN ty_23 rfl (Mem.boxR (i := 7) rfl 0 9) rfl rfl) ?_
              refine JH.q 2 rfl (q_loadN ty_26 rfl (Mem.boxR (i := 6) rfl 0 3) rfl rfl) ?_
              refine JH.p 4 rfl (p_move rfl) ?_
              refine JH.one (i := 1) (by kernel_rfl) ?_
              refine JHo.e rfl (e_callP fn_12 rfl (fun w hw => c_laws_toRules aR _ w ⟨_, rfl, ⟨rfl, rfl, rfl, rfl, rfl, rfl, rfl, rfl, rfl, trivial⟩⟩)) (.inl rfl) ?_
              rintro v44 _ u46 ⟨h45, rfl⟩ x46
              obtain rfl := open_Rules h45
              refine JH.one (i := 3) (by kernel_rfl) ?_
              refine JHo.e rfl (e_callP fn_13 rfl (fun w hw => c_laws_toPosition aP _ w ⟨_, rfl, ⟨(Ty.mono _ h2_0 ((((((x8.vis.trans x12.vis).trans x16.vis).trans x27.vis).trans x36.vis).trans x46.vis).trans hw.vis)), (Ty.mono _ h2_1 ((((((x8.vis.trans x12.vis).trans x16.vis).trans x27.vis).trans x36.vis).trans x46.vis).trans hw.vis)), rfl, trivial⟩⟩ (by omega) (by omega))) (.inl rfl) ?_
              rintro v48 _ u50 ⟨h49, rfl⟩ x50
              obtain ⟨A51_0, c51_0, A51_1, c51_1, rfl, h51_0, h51_1, bl51_0, bh51_0, bl51_1, bh51_1⟩ := open_Position h49
              refine JH.one (i := 5) (by kernel_rfl) ?_
              refine JHo.e rfl (e_callP fn_21 rfl (fun w hw => c_impl_SearchLine aR _ aP _ aDepth w ⟨_, rfl, ⟨rfl, rfl, rfl, rfl, rfl, rfl, rfl, rfl, rfl, trivial⟩⟩ ⟨_, rfl, ⟨(Ty.mono _ h51_0 hw.vis), (Ty.mono _ h51_1 hw.vis), rfl, trivial⟩⟩ (by omega) (by omega))) (.inl rfl) ?_
              rintro v52 _ u54 ⟨h53, rfl⟩ x54
              obtain ⟨vs55, rfl, hv55⟩ := h53
              obtain ⟨v55_0, vs55, rfl, hw55_0, hv55⟩ := cellsOk_cons hv55
              obtain ⟨v55_1, vs55, rfl, hw55_1, hv55⟩ := cellsOk_cons hv55
              obtain rfl := cellsOk_nil hv55
              obtain ⟨A56, c56, rfl, bl56, bh56⟩ := sl_form hw55_0
              obtain rfl : v55_1 = .int .i64 (M.srchC aR aP aDepth) := hw55_1
              refine JH.p 6 rfl (p_move rfl) ?_
              refine JH.p 7 rfl (p_extract rfl rfl) ?_
              refine JH.p 8 rfl (p_extract rfl rfl) ?_
              refine JH.p 9 rfl (p_assign rfl) ?_
              refine JH.p 10 rfl (p_assign rfl) ?_
              refine JH.done (by kernel_rfl) ?_
              refine Js.seq ?_
              refine Js.seq ?_
              refine Js.region ?_
              refine JL.q (OpP.q (p_move rfl)) ?_
              refine JL.q (OpP.q (p_move rfl)) ?_
              refine JL.e (e_callV fn_22 rfl (fun w hw => c_laws_eqInt64S (M.lineR aR aP aDepth) _ (M.lineR aR aP aDepth) _ w (Ty.mono _ hw55_0 hw.vis) (Ty.mono _ hw17_0 (((((x27.vis.trans x36.vis).trans x46.vis).trans x50.vis).trans x54.vis).trans hw.vis)) (by omega) (by omega))) ?_
              rintro _ _ _ ⟨rfl, rfl, rfl⟩ _
              refine JL.q (OpP.q (p_not rfl)) ?_
              refine JL.q (OpP.q (p_move rfl)) ?_
              refine JL.g (Gd.f1 rfl rfl rfl) (fun hc => OpP.q (p_move rfl)) ?_
              refine JL.g (Gd.f1 rfl rfl rfl) (fun hc => OpP.q (p_move rfl)) ?_
              refine JL.g (Gd.f1 rfl rfl rfl) (fun hc => OpP.q (p_neq (gvt rfl hc) (gvt rfl hc))) ?_
              refine JL.q (OpP.q (p_pickOr rfl rfl rfl)) ?_
              refine JL.nil ?_
              refine Js.condF rfl h33 ?_
              refine Js.skip ?_
              refine Js.seq ?_
              refine Js.region ?_
              refine JL.q (OpP.q (p_assign rfl)) ?_
              refine JL.nil ?_
              refine Js.seq ?_
              refine Js.region ?_
              refine JL.q (OpP.q (p_move rfl)) ?_
              refine JL.q (OpP.q (p_move rfl)) ?_
              refine JL.e (e_callV fn_24 rfl (fun w hw => c_laws_heldInt64S (M.up 1 (M.lineR aR aP aDepth).length) _ 1 w (ints_rowok (xs := (M.up 1 (M.lineR aR aP aDepth).length)) (hw.pr (i := 0) rfl)) (by omega) (by omega) (by omega))) ?_
              rintro _ _ _ ⟨rfl, rfl, rfl⟩ _
              refine JL.q (OpP.q (p_assign rfl)) ?_
              refine JL.nil ?_
              refine Js.seq ?_
              refine Js.seq ?_
              refine Js.region ?_
              refine JL.q (OpP.q (p_move rfl)) ?_
              refine JL.q (OpP.q (p_lss rfl rfl)) ?_
              refine JL.nil ?_
              refine Js.condF rfl h42 ?_
              refine Js.skip ?_
              refine Js.seq ?_
              refine Js.seq ?_
              refine Js.region ?_
              refine JL.q (OpP.q (p_move rfl)) ?_
              refine JL.q (OpP.q (p_move rfl)) ?_
              refine JL.q (OpP.q (p_neq rfl rfl)) ?_
              refine JL.nil ?_
              refine Js.condF rfl h43 ?_
              refine Js.skip ?_
              refine Js.seq ?_
              refine Js.region ?_
              refine JL.q (OpP.q (p_assign rfl)) ?_
              refine JL.nil ?_
              refine Js.ret (R := RV w (.bool true)) @Try.results4 (fun _ _ => rfl) (ResOk.tmp rfl ResOk.nil) (fun w1 hw => ?_)
              refine ⟨?_, hw.ext ((((((((x8.trans x12).trans x16).trans x27).trans x36).trans x46).trans x50).trans x54))⟩
              first | rfl | (simp [outV]; done)

set_option maxRecDepth 100000 in
set_option maxHeartbeats 2000000 in
theorem c_laws_FnExactValidPuzzle (aZ : M.Puz) (v_aZ : Value) (w : World) (h_aZ : (Ty.agg (cPuzzle aZ)).ok w v_aZ) : RetV Try.prog 6 [v_aZ] w (.bool true) := by
  have q4 := M.szL_cases (aZ.position.pits.length + aZ.position.stores.length) 1048576
  change (1048576 < _ ∧ M.szP aZ.position 1048576 = -1) ∨ (_ ≤ _ ∧ M.szP aZ.position 1048576 = _) at q4
  obtain ⟨A1_9, c1_9, A1_10, c1_10, rfl, h1_9, h1_10, bl1_9, bh1_9, bl1_10, bh1_10⟩ := open_Puzzle h_aZ
  refine enter @Try.func6 @Try.ntmps6 rfl rfl ?_
  refine Js.seq ?_
  refine Js.region ?_
  refine JL.e (e_box (c := [.int .i64 aZ.rules.pits, .int .i64 aZ.rules.seeds, .bool aZ.rules.stores, .bool aZ.rules.skip, .bool aZ.rules.relay, .bool aZ.rules.feed, .bool aZ.rules.again, .int .i64 aZ.rules.capture, .int .i64 aZ.rules.slam, .slice A1_9 aZ.position.pits.length c1_9, .slice A1_10 aZ.position.stores.length c1_10, .int .i64 aZ.position.player, .int .i64 aZ.depth, .int .i64 aZ.move, .int .i64 aZ.value, .int .i64 aZ.margin]) rfl rfl) ?_
  rintro _ _ _ ⟨b2, rfl, rfl, rfl⟩ _
  refine JL.q (OpP.q (p_assign rfl)) ?_
  refine JL.nil ?_
  refine Js.seq ?_
  refine Js.region ?_
  refine JL.q (OpP.q (p_assign rfl)) ?_
  refine JL.nil ?_
  refine Js.seq ?_
  refine Js.region ?_
  refine JL.q (q_loadN ty_51 rfl (Mem.boxR (i := 0) rfl 0 16) rfl rfl) ?_
  refine JL.q (OpP.q (p_move rfl)) ?_
  refine JL.e (e_callV fn_30 rfl (fun w hw => c_laws_szPuzzle aZ _ 1048576 w ⟨_, rfl, ⟨rfl, rfl, rfl, rfl, rfl, rfl, rfl, rfl, rfl, (Ty.mono _ h1_9 hw.vis), (Ty.mono _ h1_10 hw.vis), rfl, rfl, rfl, rfl, rfl, trivial⟩⟩ (by omega) (by omega))) ?_
  rintro _ _ _ ⟨rfl, rfl, rfl⟩ _
  refine JL.q (OpP.q (p_assign rfl)) ?_
  refine JL.nil ?_
  refine Js.seq ?_
  refine Js.seq ?_
  refine Js.region ?_
  refine JL.q (OpP.q (p_move rfl)) ?_
  refine JL.q (OpP.q (p_lss rfl rfl)) ?_
  refine JL.nil ?_
  refine Js.cond rfl (fun h3 => ?_) (fun h3 => ?_)
  ·
    have h3' := h3
    try simp only [decide_eq_true_eq] at h3'
    refine Js.seq ?_
    refine Js.region ?_
    refine JL.q (OpP.q (p_assign rfl)) ?_
    refine JL.nil ?_
    refine Js.ret (R := RV w (.bool true)) @Try.results6 (fun _ _ => rfl) (ResOk.tmp rfl ResOk.nil) (fun w1 hw => ?_)
    refine ⟨?_, hw.ext (Up.refl _ _)⟩
    first | rfl | (simp [outV]; done)
  ·
    have h3' := h3
    try simp only [decide_eq_false_iff_not, Int.not_lt] at h3'
    refine Js.skip ?_
    refine Js.seq ?_
    refine Js.region ?_
    refine JL.q (q_loadN ty_51 rfl (Mem.boxR (i := 0) rfl 0 16) rfl rfl) ?_
    refine JL.e (e_callP fn_32 rfl (fun w hw => c_laws_toPuzzle aZ _ w ⟨_, rfl, ⟨rfl, rfl, rfl, rfl, rfl, rfl, rfl, rfl, rfl, (Ty.mono _ h1_9 hw.vis), (Ty.mono _ h1_10 hw.vis), rfl, rfl, rfl, rfl, rfl, trivial⟩⟩ (by omega) (by omega))) ?_
    rintro v4 _ u6 ⟨h5, rfl⟩ x6
    obtain ⟨A7_9, c7_9, A7_10, c7_10, rfl, h7_9, h7_10, bl7_9, bh7_9, bl7_10, bh7_10⟩ := open_Puzzle h5
    refine JL.e (e_callV fn_31 rfl (fun w hw => c_spec_ValidPuzzle aZ _ w ⟨_, rfl, ⟨rfl, rfl, rfl, rfl, rfl, rfl, rfl, rfl, rfl, (Ty.mono _ h7_9 hw.vis), (Ty.mono _ h7_10 hw.vis), rfl, rfl, rfl, rfl, rfl, trivial⟩⟩ (by omega) (by omega))) ?_
    rintro _ _ _ ⟨rfl, rfl, rfl⟩ _
    refine JL.q (OpP.q (p_assign rfl)) ?_
    refine JL.nil ?_
    refine Js.seq ?_
    refine Js.region ?_
    refine JL.q (q_loadN ty_51 rfl (Mem.boxR (i := 0) rfl 0 16) rfl rfl) ?_
    refine JL.e (e_callO fn_32 rfl (Spl.agg (Spls.cons (Spl.val _) (Spls.cons (Spl.val _) (Spls.cons (Spl.val _) (Spls.cons (Spl.val _) (Spls.cons (Spl.val _) (Spls.cons (Spl.val _) (Spls.cons (Spl.val _) (Spls.cons (Spl.val _) (Spls.cons (Spl.val _) (Spls.cons (Spl.ints _ _) (Spls.cons (Spl.ints _ _) (Spls.cons (Spl.val _) (Spls.cons (Spl.val _) (Spls.cons (Spl.val _) (Spls.cons (Spl.val _) (Spls.cons (Spl.val _) Spls.nil))))))))))))))))) (fun w hw => c_laws_toPuzzle aZ _ w ⟨_, rfl, ⟨rfl, rfl, rfl, rfl, rfl, rfl, rfl, rfl, rfl, (Ty.mono _ h1_9 (x6.vis.trans hw.vis)), (Ty.mono _ h1_10 (x6.vis.trans hw.vis)), rfl, rfl, rfl, rfl, rfl, trivial⟩⟩ (by omega) (by omega))) ?_
    rintro v8 _ _ ⟨_, hR9, rfl, rfl⟩ _
    obtain ⟨vs10, rfl, hr10⟩ := hR9
    obtain ⟨v10_0, vs10_0, o10_0, ow10_0, rfl, hR10_0, hs10_0, rfl⟩ := RL_cons hr10
    obtain ⟨v10_1, vs10_1, o10_1, ow10_1, rfl, hR10_1, hs10_1, rfl⟩ := RL_cons hs10_0
    obtain ⟨v10_2, vs10_2, o10_2, ow10_2, rfl, hR10_2, hs10_2, rfl⟩ := RL_cons hs10_1
    obtain ⟨v10_3, vs10_3, o10_3, ow10_3, rfl, hR10_3, hs10_3, rfl⟩ := RL_cons hs10_2
    obtain ⟨v10_4, vs10_4, o10_4, ow10_4, rfl, hR10_4, hs10_4, rfl⟩ := RL_cons hs10_3
    obtain ⟨v10_5, vs10_5, o10_5, ow10_5, rfl, hR10_5, hs10_5, rfl⟩ := RL_cons hs10_4
    obtain ⟨v10_6, vs10_6, o10_6, ow10_6, rfl, hR10_6, hs10_6, rfl⟩ := RL_cons hs10_5
    obtain ⟨v10_7, vs10_7, o10_7, ow10_7, rfl, hR10_7, hs10_7, rfl⟩ := RL_cons hs10_6
    obtain ⟨v10_8, vs10_8, o10_8, ow10_8, rfl, hR10_8, hs10_8, rfl⟩ := RL_cons hs10_7
    obtain ⟨v10_9, vs10_9, o10_9, ow10_9, rfl, hR10_9, hs10_9, rfl⟩ := RL_cons hs10_8
    obtain ⟨v10_10, vs10_10, o10_10, ow10_10, rfl, hR10_10, hs10_10, rfl⟩ := RL_cons hs10_9
    obtain ⟨v10_11, vs10_11, o10_11, ow10_11, rfl, hR10_11, hs10_11, rfl⟩ := RL_cons hs10_10
    obtain ⟨v10_12, vs10_12, o10_12, ow10_12, rfl, hR10_12, hs10_12, rfl⟩ := RL_cons hs10_11
    obtain ⟨v10_13, vs10_13, o10_13, ow10_13, rfl, hR10_13, hs10_13, rfl⟩ := RL_cons hs10_12
    obtain ⟨v10_14, vs10_14, o10_14, ow10_14, rfl, hR10_14, hs10_14, rfl⟩ := RL_cons hs10_13
    obtain ⟨v10_15, vs10_15, o10_15, ow10_15, rfl, hR10_15, hs10_15, rfl⟩ := RL_cons hs10_14
    obtain ⟨rfl, rfl⟩ := RL_nil hs10_15
    obtain ⟨rfl, rfl⟩ : v10_0 = .int .i64 aZ.rules.pits ∧ _ := hR10_0
    obtain ⟨rfl, rfl⟩ : v10_1 = .int .i64 aZ.rules.seeds ∧ _ := hR10_1
    obtain ⟨rfl, rfl⟩ : v10_2 = .bool aZ.rules.stores ∧ _ := hR10_2
    obtain ⟨rfl, rfl⟩ : v10_3 = .bool aZ.rules.skip ∧ _ := hR10_3
    obtain ⟨rfl, rfl⟩ : v10_4 = .bool aZ.rules.relay ∧ _ := hR10_4
    obtain ⟨rfl, rfl⟩ : v10_5 = .bool aZ.rules.feed ∧ _ := hR10_5
    obtain ⟨rfl, rfl⟩ : v10_6 = .bool aZ.rules.again ∧ _ := hR10_6
    obtain ⟨rfl, rfl⟩ : v10_7 = .int .i64 aZ.rules.capture ∧ _ := hR10_7
    obtain ⟨rfl, rfl⟩ : v10_8 = .int .i64 aZ.rules.slam ∧ _ := hR10_8
    obtain ⟨A11, c11, rfl, rfl, bl11, bh11⟩ := hR10_9
    obtain ⟨A12, c12, rfl, rfl, bl12, bh12⟩ := hR10_10
    obtain ⟨rfl, rfl⟩ : v10_11 = .int .i64 aZ.position.player ∧ _ := hR10_11
    obtain ⟨rfl, rfl⟩ : v10_12 = .int .i64 aZ.depth ∧ _ := hR10_12
    obtain ⟨rfl, rfl⟩ : v10_13 = .int .i64 aZ.move ∧ _ := hR10_13
    obtain ⟨rfl, rfl⟩ : v10_14 = .int .i64 aZ.value ∧ _ := hR10_14
    obtain ⟨rfl, rfl⟩ : v10_15 = .int .i64 aZ.margin ∧ _ := hR10_15
    refine JL.e (e_alloc zero_45) ?_
    rintro _ _ _ ⟨b13, rfl, rfl, rfl⟩ _
    refine JL.s (e_store (i := 0) (c' := [.int .i64 aZ.rules.pits, .int .i64 aZ.rules.seeds, .bool aZ.rules.stores, .bool aZ.rules.skip, .bool aZ.rules.relay, .bool aZ.rules.feed, .bool aZ.rules.again, .int .i64 aZ.rules.capture, .int .i64 aZ.rules.slam, .slice A11 aZ.position.pits.length c11, .slice A12 aZ.position.stores.length c12, .int .i64 aZ.position.player, .int .i64 aZ.depth, .int .i64 aZ.move, .int .i64 aZ.value, .int .i64 aZ.margin]) ty_45 rfl rfl rfl rfl rfl rfl rfl rfl) ?_
    rintro _ _ _ ⟨rfl, rfl⟩ _
    refine JL.nil ?_
    refine Js.seq ?_
    refine Js.region ?_
    refine JL.q (q_loadN ty_45 rfl (Mem.boxR (i := 0) rfl 0 16) rfl rfl) ?_
    refine JL.e (e_callV fn_33 rfl (fun w hw => c_impl_ValidPuzzle aZ _ w ⟨_, rfl, ⟨rfl, rfl, rfl, rfl, rfl, rfl, rfl, rfl, rfl, (ints_rowok (xs := aZ.position.pits) (hw.pr (i := 1) rfl)), (ints_rowok (xs := aZ.position.stores) (hw.pr (i := 2) rfl)), rfl, rfl, rfl, rfl, rfl, trivial⟩⟩ (by omega) (by omega))) ?_
    rintro _ _ _ ⟨rfl, rfl, rfl⟩ _
    refine JL.q (OpP.q (p_assign rfl)) ?_
    refine JL.nil ?_
    refine Js.seq ?_
    refine Js.seq ?_
    refine Js.region ?_
    refine JL.q (OpP.q (p_move rfl)) ?_
    refine JL.q (OpP.q (p_move rfl)) ?_
    refine JL.q (OpP.q (p_neqB und_4 rfl rfl)) ?_
    refine JL.nil ?_
    refine Js.cond rfl (fun h14 => ?_) (fun h14 => ?_)
    ·
      exact absurd h14 (by simp)
    ·
      have h14' := h14
      try simp only [Bool.not_eq_false'] at h14'
      refine Js.skip ?_
      refine Js.seq ?_
      refine Js.seq ?_
      refine Js.drawn _ [] mixed_ (fun _ h => h) ?_
      refine JH.q 0 rfl (q_loadN ty_45 rfl (Mem.boxR (i := 0) rfl 0 16) rfl rfl) ?_
      refine JH.q 1 rfl (q_loadN ty_51 rfl (Mem.boxR (i := 3) rfl 0 16) rfl rfl) ?_
      refine JH.one (i := 2) (by kernel_rfl) ?_
      refine JHo.e rfl (e_callP fn_32 rfl (fun w hw => c_laws_toPuzzle aZ _ w ⟨_, rfl, ⟨rfl, rfl, rfl, rfl, rfl, rfl, rfl, rfl, rfl, (Ty.mono _ h1_9 (x6.vis.trans hw.vis)), (Ty.mono _ h1_10 (x6.vis.trans hw.vis)), rfl, rfl, rfl, rfl, rfl, trivial⟩⟩ (by omega) (by omega))) (.inl rfl) ?_
      rintro v15 _ u17 ⟨h16, rfl⟩ x17
      obtain ⟨A18_9, c18_9, A18_10, c18_10, rfl, h18_9, h18_10, bl18_9, bh18_9, bl18_10, bh18_10⟩ := open_Puzzle h16
      refine JH.one (i := 3) (by kernel_rfl) ?_
      refine JHo.e rfl (e_callV fn_27 rfl (fun w hw => c_laws_eqPuzzle aZ _ aZ _ w ⟨_, rfl, ⟨rfl, rfl, rfl, rfl, rfl, rfl, rfl, rfl, rfl, (ints_rowok (xs := aZ.position.pits) (hw.pr (i := 1) rfl)), (ints_rowok (xs := aZ.position.stores) (hw.pr (i := 2) rfl)), rfl, rfl, rfl, rfl, rfl, trivial⟩⟩ ⟨_, rfl, ⟨rfl, rfl, rfl, rfl, rfl, rfl, rfl, rfl, rfl, (Ty.mono _ h18_9 hw.vis), (Ty.mono _ h18_10 hw.vis), rfl, rfl, rfl, rfl, rfl, trivial⟩⟩ (by omega) (by omega) (by omega) (by omega))) (.inl rfl) ?_
      rintro _ _ _ ⟨rfl, rfl, rfl⟩ _
      refine JH.p 4 rfl (p_not rfl) ?_
      refine JH.done (by kernel_rfl) ?_
      refine Js.cond rfl (fun h19 => ?_) (fun h19 => ?_)
      ·
        exact absurd h19 (by simp)
      ·
        have h19' := h19
        try simp only [Bool.not_eq_false', decide_eq_true_eq] at h19'
        refine Js.skip ?_
        refine Js.seq ?_
        refine Js.region ?_
        refine JL.q (OpP.q (p_assign rfl)) ?_
        refine JL.nil ?_
        refine Js.ret (R := RV w (.bool true)) @Try.results6 (fun _ _ => rfl) (ResOk.tmp rfl ResOk.nil) (fun w1 hw => ?_)
        refine ⟨?_, hw.ext ((x6.trans x17))⟩
        first | rfl | (simp [outV]; done)

set_option maxRecDepth 100000 in
set_option maxHeartbeats 2000000 in
theorem c_laws_FnExactAnswerLoss (aZ : M.Puz) (v_aZ : Value) (aMove : Int) (w : World) (h_aZ : (Ty.agg (cPuzzle aZ)).ok w v_aZ) : RetV Try.prog 7 [v_aZ, .int .i64 aMove] w (.bool true) := by
  have q4 := M.szL_cases (aZ.position.pits.length + aZ.position.stores.length) 1048576
  change (1048576 < _ ∧ M.szP aZ.position 1048576 = -1) ∨ (_ ≤ _ ∧ M.szP aZ.position 1048576 = _) at q4
  obtain ⟨A1_9, c1_9, A1_10, c1_10, rfl, h1_9, h1_10, bl1_9, bh1_9, bl1_10, bh1_10⟩ := open_Puzzle h_aZ
  refine enter @Try.func7 @Try.ntmps7 rfl rfl ?_
  refine Js.seq ?_
  refine Js.region ?_
  refine JL.e (e_box (c := [.int .i64 aZ.rules.pits, .int .i64 aZ.rules.seeds, .bool aZ.rules.stores, .bool aZ.rules.skip, .bool aZ.rules.relay, .bool aZ.rules.feed, .bool aZ.rules.again, .int .i64 aZ.rules.capture, .int .i64 aZ.rules.slam, .slice A1_9 aZ.position.pits.length c1_9, .slice A1_10 aZ.position.stores.length c1_10, .int .i64 aZ.position.player, .int .i64 aZ.depth, .int .i64 aZ.move, .int .i64 aZ.value, .int .i64 aZ.margin]) rfl rfl) ?_
  rintro _ _ _ ⟨b2, rfl, rfl, rfl⟩ _
  refine JL.q (OpP.q (p_assign rfl)) ?_
  refine JL.nil ?_
  refine Js.seq ?_
  refine Js.region ?_
  refine JL.q (OpP.q (p_assign rfl)) ?_
  refine JL.nil ?_
  refine Js.seq ?_
  refine Js.region ?_
  refine JL.q (q_loadN ty_51 rfl (Mem.boxR (i := 0) rfl 0 16) rfl rfl) ?_
  refine JL.q (OpP.q (p_move rfl)) ?_
  refine JL.e (e_callV fn_30 rfl (fun w hw => c_laws_szPuzzle aZ _ 1048576 w ⟨_, rfl, ⟨rfl, rfl, rfl, rfl, rfl, rfl, rfl, rfl, rfl, (Ty.mono _ h1_9 hw.vis), (Ty.mono _ h1_10 hw.vis), rfl, rfl, rfl, rfl, rfl, trivial⟩⟩ (by omega) (by omega))) ?_
  rintro _ _ _ ⟨rfl, rfl, rfl⟩ _
  refine JL.q (OpP.q (p_assign rfl)) ?_
  refine JL.nil ?_
  refine Js.seq ?_
  refine Js.seq ?_
  refine Js.region ?_
  refine JL.q (OpP.q (p_move rfl)) ?_
  refine JL.q (OpP.q (p_lss rfl rfl)) ?_
  refine JL.nil ?_
  refine Js.cond rfl (fun h3 => ?_) (fun h3 => ?_)
  ·
    have h3' := h3
    try simp only [decide_eq_true_eq] at h3'
    refine Js.seq ?_
    refine Js.region ?_
    refine JL.q (OpP.q (p_assign rfl)) ?_
    refine JL.nil ?_
    refine Js.ret (R := RV w (.bool true)) @Try.results7 (fun _ _ => rfl) (ResOk.tmp rfl ResOk.nil) (fun w1 hw => ?_)
    refine ⟨?_, hw.ext (Up.refl _ _)⟩
    first | rfl | (simp [outV]; done)
  ·
    have h3' := h3
    try simp only [decide_eq_false_iff_not, Int.not_lt] at h3'
    refine Js.skip ?_
    refine Js.seq ?_
    refine Js.region ?_
    refine JL.q (q_loadN ty_51 rfl (Mem.boxR (i := 0) rfl 0 16) rfl rfl) ?_
    refine JL.e (e_callP fn_32 rfl (fun w hw => c_laws_toPuzzle aZ _ w ⟨_, rfl, ⟨rfl, rfl, rfl, rfl, rfl, rfl, rfl, rfl, rfl, (Ty.mono _ h1_9 hw.vis), (Ty.mono _ h1_10 hw.vis), rfl, rfl, rfl, rfl, rfl, trivial⟩⟩ (by omega) (by omega))) ?_
    rintro v4 _ u6 ⟨h5, rfl⟩ x6
    obtain ⟨A7_9, c7_9, A7_10, c7_10, rfl, h7_9, h7_10, bl7_9, bh7_9, bl7_10, bh7_10⟩ := open_Puzzle h5
    refine JL.q (OpP.q (p_move rfl)) ?_
    refine JL.e (e_callV fn_34 rfl (fun w hw => c_spec_AnswerLoss aZ _ aMove w ⟨_, rfl, ⟨rfl, rfl, rfl, rfl, rfl, rfl, rfl, rfl, rfl, (Ty.mono _ h7_9 hw.vis), (Ty.mono _ h7_10 hw.vis), rfl, rfl, rfl, rfl, rfl, trivial⟩⟩ (by omega) (by omega))) ?_
    rintro _ _ _ ⟨rfl, rfl, rfl⟩ _
    refine JL.q (OpP.q (p_move rfl)) ?_
    refine JL.q (OpP.q (p_extract rfl rfl)) ?_
    refine JL.q (OpP.q (p_extract rfl rfl)) ?_
    refine JL.q (OpP.q (p_assign rfl)) ?_
    refine JL.q (OpP.q (p_assign rfl)) ?_
    refine JL.nil ?_
    refine Js.seq ?_
    refine Js.region ?_
    refine JL.q (q_loadN ty_51 rfl (Mem.boxR (i := 0) rfl 0 16) rfl rfl) ?_
    refine JL.e (e_callO fn_32 rfl (Spl.agg (Spls.cons (Spl.val _) (Spls.cons (Spl.val _) (Spls.cons (Spl.val _) (Spls.cons (Spl.val _) (Spls.cons (Spl.val _) (Spls.cons (Spl.val _) (Spls.cons (Spl.val _) (Spls.cons (Spl.val _) (Spls.cons (Spl.val _) (Spls.cons (Spl.ints _ _) (Spls.cons (Spl.ints _ _) (Spls.cons (Spl.val _) (Spls.cons (Spl.val _) (Spls.cons (Spl.val _) (Spls.cons (Spl.val _) (Spls.cons (Spl.val _) Spls.nil))))))))))))))))) (fun w hw => c_laws_toPuzzle aZ _ w ⟨_, rfl, ⟨rfl, rfl, rfl, rfl, rfl, rfl, rfl, rfl, rfl, (Ty.mono _ h1_9 (x6.vis.trans hw.vis)), (Ty.mono _ h1_10 (x6.vis.trans hw.vis)), rfl, rfl, rfl, rfl, rfl, trivial⟩⟩ (by omega) (by omega))) ?_
    rintro v8 _ _ ⟨_, hR9, rfl, rfl⟩ _
    obtain ⟨vs10, rfl, hr10⟩ := hR9
    obtain ⟨v10_0, vs10_0, o10_0, ow10_0, rfl, hR10_0, hs10_0, rfl⟩ := RL_cons hr10
    obtain ⟨v10_1, vs10_1, o10_1, ow10_1, rfl, hR10_1, hs10_1, rfl⟩ := RL_cons hs10_0
    obtain ⟨v10_2, vs10_2, o10_2, ow10_2, rfl, hR10_2, hs10_2, rfl⟩ := RL_cons hs10_1
    obtain ⟨v10_3, vs10_3, o10_3, ow10_3, rfl, hR10_3, hs10_3, rfl⟩ := RL_cons hs10_2
    obtain ⟨v10_4, vs10_4, o10_4, ow10_4, rfl, hR10_4, hs10_4, rfl⟩ := RL_cons hs10_3
    obtain ⟨v10_5, vs10_5, o10_5, ow10_5, rfl, hR10_5, hs10_5, rfl⟩ := RL_cons hs10_4
    obtain ⟨v10_6, vs10_6, o10_6, ow10_6, rfl, hR10_6, hs10_6, rfl⟩ := RL_cons hs10_5
    obtain ⟨v10_7, vs10_7, o10_7, ow10_7, rfl, hR10_7, hs10_7, rfl⟩ := RL_cons hs10_6
    obtain ⟨v10_8, vs10_8, o10_8, ow10_8, rfl, hR10_8, hs10_8, rfl⟩ := RL_cons hs10_7
    obtain ⟨v10_9, vs10_9, o10_9, ow10_9, rfl, hR10_9, hs10_9, rfl⟩ := RL_cons hs10_8
    obtain ⟨v10_10, vs10_10, o10_10, ow10_10, rfl, hR10_10, hs10_10, rfl⟩ := RL_cons hs10_9
    obtain ⟨v10_11, vs10_11, o10_11, ow10_11, rfl, hR10_11, hs10_11, rfl⟩ := RL_cons hs10_10
    obtain ⟨v10_12, vs10_12, o10_12, ow10_12, rfl, hR10_12, hs10_12, rfl⟩ := RL_cons hs10_11
    obtain ⟨v10_13, vs10_13, o10_13, ow10_13, rfl, hR10_13, hs10_13, rfl⟩ := RL_cons hs10_12
    obtain ⟨v10_14, vs10_14, o10_14, ow10_14, rfl, hR10_14, hs10_14, rfl⟩ := RL_cons hs10_13
    obtain ⟨v10_15, vs10_15, o10_15, ow10_15, rfl, hR10_15, hs10_15, rfl⟩ := RL_cons hs10_14
    obtain ⟨rfl, rfl⟩ := RL_nil hs10_15
    obtain ⟨rfl, rfl⟩ : v10_0 = .int .i64 aZ.rules.pits ∧ _ := hR10_0
    obtain ⟨rfl, rfl⟩ : v10_1 = .int .i64 aZ.rules.seeds ∧ _ := hR10_1
    obtain ⟨rfl, rfl⟩ : v10_2 = .bool aZ.rules.stores ∧ _ := hR10_2
    obtain ⟨rfl, rfl⟩ : v10_3 = .bool aZ.rules.skip ∧ _ := hR10_3
    obtain ⟨rfl, rfl⟩ : v10_4 = .bool aZ.rules.relay ∧ _ := hR10_4
    obtain ⟨rfl, rfl⟩ : v10_5 = .bool aZ.rules.feed ∧ _ := hR10_5
    obtain ⟨rfl, rfl⟩ : v10_6 = .bool aZ.rules.again ∧ _ := hR10_6
    obtain ⟨rfl, rfl⟩ : v10_7 = .int .i64 aZ.rules.capture ∧ _ := hR10_7
    obtain ⟨rfl, rfl⟩ : v10_8 = .int .i64 aZ.rules.slam ∧ _ := hR10_8
    obtain ⟨A11, c11, rfl, rfl, bl11, bh11⟩ := hR10_9
    obtain ⟨A12, c12, rfl, rfl, bl12, bh12⟩ := hR10_10
    obtain ⟨rfl, rfl⟩ : v10_11 = .int .i64 aZ.position.player ∧ _ := hR10_11
    obtain ⟨rfl, rfl⟩ : v10_12 = .int .i64 aZ.depth ∧ _ := hR10_12
    obtain ⟨rfl, rfl⟩ : v10_13 = .int .i64 aZ.move ∧ _ := hR10_13
    obtain ⟨rfl, rfl⟩ : v10_14 = .int .i64 aZ.value ∧ _ := hR10_14
    obtain ⟨rfl, rfl⟩ : v10_15 = .int .i64 aZ.margin ∧ _ := hR10_15
    refine JL.e (e_alloc zero_45) ?_
    rintro _ _ _ ⟨b13, rfl, rfl, rfl⟩ _
    refine JL.s (e_store (i := 0) (c' := [.int .i64 aZ.rules.pits, .int .i64 aZ.rules.seeds, .bool aZ.rules.stores, .bool aZ.rules.skip, .bool aZ.rules.relay, .bool aZ.rules.feed, .bool aZ.rules.again, .int .i64 aZ.rules.capture, .int .i64 aZ.rules.slam, .slice A11 aZ.position.pits.length c11, .slice A12 aZ.position.stores.length c12, .int .i64 aZ.position.player, .int .i64 aZ.depth, .int .i64 aZ.move, .int .i64 aZ.value, .int .i64 aZ.margin]) ty_45 rfl rfl rfl rfl rfl rfl rfl rfl) ?_
    rintro _ _ _ ⟨rfl, rfl⟩ _
    refine JL.nil ?_
    refine Js.seq ?_
    refine Js.region ?_
    refine JL.q (q_loadN ty_45 rfl (Mem.boxR (i := 0) rfl 0 16) rfl rfl) ?_
    refine JL.q (OpP.q (p_move rfl)) ?_
    refine JL.e (e_callV fn_35 rfl (fun w hw => c_impl_AnswerLoss aZ _ aMove w ⟨_, rfl, ⟨rfl, rfl, rfl, rfl, rfl, rfl, rfl, rfl, rfl, (ints_rowok (xs := aZ.position.pits) (hw.pr (i := 1) rfl)), (ints_rowok (xs := aZ.position.stores) (hw.pr (i := 2) rfl)), rfl, rfl, rfl, rfl, rfl, trivial⟩⟩ (by omega) (by omega))) ?_
    rintro _ _ _ ⟨rfl, rfl, rfl⟩ _
    refine JL.q (OpP.q (p_move rfl)) ?_
    refine JL.q (OpP.q (p_extract rfl rfl)) ?_
    refine JL.q (OpP.q (p_extract rfl rfl)) ?_
    refine JL.q (OpP.q (p_assign rfl)) ?_
    refine JL.q (OpP.q (p_assign rfl)) ?_
    refine JL.nil ?_
    refine Js.seq ?_
    refine Js.seq ?_
    refine Js.region ?_
    refine JL.q (OpP.q (p_move rfl)) ?_
    refine JL.q (OpP.q (p_move rfl)) ?_
    refine JL.q (OpP.q (p_neq rfl rfl)) ?_
    refine JL.q (OpP.q (p_move rfl)) ?_
    refine JL.g (Gd.f1 rfl rfl rfl) (fun hc => OpP.q (p_move rfl)) ?_
    refine JL.g (Gd.f1 rfl rfl rfl) (fun hc => OpP.q (p_move rfl)) ?_
    refine JL.g (Gd.f1 rfl rfl rfl) (fun hc => OpP.q (p_neq (gvt rfl hc) (gvt rfl hc))) ?_
    refine JL.q (OpP.q (p_pickOr rfl rfl rfl)) ?_
    refine JL.nil ?_
    refine Js.cond rfl (fun h14 => ?_) (fun h14 => ?_)
    ·
      exact absurd h14 (by simp)
    ·
      have h14' := h14
      try simp only [Bool.or_eq_false_iff, Bool.not_eq_false', decide_eq_true_eq] at h14'
      refine Js.skip ?_
      refine Js.seq ?_
      refine Js.seq ?_
      refine Js.drawn _ [] mixed_ (fun _ h => h) ?_
      refine JH.q 0 rfl (q_loadN ty_45 rfl (Mem.boxR (i := 0) rfl 0 16) rfl rfl) ?_
      refine JH.q 1 rfl (q_loadN ty_51 rfl (Mem.boxR (i := 3) rfl 0 16) rfl rfl) ?_
      refine JH.one (i := 2) (by kernel_rfl) ?_
      refine JHo.e rfl (e_callP fn_32 rfl (fun w hw => c_laws_toPuzzle aZ _ w ⟨_, rfl, ⟨rfl, rfl, rfl, rfl, rfl, rfl, rfl, rfl, rfl, (Ty.mono _ h1_9 (x6.vis.trans hw.vis)), (Ty.mono _ h1_10 (x6.vis.trans hw.vis)), rfl, rfl, rfl, rfl, rfl, trivial⟩⟩ (by omega) (by omega))) (.inl rfl) ?_
      rintro v15 _ u17 ⟨h16, rfl⟩ x17
      obtain ⟨A18_9, c18_9, A18_10, c18_10, rfl, h18_9, h18_10, bl18_9, bh18_9, bl18_10, bh18_10⟩ := open_Puzzle h16
      refine JH.one (i := 3) (by kernel_rfl) ?_
      refine JHo.e rfl (e_callV fn_27 rfl (fun w hw => c_laws_eqPuzzle aZ _ aZ _ w ⟨_, rfl, ⟨rfl, rfl, rfl, rfl, rfl, rfl, rfl, rfl, rfl, (ints_rowok (xs := aZ.position.pits) (hw.pr (i := 1) rfl)), (ints_rowok (xs := aZ.position.stores) (hw.pr (i := 2) rfl)), rfl, rfl, rfl, rfl, rfl, trivial⟩⟩ ⟨_, rfl, ⟨rfl, rfl, rfl, rfl, rfl, rfl, rfl, rfl, rfl, (Ty.mono _ h18_9 hw.vis), (Ty.mono _ h18_10 hw.vis), rfl, rfl, rfl, rfl, rfl, trivial⟩⟩ (by omega) (by omega) (by omega) (by omega))) (.inl rfl) ?_
      rintro _ _ _ ⟨rfl, rfl, rfl⟩ _
      refine JH.p 4 rfl (p_not rfl) ?_
      refine JH.done (by kernel_rfl) ?_
      refine Js.cond rfl (fun h19 => ?_) (fun h19 => ?_)
      ·
        exact absurd h19 (by simp)
      ·
        have h19' := h19
        try simp only [Bool.not_eq_false', decide_eq_true_eq] at h19'
        refine Js.skip ?_
        refine Js.seq ?_
        refine Js.region ?_
        refine JL.q (OpP.q (p_assign rfl)) ?_
        refine JL.nil ?_
        refine Js.ret (R := RV w (.bool true)) @Try.results7 (fun _ _ => rfl) (ResOk.tmp rfl ResOk.nil) (fun w1 hw => ?_)
        refine ⟨?_, hw.ext ((x6.trans x17))⟩
        first | rfl | (simp [outV]; done)

end Go.Proofs.Ytinkeciedmjjmaa

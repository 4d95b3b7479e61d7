/- Walks: G10. -/
import Derived.Test.YtinkeciedmjjmaaTy
import Derived.Test.YtinkeciedmjjmaaG9
set_option linter.unusedSimpArgs false
set_option linter.unusedVariables false
namespace Go.Proofs.Ytinkeciedmjjmaa
open Go.RowKit

set_option maxRecDepth 100000 in
set_option maxHeartbeats 1000000 in
theorem c_impl_puzzleOf (r : M.Rul) (v_r : Value) (p : M.Pos) (v_p : Value) (depth : Int) (w : World) (h_r : (Ty.agg (cRules r)).ok w v_r) (h_p : (Ty.agg (cPosition p)).ok w v_p) (r0 : p.pits.length ≤ 4194304) (r1 : p.stores.length ≤ 4194304) : Ret Try.prog 53 [v_r, v_p, .int .i64 depth] w (Ty.tup [Ty.agg (cPuzzle ((M.puz r p depth).1)), Ty.int ((M.puz r p depth).2)]) := by
  obtain rfl := open_Rules h_r
  obtain ⟨A2_0, c2_0, A2_1, c2_1, rfl, h2_0, h2_1, bl2_0, bh2_0, bl2_1, bh2_1⟩ := open_Position h_p
  refine enter @Try.func53 @Try.ntmps53 rfl rfl ?_
  refine Js.seq ?_
  refine Js.region ?_
  refine JL.e (e_box (c := [.int .i64 r.pits, .int .i64 r.seeds, .bool r.stores, .bool r.skip, .bool r.relay, .bool r.feed, .bool r.again, .int .i64 r.capture, .int .i64 r.slam]) rfl rfl) ?_
  rintro _ _ _ ⟨b3, rfl, rfl, rfl⟩ _
  refine JL.e (e_box (c := [.slice A2_0 p.pits.length c2_0, .slice A2_1 p.stores.length c2_1, .int .i64 p.player]) rfl rfl) ?_
  rintro _ _ _ ⟨b4, rfl, rfl, rfl⟩ _
  refine JL.e (e_alloc zero_45) ?_
  rintro _ _ _ ⟨b5, rfl, rfl, rfl⟩ _
  refine JL.q (OpP.q (p_assign rfl)) ?_
  refine JL.nil ?_
  refine Js.seq ?_
  refine Js.region ?_
  refine JL.q (q_loadN ty_31 rfl (Mem.boxR (i := 2) rfl 0 9) rfl rfl) ?_
  refine JL.q (q_loadN ty_33 rfl (Mem.boxR (i := 1) rfl 0 3) rfl rfl) ?_
  refine JL.q (OpP.q (p_move rfl)) ?_
  refine JL.e (e_callP fn_14 rfl (fun w hw => c_impl_SearchOptions r _ p _ depth w ⟨_, rfl, ⟨rfl, rfl, rfl, rfl, rfl, rfl, rfl, rfl, rfl, trivial⟩⟩ ⟨_, rfl, ⟨(Ty.mono _ h2_0 hw.vis), (Ty.mono _ h2_1 hw.vis), rfl, trivial⟩⟩ (by omega) (by omega))) ?_
  rintro v6 _ u8 ⟨h7, rfl⟩ x8
  obtain ⟨vs9, rfl, hv9⟩ := h7
  obtain ⟨v9_0, vs9, rfl, hw9_0, hv9⟩ := cellsOk_cons hv9
  obtain ⟨v9_1, vs9, rfl, hw9_1, hv9⟩ := cellsOk_cons hv9
  obtain rfl := cellsOk_nil hv9
  obtain ⟨A10, c10, rfl, bl10, bh10⟩ := sl_form hw9_0
  obtain rfl : v9_1 = .int .i64 (M.optsC r p depth) := hw9_1
  refine JL.q (OpP.q (p_move rfl)) ?_
  refine JL.q (OpP.q (p_extract rfl rfl)) ?_
  refine JL.q (OpP.q (p_extract rfl rfl)) ?_
  refine JL.q (OpP.q (p_assign rfl)) ?_
  refine JL.q (OpP.q (p_assign rfl)) ?_
  refine JL.nil ?_
  refine Js.seq ?_
  refine Js.seq ?_
  refine Js.region ?_
  refine JL.q (OpP.q (p_move rfl)) ?_
  refine JL.q (OpP.q (p_neq rfl rfl)) ?_
  refine JL.nil ?_
  refine Js.cond rfl (fun h11 => ?_) (fun h11 => ?_)
  ·
    have h11' := h11
    try simp only [Bool.not_eq_true', decide_eq_false_iff_not] at h11'
    have hE := M.puz_c (r := r) (p := p) (depth := depth) (by simpa using h11)
    refine Js.seq ?_
    refine Js.region ?_
    refine JL.q (OpP.q (p_build zero_45 flds_45 rfl rfl)) ?_
    refine JL.q (OpP.q (p_move rfl)) ?_
    refine JL.s (e_store (i := 0) (c' := [.int .i64 0, .int .i64 0, .bool false, .bool false, .bool false, .bool false, .bool false, .int .i64 0, .int .i64 0, .slice none 0 0, .slice none 0 0, .int .i64 0, .int .i64 0, .int .i64 0, .int .i64 0, .int .i64 0]) ty_45 rfl rfl rfl rfl rfl rfl rfl rfl) ?_
    rintro _ _ _ ⟨rfl, rfl⟩ _
    refine JL.q (OpP.q (p_assign rfl)) ?_
    refine JL.nil ?_
    refine Js.ret (R := RO w (Ty.tup [Ty.agg (cPuzzle ((M.puz r p depth).1)), Ty.int ((M.puz r p depth).2)])) @Try.results53 (fun _ _ => rfl) (ResOk.cell (res_box (i := 0) ty_45 rfl rfl rfl rfl rfl) (ResOk.tmp rfl ResOk.nil)) (fun w1 hw => ?_)
    have hx := hw.ext (x8)
    exact ret_own (ps := []) hw hx ⟨_, rfl, ⟨_, _, rfl, ⟨_, rfl, ⟨_, _, rfl, ⟨by first | (rw [hE]; done) | (rw [hE]; rfl), rfl⟩, ⟨_, _, rfl, ⟨by first | (rw [hE]; done) | (rw [hE]; rfl), rfl⟩, ⟨_, _, rfl, ⟨by first | (rw [hE]; done) | (rw [hE]; rfl), rfl⟩, ⟨_, _, rfl, ⟨by first | (rw [hE]; done) | (rw [hE]; rfl), rfl⟩, ⟨_, _, rfl, ⟨by first | (rw [hE]; done) | (rw [hE]; rfl), rfl⟩, ⟨_, _, rfl, ⟨by first | (rw [hE]; done) | (rw [hE]; rfl), rfl⟩, ⟨_, _, rfl, ⟨by first | (rw [hE]; done) | (rw [hE]; rfl), rfl⟩, ⟨_, _, rfl, ⟨by first | (rw [hE]; done) | (rw [hE]; rfl), rfl⟩, ⟨_, _, rfl, ⟨by first | (rw [hE]; done) | (rw [hE]; rfl), rfl⟩, ⟨_, _, rfl, (ints_cast (show [] = (((M.puz r p depth).1).position).pits by first | (rw [hE]; done) | (rw [hE]; rfl)) nil_own), ⟨_, _, rfl, (ints_cast (show [] = (((M.puz r p depth).1).position).stores by first | (rw [hE]; done) | (rw [hE]; rfl)) nil_own), ⟨_, _, rfl, ⟨by first | (rw [hE]; done) | (rw [hE]; rfl), rfl⟩, ⟨_, _, rfl, ⟨by first | (rw [hE]; done) | (rw [hE]; rfl), rfl⟩, ⟨_, _, rfl, ⟨by first | (rw [hE]; done) | (rw [hE]; rfl), rfl⟩, ⟨_, _, rfl, ⟨by first | (rw [hE]; done) | (rw [hE]; rfl), rfl⟩, ⟨_, _, rfl, ⟨by first | (rw [hE]; done) | (rw [hE]; rfl), rfl⟩, rfl⟩⟩⟩⟩⟩⟩⟩⟩⟩⟩⟩⟩⟩⟩⟩⟩⟩, ⟨_, _, rfl, ⟨by first | (rw [hE]; done) | (rw [hE]; rfl), rfl⟩, rfl⟩⟩⟩ Pick.nil (by simp [List.flatten, outV])
  ·
    have h11' := h11
    try simp only [Bool.not_eq_false', decide_eq_true_eq] at h11'
    have hz : M.optsC r p depth = 0 := by simpa using h11
    have ho := M.optsC_ok hz
    have hR := M.optsR_yes hz
    have hrl := M.optsR_len r p depth
    have hol := M.opts_len r p depth
    have g8 := M.results_8 ho.1
    have hOb : ∀ x ∈ (M.optsR r p depth), -2000 ≤ x.value ∧ x.value ≤ 2000 := by rw [hR]; exact fun x hx => M.opts_bd ho.1 (by omega) ho.2.2.1 hx
    refine Js.skip ?_
    refine Js.seq ?_
    refine Js.seq ?_
    refine Js.region ?_
    refine JL.q (OpP.q (p_move rfl)) ?_
    refine JL.q (OpP.q (p_len el_28 rfl)) ?_
    refine JL.q (OpP.q (p_lss rfl rfl)) ?_
    refine JL.nil ?_
    refine Js.cond rfl (fun h12 => ?_) (fun h12 => ?_)
    ·
      have h12' := h12
      try simp only [decide_eq_true_eq] at h12'
      have hE := M.puz_2 hz (by rw [← hR]; have := h12'; omega)
      refine Js.seq ?_
      refine Js.region ?_
      refine JL.q (OpP.q (p_build zero_45 flds_45 rfl rfl)) ?_
      refine JL.s (e_store (i := 0) (c' := [.int .i64 0, .int .i64 0, .bool false, .bool false, .bool false, .bool false, .bool false, .int .i64 0, .int .i64 0, .slice none 0 0, .slice none 0 0, .int .i64 0, .int .i64 0, .int .i64 0, .int .i64 0, .int .i64 0]) ty_45 rfl rfl rfl rfl rfl rfl rfl rfl) ?_
      rintro _ _ _ ⟨rfl, rfl⟩ _
      refine JL.q (OpP.q (p_assign rfl)) ?_
      refine JL.nil ?_
      refine Js.ret (R := RO w (Ty.tup [Ty.agg (cPuzzle ((M.puz r p depth).1)), Ty.int ((M.puz r p depth).2)])) @Try.results53 (fun _ _ => rfl) (ResOk.cell (res_box (i := 0) ty_45 rfl rfl rfl rfl rfl) (ResOk.tmp rfl ResOk.nil)) (fun w1 hw => ?_)
      have hx := hw.ext (x8)
      exact ret_own (ps := []) hw hx ⟨_, rfl, ⟨_, _, rfl, ⟨_, rfl, ⟨_, _, rfl, ⟨by first | (rw [hE]; done) | (rw [hE]; rfl), rfl⟩, ⟨_, _, rfl, ⟨by first | (rw [hE]; done) | (rw [hE]; rfl), rfl⟩, ⟨_, _, rfl, ⟨by first | (rw [hE]; done) | (rw [hE]; rfl), rfl⟩, ⟨_, _, rfl, ⟨by first | (rw [hE]; done) | (rw [hE]; rfl), rfl⟩, ⟨_, _, rfl, ⟨by first | (rw [hE]; done) | (rw [hE]; rfl), rfl⟩, ⟨_, _, rfl, ⟨by first | (rw [hE]; done) | (rw [hE]; rfl), rfl⟩, ⟨_, _, rfl, ⟨by first | (rw [hE]; done) | (rw [hE]; rfl), rfl⟩, ⟨_, _, rfl, ⟨by first | (rw [hE]; done) | (rw [hE]; rfl), rfl⟩, ⟨_, _, rfl, ⟨by first | (rw [hE]; done) | (rw [hE]; rfl), rfl⟩, ⟨_, _, rfl, (ints_cast (show [] = (((M.puz r p depth).1).position).pits by first | (rw [hE]; done) | (rw [hE]; rfl)) nil_own), ⟨_, _, rfl, (ints_cast (show [] = (((M.puz r p depth).1).position).stores by first | (rw [hE]; done) | (rw [hE]; rfl)) nil_own), ⟨_, _, rfl, ⟨by first | (rw [hE]; done) | (rw [hE]; rfl), rfl⟩, ⟨_, _, rfl, ⟨by first | (rw [hE]; done) | (rw [hE]; rfl), rfl⟩, ⟨_, _, rfl, ⟨by first | (rw [hE]; done) | (rw [hE]; rfl), rfl⟩, ⟨_, _, rfl, ⟨by first | (rw [hE]; done) | (rw [hE]; rfl), rfl⟩, ⟨_, _, rfl, ⟨by first | (rw [hE]; done) | (rw [hE]; rfl), rfl⟩, rfl⟩⟩⟩⟩⟩⟩⟩⟩⟩⟩⟩⟩⟩⟩⟩⟩⟩, ⟨_, _, rfl, ⟨by first | (rw [hE]; done) | (rw [hE]; rfl), rfl⟩, rfl⟩⟩⟩ Pick.nil (by simp [List.flatten, outV])
    ·
      have h12' := h12
      try simp only [decide_eq_false_iff_not, Int.not_lt] at h12'
      have h2 : ¬ (M.optsR r p depth).length < 2 := by have := h12'; omega
      have hbb := hOb _ (M.bOpt_mem (l := (M.optsR r p depth)) (by omega))
      refine Js.skip ?_
      refine Js.seq ?_
      refine Js.region ?_
      refine JL.q (OpP.q (p_move rfl)) ?_
      refine JL.e (e_callP fn_50 rfl (fun w hw => c_impl_bestOption (M.optsR r p depth) _ w (Ty.mono _ hw9_0 hw.vis) (by omega) (by omega))) ?_
      rintro v13 _ u15 ⟨h14, rfl⟩ x15
      obtain rfl := open_Option h14
      refine JL.e (e_alloc zero_69) ?_
      rintro _ _ _ ⟨b17, rfl, rfl, rfl⟩ _
      refine JL.s (e_store (i := 0) (c' := [.int .i64 ((M.bOpt (M.optsR r p depth)).move), .int .i64 ((M.bOpt (M.optsR r p depth)).value)]) ty_69 rfl rfl rfl rfl rfl rfl rfl rfl) ?_
      rintro _ _ _ ⟨rfl, rfl⟩ _
      refine JL.q (OpP.q (p_assign rfl)) ?_
      refine JL.nil ?_
      refine Js.seq ?_
      refine Js.seq ?_
      refine Js.region ?_
      refine JL.q (OpP.q (p_move rfl)) ?_
      refine JL.q (OpP.q (p_len el_28 rfl)) ?_
      refine JL.q (OpP.q (p_move rfl)) ?_
      refine JL.nil ?_
      refine Js.block ?_
      refine Js.loop (fun l os u m => ∃ (k : Nat) (s : Int), l = [(2, .int .i64 depth), (3, .pointer (some ⟨b3, 0, none⟩)), (4, .pointer (some ⟨b4, 0, none⟩)), (6, .pointer (some ⟨b5, 0, none⟩)), (10, .pointer (some ⟨b17, 0, none⟩)), (11, .int .i64 s), (31, .slice A10 ((M.optsR r p depth).length) c10), (32, .int .i64 (((M.optsR r p depth).length) : Int)), (33, .int .i64 (k : Int))] ∧ os = [boxO b17 [.int .i64 ((M.bOpt (M.optsR r p depth)).move), .int .i64 ((M.bOpt (M.optsR r p depth)).value)] 69, boxO b5 [.int .i64 0, .int .i64 0, .bool false, .bool false, .bool false, .bool false, .bool false, .int .i64 0, .int .i64 0, .slice none 0 0, .slice none 0 0, .int .i64 0, .int .i64 0, .int .i64 0, .int .i64 0, .int .i64 0] 45, boxO b4 [.slice A2_0 p.pits.length c2_0, .slice A2_1 p.stores.length c2_1, .int .i64 p.player] 33, boxO b3 [.int .i64 r.pits, .int .i64 r.seeds, .bool r.stores, .bool r.skip, .bool r.relay, .bool r.feed, .bool r.again, .int .i64 r.capture, .int .i64 r.slam] 31] ∧ Up w.heap.size u15 u ∧ (M.second (M.bOpt (M.optsR r p depth)).move s ((M.optsR r p depth).drop k) = M.second (M.bOpt (M.optsR r p depth)).move (-1000) (M.optsR r p depth)) ∧ (-2000 ≤ s) ∧ (s ≤ 2000) ∧ (k ≤ (M.optsR r p depth).length) ∧ m = (M.optsR r p depth).length - k) ⟨0, (-1000), rfl, rfl, Up.refl _ _, by rfl, by first | assumption | omega | rfl | (simp; done), by first | assumption | omega | rfl | (simp; done), by first | assumption | omega | rfl | (simp; done), rfl⟩ ⟨rfl, rfl, rfl, rfl, rfl, rfl, rfl, rfl, rfl, trivial⟩ ?_
      · rintro _ _ u18 _ ⟨k, s, rfl, rfl, x18, hS, s0, s1, hk, rfl⟩
        refine Js.seq ?_
        refine Js.region ?_
        refine JL.q (OpP.q (p_lss rfl rfl)) ?_
        refine JL.nil ?_
        refine Js.seq ?_
        refine Js.cond rfl (fun h19 => ?_) (fun h19 => ?_)
        ·
          have h19' := h19
          try simp only [decide_eq_true_eq] at h19'
          refine Js.skip ?_
          refine Js.seq ?_
          refine Js.block ?_
          refine Js.seq ?_
          refine Js.region ?_
          obtain ⟨y20, hy20⟩ : ∃ x, (M.optsR r p depth)[k]? = some x := ⟨_, List.getElem?_eq_getElem (by omega)⟩
          obtain ⟨b20, o20, he20, hr20⟩ := elem_Option (Ty.mono _ hw9_0 (x15.vis.trans x18.vis)) hy20
          refine JL.q (OpP.q (p_indexAddr el_28 rfl rfl (by omega) (by omega) he20)) ?_
          refine JL.q (q_loadN ty_69 rfl (Mem.pubR (hr20.sub 0 2)) rfl rfl) ?_
          refine JL.e (e_alloc zero_69) ?_
          rintro _ _ _ ⟨b21, rfl, rfl, rfl⟩ _
          refine JL.s (e_store (i := 0) (c' := [.int .i64 y20.move, .int .i64 y20.value]) ty_69 rfl rfl rfl rfl rfl rfl rfl rfl) ?_
          rintro _ _ _ ⟨rfl, rfl⟩ _
          refine JL.nil ?_
          refine Js.seq ?_
          refine Js.region ?_
          refine JL.q (OpP.q (p_fieldAddr fld_69_0 rfl)) ?_
          refine JL.q (q_load1 ty_2 rfl (Mem.box (i := 0) rfl rfl)) ?_
          refine JL.q (OpP.q (p_fieldAddr fld_69_0 rfl)) ?_
          refine JL.q (q_load1 ty_2 rfl (Mem.box (i := 1) rfl rfl)) ?_
          refine JL.q (OpP.q (p_neq rfl rfl)) ?_
          refine JL.nil ?_
          refine Js.cond rfl (fun h22 => ?_) (fun h22 => ?_)
          ·
            have h22' := h22
            try simp only [Bool.not_eq_true', decide_eq_false_iff_not] at h22'
            have hob := hOb _ (List.mem_of_getElem? hy20)
            have hS2 := M.second_s hS hy20
            rw [if_neg (by simpa using h22)] at hS2
            refine Js.region ?_
            refine JL.q (OpP.q (p_move rfl)) ?_
            refine JL.q (OpP.q (p_fieldAddr fld_69_1 rfl)) ?_
            refine JL.q (q_load1 ty_2 rfl (Mem.box (i := 0) rfl rfl)) ?_
            refine JL.q (OpP.q (p_max rfl rfl)) ?_
            refine JL.q (OpP.q (p_assign rfl)) ?_
            refine JL.nil ?_
            refine Js.blockEnd ?_
            refine Js.region ?_
            refine JL.q (OpP.q (p_add rfl rfl (IntWalk.i64_in _ (by omega)))) ?_
            refine JL.q (OpP.q (p_move rfl)) ?_
            refine JL.nil ?_
            refine Js.drop (i := 0) rfl rfl (fun u23 x23 => ?_)
            exact Js.again ⟨k + 1, if s < y20.value then y20.value else s, rfl, rfl, (x18.trans x23), by exact hS2, by first | omega | (split <;> omega), by first | omega | (split <;> omega), by first | assumption | omega | rfl | (simp; done), rfl⟩ (by omega) ⟨rfl, rfl, rfl, rfl, rfl, rfl, rfl, rfl, rfl, trivial⟩
          ·
            have h22' := h22
            try simp only [Bool.not_eq_false', decide_eq_true_eq] at h22'
            have hS2 := M.second_s hS hy20
            rw [if_pos (by simpa using h22)] at hS2
            refine Js.skip ?_
            refine Js.blockEnd ?_
            refine Js.region ?_
            refine JL.q (OpP.q (p_add rfl rfl (IntWalk.i64_in _ (by omega)))) ?_
            refine JL.q (OpP.q (p_move rfl)) ?_
            refine JL.nil ?_
            refine Js.drop (i := 0) rfl rfl (fun u24 x24 => ?_)
            exact Js.again ⟨k + 1, s, rfl, rfl, (x18.trans x24), by exact hS2, by first | omega | (split <;> omega), by first | omega | (split <;> omega), by first | assumption | omega | rfl | (simp; done), rfl⟩ (by omega) ⟨rfl, rfl, rfl, rfl, rfl, rfl, rfl, rfl, rfl, trivial⟩
        ·
          have h19' := h19
          try simp only [decide_eq_false_iff_not, Int.not_lt] at h19'
          have hS3 := M.second_e hS (by have := h19'; omega)
          refine Js.exit (fun _ _ => rfl) ?_
          refine Js.seq ?_
          refine Js.seq ?_
          refine Js.region ?_
          refine JL.q (OpP.q (p_move rfl)) ?_
          refine JL.q (OpP.q (p_fieldAddr fld_69_1 rfl)) ?_
          refine JL.q (q_load1 ty_2 rfl (Mem.box (i := 0) rfl rfl)) ?_
          refine JL.q (OpP.q (p_eql rfl rfl)) ?_
          refine JL.nil ?_
          refine Js.cond rfl (fun h25 => ?_) (fun h25 => ?_)
          ·
            have h25' := h25
            try simp only [decide_eq_true_eq] at h25'
            have hE := M.puz_6 hz (by rw [← hR]; exact h2) (by rw [← hR, ← hS3]; simpa using h25)
            refine Js.seq ?_
            refine Js.region ?_
            refine JL.q (OpP.q (p_build zero_45 flds_45 rfl rfl)) ?_
            refine JL.s (e_store (i := 1) (c' := [.int .i64 0, .int .i64 0, .bool false, .bool false, .bool false, .bool false, .bool false, .int .i64 0, .int .i64 0, .slice none 0 0, .slice none 0 0, .int .i64 0, .int .i64 0, .int .i64 0, .int .i64 0, .int .i64 0]) ty_45 rfl rfl rfl rfl rfl rfl rfl rfl) ?_
            rintro _ _ _ ⟨rfl, rfl⟩ _
            refine JL.q (OpP.q (p_assign rfl)) ?_
            refine JL.nil ?_
            refine Js.ret (R := RO w (Ty.tup [Ty.agg (cPuzzle ((M.puz r p depth).1)), Ty.int ((M.puz r p depth).2)])) @Try.results53 (fun _ _ => rfl) (ResOk.cell (res_box (i := 1) ty_45 rfl rfl rfl rfl rfl) (ResOk.tmp rfl ResOk.nil)) (fun w1 hw => ?_)
            have hx := hw.ext (((x8.trans x15).trans x18))
            exact ret_own (ps := []) hw hx ⟨_, rfl, ⟨_, _, rfl, ⟨_, rfl, ⟨_, _, rfl, ⟨by first | (rw [hE]; done) | (rw [hE]; rfl), rfl⟩, ⟨_, _, rfl, ⟨by first | (rw [hE]; done) | (rw [hE]; rfl), rfl⟩, ⟨_, _, rfl, ⟨by first | (rw [hE]; done) | (rw [hE]; rfl), rfl⟩, ⟨_, _, rfl, ⟨by first | (rw [hE]; done) | (rw [hE]; rfl), rfl⟩, ⟨_, _, rfl, ⟨by first | (rw [hE]; done) | (rw [hE]; rfl), rfl⟩, ⟨_, _, rfl, ⟨by first | (rw [hE]; done) | (rw [hE]; rfl), rfl⟩, ⟨_, _, rfl, ⟨by first | (rw [hE]; done) | (rw [hE]; rfl), rfl⟩, ⟨_, _, rfl, ⟨by first | (rw [hE]; done) | (rw [hE]; rfl), rfl⟩, ⟨_, _, rfl, ⟨by first | (rw [hE]; done) | (rw [hE]; rfl), rfl⟩, ⟨_, _, rfl, (ints_cast (show [] = (((M.puz r p depth).1).position).pits by first | (rw [hE]; done) | (rw [hE]; rfl)) nil_own), ⟨_, _, rfl, (ints_cast (show [] = (((M.puz r p depth).1).position).stores by first | (rw [hE]; done) | (rw [hE]; rfl)) nil_own), ⟨_, _, rfl, ⟨by first | (rw [hE]; done) | (rw [hE]; rfl), rfl⟩, ⟨_, _, rfl, ⟨by first | (rw [hE]; done) | (rw [hE]; rfl), rfl⟩, ⟨_, _, rfl, ⟨by first | (rw [hE]; done) | (rw [hE]; rfl), rfl⟩, ⟨_, _, rfl, ⟨by first | (rw [hE]; done) | (rw [hE]; rfl), rfl⟩, ⟨_, _, rfl, ⟨by first | (rw [hE]; done) | (rw [hE]; rfl), rfl⟩, rfl⟩⟩⟩⟩⟩⟩⟩⟩⟩⟩⟩⟩⟩⟩⟩⟩⟩, ⟨_, _, rfl, ⟨by first | (rw [hE]; done) | (rw [hE]; rfl), rfl⟩, rfl⟩⟩⟩ Pick.nil (by simp [List.flatten, outV])
          ·
            have h25' := h25
            try simp only [decide_eq_false_iff_not] at h25'
            have hE := M.puz_0 hz (by rw [← hR]; exact h2) (by rw [← hR, ← hS3]; simpa using h25)
            rw [← hR, ← hS3] at hE
            refine Js.skip ?_
            refine Js.seq ?_
            refine Js.drawn _ [13] mixed_ (fun _ h => h) ?_
            refine JH.q 0 rfl (q_loadN ty_31 rfl (Mem.boxR (i := 3) rfl 0 9) rfl rfl) ?_
            refine JH.q 1 rfl (q_loadN ty_33 rfl (Mem.boxR (i := 2) rfl 0 3) rfl rfl) ?_
            refine JH.p 3 rfl (p_move rfl) ?_
            refine JH.p 4 rfl (p_fieldAddr fld_69_0 rfl) ?_
            refine JH.q 5 rfl (q_load1 ty_2 rfl (Mem.box (i := 0) rfl rfl)) ?_
            refine JH.p 6 rfl (p_fieldAddr fld_69_1 rfl) ?_
            refine JH.q 7 rfl (q_load1 ty_2 rfl (Mem.box (i := 0) rfl rfl)) ?_
            refine JH.p 8 rfl (p_fieldAddr fld_69_1 rfl) ?_
            refine JH.q 9 rfl (q_load1 ty_2 rfl (Mem.box (i := 0) rfl rfl)) ?_
            refine JH.p 10 rfl (p_move rfl) ?_
            refine JH.p 11 rfl (p_sub rfl rfl (IntWalk.i64_in _ (by omega))) ?_
            refine JH.one (i := 2) (by kernel_rfl) ?_
            refine JHo.e rfl (e_callO fn_79 rfl (Spl.agg (Spls.cons (Spl.ints _ _) (Spls.cons (Spl.ints _ _) (Spls.cons (Spl.val _) Spls.nil)))) (fun w hw => c_impl_Position_copied p _ w ⟨_, rfl, ⟨(Ty.mono _ h2_0 (((x8.vis.trans x15.vis).trans x18.vis).trans hw.vis)), (Ty.mono _ h2_1 (((x8.vis.trans x15.vis).trans x18.vis).trans hw.vis)), rfl, trivial⟩⟩ (by omega) (by omega))) (.inl rfl) ?_
            rintro v26 _ _ ⟨_, hR27, rfl, rfl⟩ _
            obtain ⟨vs28, rfl, hr28⟩ := hR27
            obtain ⟨v28_0, vs28_0, o28_0, ow28_0, rfl, hR28_0, hs28_0, rfl⟩ := RL_cons hr28
            obtain ⟨v28_1, vs28_1, o28_1, ow28_1, rfl, hR28_1, hs28_1, rfl⟩ := RL_cons hs28_0
            obtain ⟨v28_2, vs28_2, o28_2, ow28_2, rfl, hR28_2, hs28_2, rfl⟩ := RL_cons hs28_1
            obtain ⟨rfl, rfl⟩ := RL_nil hs28_2
            obtain ⟨A29, c29, rfl, rfl, bl29, bh29⟩ := hR28_0
            obtain ⟨A30, c30, rfl, rfl, bl30, bh30⟩ := hR28_1
            obtain ⟨rfl, rfl⟩ : v28_2 = .int .i64 p.player ∧ _ := hR28_2
            refine JH.p 12 rfl (p_build zero_45 flds_45 rfl rfl) ?_
            refine JH.one (i := 13) (by kernel_rfl) ?_
            refine JHo.s rfl (e_store (i := 3) (c' := [.int .i64 r.pits, .int .i64 r.seeds, .bool r.stores, .bool r.skip, .bool r.relay, .bool r.feed, .bool r.again, .int .i64 r.capture, .int .i64 r.slam, .slice A29 p.pits.length c29, .slice A30 p.stores.length c30, .int .i64 p.player, .int .i64 depth, .int .i64 ((M.bOpt (M.optsR r p depth)).move), .int .i64 ((M.bOpt (M.optsR r p depth)).value), .int .i64 (((M.bOpt (M.optsR r p depth)).value) - s)]) ty_45 rfl rfl rfl rfl rfl rfl rfl rfl) (.inr rfl) ?_
            rintro _ _ _ ⟨rfl, rfl⟩ _
            refine JH.p 14 rfl (p_assign rfl) ?_
            refine JH.done (by kernel_rfl) ?_
            refine Js.ret (R := RO w (Ty.tup [Ty.agg (cPuzzle ((M.puz r p depth).1)), Ty.int ((M.puz r p depth).2)])) @Try.results53 (fun _ _ => rfl) (ResOk.cell (res_box (i := 3) ty_45 rfl rfl rfl rfl rfl) (ResOk.tmp rfl ResOk.nil)) (fun w1 hw => ?_)
            have hx := hw.ext (((x8.trans x15).trans x18))
            exact ret_own (ps := [(0, (Value.ownBlock (.slice A29 p.pits.length c29)).toList), (1, (Value.ownBlock (.slice A30 p.stores.length c30)).toList)]) hw hx ⟨_, rfl, ⟨_, _, rfl, ⟨_, rfl, ⟨_, _, rfl, ⟨by first | (rw [hE]; done) | (rw [hE]; rfl), rfl⟩, ⟨_, _, rfl, ⟨by first | (rw [hE]; done) | (rw [hE]; rfl), rfl⟩, ⟨_, _, rfl, ⟨by first | (rw [hE]; done) | (rw [hE]; rfl), rfl⟩, ⟨_, _, rfl, ⟨by first | (rw [hE]; done) | (rw [hE]; rfl), rfl⟩, ⟨_, _, rfl, ⟨by first | (rw [hE]; done) | (rw [hE]; rfl), rfl⟩, ⟨_, _, rfl, ⟨by first | (rw [hE]; done) | (rw [hE]; rfl), rfl⟩, ⟨_, _, rfl, ⟨by first | (rw [hE]; done) | (rw [hE]; rfl), rfl⟩, ⟨_, _, rfl, ⟨by first | (rw [hE]; done) | (rw [hE]; rfl), rfl⟩, ⟨_, _, rfl, ⟨by first | (rw [hE]; done) | (rw [hE]; rfl), rfl⟩, ⟨_, _, rfl, (ints_row (xs := p.pits) (hw.pr (i := 0) rfl) (show p.pits = (((M.puz r p depth).1).position).pits by first | (rw [hE]; done) | (rw [hE]; rfl))), ⟨_, _, rfl, (ints_row (xs := p.stores) (hw.pr (i := 1) rfl) (show p.stores = (((M.puz r p depth).1).position).stores by first | (rw [hE]; done) | (rw [hE]; rfl))), ⟨_, _, rfl, ⟨by first | (rw [hE]; done) | (rw [hE]; rfl), rfl⟩, ⟨_, _, rfl, ⟨by first | (rw [hE]; done) | (rw [hE]; rfl), rfl⟩, ⟨_, _, rfl, ⟨by first | (rw [hE]; done) | (rw [hE]; rfl), rfl⟩, ⟨_, _, rfl, ⟨by first | (rw [hE]; done) | (rw [hE]; rfl), rfl⟩, ⟨_, _, rfl, ⟨by first | (rw [hE]; done) | (rw [hE]; rfl), rfl⟩, rfl⟩⟩⟩⟩⟩⟩⟩⟩⟩⟩⟩⟩⟩⟩⟩⟩⟩, ⟨_, _, rfl, ⟨by first | (rw [hE]; done) | (rw [hE]; rfl), rfl⟩, rfl⟩⟩⟩ (Pick.cons (j := 0) rfl (List.sublist_append_left _ _) rfl (Pick.cons (j := 1) rfl (List.sublist_append_left _ _) rfl Pick.nil)) (by simp [List.flatten, outV])

set_option maxRecDepth 100000 in
set_option maxHeartbeats 400000 in
theorem c_impl_PuzzleOf (r : M.Rul) (v_r : Value) (p : M.Pos) (v_p : Value) (depth : Int) (w : World) (h_r : (Ty.agg (cRules r)).ok w v_r) (h_p : (Ty.agg (cPosition p)).ok w v_p) (r0 : p.pits.length ≤ 4194304) (r1 : p.stores.length ≤ 4194304) : Ret Try.prog 26 [v_r, v_p, .int .i64 depth] w (Ty.tup [Ty.agg (cPuzzle ((M.puz r p depth).1)), Ty.int ((M.puz r p depth).2)]) := by
  obtain rfl := open_Rules h_r
  obtain ⟨A2_0, c2_0, A2_1, c2_1, rfl, h2_0, h2_1, bl2_0, bh2_0, bl2_1, bh2_1⟩ := open_Position h_p
  refine enter @Try.func26 @Try.ntmps26 rfl rfl ?_
  refine Js.seq ?_
  refine Js.region ?_
  refine JL.e (e_box (c := [.int .i64 r.pits, .int .i64 r.seeds, .bool r.stores, .bool r.skip, .bool r.relay, .bool r.feed, .bool r.again, .int .i64 r.capture, .int .i64 r.slam]) rfl rfl) ?_
  rintro _ _ _ ⟨b3, rfl, rfl, rfl⟩ _
  refine JL.e (e_box (c := [.slice A2_0 p.pits.length c2_0, .slice A2_1 p.stores.length c2_1, .int .i64 p.player]) rfl rfl) ?_
  rintro _ _ _ ⟨b4, rfl, rfl, rfl⟩ _
  refine JL.e (e_alloc zero_45) ?_
  rintro _ _ _ ⟨b5, rfl, rfl, rfl⟩ _
  refine JL.q (OpP.q (p_assign rfl)) ?_
  refine JL.nil ?_
  refine Js.seq ?_
  refine Js.region ?_
  refine JL.q (q_loadN ty_31 rfl (Mem.boxR (i := 2) rfl 0 9) rfl rfl) ?_
  refine JL.q (q_loadN ty_33 rfl (Mem.boxR (i := 1) rfl 0 3) rfl rfl) ?_
  refine JL.q (OpP.q (p_move rfl)) ?_
  refine JL.e (e_callO fn_53 rfl (Spl.tup (Spls.cons (Spl_Puzzle _) (Spls.cons (Spl.val _) Spls.nil))) (fun w hw => c_impl_puzzleOf r _ p _ depth w ⟨_, rfl, ⟨rfl, rfl, rfl, rfl, rfl, rfl, rfl, rfl, rfl, trivial⟩⟩ ⟨_, rfl, ⟨(Ty.mono _ h2_0 hw.vis), (Ty.mono _ h2_1 hw.vis), rfl, trivial⟩⟩ (by omega) (by omega))) ?_
  rintro v6 _ _ ⟨_, hR7, rfl, rfl⟩ _
  obtain ⟨vs8, rfl, hr8⟩ := hR7
  obtain ⟨v8_0, vs8_0, o8_0, ow8_0, rfl, hR8_0, hs8_0, rfl⟩ := RL_cons hr8
  obtain ⟨v8_1, vs8_1, o8_1, ow8_1, rfl, hR8_1, hs8_1, rfl⟩ := RL_cons hs8_0
  obtain ⟨rfl, rfl⟩ := RL_nil hs8_1
  obtain ⟨A9_9, c9_9, A9_10, c9_10, f9, rfl, rfl, bl9_9, bh9_9, bl9_10, bh9_10⟩ := hR8_0
  obtain ⟨rfl, rfl⟩ : v8_1 = .int .i64 ((M.puz r p depth).2) ∧ _ := hR8_1
  refine JL.q (OpP.q (p_extract rfl rfl)) ?_
  refine JL.q (OpP.q (p_extract rfl rfl)) ?_
  refine JL.s (e_store (i := 1) (c' := [.int .i64 ((((M.puz r p depth).1).rules).pits), .int .i64 ((((M.puz r p depth).1).rules).seeds), .bool ((((M.puz r p depth).1).rules).stores), .bool ((((M.puz r p depth).1).rules).skip), .bool ((((M.puz r p depth).1).rules).relay), .bool ((((M.puz r p depth).1).rules).feed), .bool ((((M.puz r p depth).1).rules).again), .int .i64 ((((M.puz r p depth).1).rules).capture), .int .i64 ((((M.puz r p depth).1).rules).slam), .slice A9_9 (((((M.puz r p depth).1).position).pits).length) c9_9, .slice A9_10 (((((M.puz r p depth).1).position).stores).length) c9_10, .int .i64 ((((M.puz r p depth).1).position).player), .int .i64 (((M.puz r p depth).1).depth), .int .i64 (((M.puz r p depth).1).move), .int .i64 (((M.puz r p depth).1).value), .int .i64 (((M.puz r p depth).1).margin)]) ty_45 rfl rfl rfl rfl rfl rfl rfl rfl) ?_
  rintro _ _ _ ⟨rfl, rfl⟩ _
  refine JL.q (OpP.q (p_assign rfl)) ?_
  refine JL.nil ?_
  refine Js.ret (R := RO w (Ty.tup [Ty.agg (cPuzzle ((M.puz r p depth).1)), Ty.int ((M.puz r p depth).2)])) @Try.results26 (fun _ _ => rfl) (ResOk.cell (res_box (i := 1) ty_45 rfl rfl rfl rfl rfl) (ResOk.tmp rfl ResOk.nil)) (fun w1 hw => ?_)
  have hx := hw.ext (Up.refl _ _)
  exact ret_own (ps := [(0, f9)]) hw hx ⟨_, rfl, ⟨_, _, rfl, ⟨_, rfl, hw.pr (i := 0) rfl⟩, ⟨_, _, rfl, ⟨rfl, rfl⟩, rfl⟩⟩⟩ (Pick.cons (j := 0) rfl (List.Sublist.refl _) rfl Pick.nil) (by simp [List.flatten, outV])

set_option maxRecDepth 100000 in
set_option maxHeartbeats 400000 in
theorem c_impl_SamePuzzle (a : M.Puz) (v_a : Value) (b : M.Puz) (v_b : Value) (w : World) (h_a : (Ty.agg (cPuzzle a)).ok w v_a) (h_b : (Ty.agg (cPuzzle b)).ok w v_b) (r0 : a.position.pits.length ≤ 4194304) (r1 : a.position.stores.length ≤ 4194304) (r2 : b.position.pits.length ≤ 4194304) (r3 : b.position.stores.length ≤ 4194304) : RetV Try.prog 57 [v_a, v_b] w (.bool (M.samez a b)) := by
  obtain ⟨A1_9, c1_9, A1_10, c1_10, rfl, h1_9, h1_10, bl1_9, bh1_9, bl1_10, bh1_10⟩ := open_Puzzle h_a
  obtain ⟨A2_9, c2_9, A2_10, c2_10, rfl, h2_9, h2_10, bl2_9, bh2_9, bl2_10, bh2_10⟩ := open_Puzzle h_b
  refine enter @Try.func57 @Try.ntmps57 rfl rfl ?_
  refine Js.seq ?_
  refine Js.region ?_
  refine JL.e (e_box (c := [.int .i64 a.rules.pits, .int .i64 a.rules.seeds, .bool a.rules.stores, .bool a.rules.skip, .bool a.rules.relay, .bool a.rules.feed, .bool a.rules.again, .int .i64 a.rules.capture, .int .i64 a.rules.slam, .slice A1_9 a.position.pits.length c1_9, .slice A1_10 a.position.stores.length c1_10, .int .i64 a.position.player, .int .i64 a.depth, .int .i64 a.move, .int .i64 a.value, .int .i64 a.margin]) rfl rfl) ?_
  rintro _ _ _ ⟨b3, rfl, rfl, rfl⟩ _
  refine JL.e (e_box (c := [.int .i64 b.rules.pits, .int .i64 b.rules.seeds, .bool b.rules.stores, .bool b.rules.skip, .bool b.rules.relay, .bool b.rules.feed, .bool b.rules.again, .int .i64 b.rules.capture, .int .i64 b.rules.slam, .slice A2_9 b.position.pits.length c2_9, .slice A2_10 b.position.stores.length c2_10, .int .i64 b.position.player, .int .i64 b.depth, .int .i64 b.move, .int .i64 b.value, .int .i64 b.margin]) rfl rfl) ?_
  rintro _ _ _ ⟨b4, rfl, rfl, rfl⟩ _
  refine JL.q (OpP.q (p_assign rfl)) ?_
  refine JL.nil ?_
  refine Js.seq ?_
  refine Js.region ?_
  refine JL.q (OpP.q (p_fieldAddr fld_45_0 rfl)) ?_
  refine JL.q (q_loadN ty_31 rfl (Mem.boxR (i := 1) rfl 0 9) rfl rfl) ?_
  refine JL.q (OpP.q (p_fieldAddr fld_45_0 rfl)) ?_
  refine JL.q (q_loadN ty_31 rfl (Mem.boxR (i := 0) rfl 0 9) rfl rfl) ?_
  refine JL.q (OpP.q (p_eqlS (by kernel_rfl) (fun w => eqs_Rules a.rules b.rules w) rfl rfl)) ?_
  refine JL.q (OpP.q (p_move rfl)) ?_
  refine JL.g (Gd.t1 rfl rfl rfl) (fun hc => OpP.q (p_fieldAddr fld_45_1 rfl)) ?_
  refine JL.g (Gd.t1 rfl rfl rfl) (fun hc => q_loadN ty_33 (gvt rfl hc) (Mem.boxR (i := 1) rfl 9 3) rfl rfl) ?_
  refine JL.g (Gd.t1 rfl rfl rfl) (fun hc => OpP.q (p_fieldAddr fld_45_1 rfl)) ?_
  refine JL.g (Gd.t1 rfl rfl rfl) (fun hc => q_loadN ty_33 (gvt rfl hc) (Mem.boxR (i := 0) rfl 9 3) rfl rfl) ?_
  refine JL.ge (Gd.t1 rfl rfl rfl) (fun hc => e_callV fn_81 (opds_2 (gvt rfl hc) (gvt rfl hc)) (fun w hw => c_impl_SamePosition a.position _ b.position _ w ⟨_, rfl, ⟨(Ty.mono _ h1_9 hw.vis), (Ty.mono _ h1_10 hw.vis), rfl, trivial⟩⟩ ⟨_, rfl, ⟨(Ty.mono _ h2_9 hw.vis), (Ty.mono _ h2_10 hw.vis), rfl, trivial⟩⟩ (by have hc9 := hc; (try simp only [decide_eq_true_eq] at hc9); omega) (by have hc9 := hc; (try simp only [decide_eq_true_eq] at hc9); omega) (by have hc9 := hc; (try simp only [decide_eq_true_eq] at hc9); omega) (by have hc9 := hc; (try simp only [decide_eq_true_eq] at hc9); omega))) ?_
  refine JL.q (OpP.q (p_pickAnd rfl rfl rfl)) ?_
  refine JL.q (OpP.q (p_move rfl)) ?_
  refine JL.g (Gd.t1 rfl rfl rfl) (fun hc => OpP.q (p_fieldAddr fld_45_2 rfl)) ?_
  refine JL.g (Gd.t1 rfl rfl rfl) (fun hc => q_load1 ty_2 (gvt rfl hc) (Mem.box (i := 1) rfl rfl)) ?_
  refine JL.g (Gd.t1 rfl rfl rfl) (fun hc => OpP.q (p_fieldAddr fld_45_2 rfl)) ?_
  refine JL.g (Gd.t1 rfl rfl rfl) (fun hc => q_load1 ty_2 (gvt rfl hc) (Mem.box (i := 0) rfl rfl)) ?_
  refine JL.g (Gd.t1 rfl rfl rfl) (fun hc => OpP.q (p_eql (gvt rfl hc) (gvt rfl hc))) ?_
  refine JL.q (OpP.q (p_pickAnd rfl rfl rfl)) ?_
  refine JL.q (OpP.q (p_move rfl)) ?_
  refine JL.g (Gd.t1 rfl rfl rfl) (fun hc => OpP.q (p_fieldAddr fld_45_3 rfl)) ?_
  refine JL.g (Gd.t1 rfl rfl rfl) (fun hc => q_load1 ty_2 (gvt rfl hc) (Mem.box (i := 1) rfl rfl)) ?_
  refine JL.g (Gd.t1 rfl rfl rfl) (fun hc => OpP.q (p_fieldAddr fld_45_3 rfl)) ?_
  refine JL.g (Gd.t1 rfl rfl rfl) (fun hc => q_load1 ty_2 (gvt rfl hc) (Mem.box (i := 0) rfl rfl)) ?_
  refine JL.g (Gd.t1 rfl rfl rfl) (fun hc => OpP.q (p_eql (gvt rfl hc) (gvt rfl hc))) ?_
  refine JL.q (OpP.q (p_pickAnd rfl rfl rfl)) ?_
  refine JL.q (OpP.q (p_move rfl)) ?_
  refine JL.g (Gd.t1 rfl rfl rfl) (fun hc => OpP.q (p_fieldAddr fld_45_4 rfl)) ?_
  refine JL.g (Gd.t1 rfl rfl rfl) (fun hc => q_load1 ty_2 (gvt rfl hc) (Mem.box (i := 1) rfl rfl)) ?_
  refine JL.g (Gd.t1 rfl rfl rfl) (fun hc => OpP.q (p_fieldAddr fld_45_4 rfl)) ?_
  refine JL.g (Gd.t1 rfl rfl rfl) (fun hc => q_load1 ty_2 (gvt rfl hc) (Mem.box (i := 0) rfl rfl)) ?_
  refine JL.g (Gd.t1 rfl rfl rfl) (fun hc => OpP.q (p_eql (gvt rfl hc) (gvt rfl hc))) ?_
  refine JL.q (OpP.q (p_pickAnd rfl rfl rfl)) ?_
  refine JL.q (OpP.q (p_move rfl)) ?_
  refine JL.g (Gd.t1 rfl rfl rfl) (fun hc => OpP.q (p_fieldAddr fld_45_5 rfl)) ?_
  refine JL.g (Gd.t1 rfl rfl rfl) (fun hc => q_load1 ty_2 (gvt rfl hc) (Mem.box (i := 1) rfl rfl)) ?_
  refine JL.g (Gd.t1 rfl rfl rfl) (fun hc => OpP.q (p_fieldAddr fld_45_5 rfl)) ?_
  refine JL.g (Gd.t1 rfl rfl rfl) (fun hc => q_load1 ty_2 (gvt rfl hc) (Mem.box (i := 0) rfl rfl)) ?_
  refine JL.g (Gd.t1 rfl rfl rfl) (fun hc => OpP.q (p_eql (gvt rfl hc) (gvt rfl hc))) ?_
  refine JL.q (OpP.q (p_pickAnd rfl rfl rfl)) ?_
  refine JL.q (OpP.q (p_assign rfl)) ?_
  refine JL.nil ?_
  refine Js.ret (R := RV w (.bool (M.samez a b))) @Try.results57 (fun _ _ => rfl) (ResOk.tmp rfl ResOk.nil) (fun w1 hw => ?_)
  refine ⟨?_, hw.ext (Up.refl _ _)⟩
  simp [outV, M.samez, Bool.and_assoc]

set_option maxRecDepth 100000 in
set_option maxHeartbeats 400000 in
theorem c_impl_ValidPuzzle (z : M.Puz) (v_z : Value) (w : World) (h_z : (Ty.agg (cPuzzle z)).ok w v_z) (r0 : z.position.pits.length ≤ 4194304) (r1 : z.position.stores.length ≤ 4194304) : RetV Try.prog 33 [v_z] w (.bool (M.okZ z)) := by
  have hsm := M.puz_small z.rules z.position z.depth
  have hs1 := hsm.sp
  have hs2 := hsm.ss
  obtain ⟨A1_9, c1_9, A1_10, c1_10, rfl, h1_9, h1_10, bl1_9, bh1_9, bl1_10, bh1_10⟩ := open_Puzzle h_z
  refine enter @Try.func33 @Try.ntmps33 rfl rfl ?_
  refine Js.seq ?_
  refine Js.region ?_
  refine JL.e (e_box (c := [.int .i64 z.rules.pits, .int .i64 z.rules.seeds, .bool z.rules.stores, .bool z.rules.skip, .bool z.rules.relay, .bool z.rules.feed, .bool z.rules.again, .int .i64 z.rules.capture, .int .i64 z.rules.slam, .slice A1_9 z.position.pits.length c1_9, .slice A1_10 z.position.stores.length c1_10, .int .i64 z.position.player, .int .i64 z.depth, .int .i64 z.move, .int .i64 z.value, .int .i64 z.margin]) rfl rfl) ?_
  rintro _ _ _ ⟨b2, rfl, rfl, rfl⟩ _
  refine JL.q (OpP.q (p_assign rfl)) ?_
  refine JL.nil ?_
  refine Js.seq ?_
  refine Js.region ?_
  refine JL.q (OpP.q (p_fieldAddr fld_45_0 rfl)) ?_
  refine JL.q (q_loadN ty_31 rfl (Mem.boxR (i := 0) rfl 0 9) rfl rfl) ?_
  refine JL.q (OpP.q (p_fieldAddr fld_45_1 rfl)) ?_
  refine JL.q (q_loadN ty_33 rfl (Mem.boxR (i := 0) rfl 9 3) rfl rfl) ?_
  refine JL.q (OpP.q (p_fieldAddr fld_45_2 rfl)) ?_
  refine JL.q (q_load1 ty_2 rfl (Mem.box (i := 0) rfl rfl)) ?_
  refine JL.e (e_callP fn_53 rfl (fun w hw => c_impl_puzzleOf z.rules _ z.position _ z.depth w ⟨_, rfl, ⟨rfl, rfl, rfl, rfl, rfl, rfl, rfl, rfl, rfl, trivial⟩⟩ ⟨_, rfl, ⟨(Ty.mono _ h1_9 hw.vis), (Ty.mono _ h1_10 hw.vis), rfl, trivial⟩⟩ (by omega) (by omega))) ?_
  rintro v3 _ u5 ⟨h4, rfl⟩ x5
  obtain ⟨vs6, rfl, hv6⟩ := h4
  obtain ⟨v6_0, vs6, rfl, hw6_0, hv6⟩ := cellsOk_cons hv6
  obtain ⟨v6_1, vs6, rfl, hw6_1, hv6⟩ := cellsOk_cons hv6
  obtain rfl := cellsOk_nil hv6
  obtain ⟨A7_9, c7_9, A7_10, c7_10, rfl, h7_9, h7_10, bl7_9, bh7_9, bl7_10, bh7_10⟩ := open_Puzzle hw6_0
  obtain rfl : v6_1 = .int .i64 ((M.puz z.rules z.position z.depth).2) := hw6_1
  refine JL.q (OpP.q (p_move rfl)) ?_
  refine JL.q (OpP.q (p_extract rfl rfl)) ?_
  refine JL.q (OpP.q (p_extract rfl rfl)) ?_
  refine JL.e (e_alloc zero_45) ?_
  rintro _ _ _ ⟨b8, rfl, rfl, rfl⟩ _
  refine JL.s (e_store (i := 0) (c' := [.int .i64 ((((M.puz z.rules z.position z.depth).1).rules).pits), .int .i64 ((((M.puz z.rules z.position z.depth).1).rules).seeds), .bool ((((M.puz z.rules z.position z.depth).1).rules).stores), .bool ((((M.puz z.rules z.position z.depth).1).rules).skip), .bool ((((M.puz z.rules z.position z.depth).1).rules).relay), .bool ((((M.puz z.rules z.position z.depth).1).rules).feed), .bool ((((M.puz z.rules z.position z.depth).1).rules).again), .int .i64 ((((M.puz z.rules z.position z.depth).1).rules).capture), .int .i64 ((((M.puz z.rules z.position z.depth).1).rules).slam), .slice A7_9 (((((M.puz z.rules z.position z.depth).1).position).pits).length) c7_9, .slice A7_10 (((((M.puz z.rules z.position z.depth).1).position).stores).length) c7_10, .int .i64 ((((M.puz z.rules z.position z.depth).1).position).player), .int .i64 (((M.puz z.rules z.position z.depth).1).depth), .int .i64 (((M.puz z.rules z.position z.depth).1).move), .int .i64 (((M.puz z.rules z.position z.depth).1).value), .int .i64 (((M.puz z.rules z.position z.depth).1).margin)]) ty_45 rfl rfl rfl rfl rfl rfl rfl rfl) ?_
  rintro _ _ _ ⟨rfl, rfl⟩ _
  refine JL.q (OpP.q (p_assign rfl)) ?_
  refine JL.nil ?_
  refine Js.seq ?_
  refine Js.region ?_
  refine JL.q (OpP.q (p_move rfl)) ?_
  refine JL.q (OpP.q (p_eql rfl rfl)) ?_
  refine JL.q (OpP.q (p_move rfl)) ?_
  refine JL.g (Gd.t1 rfl rfl rfl) (fun hc => q_loadN ty_45 rfl (Mem.boxR (i := 0) rfl 0 16) rfl rfl) ?_
  refine JL.g (Gd.t1 rfl rfl rfl) (fun hc => q_loadN ty_45 rfl (Mem.boxR (i := 1) rfl 0 16) rfl rfl) ?_
  refine JL.ge (Gd.t1 rfl rfl rfl) (fun hc => e_callV fn_57 (opds_2 (gvt rfl hc) (gvt rfl hc)) (fun w hw => c_impl_SamePuzzle ((M.puz z.rules z.position z.depth).1) _ z _ w ⟨_, rfl, ⟨rfl, rfl, rfl, rfl, rfl, rfl, rfl, rfl, rfl, (Ty.mono _ h7_9 hw.vis), (Ty.mono _ h7_10 hw.vis), rfl, rfl, rfl, rfl, rfl, trivial⟩⟩ ⟨_, rfl, ⟨rfl, rfl, rfl, rfl, rfl, rfl, rfl, rfl, rfl, (Ty.mono _ h1_9 (x5.vis.trans hw.vis)), (Ty.mono _ h1_10 (x5.vis.trans hw.vis)), rfl, rfl, rfl, rfl, rfl, trivial⟩⟩ (by have hc9 := hc; (try simp only [decide_eq_true_eq] at hc9); omega) (by have hc9 := hc; (try simp only [decide_eq_true_eq] at hc9); omega) (by have hc9 := hc; (try simp only [decide_eq_true_eq] at hc9); omega) (by have hc9 := hc; (try simp only [decide_eq_true_eq] at hc9); omega))) ?_
  refine JL.q (OpP.q (p_pickAnd rfl rfl rfl)) ?_
  refine JL.q (OpP.q (p_assign rfl)) ?_
  refine JL.nil ?_
  refine Js.ret (R := RV w (.bool (M.okZ z))) @Try.results33 (fun _ _ => rfl) (ResOk.tmp rfl ResOk.nil) (fun w1 hw => ?_)
  refine ⟨?_, hw.ext (x5)⟩
  simp [outV, M.okZ]

set_option maxRecDepth 100000 in
set_option maxHeartbeats 400000 in
theorem c_impl_AnswerLoss (z : M.Puz) (v_z : Value) (move : Int) (w : World) (h_z : (Ty.agg (cPuzzle z)).ok w v_z) (r0 : z.position.pits.length ≤ 4194304) (r1 : z.position.stores.length ≤ 4194304) : RetV Try.prog 35 [v_z, .int .i64 move] w (.tuple #[.int .i64 ((M.ans z move).1), .int .i64 ((M.ans z move).2)]) := by
  obtain ⟨A1_9, c1_9, A1_10, c1_10, rfl, h1_9, h1_10, bl1_9, bh1_9, bl1_10, bh1_10⟩ := open_Puzzle h_z
  refine enter @Try.func35 @Try.ntmps35 rfl rfl ?_
  refine Js.seq ?_
  refine Js.region ?_
  refine JL.e (e_box (c := [.int .i64 z.rules.pits, .int .i64 z.rules.seeds, .bool z.rules.stores, .bool z.rules.skip, .bool z.rules.relay, .bool z.rules.feed, .bool z.rules.again, .int .i64 z.rules.capture, .int .i64 z.rules.slam, .slice A1_9 z.position.pits.length c1_9, .slice A1_10 z.position.stores.length c1_10, .int .i64 z.position.player, .int .i64 z.depth, .int .i64 z.move, .int .i64 z.value, .int .i64 z.margin]) rfl rfl) ?_
  rintro _ _ _ ⟨b2, rfl, rfl, rfl⟩ _
  refine JL.q (OpP.q (p_assign rfl)) ?_
  refine JL.q (OpP.q (p_assign rfl)) ?_
  refine JL.nil ?_
  refine Js.seq ?_
  refine Js.seq ?_
  refine Js.region ?_
  refine JL.q (q_loadN ty_45 rfl (Mem.boxR (i := 0) rfl 0 16) rfl rfl) ?_
  refine JL.e (e_callV fn_33 rfl (fun w hw => c_impl_ValidPuzzle z _ w ⟨_, rfl, ⟨rfl, rfl, rfl, rfl, rfl, rfl, rfl, rfl, rfl, (Ty.mono _ h1_9 hw.vis), (Ty.mono _ h1_10 hw.vis), rfl, rfl, rfl, rfl, rfl, trivial⟩⟩ (by omega) (by omega))) ?_
  rintro _ _ _ ⟨rfl, rfl, rfl⟩ _
  refine JL.q (OpP.q (p_not rfl)) ?_
  refine JL.nil ?_
  refine Js.cond rfl (fun h3 => ?_) (fun h3 => ?_)
  ·
    have h3' := h3
    try simp only [Bool.not_eq_true'] at h3'
    have hno : M.okZ z = false := by simpa using h3
    have hE := M.ans_1 (move := move) hno
    refine Js.seq ?_
    refine Js.region ?_
    refine JL.q (OpP.q (p_assign rfl)) ?_
    refine JL.q (OpP.q (p_assign rfl)) ?_
    refine JL.nil ?_
    refine Js.ret (R := RV w (.tuple #[.int .i64 ((M.ans z move).1), .int .i64 ((M.ans z move).2)])) @Try.results35 (fun _ _ => rfl) (ResOk.tmp rfl (ResOk.tmp rfl ResOk.nil)) (fun w1 hw => ?_)
    refine ⟨?_, hw.ext (Up.refl _ _)⟩
    rw [hE]; rfl
  ·
    have h3' := h3
    try simp only [Bool.not_eq_false'] at h3'
    have hok : M.okZ z = true := by simpa using h3
    obtain ⟨hoc, hpz⟩ := M.okZ_parts hok
    have ho := M.optsC_ok hoc
    refine Js.skip ?_
    refine Js.seq ?_
    refine Js.region ?_
    refine JL.q (OpP.q (p_fieldAddr fld_45_0 rfl)) ?_
    refine JL.q (q_loadN ty_31 rfl (Mem.boxR (i := 0) rfl 0 9) rfl rfl) ?_
    refine JL.q (OpP.q (p_fieldAddr fld_45_1 rfl)) ?_
    refine JL.q (q_loadN ty_33 rfl (Mem.boxR (i := 0) rfl 9 3) rfl rfl) ?_
    refine JL.q (OpP.q (p_move rfl)) ?_
    refine JL.e (e_callP fn_51 rfl (fun w hw => c_impl_Rules_resultOf z.rules _ z.position _ move w ⟨_, rfl, ⟨rfl, rfl, rfl, rfl, rfl, rfl, rfl, rfl, rfl, trivial⟩⟩ ⟨_, rfl, ⟨(Ty.mono _ h1_9 hw.vis), (Ty.mono _ h1_10 hw.vis), rfl, trivial⟩⟩ (by omega) (by omega))) ?_
    rintro v4 _ u6 ⟨h5, rfl⟩ x6
    obtain ⟨vs7, rfl, hv7⟩ := h5
    obtain ⟨v7_0, vs7, rfl, hw7_0, hv7⟩ := cellsOk_cons hv7
    obtain ⟨v7_1, vs7, rfl, hw7_1, hv7⟩ := cellsOk_cons hv7
    obtain rfl := cellsOk_nil hv7
    obtain ⟨A8_3, c8_3, A8_4, c8_4, rfl, h8_3, h8_4, bl8_3, bh8_3, bl8_4, bh8_4⟩ := open_Result hw7_0
    obtain rfl : v7_1 = .int .i64 ((M.make z.rules z.position move).2) := hw7_1
    refine JL.q (OpP.q (p_move rfl)) ?_
    refine JL.q (OpP.q (p_extract rfl rfl)) ?_
    refine JL.q (OpP.q (p_extract rfl rfl)) ?_
    refine JL.e (e_alloc zero_74) ?_
    rintro _ _ _ ⟨b9, rfl, rfl, rfl⟩ _
    refine JL.s (e_store (i := 0) (c' := [.int .i64 (((M.make z.rules z.position move).1).move), .int .i64 (((M.make z.rules z.position move).1).gain), .bool (((M.make z.rules z.position move).1).again), .slice A8_3 (((((M.make z.rules z.position move).1).next).pits).length) c8_3, .slice A8_4 (((((M.make z.rules z.position move).1).next).stores).length) c8_4, .int .i64 ((((M.make z.rules z.position move).1).next).player)]) ty_74 rfl rfl rfl rfl rfl rfl rfl rfl) ?_
    rintro _ _ _ ⟨rfl, rfl⟩ _
    refine JL.q (OpP.q (p_assign rfl)) ?_
    refine JL.nil ?_
    refine Js.seq ?_
    refine Js.seq ?_
    refine Js.region ?_
    refine JL.q (OpP.q (p_move rfl)) ?_
    refine JL.q (OpP.q (p_neq rfl rfl)) ?_
    refine JL.nil ?_
    refine Js.cond rfl (fun h10 => ?_) (fun h10 => ?_)
    ·
      have h10' := h10
      try simp only [Bool.not_eq_true', decide_eq_false_iff_not] at h10'
      have hE := M.ans_c hok (by simpa using h10)
      refine Js.seq ?_
      refine Js.region ?_
      refine JL.q (OpP.q (p_move rfl)) ?_
      refine JL.q (OpP.q (p_assign rfl)) ?_
      refine JL.q (OpP.q (p_assign rfl)) ?_
      refine JL.nil ?_
      refine Js.ret (R := RV w (.tuple #[.int .i64 ((M.ans z move).1), .int .i64 ((M.ans z move).2)])) @Try.results35 (fun _ _ => rfl) (ResOk.tmp rfl (ResOk.tmp rfl ResOk.nil)) (fun w1 hw => ?_)
      refine ⟨?_, hw.ext (x6)⟩
      rw [hE]; rfl
    ·
      have h10' := h10
      try simp only [Bool.not_eq_false', decide_eq_true_eq] at h10'
      have hz : (M.make z.rules z.position move).2 = 0 := by simpa using h10
      have hE := M.ans_0 hok hz
      have hmo := (M.make_ok hz).2.2.2.1
      have hml := M.okP_len hmo
      have hgb9 := M.make_gain hz
      have hvb9 := M.val_bd (z.depth - 1).toNat (M.make z.rules z.position move).1.next hmo
      have hmb9 := M.moveV_bd hgb9 hvb9
      have hzv := M.okZ_val hok
      refine Js.skip ?_
      refine Js.seq ?_
      refine Js.drawn _ [] mixed_ (fun _ h => h) ?_
      refine JH.p 0 rfl (p_fieldAddr fld_45_4 rfl) ?_
      refine JH.q 1 rfl (q_load1 ty_2 rfl (Mem.box (i := 1) rfl rfl)) ?_
      refine JH.p 2 rfl (p_fieldAddr fld_45_0 rfl) ?_
      refine JH.q 3 rfl (q_loadN ty_31 rfl (Mem.boxR (i := 1) rfl 0 9) rfl rfl) ?_
      refine JH.q 4 rfl (q_loadN ty_74 rfl (Mem.boxR (i := 0) rfl 0 6) rfl rfl) ?_
      refine JH.p 5 rfl (p_fieldAddr fld_45_0 rfl) ?_
      refine JH.q 6 rfl (q_loadN ty_31 rfl (Mem.boxR (i := 1) rfl 0 9) rfl rfl) ?_
      refine JH.p 7 rfl (p_fieldAddr fld_74_3 rfl) ?_
      refine JH.q 8 rfl (q_loadN ty_33 rfl (Mem.boxR (i := 0) rfl 3 3) rfl rfl) ?_
      refine JH.p 9 rfl (p_fieldAddr fld_45_2 rfl) ?_
      refine JH.q 10 rfl (q_load1 ty_2 rfl (Mem.box (i := 1) rfl rfl)) ?_
      refine JH.p 11 rfl (p_sub rfl rfl (IntWalk.i64_in _ (by omega))) ?_
      refine JH.one (i := 12) (by kernel_rfl) ?_
      refine JHo.e rfl (e_callV fn_60 rfl (fun w hw => c_impl_Rules_value z.rules _ (((M.make z.rules z.position move).1).next) _ (z.depth - 1) w ⟨_, rfl, ⟨rfl, rfl, rfl, rfl, rfl, rfl, rfl, rfl, rfl, trivial⟩⟩ ⟨_, rfl, ⟨(Ty.mono _ h8_3 hw.vis), (Ty.mono _ h8_4 hw.vis), rfl, trivial⟩⟩ hmo (by omega) (by omega))) (.inl rfl) ?_
      rintro _ _ _ ⟨rfl, rfl, rfl⟩ _
      refine JH.one (i := 13) (by kernel_rfl) ?_
      refine JHo.e rfl (e_callV fn_59 rfl (fun w hw => c_impl_Rules_moveValue z.rules _ ((M.make z.rules z.position move).1) _ (M.val z.rules (z.depth - 1).toNat (((M.make z.rules z.position move).1).next)) w ⟨_, rfl, ⟨rfl, rfl, rfl, rfl, rfl, rfl, rfl, rfl, rfl, trivial⟩⟩ ⟨_, rfl, ⟨rfl, rfl, rfl, (Ty.mono _ h8_3 hw.vis), (Ty.mono _ h8_4 hw.vis), rfl, trivial⟩⟩ hgb9 (by omega))) (.inl rfl) ?_
      rintro _ _ _ ⟨rfl, rfl, rfl⟩ _
      refine JH.p 14 rfl (p_sub rfl rfl (IntWalk.i64_in _ (by omega))) ?_
      refine JH.p 15 rfl (p_assign rfl) ?_
      refine JH.p 16 rfl (p_assign rfl) ?_
      refine JH.done (by kernel_rfl) ?_
      refine Js.ret (R := RV w (.tuple #[.int .i64 ((M.ans z move).1), .int .i64 ((M.ans z move).2)])) @Try.results35 (fun _ _ => rfl) (ResOk.tmp rfl (ResOk.tmp rfl ResOk.nil)) (fun w1 hw => ?_)
      refine ⟨?_, hw.ext (x6)⟩
      rw [hE]; rfl

set_option maxRecDepth 100000 in
set_option maxHeartbeats 400000 in
theorem c_impl_SolutionOf (z : M.Puz) (v_z : Value) (w : World) (h_z : (Ty.agg (cPuzzle z)).ok w v_z) (r0 : z.position.pits.length ≤ 4194304) (r1 : z.position.stores.length ≤ 4194304) : Ret Try.prog 39 [v_z] w (Ty.tup [Ty.ints 2 (M.sol z), Ty.int (M.solC z)]) := by
  obtain ⟨A1_9, c1_9, A1_10, c1_10, rfl, h1_9, h1_10, bl1_9, bh1_9, bl1_10, bh1_10⟩ := open_Puzzle h_z
  refine enter @Try.func39 @Try.ntmps39 rfl rfl ?_
  refine Js.seq ?_
  refine Js.region ?_
  refine JL.e (e_box (c := [.int .i64 z.rules.pits, .int .i64 z.rules.seeds, .bool z.rules.stores, .bool z.rules.skip, .bool z.rules.relay, .bool z.rules.feed, .bool z.rules.again, .int .i64 z.rules.capture, .int .i64 z.rules.slam, .slice A1_9 z.position.pits.length c1_9, .slice A1_10 z.position.stores.length c1_10, .int .i64 z.position.player, .int .i64 z.depth, .int .i64 z.move, .int .i64 z.value, .int .i64 z.margin]) rfl rfl) ?_
  rintro _ _ _ ⟨b2, rfl, rfl, rfl⟩ _
  refine JL.q (OpP.q (p_assign rfl)) ?_
  refine JL.q (OpP.q (p_assign rfl)) ?_
  refine JL.nil ?_
  refine Js.seq ?_
  refine Js.seq ?_
  refine Js.region ?_
  refine JL.q (q_loadN ty_45 rfl (Mem.boxR (i := 0) rfl 0 16) rfl rfl) ?_
  refine JL.e (e_callV fn_33 rfl (fun w hw => c_impl_ValidPuzzle z _ w ⟨_, rfl, ⟨rfl, rfl, rfl, rfl, rfl, rfl, rfl, rfl, rfl, (Ty.mono _ h1_9 hw.vis), (Ty.mono _ h1_10 hw.vis), rfl, rfl, rfl, rfl, rfl, trivial⟩⟩ (by omega) (by omega))) ?_
  rintro _ _ _ ⟨rfl, rfl, rfl⟩ _
  refine JL.q (OpP.q (p_not rfl)) ?_
  refine JL.nil ?_
  refine Js.cond rfl (fun h3 => ?_) (fun h3 => ?_)
  ·
    have h3' := h3
    try simp only [Bool.not_eq_true'] at h3'
    have hno : M.okZ z = false := by simpa using h3
    have hE := M.sol_no hno
    have hC := M.solC_no hno
    refine Js.seq ?_
    refine Js.region ?_
    refine JL.q (OpP.q (p_assign rfl)) ?_
    refine JL.q (OpP.q (p_assign rfl)) ?_
    refine JL.nil ?_
    refine Js.ret (R := RO w (Ty.tup [Ty.ints 2 (M.sol z), Ty.int (M.solC z)])) @Try.results39 (fun _ _ => rfl) (ResOk.tmp rfl (ResOk.tmp rfl ResOk.nil)) (fun w1 hw => ?_)
    have hx := hw.ext (Up.refl _ _)
    exact ret_own (ps := []) hw hx ⟨_, rfl, ⟨_, _, rfl, (ints_cast (show [] = M.sol z by first | (rw [hE]; done) | (rw [hC]; done)) nil_own), ⟨_, _, rfl, ⟨by first | (rw [hE]; done) | (rw [hC]; done), rfl⟩, rfl⟩⟩⟩ Pick.nil (by simp [List.flatten, outV])
  ·
    have h3' := h3
    try simp only [Bool.not_eq_false'] at h3'
    have hok : M.okZ z = true := by simpa using h3
    obtain ⟨hoc, hpz⟩ := M.okZ_parts hok
    have ho := M.optsC_ok hoc
    have hE := M.sol_yes hok
    have hC := M.solC_yes hok
    refine Js.skip ?_
    refine Js.seq ?_
    refine Js.region ?_
    refine JL.q (OpP.q (p_fieldAddr fld_45_0 rfl)) ?_
    refine JL.q (q_loadN ty_31 rfl (Mem.boxR (i := 0) rfl 0 9) rfl rfl) ?_
    refine JL.q (OpP.q (p_fieldAddr fld_45_1 rfl)) ?_
    refine JL.q (q_loadN ty_33 rfl (Mem.boxR (i := 0) rfl 9 3) rfl rfl) ?_
    refine JL.q (OpP.q (p_fieldAddr fld_45_2 rfl)) ?_
    refine JL.q (q_load1 ty_2 rfl (Mem.box (i := 0) rfl rfl)) ?_
    refine JL.e (e_callO fn_21 rfl (Spl.tup (Spls.cons (Spl.ints _ _) (Spls.cons (Spl.val _) Spls.nil))) (fun w hw => c_impl_SearchLine z.rules _ z.position _ z.depth w ⟨_, rfl, ⟨rfl, rfl, rfl, rfl, rfl, rfl, rfl, rfl, rfl, trivial⟩⟩ ⟨_, rfl, ⟨(Ty.mono _ h1_9 hw.vis), (Ty.mono _ h1_10 hw.vis), rfl, trivial⟩⟩ (by omega) (by omega))) ?_
    rintro v4 _ _ ⟨_, hR5, rfl, rfl⟩ _
    obtain ⟨vs6, rfl, hr6⟩ := hR5
    obtain ⟨v6_0, vs6_0, o6_0, ow6_0, rfl, hR6_0, hs6_0, rfl⟩ := RL_cons hr6
    obtain ⟨v6_1, vs6_1, o6_1, ow6_1, rfl, hR6_1, hs6_1, rfl⟩ := RL_cons hs6_0
    obtain ⟨rfl, rfl⟩ := RL_nil hs6_1
    obtain ⟨A7, c7, rfl, rfl, bl7, bh7⟩ := hR6_0
    obtain ⟨rfl, rfl⟩ : v6_1 = .int .i64 (M.srchC z.rules z.position z.depth) ∧ _ := hR6_1
    refine JL.q (OpP.q (p_extract rfl rfl)) ?_
    refine JL.q (OpP.q (p_extract rfl rfl)) ?_
    refine JL.q (OpP.q (p_assign rfl)) ?_
    refine JL.q (OpP.q (p_assign rfl)) ?_
    refine JL.nil ?_
    refine Js.ret (R := RO w (Ty.tup [Ty.ints 2 (M.sol z), Ty.int (M.solC z)])) @Try.results39 (fun _ _ => rfl) (ResOk.tmp rfl (ResOk.tmp rfl ResOk.nil)) (fun w1 hw => ?_)
    have hx := hw.ext (Up.refl _ _)
    exact ret_own (ps := [(0, (Value.ownBlock (.slice A7 ((M.lineR z.rules z.position z.depth).length) c7)).toList)]) hw hx ⟨_, rfl, ⟨_, _, rfl, (ints_row (xs := (M.lineR z.rules z.position z.depth)) (hw.pr (i := 0) rfl) (show M.lineR z.rules z.position z.depth = M.sol z by first | (rw [hE]; done) | (rw [hC]; done))), ⟨_, _, rfl, ⟨by first | (rw [hE]; done) | (rw [hC]; done), rfl⟩, rfl⟩⟩⟩ (Pick.cons (j := 0) rfl (List.sublist_append_left _ _) rfl Pick.nil) (by simp [List.flatten, outV])

set_option maxRecDepth 100000 in
set_option maxHeartbeats 12000000 in
theorem c_impl_Rules_turned (r : M.Rul) (v_r : Value) (p : M.Pos) (v_p : Value) (w : World) (h_r : (Ty.agg (cRules r)).ok w v_r) (h_p : (Ty.agg (cPosition p)).ok w v_p) (r0 : M.okP r p = true) : Ret Try.prog 62 [v_r, v_p] w (Ty.agg (cPosition (M.turnP r p))) := by
  obtain ⟨g1, g2, g3, g4, g5, g6, g7⟩ := M.okP_bd r0
  obtain rfl := open_Rules h_r
  obtain ⟨A2_0, c2_0, A2_1, c2_1, rfl, h2_0, h2_1, bl2_0, bh2_0, bl2_1, bh2_1⟩ := open_Position h_p
  refine enter @Try.func62 @Try.ntmps62 rfl rfl ?_
  refine Js.seq ?_
  refine Js.region ?_
  refine JL.e (e_box (c := [.int .i64 r.pits, .int .i64 r.seeds, .bool r.stores, .bool r.skip, .bool r.relay, .bool r.feed, .bool r.again, .int .i64 r.capture, .int .i64 r.slam]) rfl rfl) ?_
  rintro _ _ _ ⟨b3, rfl, rfl, rfl⟩ _
  refine JL.e (e_box (c := [.slice A2_0 p.pits.length c2_0, .slice A2_1 p.stores.length c2_1, .int .i64 p.player]) rfl rfl) ?_
  rintro _ _ _ ⟨b4, rfl, rfl, rfl⟩ _
  refine JL.e (e_alloc zero_33) ?_
  rintro _ _ _ ⟨b5, rfl, rfl, rfl⟩ _
  refine JL.nil ?_
  refine Js.seq ?_
  refine Js.drawn _ [11] mixed_ (fun _ h => h) ?_
  refine JH.p 0 rfl (p_fieldAddr fld_33_0 rfl) ?_
  refine JH.q 1 rfl (q_load1 ty_24 rfl (Mem.box (i := 1) rfl rfl)) ?_
  refine JH.p 2 rfl (p_fieldAddr fld_31_0 rfl) ?_
  refine JH.q 3 rfl (q_load1 ty_2 rfl (Mem.box (i := 2) rfl rfl)) ?_
  have hs6 := ints_cut (a := r.pits.toNat) (b := p.pits.length) (m := c2_0) h2_0 (by omega) (by omega) (by omega) (by omega)
  have hl6 : ((p.pits.drop r.pits.toNat).take (p.pits.length - r.pits.toNat)).length = p.pits.length - r.pits.toNat := by rw [List.length_take, List.length_drop]; omega
  refine JH.p 4 rfl (p_slice (lo' := r.pits.toNat) (hi' := p.pits.length) (mx' := c2_0) el_24 rfl rfl ⟨rfl, rfl⟩ ⟨_, by rw [Int.toNat_of_nonneg (by omega)]; exact rfl, by omega⟩) ?_
  refine JH.p 6 rfl (p_fieldAddr fld_33_0 rfl) ?_
  refine JH.q 7 rfl (q_load1 ty_24 rfl (Mem.box (i := 1) rfl rfl)) ?_
  refine JH.p 8 rfl (p_fieldAddr fld_31_0 rfl) ?_
  refine JH.q 9 rfl (q_load1 ty_2 rfl (Mem.box (i := 2) rfl rfl)) ?_
  have hs7 := ints_cut (a := 0) (b := r.pits.toNat) (m := c2_0) h2_0 (by omega) (by omega) (by omega) (by omega)
  have hl7 : ((p.pits.drop 0).take (r.pits.toNat - 0)).length = r.pits.toNat - 0 := by rw [List.length_take, List.length_drop]; omega
  refine JH.p 10 rfl (p_slice (lo' := 0) (hi' := r.pits.toNat) (mx' := c2_0) el_24 rfl rfl ⟨_, by rw [Int.toNat_of_nonneg (by omega)]; exact rfl, by omega⟩ rfl) ?_
  refine JH.one (i := 5) (by kernel_rfl) ?_
  refine JHo.e rfl (e_callO fn_84 rfl (Spl.ints _ _) (fun w hw => c_impl_copyNumbers ((p.pits.drop r.pits.toNat).take (p.pits.length - r.pits.toNat)) _ w (Ty.mono _ hs6 hw.vis) (by omega))) (.inl rfl) ?_
  rintro v8 _ _ ⟨_, hR9, rfl, rfl⟩ _
  obtain ⟨A10, c10, rfl, rfl, bl10, bh10⟩ := hR9
  refine JH.one (i := 11) (by kernel_rfl) ?_
  refine JHo.e rfl (e_append (i := 0) (n' := (((p.pits.drop r.pits.toNat).take (p.pits.length - r.pits.toNat)) ++ ((p.pits.drop 0).take (r.pits.toNat - 0))).length) (vs' := ints_ (((p.pits.drop r.pits.toNat).take (p.pits.length - r.pits.toNat)) ++ ((p.pits.drop 0).take (r.pits.toNat - 0)))) el_24 rfl rfl rfl rfl (src_intsN und_24 hl7 hs7) (by omega) (by omega) (by first | omega | (simp only [List.length_append, List.length_cons, List.length_nil] <;> omega)) (by simp [ints_])) (.inr rfl) ?_
  rintro v11 _ _ ⟨⟨g12, rfl⟩, rfl⟩ _
  refine JH.fact (row_form' (i := 0) rfl) (fun hf13 => ?_)
  obtain ⟨A13, c13, rfl, bl13, bh13⟩ := hf13
  refine JH.p 12 rfl (p_assign rfl) ?_
  refine JH.done (by kernel_rfl) ?_
  refine Js.seq ?_
  refine Js.drawn _ [14] mixed_ (fun _ h => h) ?_
  refine JH.p 0 rfl (p_move rfl) ?_
  refine JH.p 1 rfl (p_fieldAddr fld_33_1 rfl) ?_
  refine JH.q 2 rfl (q_load1 ty_24 rfl (Mem.box (i := 2) rfl rfl)) ?_
  obtain ⟨b14, o14, he14, hc14⟩ := ints_elem h2_1 (i := 1) (by omega)
  refine JH.p 3 rfl (p_indexAddr el_24 rfl rfl (by omega) (by omega) he14) ?_
  refine JH.w 4 rfl (fun os' u' hv => q_load1 ty_2 rfl (Mem.pub (hc14.vis hv))) ?_
  refine JH.p 5 rfl (p_fieldAddr fld_33_1 rfl) ?_
  refine JH.q 6 rfl (q_load1 ty_24 rfl (Mem.box (i := 2) rfl rfl)) ?_
  obtain ⟨b15, o15, he15, hc15⟩ := ints_elem h2_1 (i := 0) (by omega)
  refine JH.p 7 rfl (p_indexAddr el_24 rfl rfl (by omega) (by omega) he15) ?_
  refine JH.w 8 rfl (fun os' u' hv => q_load1 ty_2 rfl (Mem.pub (hc15.vis hv))) ?_
  refine JH.p 10 rfl (p_fieldAddr fld_33_2 rfl) ?_
  refine JH.q 11 rfl (q_load1 ty_2 rfl (Mem.box (i := 2) rfl rfl)) ?_
  refine JH.p 12 rfl (p_sub rfl rfl (IntWalk.i64_in _ (by omega))) ?_
  refine JH.one (i := 9) (by kernel_rfl) ?_
  refine JHo.e rfl (e_buildSlice (vs := [.int .i64 (M.nth p.stores 1), .int .i64 (M.nth p.stores 0)]) el_24 rfl rfl rfl rfl rfl rfl) (.inl rfl) ?_
  rintro _ _ _ ⟨b16, rfl, rfl, hl17, rfl⟩ _
  refine JH.p 13 rfl (p_build zero_33 flds_33 rfl rfl) ?_
  refine JH.one (i := 14) (by kernel_rfl) ?_
  refine JHo.s rfl (e_store (i := 2) (c' := [.slice A13 ((((p.pits.drop r.pits.toNat).take (p.pits.length - r.pits.toNat)) ++ ((p.pits.drop 0).take (r.pits.toNat - 0))).length) c13, .slice (some ⟨b16, 0, none⟩) 2 2, .int .i64 (1 - p.player)]) ty_33 rfl rfl rfl rfl rfl rfl rfl rfl) (.inr rfl) ?_
  rintro _ _ _ ⟨rfl, rfl⟩ _
  refine JH.done (by kernel_rfl) ?_
  refine Js.ret (R := RO w (Ty.agg (cPosition (M.turnP r p)))) @Try.results62 (fun _ _ => rfl) (ResOk.cell (res_box (i := 2) ty_33 rfl rfl rfl rfl rfl) ResOk.nil) (fun w1 hw => ?_)
  have hx := hw.ext (Up.refl _ _)
  exact ret_own (ps := [(1, (Value.ownBlock (.slice A13 ((((p.pits.drop r.pits.toNat).take (p.pits.length - r.pits.toNat)) ++ ((p.pits.drop 0).take (r.pits.toNat - 0))).length) c13)).toList), (0, (Value.ownBlock (.slice (some ⟨b16, 0, none⟩) 2 2)).toList)]) hw hx ⟨_, rfl, ⟨_, _, rfl, (ints_row (xs := (((p.pits.drop r.pits.toNat).take (p.pits.length - r.pits.toNat)) ++ ((p.pits.drop 0).take (r.pits.toNat - 0)))) (hw.pr (i := 1) rfl) (show ((p.pits.drop r.pits.toNat).take (p.pits.length - r.pits.toNat)) ++ ((p.pits.drop 0).take (r.pits.toNat - 0)) = (M.turnP r p).pits by first | rfl | (simp [M.turnP, List.take_of_length_le]; done) | (unfold M.turnP; simp; omega))), ⟨_, _, rfl, (ints_row (xs := [(M.nth p.stores 1), (M.nth p.stores 0)]) (hw.pr (i := 0) rfl) (show [(M.nth p.stores 1), (M.nth p.stores 0)] = (M.turnP r p).stores by first | rfl | (simp [M.turnP, List.take_of_length_le]; done) | (unfold M.turnP; simp; omega))), ⟨_, _, rfl, ⟨by first | rfl | (simp [M.turnP, List.take_of_length_le]; done) | (unfold M.turnP; simp; omega), rfl⟩, rfl⟩⟩⟩⟩ (Pick.cons (j := 1) rfl (List.sublist_append_left _ _) rfl (Pick.cons (j := 0) rfl (List.sublist_append_left _ _) rfl Pick.nil)) (by simp [List.flatten, outV])

set_option maxRecDepth 100000 in
set_option maxHeartbeats 400000 in
theorem c_impl_TurnPuzzle (z : M.Puz) (v_z : Value) (w : World) (h_z : (Ty.agg (cPuzzle z)).ok w v_z) (r0 : z.position.pits.length ≤ 4194304) (r1 : z.position.stores.length ≤ 4194304) : Ret Try.prog 37 [v_z] w (Ty.tup [Ty.agg (cPuzzle ((M.turnZ z).1)), Ty.int ((M.turnZ z).2)]) := by
  obtain ⟨A1_9, c1_9, A1_10, c1_10, rfl, h1_9, h1_10, bl1_9, bh1_9, bl1_10, bh1_10⟩ := open_Puzzle h_z
  refine enter @Try.func37 @Try.ntmps37 rfl rfl ?_
  refine Js.seq ?_
  refine Js.region ?_
  refine JL.e (e_box (c := [.int .i64 z.rules.pits, .int .i64 z.rules.seeds, .bool z.rules.stores, .bool z.rules.skip, .bool z.rules.relay, .bool z.rules.feed, .bool z.rules.again, .int .i64 z.rules.capture, .int .i64 z.rules.slam, .slice A1_9 z.position.pits.length c1_9, .slice A1_10 z.position.stores.length c1_10, .int .i64 z.position.player, .int .i64 z.depth, .int .i64 z.move, .int .i64 z.value, .int .i64 z.margin]) rfl rfl) ?_
  rintro _ _ _ ⟨b2, rfl, rfl, rfl⟩ _
  refine JL.e (e_alloc zero_45) ?_
  rintro _ _ _ ⟨b3, rfl, rfl, rfl⟩ _
  refine JL.q (OpP.q (p_assign rfl)) ?_
  refine JL.nil ?_
  refine Js.seq ?_
  refine Js.seq ?_
  refine Js.region ?_
  refine JL.q (q_loadN ty_45 rfl (Mem.boxR (i := 1) rfl 0 16) rfl rfl) ?_
  refine JL.e (e_callV fn_33 rfl (fun w hw => c_impl_ValidPuzzle z _ w ⟨_, rfl, ⟨rfl, rfl, rfl, rfl, rfl, rfl, rfl, rfl, rfl, (Ty.mono _ h1_9 hw.vis), (Ty.mono _ h1_10 hw.vis), rfl, rfl, rfl, rfl, rfl, trivial⟩⟩ (by omega) (by omega))) ?_
  rintro _ _ _ ⟨rfl, rfl, rfl⟩ _
  refine JL.q (OpP.q (p_not rfl)) ?_
  refine JL.nil ?_
  refine Js.cond rfl (fun h4 => ?_) (fun h4 => ?_)
  ·
    have h4' := h4
    try simp only [Bool.not_eq_true'] at h4'
    have hno : M.okZ z = false := by simpa using h4
    have hE := M.turnZ_no hno
    refine Js.seq ?_
    refine Js.region ?_
    refine JL.q (OpP.q (p_build zero_45 flds_45 rfl rfl)) ?_
    refine JL.s (e_store (i := 0) (c' := [.int .i64 0, .int .i64 0, .bool false, .bool false, .bool false, .bool false, .bool false, .int .i64 0, .int .i64 0, .slice none 0 0, .slice none 0 0, .int .i64 0, .int .i64 0, .int .i64 0, .int .i64 0, .int .i64 0]) ty_45 rfl rfl rfl rfl rfl rfl rfl rfl) ?_
    rintro _ _ _ ⟨rfl, rfl⟩ _
    refine JL.q (OpP.q (p_assign rfl)) ?_
    refine JL.nil ?_
    refine Js.ret (R := RO w (Ty.tup [Ty.agg (cPuzzle ((M.turnZ z).1)), Ty.int ((M.turnZ z).2)])) @Try.results37 (fun _ _ => rfl) (ResOk.cell (res_box (i := 0) ty_45 rfl rfl rfl rfl rfl) (ResOk.tmp rfl ResOk.nil)) (fun w1 hw => ?_)
    have hx := hw.ext (Up.refl _ _)
    exact ret_own (ps := []) hw hx ⟨_, rfl, ⟨_, _, rfl, ⟨_, rfl, ⟨_, _, rfl, ⟨by first | (rw [hE]; done) | (rw [hE]; rfl), rfl⟩, ⟨_, _, rfl, ⟨by first | (rw [hE]; done) | (rw [hE]; rfl), rfl⟩, ⟨_, _, rfl, ⟨by first | (rw [hE]; done) | (rw [hE]; rfl), rfl⟩, ⟨_, _, rfl, ⟨by first | (rw [hE]; done) | (rw [hE]; rfl), rfl⟩, ⟨_, _, rfl, ⟨by first | (rw [hE]; done) | (rw [hE]; rfl), rfl⟩, ⟨_, _, rfl, ⟨by first | (rw [hE]; done) | (rw [hE]; rfl), rfl⟩, ⟨_, _, rfl, ⟨by first | (rw [hE]; done) | (rw [hE]; rfl), rfl⟩, ⟨_, _, rfl, ⟨by first | (rw [hE]; done) | (rw [hE]; rfl), rfl⟩, ⟨_, _, rfl, ⟨by first | (rw [hE]; done) | (rw [hE]; rfl), rfl⟩, ⟨_, _, rfl, (ints_cast (show [] = (((M.turnZ z).1).position).pits by first | (rw [hE]; done) | (rw [hE]; rfl)) nil_own), ⟨_, _, rfl, (ints_cast (show [] = (((M.turnZ z).1).position).stores by first | (rw [hE]; done) | (rw [hE]; rfl)) nil_own), ⟨_, _, rfl, ⟨by first | (rw [hE]; done) | (rw [hE]; rfl), rfl⟩, ⟨_, _, rfl, ⟨by first | (rw [hE]; done) | (rw [hE]; rfl), rfl⟩, ⟨_, _, rfl, ⟨by first | (rw [hE]; done) | (rw [hE]; rfl), rfl⟩, ⟨_, _, rfl, ⟨by first | (rw [hE]; done) | (rw [hE]; rfl), rfl⟩, ⟨_, _, rfl, ⟨by first | (rw [hE]; done) | (rw [hE]; rfl), rfl⟩, rfl⟩⟩⟩⟩⟩⟩⟩⟩⟩⟩⟩⟩⟩⟩⟩⟩⟩, ⟨_, _, rfl, ⟨by first | (rw [hE]; done) | (rw [hE]; rfl), rfl⟩, rfl⟩⟩⟩ Pick.nil (by simp [List.flatten, outV])
  ·
    have h4' := h4
    try simp only [Bool.not_eq_false'] at h4'
    have hok : M.okZ z = true := by simpa using h4
    obtain ⟨hoc, hpz⟩ := M.okZ_parts hok
    have ho := M.optsC_ok hoc
    have hE := M.turnZ_yes hok
    refine Js.skip ?_
    refine Js.seq ?_
    refine Js.region ?_
    refine JL.q (OpP.q (p_fieldAddr fld_45_0 rfl)) ?_
    refine JL.q (q_loadN ty_31 rfl (Mem.boxR (i := 1) rfl 0 9) rfl rfl) ?_
    refine JL.q (OpP.q (p_fieldAddr fld_45_1 rfl)) ?_
    refine JL.q (q_loadN ty_33 rfl (Mem.boxR (i := 1) rfl 9 3) rfl rfl) ?_
    refine JL.e (e_callO fn_62 rfl (Spl.agg (Spls.cons (Spl.ints _ _) (Spls.cons (Spl.ints _ _) (Spls.cons (Spl.val _) Spls.nil)))) (fun w hw => c_impl_Rules_turned z.rules _ z.position _ w ⟨_, rfl, ⟨rfl, rfl, rfl, rfl, rfl, rfl, rfl, rfl, rfl, trivial⟩⟩ ⟨_, rfl, ⟨(Ty.mono _ h1_9 hw.vis), (Ty.mono _ h1_10 hw.vis), rfl, trivial⟩⟩ ho.1)) ?_
    rintro v5 _ _ ⟨_, hR6, rfl, rfl⟩ _
    obtain ⟨vs7, rfl, hr7⟩ := hR6
    obtain ⟨v7_0, vs7_0, o7_0, ow7_0, rfl, hR7_0, hs7_0, rfl⟩ := RL_cons hr7
    obtain ⟨v7_1, vs7_1, o7_1, ow7_1, rfl, hR7_1, hs7_1, rfl⟩ := RL_cons hs7_0
    obtain ⟨v7_2, vs7_2, o7_2, ow7_2, rfl, hR7_2, hs7_2, rfl⟩ := RL_cons hs7_1
    obtain ⟨rfl, rfl⟩ := RL_nil hs7_2
    obtain ⟨A8, c8, rfl, rfl, bl8, bh8⟩ := hR7_0
    obtain ⟨A9, c9, rfl, rfl, bl9, bh9⟩ := hR7_1
    obtain ⟨rfl, rfl⟩ : v7_2 = .int .i64 ((M.turnP z.rules z.position).player) ∧ _ := hR7_2
    refine JL.q (OpP.q (p_fieldAddr fld_45_1 rfl)) ?_
    refine JL.s (e_store (i := 3) (c' := [.int .i64 z.rules.pits, .int .i64 z.rules.seeds, .bool z.rules.stores, .bool z.rules.skip, .bool z.rules.relay, .bool z.rules.feed, .bool z.rules.again, .int .i64 z.rules.capture, .int .i64 z.rules.slam, .slice A8 (((M.turnP z.rules z.position).pits).length) c8, .slice A9 (((M.turnP z.rules z.position).stores).length) c9, .int .i64 ((M.turnP z.rules z.position).player), .int .i64 z.depth, .int .i64 z.move, .int .i64 z.value, .int .i64 z.margin]) ty_33 rfl rfl rfl rfl rfl rfl rfl rfl) ?_
    rintro _ _ _ ⟨rfl, rfl⟩ _
    refine JL.nil ?_
    refine Js.seq ?_
    refine Js.region ?_
    refine JL.q (q_loadN ty_45 rfl (Mem.boxR (i := 3) rfl 0 16) rfl rfl) ?_
    refine JL.s (e_store (i := 2) (c' := [.int .i64 z.rules.pits, .int .i64 z.rules.seeds, .bool z.rules.stores, .bool z.rules.skip, .bool z.rules.relay, .bool z.rules.feed, .bool z.rules.again, .int .i64 z.rules.capture, .int .i64 z.rules.slam, .slice A8 (((M.turnP z.rules z.position).pits).length) c8, .slice A9 (((M.turnP z.rules z.position).stores).length) c9, .int .i64 ((M.turnP z.rules z.position).player), .int .i64 z.depth, .int .i64 z.move, .int .i64 z.value, .int .i64 z.margin]) ty_45 rfl rfl rfl rfl rfl rfl rfl rfl) ?_
    rintro _ _ _ ⟨rfl, rfl⟩ _
    refine JL.q (OpP.q (p_assign rfl)) ?_
    refine JL.nil ?_
    refine Js.ret (R := RO w (Ty.tup [Ty.agg (cPuzzle ((M.turnZ z).1)), Ty.int ((M.turnZ z).2)])) @Try.results37 (fun _ _ => rfl) (ResOk.cell (res_box (i := 2) ty_45 rfl rfl rfl rfl rfl) (ResOk.tmp rfl ResOk.nil)) (fun w1 hw => ?_)
    have hx := hw.ext (Up.refl _ _)
    exact ret_own (ps := [(0, (Value.ownBlock (.slice A8 (((M.turnP z.rules z.position).pits).length) c8)).toList), (1, (Value.ownBlock (.slice A9 (((M.turnP z.rules z.position).stores).length) c9)).toList)]) hw hx ⟨_, rfl, ⟨_, _, rfl, ⟨_, rfl, ⟨_, _, rfl, ⟨by first | (rw [hE]; done) | (rw [hE]; rfl), rfl⟩, ⟨_, _, rfl, ⟨by first | (rw [hE]; done) | (rw [hE]; rfl), rfl⟩, ⟨_, _, rfl, ⟨by first | (rw [hE]; done) | (rw [hE]; rfl), rfl⟩, ⟨_, _, rfl, ⟨by first | (rw [hE]; done) | (rw [hE]; rfl), rfl⟩, ⟨_, _, rfl, ⟨by first | (rw [hE]; done) | (rw [hE]; rfl), rfl⟩, ⟨_, _, rfl, ⟨by first | (rw [hE]; done) | (rw [hE]; rfl), rfl⟩, ⟨_, _, rfl, ⟨by first | (rw [hE]; done) | (rw [hE]; rfl), rfl⟩, ⟨_, _, rfl, ⟨by first | (rw [hE]; done) | (rw [hE]; rfl), rfl⟩, ⟨_, _, rfl, ⟨by first | (rw [hE]; done) | (rw [hE]; rfl), rfl⟩, ⟨_, _, rfl, (ints_row (xs := ((M.turnP z.rules z.position).pits)) (hw.pr (i := 0) rfl) (show (M.turnP z.rules z.position).pits = (((M.turnZ z).1).position).pits by first | (rw [hE]; done) | (rw [hE]; rfl))), ⟨_, _, rfl, (ints_row (xs := ((M.turnP z.rules z.position).stores)) (hw.pr (i := 1) rfl) (show (M.turnP z.rules z.position).stores = (((M.turnZ z).1).position).stores by first | (rw [hE]; done) | (rw [hE]; rfl))), ⟨_, _, rfl, ⟨by first | (rw [hE]; done) | (rw [hE]; rfl), rfl⟩, ⟨_, _, rfl, ⟨by first | (rw [hE]; done) | (rw [hE]; rfl), rfl⟩, ⟨_, _, rfl, ⟨by first | (rw [hE]; done) | (rw [hE]; rfl), rfl⟩, ⟨_, _, rfl, ⟨by first | (rw [hE]; done) | (rw [hE]; rfl), rfl⟩, ⟨_, _, rfl, ⟨by first | (rw [hE]; done) | (rw [hE]; rfl), rfl⟩, rfl⟩⟩⟩⟩⟩⟩⟩⟩⟩⟩⟩⟩⟩⟩⟩⟩⟩, ⟨_, _, rfl, ⟨by first | (rw [hE]; done) | (rw [hE]; rfl), rfl⟩, rfl⟩⟩⟩ (Pick.cons (j := 0) rfl (List.sublist_append_left _ _) rfl (Pick.cons (j := 1) rfl (List.sublist_append_left _ _) rfl Pick.nil)) (by simp [List.flatten, outV])

end Go.Proofs.Ytinkeciedmjjmaa

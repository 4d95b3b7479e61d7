/- Walks: K8. -/
import Derived.Test.YtinkeciedmjjmaaTy
import Derived.Test.YtinkeciedmjjmaaK7
import Derived.Test.YtinkeciedmjjmaaG10
set_option linter.unusedSimpArgs false
set_option linter.unusedVariables false
namespace Go.Proofs.Ytinkeciedmjjmaa
open Go.RowKit

set_option maxRecDepth 100000 in
set_option maxHeartbeats 400000 in
theorem c_spec_l00Max (a : Int) (b : Int) (w : World)  : RetV Try.prog 77 [.int .i64 a, .int .i64 b] w (.int .i64 (if a < b then b else a)) := by
  refine enter @Try.func77 @Try.ntmps77 rfl rfl ?_
  refine Js.seq ?_
  refine Js.region ?_
  refine JL.q (OpP.q (p_assign rfl)) ?_
  refine JL.nil ?_
  refine Js.seq ?_
  refine Js.seq ?_
  refine Js.region ?_
  refine JL.q (OpP.q (p_move rfl)) ?_
  refine JL.q (OpP.q (p_move rfl)) ?_
  refine JL.q (OpP.q (p_gtr rfl rfl)) ?_
  refine JL.nil ?_
  refine Js.cond rfl (fun h1 => ?_) (fun h1 => ?_)
  ·
    have h1' := h1
    try simp only [decide_eq_true_eq] at h1'
    refine Js.seq ?_
    refine Js.region ?_
    refine JL.q (OpP.q (p_move rfl)) ?_
    refine JL.q (OpP.q (p_assign rfl)) ?_
    refine JL.nil ?_
    refine Js.ret (R := RV w (.int .i64 (if a < b then b else a))) @Try.results77 (fun _ _ => rfl) (ResOk.tmp rfl ResOk.nil) (fun w1 hw => ?_)
    refine ⟨?_, hw.ext (Up.refl _ _)⟩
    first | (rw [if_pos (by assumption)]; rfl) | (rw [if_neg (by assumption)]; rfl) | (simp only [outV]; split <;> simp_all <;> omega)
  ·
    have h1' := h1
    try simp only [decide_eq_false_iff_not, Int.not_lt] at h1'
    refine Js.skip ?_
    refine Js.seq ?_
    refine Js.region ?_
    refine JL.q (OpP.q (p_move rfl)) ?_
    refine JL.q (OpP.q (p_assign rfl)) ?_
    refine JL.nil ?_
    refine Js.ret (R := RV w (.int .i64 (if a < b then b else a))) @Try.results77 (fun _ _ => rfl) (ResOk.tmp rfl ResOk.nil) (fun w1 hw => ?_)
    refine ⟨?_, hw.ext (Up.refl _ _)⟩
    first | (rw [if_pos (by assumption)]; rfl) | (rw [if_neg (by assumption)]; rfl) | (simp only [outV]; split <;> simp_all <;> omega)

set_option maxRecDepth 100000 in
set_option maxHeartbeats 1000000 in
theorem c_spec_l21Of (r : M.Rul) (v_r : Value) (p : M.Pos) (v_p : Value) (depth : Int) (w : World) (h_r : (Ty.ref (cRules r)).ok w v_r) (h_p : (Ty.ref (cPosition p)).ok w v_p) (r0 : p.pits.length ≤ 4194304) (r1 : p.stores.length ≤ 4194304) : Ret Try.prog 52 [v_r, v_p, .int .i64 depth] w (Ty.tup [Ty.agg (cPuzzle ((M.puz r p depth).1)), Ty.int ((M.puz r p depth).2)]) := by
  obtain ⟨b1, o1, rfl, hr1⟩ := ref_Rules h_r
  obtain ⟨b2, o2, A2_0, c2_0, A2_1, c2_1, rfl, hr2, h2_0, h2_1, bl2_0, bh2_0, bl2_1, bh2_1⟩ := ref_Position h_p
  refine enter @Try.func52 @Try.ntmps52 rfl rfl ?_
  refine Js.seq ?_
  refine Js.region ?_
  refine JL.e (e_alloc zero_45) ?_
  rintro _ _ _ ⟨b3, rfl, rfl, rfl⟩ _
  refine JL.q (OpP.q (p_assign rfl)) ?_
  refine JL.nil ?_
  refine Js.seq ?_
  refine Js.region ?_
  refine JL.q (OpP.q (p_move rfl)) ?_
  refine JL.q (OpP.q (p_move rfl)) ?_
  refine JL.q (OpP.q (p_move rfl)) ?_
  refine JL.e (e_callP fn_41 rfl (fun w hw => c_spec_l15Options r _ p _ depth w ⟨_, _, [.int .i64 r.pits, .int .i64 r.seeds, .bool r.stores, .bool r.skip, .bool r.relay, .bool r.feed, .bool r.again, .int .i64 r.capture, .int .i64 r.slam], rfl, ⟨rfl, rfl, rfl, rfl, rfl, rfl, rfl, rfl, rfl, trivial⟩, (hr1.vis hw.vis)⟩ ⟨_, _, [.slice A2_0 p.pits.length c2_0, .slice A2_1 p.stores.length c2_1, .int .i64 p.player], rfl, ⟨(Ty.mono _ h2_0 hw.vis), (Ty.mono _ h2_1 hw.vis), rfl, trivial⟩, (hr2.vis hw.vis)⟩ (by omega) (by omega))) ?_
  rintro v4 _ u6 ⟨h5, rfl⟩ x6
  obtain ⟨vs7, rfl, hv7⟩ := h5
  obtain ⟨v7_0, vs7, rfl, hw7_0, hv7⟩ := cellsOk_cons hv7
  obtain ⟨v7_1, vs7, rfl, hw7_1, hv7⟩ := cellsOk_cons hv7
  obtain rfl := cellsOk_nil hv7
  obtain ⟨A8, c8, rfl, bl8, bh8⟩ := sl_form hw7_0
  obtain rfl : v7_1 = .int .i64 (M.optsC r p depth) := hw7_1
  refine JL.q (OpP.q (p_move rfl)) ?_
  refine JL.q (OpP.q (p_extract rfl rfl)) ?_
  refine JL.q (OpP.q (p_extract rfl rfl)) ?_
  refine JL.q (OpP.q (p_assign rfl)) ?_
  refine JL.q (OpP.q (p_assign rfl)) ?_
  refine JL.nil ?_
  refine Js.seq ?_
  refine Js.seq ?_
  refine Js.region ?_
  refine JL.q (OpP.q (p_move rfl)) ?_
  refine JL.q (OpP.q (p_neq rfl rfl)) ?_
  refine JL.nil ?_
  refine Js.cond rfl (fun h9 => ?_) (fun h9 => ?_)
  ·
    have h9' := h9
    try simp only [Bool.not_eq_true', decide_eq_false_iff_not] at h9'
    have hE := M.puz_c (r := r) (p := p) (depth := depth) (by simpa using h9)
    refine Js.seq ?_
    refine Js.region ?_
    refine JL.q (OpP.q (p_build zero_45 flds_45 rfl rfl)) ?_
    refine JL.q (OpP.q (p_move rfl)) ?_
    refine JL.s (e_store (i := 0) (c' := [.int .i64 0, .int .i64 0, .bool false, .bool false, .bool false, .bool false, .bool false, .int .i64 0, .int .i64 0, .slice none 0 0, .slice none 0 0, .int .i64 0, .int .i64 0, .int .i64 0, .int .i64 0, .int .i64 0]) ty_45 rfl rfl rfl rfl rfl rfl rfl rfl) ?_
    rintro _ _ _ ⟨rfl, rfl⟩ _
    refine JL.q (OpP.q (p_assign rfl)) ?_
    refine JL.nil ?_
    refine Js.ret (R := RO w (Ty.tup [Ty.agg (cPuzzle ((M.puz r p depth).1)), Ty.int ((M.puz r p depth).2)])) @Try.results52 (fun _ _ => rfl) (ResOk.cell (res_box (i := 0) ty_45 rfl rfl rfl rfl rfl) (ResOk.tmp rfl ResOk.nil)) (fun w1 hw => ?_)
    have hx := hw.ext (x6)
    exact ret_own (ps := []) hw hx ⟨_, rfl, ⟨_, _, rfl, ⟨_, rfl, ⟨_, _, rfl, ⟨by first | (rw [hE]; done) | (rw [hE]; rfl), rfl⟩, ⟨_, _, rfl, ⟨by first | (rw [hE]; done) | (rw [hE]; rfl), rfl⟩, ⟨_, _, rfl, ⟨by first | (rw [hE]; done) | (rw [hE]; rfl), rfl⟩, ⟨_, _, rfl, ⟨by first | (rw [hE]; done) | (rw [hE]; rfl), rfl⟩, ⟨_, _, rfl, ⟨by first | (rw [hE]; done) | (rw [hE]; rfl), rfl⟩, ⟨_, _, rfl, ⟨by first | (rw [hE]; done) | (rw [hE]; rfl), rfl⟩, ⟨_, _, rfl, ⟨by first | (rw [hE]; done) | (rw [hE]; rfl), rfl⟩, ⟨_, _, rfl, ⟨by first | (rw [hE]; done) | (rw [hE]; rfl), rfl⟩, ⟨_, _, rfl, ⟨by first | (rw [hE]; done) | (rw [hE]; rfl), rfl⟩, ⟨_, _, rfl, (ints_cast (show [] = (((M.puz r p depth).1).position).pits by first | (rw [hE]; done) | (rw [hE]; rfl)) nil_own), ⟨_, _, rfl, (ints_cast (show [] = (((M.puz r p depth).1).position).stores by first | (rw [hE]; done) | (rw [hE]; rfl)) nil_own), ⟨_, _, rfl, ⟨by first | (rw [hE]; done) | (rw [hE]; rfl), rfl⟩, ⟨_, _, rfl, ⟨by first | (rw [hE]; done) | (rw [hE]; rfl), rfl⟩, ⟨_, _, rfl, ⟨by first | (rw [hE]; done) | (rw [hE]; rfl), rfl⟩, ⟨_, _, rfl, ⟨by first | (rw [hE]; done) | (rw [hE]; rfl), rfl⟩, ⟨_, _, rfl, ⟨by first | (rw [hE]; done) | (rw [hE]; rfl), rfl⟩, rfl⟩⟩⟩⟩⟩⟩⟩⟩⟩⟩⟩⟩⟩⟩⟩⟩⟩, ⟨_, _, rfl, ⟨by first | (rw [hE]; done) | (rw [hE]; rfl), rfl⟩, rfl⟩⟩⟩ Pick.nil (by simp [List.flatten, outV])
  ·
    have h9' := h9
    try simp only [Bool.not_eq_false', decide_eq_true_eq] at h9'
    have hz : M.optsC r p depth = 0 := by simpa using h9
    have ho := M.optsC_ok hz
    have hR := M.optsR_yes hz
    have hrl := M.optsR_len r p depth
    have hol := M.opts_len r p depth
    have g8 := M.results_8 ho.1
    have hOb : ∀ x ∈ (M.optsR r p depth), -2000 ≤ x.value ∧ x.value ≤ 2000 := by rw [hR]; exact fun x hx => M.opts_bd ho.1 (by omega) ho.2.2.1 hx
    refine Js.skip ?_
    refine Js.seq ?_
    refine Js.seq ?_
    refine Js.region ?_
    refine JL.q (OpP.q (p_move rfl)) ?_
    refine JL.q (OpP.q (p_len el_28 rfl)) ?_
    refine JL.q (OpP.q (p_lss rfl rfl)) ?_
    refine JL.nil ?_
    refine Js.cond rfl (fun h10 => ?_) (fun h10 => ?_)
    ·
      have h10' := h10
      try simp only [decide_eq_true_eq] at h10'
      have hE := M.puz_2 hz (by rw [← hR]; have := h10'; omega)
      refine Js.seq ?_
      refine Js.region ?_
      refine JL.q (OpP.q (p_build zero_45 flds_45 rfl rfl)) ?_
      refine JL.s (e_store (i := 0) (c' := [.int .i64 0, .int .i64 0, .bool false, .bool false, .bool false, .bool false, .bool false, .int .i64 0, .int .i64 0, .slice none 0 0, .slice none 0 0, .int .i64 0, .int .i64 0, .int .i64 0, .int .i64 0, .int .i64 0]) ty_45 rfl rfl rfl rfl rfl rfl rfl rfl) ?_
      rintro _ _ _ ⟨rfl, rfl⟩ _
      refine JL.q (OpP.q (p_assign rfl)) ?_
      refine JL.nil ?_
      refine Js.ret (R := RO w (Ty.tup [Ty.agg (cPuzzle ((M.puz r p depth).1)), Ty.int ((M.puz r p depth).2)])) @Try.results52 (fun _ _ => rfl) (ResOk.cell (res_box (i := 0) ty_45 rfl rfl rfl rfl rfl) (ResOk.tmp rfl ResOk.nil)) (fun w1 hw => ?_)
      have hx := hw.ext (x6)
      exact ret_own (ps := []) hw hx ⟨_, rfl, ⟨_, _, rfl, ⟨_, rfl, ⟨_, _, rfl, ⟨by first | (rw [hE]; done) | (rw [hE]; rfl), rfl⟩, ⟨_, _, rfl, ⟨by first | (rw [hE]; done) | (rw [hE]; rfl), rfl⟩, ⟨_, _, rfl, ⟨by first | (rw [hE]; done) | (rw [hE]; rfl), rfl⟩, ⟨_, _, rfl, ⟨by first | (rw [hE]; done) | (rw [hE]; rfl), rfl⟩, ⟨_, _, rfl, ⟨by first | (rw [hE]; done) | (rw [hE]; rfl), rfl⟩, ⟨_, _, rfl, ⟨by first | (rw [hE]; done) | (rw [hE]; rfl), rfl⟩, ⟨_, _, rfl, ⟨by first | (rw [hE]; done) | (rw [hE]; rfl), rfl⟩, ⟨_, _, rfl, ⟨by first | (rw [hE]; done) | (rw [hE]; rfl), rfl⟩, ⟨_, _, rfl, ⟨by first | (rw [hE]; done) | (rw [hE]; rfl), rfl⟩, ⟨_, _, rfl, (ints_cast (show [] = (((M.puz r p depth).1).position).pits by first | (rw [hE]; done) | (rw [hE]; rfl)) nil_own), ⟨_, _, rfl, (ints_cast (show [] = (((M.puz r p depth).1).position).stores by first | (rw [hE]; done) | (rw [hE]; rfl)) nil_own), ⟨_, _, rfl, ⟨by first | (rw [hE]; done) | (rw [hE]; rfl), rfl⟩, ⟨_, _, rfl, ⟨by first | (rw [hE]; done) | (rw [hE]; rfl), rfl⟩, ⟨_, _, rfl, ⟨by first | (rw [hE]; done) | (rw [hE]; rfl), rfl⟩, ⟨_, _, rfl, ⟨by first | (rw [hE]; done) | (rw [hE]; rfl), rfl⟩, ⟨_, _, rfl, ⟨by first | (rw [hE]; done) | (rw [hE]; rfl), rfl⟩, rfl⟩⟩⟩⟩⟩⟩⟩⟩⟩⟩⟩⟩⟩⟩⟩⟩⟩, ⟨_, _, rfl, ⟨by first | (rw [hE]; done) | (rw [hE]; rfl), rfl⟩, rfl⟩⟩⟩ Pick.nil (by simp [List.flatten, outV])
    ·
      have h10' := h10
      try simp only [decide_eq_false_iff_not, Int.not_lt] at h10'
      have h2 : ¬ (M.optsR r p depth).length < 2 := by have := h10'; omega
      have hbb := hOb _ (M.bOpt_mem (l := (M.optsR r p depth)) (by omega))
      refine Js.skip ?_
      refine Js.seq ?_
      refine Js.region ?_
      refine JL.q (OpP.q (p_move rfl)) ?_
      refine JL.e (e_callP fn_47 rfl (fun w hw => c_spec_l15First (M.optsR r p depth) _ w (Ty.mono _ hw7_0 hw.vis) (by omega) (by omega))) ?_
      rintro v11 _ u13 ⟨h12, rfl⟩ x13
      obtain rfl := open_Option h12
      refine JL.e (e_alloc zero_69) ?_
      rintro _ _ _ ⟨b15, rfl, rfl, rfl⟩ _
      refine JL.s (e_store (i := 0) (c' := [.int .i64 ((M.bOpt (M.optsR r p depth)).move), .int .i64 ((M.bOpt (M.optsR r p depth)).value)]) ty_69 rfl rfl rfl rfl rfl rfl rfl rfl) ?_
      rintro _ _ _ ⟨rfl, rfl⟩ _
      refine JL.nil ?_
      refine Js.seq ?_
      refine Js.region ?_
      refine JL.q (OpP.q (p_assign rfl)) ?_
      refine JL.nil ?_
      refine Js.seq ?_
      refine Js.seq ?_
      refine Js.region ?_
      refine JL.q (OpP.q (p_assign rfl)) ?_
      refine JL.nil ?_
      refine Js.block ?_
      refine Js.loop (fun l os u m => ∃ (k : Nat) (s : Int), l = [(0, .pointer (some ⟨b1, o1, none⟩)), (1, .pointer (some ⟨b2, o2, none⟩)), (2, .int .i64 depth), (6, .pointer (some ⟨b3, 0, none⟩)), (8, .slice A8 ((M.optsR r p depth).length) c8), (10, .pointer (some ⟨b15, 0, none⟩)), (11, .int .i64 s), (12, .int .i64 (k : Int))] ∧ os = [boxO b15 [.int .i64 ((M.bOpt (M.optsR r p depth)).move), .int .i64 ((M.bOpt (M.optsR r p depth)).value)] 69, boxO b3 [.int .i64 0, .int .i64 0, .bool false, .bool false, .bool false, .bool false, .bool false, .int .i64 0, .int .i64 0, .slice none 0 0, .slice none 0 0, .int .i64 0, .int .i64 0, .int .i64 0, .int .i64 0, .int .i64 0] 45] ∧ Up w.heap.size u13 u ∧ (M.second (M.bOpt (M.optsR r p depth)).move s ((M.optsR r p depth).drop k) = M.second (M.bOpt (M.optsR r p depth)).move (-1000) (M.optsR r p depth)) ∧ (-2000 ≤ s) ∧ (s ≤ 2000) ∧ (k ≤ (M.optsR r p depth).length) ∧ m = (M.optsR r p depth).length - k) ⟨0, (-1000), rfl, rfl, Up.refl _ _, by rfl, by first | assumption | omega | rfl | (simp; done), by first | assumption | omega | rfl | (simp; done), by first | assumption | omega | rfl | (simp; done), rfl⟩ ⟨rfl, rfl, rfl, rfl, rfl, rfl, rfl, rfl, trivial⟩ ?_
      · rintro _ _ u16 _ ⟨k, s, rfl, rfl, x16, hS, s0, s1, hk, rfl⟩
        refine Js.seq ?_
        refine Js.seq ?_
        refine Js.region ?_
        refine JL.q (OpP.q (p_move rfl)) ?_
        refine JL.q (OpP.q (p_move rfl)) ?_
        refine JL.q (OpP.q (p_len el_28 rfl)) ?_
        refine JL.q (OpP.q (p_lss rfl rfl)) ?_
        refine JL.nil ?_
        refine Js.cond rfl (fun h17 => ?_) (fun h17 => ?_)
        ·
          have h17' := h17
          try simp only [decide_eq_true_eq] at h17'
          refine Js.skip ?_
          refine Js.seq ?_
          refine Js.block ?_
          refine Js.seq ?_
          obtain ⟨y18, hy18⟩ : ∃ x, (M.optsR r p depth)[k]? = some x := ⟨_, List.getElem?_eq_getElem (by omega)⟩
          refine Js.drawn _ [] mixed_ (fun _ h => h) ?_
          refine JH.p 0 rfl (p_move rfl) ?_
          refine JH.p 1 rfl (p_move rfl) ?_
          have hy19 := hy18
          obtain ⟨b19, o19, he19, hr19⟩ := elem_Option (Ty.mono _ hw7_0 (x13.vis.trans x16.vis)) hy19
          refine JH.p 2 rfl (p_indexAddr el_28 rfl rfl (by omega) (by omega) he19) ?_
          refine JH.p 3 rfl (p_fieldAddr fld_69_0 rfl) ?_
          refine JH.w 4 rfl (fun os' u' hv => q_load1 ty_2 rfl (Mem.pub ((hr19.vis hv) 0 _ rfl))) ?_
          refine JH.p 5 rfl (p_fieldAddr fld_69_0 rfl) ?_
          refine JH.q 6 rfl (q_load1 ty_2 rfl (Mem.box (i := 0) rfl rfl)) ?_
          refine JH.p 7 rfl (p_neq rfl rfl) ?_
          refine JH.done (by kernel_rfl) ?_
          refine Js.cond rfl (fun h20 => ?_) (fun h20 => ?_)
          ·
            have h20' := h20
            try simp only [Bool.not_eq_true', decide_eq_false_iff_not] at h20'
            have hob := hOb _ (List.mem_of_getElem? hy18)
            have hS2 := M.second_s hS hy18
            rw [if_neg (by simpa using h20)] at hS2
            refine Js.region ?_
            refine JL.q (OpP.q (p_move rfl)) ?_
            refine JL.q (OpP.q (p_move rfl)) ?_
            refine JL.q (OpP.q (p_move rfl)) ?_
            have hy21 := hy18
            obtain ⟨b21, o21, he21, hr21⟩ := elem_Option (Ty.mono _ hw7_0 (x13.vis.trans x16.vis)) hy21
            refine JL.q (OpP.q (p_indexAddr el_28 rfl rfl (by omega) (by omega) he21)) ?_
            refine JL.q (OpP.q (p_fieldAddr fld_69_1 rfl)) ?_
            refine JL.q (q_load1 ty_2 rfl (Mem.pub (hr21 1 _ rfl))) ?_
            refine JL.e (e_callV fn_77 rfl (fun w hw => c_spec_l00Max s y18.value w)) ?_
            rintro _ _ _ ⟨rfl, rfl, rfl⟩ _
            refine JL.q (OpP.q (p_assign rfl)) ?_
            refine JL.nil ?_
            refine Js.blockEnd ?_
            refine Js.region ?_
            refine JL.q (OpP.q (p_move rfl)) ?_
            refine JL.q (OpP.q (p_add rfl rfl (IntWalk.i64_in _ (by omega)))) ?_
            refine JL.q (OpP.q (p_assign rfl)) ?_
            refine JL.nil ?_
            exact Js.again ⟨k + 1, if s < y18.value then y18.value else s, rfl, rfl, x16, by exact hS2, by first | omega | (split <;> omega), by first | omega | (split <;> omega), by first | assumption | omega | rfl | (simp; done), rfl⟩ (by omega) ⟨rfl, rfl, rfl, rfl, rfl, rfl, rfl, rfl, trivial⟩
          ·
            have h20' := h20
            try simp only [Bool.not_eq_false', decide_eq_true_eq] at h20'
            have hS2 := M.second_s hS hy18
            rw [if_pos (by simpa using h20)] at hS2
            refine Js.skip ?_
            refine Js.blockEnd ?_
            refine Js.region ?_
            refine JL.q (OpP.q (p_move rfl)) ?_
            refine JL.q (OpP.q (p_add rfl rfl (IntWalk.i64_in _ (by omega)))) ?_
            refine JL.q (OpP.q (p_assign rfl)) ?_
            refine JL.nil ?_
            exact Js.again ⟨k + 1, s, rfl, rfl, x16, by exact hS2, by first | omega | (split <;> omega), by first | omega | (split <;> omega), by first | assumption | omega | rfl | (simp; done), rfl⟩ (by omega) ⟨rfl, rfl, rfl, rfl, rfl, rfl, rfl, rfl, trivial⟩
        ·
          have h17' := h17
          try simp only [decide_eq_false_iff_not, Int.not_lt] at h17'
          have hS3 := M.second_e hS (by have := h17'; omega)
          refine Js.exit (fun _ _ => rfl) ?_
          refine Js.seq ?_
          refine Js.seq ?_
          refine Js.region ?_
          refine JL.q (OpP.q (p_move rfl)) ?_
          refine JL.q (OpP.q (p_fieldAddr fld_69_1 rfl)) ?_
          refine JL.q (q_load1 ty_2 rfl (Mem.box (i := 0) rfl rfl)) ?_
          refine JL.q (OpP.q (p_eql rfl rfl)) ?_
          refine JL.nil ?_
          refine Js.cond rfl (fun h22 => ?_) (fun h22 => ?_)
          ·
            have h22' := h22
            try simp only [decide_eq_true_eq] at h22'
            have hE := M.puz_6 hz (by rw [← hR]; exact h2) (by rw [← hR, ← hS3]; simpa using h22)
            refine Js.seq ?_
            refine Js.region ?_
            refine JL.q (OpP.q (p_build zero_45 flds_45 rfl rfl)) ?_
            refine JL.s (e_store (i := 1) (c' := [.int .i64 0, .int .i64 0, .bool false, .bool false, .bool false, .bool false, .bool false, .int .i64 0, .int .i64 0, .slice none 0 0, .slice none 0 0, .int .i64 0, .int .i64 0, .int .i64 0, .int .i64 0, .int .i64 0]) ty_45 rfl rfl rfl rfl rfl rfl rfl rfl) ?_
            rintro _ _ _ ⟨rfl, rfl⟩ _
            refine JL.q (OpP.q (p_assign rfl)) ?_
            refine JL.nil ?_
            refine Js.ret (R := RO w (Ty.tup [Ty.agg (cPuzzle ((M.puz r p depth).1)), Ty.int ((M.puz r p depth).2)])) @Try.results52 (fun _ _ => rfl) (ResOk.cell (res_box (i := 1) ty_45 rfl rfl rfl rfl rfl) (ResOk.tmp rfl ResOk.nil)) (fun w1 hw => ?_)
            have hx := hw.ext (((x6.trans x13).trans x16))
            exact ret_own (ps := []) hw hx ⟨_, rfl, ⟨_, _, rfl, ⟨_, rfl, ⟨_, _, rfl, ⟨by first | (rw [hE]; done) | (rw [hE]; rfl), rfl⟩, ⟨_, _, rfl, ⟨by first | (rw [hE]; done) | (rw [hE]; rfl), rfl⟩, ⟨_, _, rfl, ⟨by first | (rw [hE]; done) | (rw [hE]; rfl), rfl⟩, ⟨_, _, rfl, ⟨by first | (rw [hE]; done) | (rw [hE]; rfl), rfl⟩, ⟨_, _, rfl, ⟨by first | (rw [hE]; done) | (rw [hE]; rfl), rfl⟩, ⟨_, _, rfl, ⟨by first | (rw [hE]; done) | (rw [hE]; rfl), rfl⟩, ⟨_, _, rfl, ⟨by first | (rw [hE]; done) | (rw [hE]; rfl), rfl⟩, ⟨_, _, rfl, ⟨by first | (rw [hE]; done) | (rw [hE]; rfl), rfl⟩, ⟨_, _, rfl, ⟨by first | (rw [hE]; done) | (rw [hE]; rfl), rfl⟩, ⟨_, _, rfl, (ints_cast (show [] = (((M.puz r p depth).1).position).pits by first | (rw [hE]; done) | (rw [hE]; rfl)) nil_own), ⟨_, _, rfl, (ints_cast (show [] = (((M.puz r p depth).1).position).stores by first | (rw [hE]; done) | (rw [hE]; rfl)) nil_own), ⟨_, _, rfl, ⟨by first | (rw [hE]; done) | (rw [hE]; rfl), rfl⟩, ⟨_, _, rfl, ⟨by first | (rw [hE]; done) | (rw [hE]; rfl), rfl⟩, ⟨_, _, rfl, ⟨by first | (rw [hE]; done) | (rw [hE]; rfl), rfl⟩, ⟨_, _, rfl, ⟨by first | (rw [hE]; done) | (rw [hE]; rfl), rfl⟩, ⟨_, _, rfl, ⟨by first | (rw [hE]; done) | (rw [hE]; rfl), rfl⟩, rfl⟩⟩⟩⟩⟩⟩⟩⟩⟩⟩⟩⟩⟩⟩⟩⟩⟩, ⟨_, _, rfl, ⟨by first | (rw [hE]; done) | (rw [hE]; rfl), rfl⟩, rfl⟩⟩⟩ Pick.nil (by simp [List.flatten, outV])
          ·
            have h22' := h22
            try simp only [decide_eq_false_iff_not] at h22'
            have hE := M.puz_0 hz (by rw [← hR]; exact h2) (by rw [← hR, ← hS3]; simpa using h22)
            rw [← hR, ← hS3] at hE
            refine Js.skip ?_
            refine Js.seq ?_
            refine Js.drawn _ [15] mixed_ (fun _ h => h) ?_
            refine JH.p 0 rfl (p_move rfl) ?_
            refine JH.p 1 rfl (p_nilCheck rfl) ?_
            refine JH.w 2 rfl (fun os' u' hv => q_loadN ty_31 rfl (Mem.pubR ((hr1.vis (((x6.vis.trans x13.vis).trans x16.vis).trans hv)).sub 0 9)) rfl rfl) ?_
            refine JH.p 3 rfl (p_move rfl) ?_
            refine JH.p 5 rfl (p_move rfl) ?_
            refine JH.p 6 rfl (p_fieldAddr fld_69_0 rfl) ?_
            refine JH.q 7 rfl (q_load1 ty_2 rfl (Mem.box (i := 0) rfl rfl)) ?_
            refine JH.p 8 rfl (p_fieldAddr fld_69_1 rfl) ?_
            refine JH.q 9 rfl (q_load1 ty_2 rfl (Mem.box (i := 0) rfl rfl)) ?_
            refine JH.p 10 rfl (p_fieldAddr fld_69_1 rfl) ?_
            refine JH.q 11 rfl (q_load1 ty_2 rfl (Mem.box (i := 0) rfl rfl)) ?_
            refine JH.p 12 rfl (p_move rfl) ?_
            refine JH.p 13 rfl (p_sub rfl rfl (IntWalk.i64_in _ (by omega))) ?_
            refine JH.one (i := 4) (by kernel_rfl) ?_
            refine JHo.e rfl (e_callO fn_78 rfl (Spl.agg (Spls.cons (Spl.ints _ _) (Spls.cons (Spl.ints _ _) (Spls.cons (Spl.val _) Spls.nil)))) (fun w hw => c_spec_l04Own p _ w ⟨_, _, [.slice A2_0 p.pits.length c2_0, .slice A2_1 p.stores.length c2_1, .int .i64 p.player], rfl, ⟨(Ty.mono _ h2_0 (((x6.vis.trans x13.vis).trans x16.vis).trans hw.vis)), (Ty.mono _ h2_1 (((x6.vis.trans x13.vis).trans x16.vis).trans hw.vis)), rfl, trivial⟩, (hr2.vis (((x6.vis.trans x13.vis).trans x16.vis).trans hw.vis))⟩ (by omega) (by omega))) (.inl rfl) ?_
            rintro v23 _ _ ⟨_, hR24, rfl, rfl⟩ _
            obtain ⟨vs25, rfl, hr25⟩ := hR24
            obtain ⟨v25_0, vs25_0, o25_0, ow25_0, rfl, hR25_0, hs25_0, rfl⟩ := RL_cons hr25
            obtain ⟨v25_1, vs25_1, o25_1, ow25_1, rfl, hR25_1, hs25_1, rfl⟩ := RL_cons hs25_0
            obtain ⟨v25_2, vs25_2, o25_2, ow25_2, rfl, hR25_2, hs25_2, rfl⟩ := RL_cons hs25_1
            obtain ⟨rfl, rfl⟩ := RL_nil hs25_2
            obtain ⟨A26, c26, rfl, rfl, bl26, bh26⟩ := hR25_0
            obtain ⟨A27, c27, rfl, rfl, bl27, bh27⟩ := hR25_1
            obtain ⟨rfl, rfl⟩ : v25_2 = .int .i64 p.player ∧ _ := hR25_2
            refine JH.p 14 rfl (p_build zero_45 flds_45 rfl rfl) ?_
            refine JH.one (i := 15) (by kernel_rfl) ?_
            refine JHo.s rfl (e_store (i := 3) (c' := [.int .i64 r.pits, .int .i64 r.seeds, .bool r.stores, .bool r.skip, .bool r.relay, .bool r.feed, .bool r.again, .int .i64 r.capture, .int .i64 r.slam, .slice A26 p.pits.length c26, .slice A27 p.stores.length c27, .int .i64 p.player, .int .i64 depth, .int .i64 ((M.bOpt (M.optsR r p depth)).move), .int .i64 ((M.bOpt (M.optsR r p depth)).value), .int .i64 (((M.bOpt (M.optsR r p depth)).value) - s)]) ty_45 rfl rfl rfl rfl rfl rfl rfl rfl) (.inr rfl) ?_
            rintro _ _ _ ⟨rfl, rfl⟩ _
            refine JH.p 16 rfl (p_assign rfl) ?_
            refine JH.done (by kernel_rfl) ?_
            refine Js.ret (R := RO w (Ty.tup [Ty.agg (cPuzzle ((M.puz r p depth).1)), Ty.int ((M.puz r p depth).2)])) @Try.results52 (fun _ _ => rfl) (ResOk.cell (res_box (i := 3) ty_45 rfl rfl rfl rfl rfl) (ResOk.tmp rfl ResOk.nil)) (fun w1 hw => ?_)
            have hx := hw.ext (((x6.trans x13).trans x16))
            exact ret_own (ps := [(0, (Value.ownBlock (.slice A26 p.pits.length c26)).toList), (1, (Value.ownBlock (.slice A27 p.stores.length c27)).toList)]) hw hx ⟨_, rfl, ⟨_, _, rfl, ⟨_, rfl, ⟨_, _, rfl, ⟨by first | (rw [hE]; done) | (rw [hE]; rfl), rfl⟩, ⟨_, _, rfl, ⟨by first | (rw [hE]; done) | (rw [hE]; rfl), rfl⟩, ⟨_, _, rfl, ⟨by first | (rw [hE]; done) | (rw [hE]; rfl), rfl⟩, ⟨_, _, rfl, ⟨by first | (rw [hE]; done) | (rw [hE]; rfl), rfl⟩, ⟨_, _, rfl, ⟨by first | (rw [hE]; done) | (rw [hE]; rfl), rfl⟩, ⟨_, _, rfl, ⟨by first | (rw [hE]; done) | (rw [hE]; rfl), rfl⟩, ⟨_, _, rfl, ⟨by first | (rw [hE]; done) | (rw [hE]; rfl), rfl⟩, ⟨_, _, rfl, ⟨by first | (rw [hE]; done) | (rw [hE]; rfl), rfl⟩, ⟨_, _, rfl, ⟨by first | (rw [hE]; done) | (rw [hE]; rfl), rfl⟩, ⟨_, _, rfl, (ints_row (xs := p.pits) (hw.pr (i := 0) rfl) (show p.pits = (((M.puz r p depth).1).position).pits by first | (rw [hE]; done) | (rw [hE]; rfl))), ⟨_, _, rfl, (ints_row (xs := p.stores) (hw.pr (i := 1) rfl) (show p.stores = (((M.puz r p depth).1).position).stores by first | (rw [hE]; done) | (rw [hE]; rfl))), ⟨_, _, rfl, ⟨by first | (rw [hE]; done) | (rw [hE]; rfl), rfl⟩, ⟨_, _, rfl, ⟨by first | (rw [hE]; done) | (rw [hE]; rfl), rfl⟩, ⟨_, _, rfl, ⟨by first | (rw [hE]; done) | (rw [hE]; rfl), rfl⟩, ⟨_, _, rfl, ⟨by first | (rw [hE]; done) | (rw [hE]; rfl), rfl⟩, ⟨_, _, rfl, ⟨by first | (rw [hE]; done) | (rw [hE]; rfl), rfl⟩, rfl⟩⟩⟩⟩⟩⟩⟩⟩⟩⟩⟩⟩⟩⟩⟩⟩⟩, ⟨_, _, rfl, ⟨by first | (rw [hE]; done) | (rw [hE]; rfl), rfl⟩, rfl⟩⟩⟩ (Pick.cons (j := 0) rfl (List.sublist_append_left _ _) rfl (Pick.cons (j := 1) rfl (List.sublist_append_left _ _) rfl Pick.nil)) (by simp [List.flatten, outV])

set_option maxRecDepth 100000 in
set_option maxHeartbeats 400000 in
theorem c_spec_PuzzleOf (r : M.Rul) (v_r : Value) (p : M.Pos) (v_p : Value) (depth : Int) (w : World) (h_r : (Ty.agg (cRules r)).ok w v_r) (h_p : (Ty.agg (cPosition p)).ok w v_p) (r0 : p.pits.length ≤ 4194304) (r1 : p.stores.length ≤ 4194304) : Ret Try.prog 25 [v_r, v_p, .int .i64 depth] w (Ty.tup [Ty.agg (cPuzzle ((M.puz r p depth).1)), Ty.int ((M.puz r p depth).2)]) := by
  obtain rfl := open_Rules h_r
  obtain ⟨A2_0, c2_0, A2_1, c2_1, rfl, h2_0, h2_1, bl2_0, bh2_0, bl2_1, bh2_1⟩ := open_Position h_p
  refine enter @Try.func25 @Try.ntmps25 rfl rfl ?_
  refine Js.seq ?_
  refine Js.region ?_
  refine JL.e (e_box (c := [.int .i64 r.pits, .int .i64 r.seeds, .bool r.stores, .bool r.skip, .bool r.relay, .bool r.feed, .bool r.again, .int .i64 r.capture, .int .i64 r.slam]) rfl rfl) ?_
  rintro _ _ _ ⟨b3, rfl, rfl, rfl⟩ _
  refine JL.e (e_box (c := [.slice A2_0 p.pits.length c2_0, .slice A2_1 p.stores.length c2_1, .int .i64 p.player]) rfl rfl) ?_
  rintro _ _ _ ⟨b4, rfl, rfl, rfl⟩ _
  refine JL.e (e_alloc zero_45) ?_
  rintro _ _ _ ⟨b5, rfl, rfl, rfl⟩ _
  refine JL.q (OpP.q (p_assign rfl)) ?_
  refine JL.nil ?_
  refine Js.seq ?_
  refine Js.region ?_
  refine JL.q (OpP.q (p_move rfl)) ?_
  refine JL.e (e_callO fn_52 rfl (Spl.tup (Spls.cons (Spl_Puzzle _) (Spls.cons (Spl.val _) Spls.nil))) (fun w hw => c_spec_l21Of r _ p _ depth w ⟨_, _, [.int .i64 r.pits, .int .i64 r.seeds, .bool r.stores, .bool r.skip, .bool r.relay, .bool r.feed, .bool r.again, .int .i64 r.capture, .int .i64 r.slam], rfl, ⟨rfl, rfl, rfl, rfl, rfl, rfl, rfl, rfl, rfl, trivial⟩, Mem.boxR (i := 2) rfl 0 9 w hw⟩ ⟨_, _, [.slice A2_0 p.pits.length c2_0, .slice A2_1 p.stores.length c2_1, .int .i64 p.player], rfl, ⟨(Ty.mono _ h2_0 hw.vis), (Ty.mono _ h2_1 hw.vis), rfl, trivial⟩, Mem.boxR (i := 1) rfl 0 3 w hw⟩ (by omega) (by omega))) ?_
  rintro v6 _ _ ⟨_, hR7, rfl, rfl⟩ _
  obtain ⟨vs8, rfl, hr8⟩ := hR7
  obtain ⟨v8_0, vs8_0, o8_0, ow8_0, rfl, hR8_0, hs8_0, rfl⟩ := RL_cons hr8
  obtain ⟨v8_1, vs8_1, o8_1, ow8_1, rfl, hR8_1, hs8_1, rfl⟩ := RL_cons hs8_0
  obtain ⟨rfl, rfl⟩ := RL_nil hs8_1
  obtain ⟨A9_9, c9_9, A9_10, c9_10, f9, rfl, rfl, bl9_9, bh9_9, bl9_10, bh9_10⟩ := hR8_0
  obtain ⟨rfl, rfl⟩ : v8_1 = .int .i64 ((M.puz r p depth).2) ∧ _ := hR8_1
  refine JL.q (OpP.q (p_extract rfl rfl)) ?_
  refine JL.q (OpP.q (p_extract rfl rfl)) ?_
  refine JL.s (e_store (i := 1) (c' := [.int .i64 ((((M.puz r p depth).1).rules).pits), .int .i64 ((((M.puz r p depth).1).rules).seeds), .bool ((((M.puz r p depth).1).rules).stores), .bool ((((M.puz r p depth).1).rules).skip), .bool ((((M.puz r p depth).1).rules).relay), .bool ((((M.puz r p depth).1).rules).feed), .bool ((((M.puz r p depth).1).rules).again), .int .i64 ((((M.puz r p depth).1).rules).capture), .int .i64 ((((M.puz r p depth).1).rules).slam), .slice A9_9 (((((M.puz r p depth).1).position).pits).length) c9_9, .slice A9_10 (((((M.puz r p depth).1).position).stores).length) c9_10, .int .i64 ((((M.puz r p depth).1).position).player), .int .i64 (((M.puz r p depth).1).depth), .int .i64 (((M.puz r p depth).1).move), .int .i64 (((M.puz r p depth).1).value), .int .i64 (((M.puz r p depth).1).margin)]) ty_45 rfl rfl rfl rfl rfl rfl rfl rfl) ?_
  rintro _ _ _ ⟨rfl, rfl⟩ _
  refine JL.q (OpP.q (p_assign rfl)) ?_
  refine JL.nil ?_
  refine Js.ret (R := RO w (Ty.tup [Ty.agg (cPuzzle ((M.puz r p depth).1)), Ty.int ((M.puz r p depth).2)])) @Try.results25 (fun _ _ => rfl) (ResOk.cell (res_box (i := 1) ty_45 rfl rfl rfl rfl rfl) (ResOk.tmp rfl ResOk.nil)) (fun w1 hw => ?_)
  have hx := hw.ext (Up.refl _ _)
  exact ret_own (ps := [(0, f9)]) hw hx ⟨_, rfl, ⟨_, _, rfl, ⟨_, rfl, hw.pr (i := 0) rfl⟩, ⟨_, _, rfl, ⟨rfl, rfl⟩, rfl⟩⟩⟩ (Pick.cons (j := 0) rfl (List.Sublist.refl _) rfl Pick.nil) (by simp [List.flatten, outV])

set_option maxRecDepth 100000 in
set_option maxHeartbeats 400000 in
theorem c_spec_l21Same (a : M.Puz) (v_a : Value) (b : M.Puz) (v_b : Value) (w : World) (h_a : (Ty.ref (cPuzzle a)).ok w v_a) (h_b : (Ty.ref (cPuzzle b)).ok w v_b) (r0 : a.position.pits.length ≤ 4194304) (r1 : a.position.stores.length ≤ 4194304) (r2 : b.position.pits.length ≤ 4194304) (r3 : b.position.stores.length ≤ 4194304) : RetV Try.prog 80 [v_a, v_b] w (.bool (M.samez a b)) := by
  obtain ⟨b1, o1, A1_9, c1_9, A1_10, c1_10, rfl, hr1, h1_9, h1_10, bl1_9, bh1_9, bl1_10, bh1_10⟩ := ref_Puzzle h_a
  obtain ⟨b2, o2, A2_9, c2_9, A2_10, c2_10, rfl, hr2, h2_9, h2_10, bl2_9, bh2_9, bl2_10, bh2_10⟩ := ref_Puzzle h_b
  refine enter @Try.func80 @Try.ntmps80 rfl rfl ?_
  refine Js.seq ?_
  refine Js.region ?_
  refine JL.q (OpP.q (p_assign rfl)) ?_
  refine JL.nil ?_
  refine Js.seq ?_
  refine Js.drawn _ [] mixed_ (fun _ h => h) ?_
  refine JH.p 0 rfl (p_move rfl) ?_
  refine JH.p 1 rfl (p_nilCheck rfl) ?_
  refine JH.p 2 rfl (p_fieldAddr fld_45_0 rfl) ?_
  refine JH.w 3 rfl (fun os' u' hv => q_loadN ty_31 rfl (Mem.pubR ((hr1.vis hv).sub 0 9)) rfl rfl) ?_
  refine JH.p 4 rfl (p_move rfl) ?_
  refine JH.p 5 rfl (p_nilCheck rfl) ?_
  refine JH.p 6 rfl (p_fieldAddr fld_45_0 rfl) ?_
  refine JH.w 7 rfl (fun os' u' hv => q_loadN ty_31 rfl (Mem.pubR ((hr2.vis hv).sub 0 9)) rfl rfl) ?_
  refine JH.p 8 rfl (p_eqlS (by kernel_rfl) (fun w => eqs_Rules a.rules b.rules w) rfl rfl) ?_
  refine JH.p 9 rfl (p_move rfl) ?_
  refine JH.pg 10 rfl (Gd.t1 rfl rfl rfl) (fun hc => p_move rfl) ?_
  refine JH.pg 11 rfl (Gd.t1 rfl rfl rfl) (fun hc => p_nilCheck (gvt rfl hc)) ?_
  refine JH.pg 12 rfl (Gd.t1 rfl rfl rfl) (fun hc => p_fieldAddr fld_45_1 (gvt rfl hc)) ?_
  refine JH.pg 13 rfl (Gd.t1 rfl rfl rfl) (fun hc => p_move rfl) ?_
  refine JH.pg 14 rfl (Gd.t1 rfl rfl rfl) (fun hc => p_nilCheck (gvt rfl hc)) ?_
  refine JH.pg 15 rfl (Gd.t1 rfl rfl rfl) (fun hc => p_fieldAddr fld_45_1 (gvt rfl hc)) ?_
  refine JH.one (i := 16) (by kernel_rfl) ?_
  refine JHo.ge rfl (Gd.t1 rfl rfl rfl) (fun hc => e_callV fn_98 (opds_2 (gvt rfl hc) (gvt rfl hc)) (fun w hw => c_spec_l04Same a.position _ b.position _ w ⟨_, _, [.slice A1_9 a.position.pits.length c1_9, .slice A1_10 a.position.stores.length c1_10, .int .i64 a.position.player], rfl, ⟨(Ty.mono _ h1_9 hw.vis), (Ty.mono _ h1_10 hw.vis), rfl, trivial⟩, ((hr1.vis hw.vis).sub 9 3)⟩ ⟨_, _, [.slice A2_9 b.position.pits.length c2_9, .slice A2_10 b.position.stores.length c2_10, .int .i64 b.position.player], rfl, ⟨(Ty.mono _ h2_9 hw.vis), (Ty.mono _ h2_10 hw.vis), rfl, trivial⟩, ((hr2.vis hw.vis).sub 9 3)⟩ (by have hc9 := hc; (try simp only [decide_eq_true_eq] at hc9); omega) (by have hc9 := hc; (try simp only [decide_eq_true_eq] at hc9); omega) (by have hc9 := hc; (try simp only [decide_eq_true_eq] at hc9); omega) (by have hc9 := hc; (try simp only [decide_eq_true_eq] at hc9); omega))) ?_
  refine JH.p 17 rfl (p_pickAnd rfl rfl rfl) ?_
  refine JH.p 18 rfl (p_move rfl) ?_
  refine JH.pg 19 rfl (Gd.t1 rfl rfl rfl) (fun hc => p_move rfl) ?_
  refine JH.pg 20 rfl (Gd.t1 rfl rfl rfl) (fun hc => p_nilCheck (gvt rfl hc)) ?_
  refine JH.pg 21 rfl (Gd.t1 rfl rfl rfl) (fun hc => p_fieldAddr fld_45_2 (gvt rfl hc)) ?_
  refine JH.wg 22 rfl (Gd.t1 rfl rfl rfl) (fun hc os' u' hv => q_load1 ty_2 (gvt rfl hc) (Mem.pub ((hr1.vis hv) 12 _ rfl))) ?_
  refine JH.pg 23 rfl (Gd.t1 rfl rfl rfl) (fun hc => p_move rfl) ?_
  refine JH.pg 24 rfl (Gd.t1 rfl rfl rfl) (fun hc => p_nilCheck (gvt rfl hc)) ?_
  refine JH.pg 25 rfl (Gd.t1 rfl rfl rfl) (fun hc => p_fieldAddr fld_45_2 (gvt rfl hc)) ?_
  refine JH.wg 26 rfl (Gd.t1 rfl rfl rfl) (fun hc os' u' hv => q_load1 ty_2 (gvt rfl hc) (Mem.pub ((hr2.vis hv) 12 _ rfl))) ?_
  refine JH.pg 27 rfl (Gd.t1 rfl rfl rfl) (fun hc => p_eql (gvt rfl hc) (gvt rfl hc)) ?_
  refine JH.p 28 rfl (p_pickAnd rfl rfl rfl) ?_
  refine JH.p 29 rfl (p_move rfl) ?_
  refine JH.pg 30 rfl (Gd.t1 rfl rfl rfl) (fun hc => p_move rfl) ?_
  refine JH.pg 31 rfl (Gd.t1 rfl rfl rfl) (fun hc => p_nilCheck (gvt rfl hc)) ?_
  refine JH.pg 32 rfl (Gd.t1 rfl rfl rfl) (fun hc => p_fieldAddr fld_45_3 (gvt rfl hc)) ?_
  refine JH.wg 33 rfl (Gd.t1 rfl rfl rfl) (fun hc os' u' hv => q_load1 ty_2 (gvt rfl hc) (Mem.pub ((hr1.vis hv) 13 _ rfl))) ?_
  refine JH.pg 34 rfl (Gd.t1 rfl rfl rfl) (fun hc => p_move rfl) ?_
  refine JH.pg 35 rfl (Gd.t1 rfl rfl rfl) (fun hc => p_nilCheck (gvt rfl hc)) ?_
  refine JH.pg 36 rfl (Gd.t1 rfl rfl rfl) (fun hc => p_fieldAddr fld_45_3 (gvt rfl hc)) ?_
  refine JH.wg 37 rfl (Gd.t1 rfl rfl rfl) (fun hc os' u' hv => q_load1 ty_2 (gvt rfl hc) (Mem.pub ((hr2.vis hv) 13 _ rfl))) ?_
  refine JH.pg 38 rfl (Gd.t1 rfl rfl rfl) (fun hc => p_eql (gvt rfl hc) (gvt rfl hc)) ?_
  refine JH.p 39 rfl (p_pickAnd rfl rfl rfl) ?_
  refine JH.p 40 rfl (p_move rfl) ?_
  refine JH.pg 41 rfl (Gd.t1 rfl rfl rfl) (fun hc => p_move rfl) ?_
  refine JH.pg 42 rfl (Gd.t1 rfl rfl rfl) (fun hc => p_nilCheck (gvt rfl hc)) ?_
  refine JH.pg 43 rfl (Gd.t1 rfl rfl rfl) (fun hc => p_fieldAddr fld_45_4 (gvt rfl hc)) ?_
  refine JH.wg 44 rfl (Gd.t1 rfl rfl rfl) (fun hc os' u' hv => q_load1 ty_2 (gvt rfl hc) (Mem.pub ((hr1.vis hv) 14 _ rfl))) ?_
  refine JH.pg 45 rfl (Gd.t1 rfl rfl rfl) (fun hc => p_move rfl) ?_
  refine JH.pg 46 rfl (Gd.t1 rfl rfl rfl) (fun hc => p_nilCheck (gvt rfl hc)) ?_
  refine JH.pg 47 rfl (Gd.t1 rfl rfl rfl) (fun hc => p_fieldAddr fld_45_4 (gvt rfl hc)) ?_
  refine JH.wg 48 rfl (Gd.t1 rfl rfl rfl) (fun hc os' u' hv => q_load1 ty_2 (gvt rfl hc) (Mem.pub ((hr2.vis hv) 14 _ rfl))) ?_
  refine JH.pg 49 rfl (Gd.t1 rfl rfl rfl) (fun hc => p_eql (gvt rfl hc) (gvt rfl hc)) ?_
  refine JH.p 50 rfl (p_pickAnd rfl rfl rfl) ?_
  refine JH.p 51 rfl (p_move rfl) ?_
  refine JH.pg 52 rfl (Gd.t1 rfl rfl rfl) (fun hc => p_move rfl) ?_
  refine JH.pg 53 rfl (Gd.t1 rfl rfl rfl) (fun hc => p_nilCheck (gvt rfl hc)) ?_
  refine JH.pg 54 rfl (Gd.t1 rfl rfl rfl) (fun hc => p_fieldAddr fld_45_5 (gvt rfl hc)) ?_
  refine JH.wg 55 rfl (Gd.t1 rfl rfl rfl) (fun hc os' u' hv => q_load1 ty_2 (gvt rfl hc) (Mem.pub ((hr1.vis hv) 15 _ rfl))) ?_
  refine JH.pg 56 rfl (Gd.t1 rfl rfl rfl) (fun hc => p_move rfl) ?_
  refine JH.pg 57 rfl (Gd.t1 rfl rfl rfl) (fun hc => p_nilCheck (gvt rfl hc)) ?_
  refine JH.pg 58 rfl (Gd.t1 rfl rfl rfl) (fun hc => p_fieldAddr fld_45_5 (gvt rfl hc)) ?_
  refine JH.wg 59 rfl (Gd.t1 rfl rfl rfl) (fun hc os' u' hv => q_load1 ty_2 (gvt rfl hc) (Mem.pub ((hr2.vis hv) 15 _ rfl))) ?_
  refine JH.pg 60 rfl (Gd.t1 rfl rfl rfl) (fun hc => p_eql (gvt rfl hc) (gvt rfl hc)) ?_
  refine JH.p 61 rfl (p_pickAnd rfl rfl rfl) ?_
  refine JH.p 62 rfl (p_assign rfl) ?_
  refine JH.done (by kernel_rfl) ?_
  refine Js.ret (R := RV w (.bool (M.samez a b))) @Try.results80 (fun _ _ => rfl) (ResOk.tmp rfl ResOk.nil) (fun w1 hw => ?_)
  refine ⟨?_, hw.ext (Up.refl _ _)⟩
  simp [outV, M.samez, Bool.and_assoc]

set_option maxRecDepth 100000 in
set_option maxHeartbeats 400000 in
theorem c_spec_l21Ok (z : M.Puz) (v_z : Value) (w : World) (h_z : (Ty.ref (cPuzzle z)).ok w v_z) (r0 : z.position.pits.length ≤ 4194304) (r1 : z.position.stores.length ≤ 4194304) : RetV Try.prog 56 [v_z] w (.bool (M.okZ z)) := by
  have hsm := M.puz_small z.rules z.position z.depth
  have hs1 := hsm.sp
  have hs2 := hsm.ss
  obtain ⟨b1, o1, A1_9, c1_9, A1_10, c1_10, rfl, hr1, h1_9, h1_10, bl1_9, bh1_9, bl1_10, bh1_10⟩ := ref_Puzzle h_z
  refine enter @Try.func56 @Try.ntmps56 rfl rfl ?_
  refine Js.seq ?_
  refine Js.region ?_
  refine JL.q (OpP.q (p_assign rfl)) ?_
  refine JL.nil ?_
  refine Js.seq ?_
  refine Js.cut (fun l os u => ∃ (b7 : Nat) (A6_9 : Option Addr) (c6_9 : Nat) (A6_10 : Option Addr) (c6_10 : Nat), l = [(0, .pointer (some ⟨b1, o1, none⟩)), (3, .pointer (some ⟨b7, 0, none⟩)), (4, .int .i64 ((M.puz z.rules z.position z.depth).2))] ∧ os = [boxO b7 [.int .i64 ((((M.puz z.rules z.position z.depth).1).rules).pits), .int .i64 ((((M.puz z.rules z.position z.depth).1).rules).seeds), .bool ((((M.puz z.rules z.position z.depth).1).rules).stores), .bool ((((M.puz z.rules z.position z.depth).1).rules).skip), .bool ((((M.puz z.rules z.position z.depth).1).rules).relay), .bool ((((M.puz z.rules z.position z.depth).1).rules).feed), .bool ((((M.puz z.rules z.position z.depth).1).rules).again), .int .i64 ((((M.puz z.rules z.position z.depth).1).rules).capture), .int .i64 ((((M.puz z.rules z.position z.depth).1).rules).slam), .slice A6_9 (((((M.puz z.rules z.position z.depth).1).position).pits).length) c6_9, .slice A6_10 (((((M.puz z.rules z.position z.depth).1).position).stores).length) c6_10, .int .i64 ((((M.puz z.rules z.position z.depth).1).position).player), .int .i64 (((M.puz z.rules z.position z.depth).1).depth), .int .i64 (((M.puz z.rules z.position z.depth).1).move), .int .i64 (((M.puz z.rules z.position z.depth).1).value), .int .i64 (((M.puz z.rules z.position z.depth).1).margin)] 45] ∧ Up w.heap.size w u ∧ (((((M.puz z.rules z.position z.depth).1).position).pits).length ≤ c6_9) ∧ (c6_9 ≤ 9223372036854775807) ∧ ((Ty.ints 2 ((((M.puz z.rules z.position z.depth).1).position).pits)).ok u (.slice A6_9 (((((M.puz z.rules z.position z.depth).1).position).pits).length) c6_9)) ∧ (((((M.puz z.rules z.position z.depth).1).position).stores).length ≤ c6_10) ∧ (c6_10 ≤ 9223372036854775807) ∧ ((Ty.ints 2 ((((M.puz z.rules z.position z.depth).1).position).stores)).ok u (.slice A6_10 (((((M.puz z.rules z.position z.depth).1).position).stores).length) c6_10))) ?_ ?_
  ·
    refine Js.drawn _ [15] mixed_ (fun _ h => h) ?_
    refine JH.p 0 rfl (p_move rfl) ?_
    refine JH.p 1 rfl (p_nilCheck rfl) ?_
    refine JH.p 2 rfl (p_fieldAddr fld_45_0 rfl) ?_
    refine JH.p 3 rfl (p_move rfl) ?_
    refine JH.p 4 rfl (p_nilCheck rfl) ?_
    refine JH.p 5 rfl (p_fieldAddr fld_45_1 rfl) ?_
    refine JH.p 6 rfl (p_move rfl) ?_
    refine JH.p 7 rfl (p_nilCheck rfl) ?_
    refine JH.p 8 rfl (p_fieldAddr fld_45_2 rfl) ?_
    refine JH.w 9 rfl (fun os' u' hv => q_load1 ty_2 rfl (Mem.pub ((hr1.vis hv) 12 _ rfl))) ?_
    refine JH.all (rs := [10, 14]) (by kernel_rfl) rfl ⟨?_, ?_, trivial⟩
    ·
      refine JHo.e rfl (e_callP fn_52 rfl (fun w hw => c_spec_l21Of z.rules _ z.position _ z.depth w ⟨_, _, [.int .i64 z.rules.pits, .int .i64 z.rules.seeds, .bool z.rules.stores, .bool z.rules.skip, .bool z.rules.relay, .bool z.rules.feed, .bool z.rules.again, .int .i64 z.rules.capture, .int .i64 z.rules.slam], rfl, ⟨rfl, rfl, rfl, rfl, rfl, rfl, rfl, rfl, rfl, trivial⟩, ((hr1.vis hw.vis).sub 0 9)⟩ ⟨_, _, [.slice A1_9 z.position.pits.length c1_9, .slice A1_10 z.position.stores.length c1_10, .int .i64 z.position.player], rfl, ⟨(Ty.mono _ h1_9 hw.vis), (Ty.mono _ h1_10 hw.vis), rfl, trivial⟩, ((hr1.vis hw.vis).sub 9 3)⟩ (by omega) (by omega))) (.inl rfl) ?_
      rintro v15 _ u17 ⟨h16, rfl⟩ x17
      obtain ⟨vs18, rfl, hv18⟩ := h16
      obtain ⟨v18_0, vs18, rfl, hw18_0, hv18⟩ := cellsOk_cons hv18
      obtain ⟨v18_1, vs18, rfl, hw18_1, hv18⟩ := cellsOk_cons hv18
      obtain rfl := cellsOk_nil hv18
      obtain ⟨A19_9, c19_9, A19_10, c19_10, rfl, h19_9, h19_10, bl19_9, bh19_9, bl19_10, bh19_10⟩ := open_Puzzle hw18_0
      obtain rfl : v18_1 = .int .i64 ((M.puz z.rules z.position z.depth).2) := hw18_1
      refine JH.p 11 rfl (p_move rfl) ?_
      refine JH.p 12 rfl (p_extract rfl rfl) ?_
      refine JH.p 13 rfl (p_extract rfl rfl) ?_
      refine JH.one (i := 14) (by kernel_rfl) ?_
      refine JHo.e rfl (e_alloc zero_45) (.inl rfl) ?_
      rintro _ _ _ ⟨b20, rfl, rfl, rfl⟩ _
      refine JH.one (i := 15) (by kernel_rfl) ?_
      refine JHo.s rfl (e_store (i := 0) (c' := [.int .i64 ((((M.puz z.rules z.position z.depth).1).rules).pits), .int .i64 ((((M.puz z.rules z.position z.depth).1).rules).seeds), .bool ((((M.puz z.rules z.position z.depth).1).rules).stores), .bool ((((M.puz z.rules z.position z.depth).1).rules).skip), .bool ((((M.puz z.rules z.position z.depth).1).rules).relay), .bool ((((M.puz z.rules z.position z.depth).1).rules).feed), .bool ((((M.puz z.rules z.position z.depth).1).rules).again), .int .i64 ((((M.puz z.rules z.position z.depth).1).rules).capture), .int .i64 ((((M.puz z.rules z.position z.depth).1).rules).slam), .slice A19_9 (((((M.puz z.rules z.position z.depth).1).position).pits).length) c19_9, .slice A19_10 (((((M.puz z.rules z.position z.depth).1).position).stores).length) c19_10, .int .i64 ((((M.puz z.rules z.position z.depth).1).position).player), .int .i64 (((M.puz z.rules z.position z.depth).1).depth), .int .i64 (((M.puz z.rules z.position z.depth).1).move), .int .i64 (((M.puz z.rules z.position z.depth).1).value), .int .i64 (((M.puz z.rules z.position z.depth).1).margin)]) ty_45 rfl rfl rfl rfl rfl rfl rfl rfl) (.inr rfl) ?_
      rintro _ _ _ ⟨rfl, rfl⟩ _
      refine JH.p 16 rfl (p_assign rfl) ?_
      refine JH.done (by kernel_rfl) ?_
      exact Js.meet ⟨_, _, _, _, _, rfl, rfl, x17, by omega, by omega, h19_9, by omega, by omega, h19_10⟩ ⟨rfl, rfl, rfl, trivial⟩
    ·
      refine JHo.e rfl (e_alloc zero_45) (.inl rfl) ?_
      rintro _ _ _ ⟨b21, rfl, rfl, rfl⟩ _
      refine JH.one (i := 10) (by kernel_rfl) ?_
      refine JHo.e rfl (e_callP fn_52 rfl (fun w hw => c_spec_l21Of z.rules _ z.position _ z.depth w ⟨_, _, [.int .i64 z.rules.pits, .int .i64 z.rules.seeds, .bool z.rules.stores, .bool z.rules.skip, .bool z.rules.relay, .bool z.rules.feed, .bool z.rules.again, .int .i64 z.rules.capture, .int .i64 z.rules.slam], rfl, ⟨rfl, rfl, rfl, rfl, rfl, rfl, rfl, rfl, rfl, trivial⟩, ((hr1.vis hw.vis).sub 0 9)⟩ ⟨_, _, [.slice A1_9 z.position.pits.length c1_9, .slice A1_10 z.position.stores.length c1_10, .int .i64 z.position.player], rfl, ⟨(Ty.mono _ h1_9 hw.vis), (Ty.mono _ h1_10 hw.vis), rfl, trivial⟩, ((hr1.vis hw.vis).sub 9 3)⟩ (by omega) (by omega))) (.inl rfl) ?_
      rintro v22 _ u24 ⟨h23, rfl⟩ x24
      obtain ⟨vs25, rfl, hv25⟩ := h23
      obtain ⟨v25_0, vs25, rfl, hw25_0, hv25⟩ := cellsOk_cons hv25
      obtain ⟨v25_1, vs25, rfl, hw25_1, hv25⟩ := cellsOk_cons hv25
      obtain rfl := cellsOk_nil hv25
      obtain ⟨A26_9, c26_9, A26_10, c26_10, rfl, h26_9, h26_10, bl26_9, bh26_9, bl26_10, bh26_10⟩ := open_Puzzle hw25_0
      obtain rfl : v25_1 = .int .i64 ((M.puz z.rules z.position z.depth).2) := hw25_1
      refine JH.p 11 rfl (p_move rfl) ?_
      refine JH.p 12 rfl (p_extract rfl rfl) ?_
      refine JH.p 13 rfl (p_extract rfl rfl) ?_
      refine JH.one (i := 15) (by kernel_rfl) ?_
      refine JHo.s rfl (e_store (i := 0) (c' := [.int .i64 ((((M.puz z.rules z.position z.depth).1).rules).pits), .int .i64 ((((M.puz z.rules z.position z.depth).1).rules).seeds), .bool ((((M.puz z.rules z.position z.depth).1).rules).stores), .bool ((((M.puz z.rules z.position z.depth).1).rules).skip), .bool ((((M.puz z.rules z.position z.depth).1).rules).relay), .bool ((((M.puz z.rules z.position z.depth).1).rules).feed), .bool ((((M.puz z.rules z.position z.depth).1).rules).again), .int .i64 ((((M.puz z.rules z.position z.depth).1).rules).capture), .int .i64 ((((M.puz z.rules z.position z.depth).1).rules).slam), .slice A26_9 (((((M.puz z.rules z.position z.depth).1).position).pits).length) c26_9, .slice A26_10 (((((M.puz z.rules z.position z.depth).1).position).stores).length) c26_10, .int .i64 ((((M.puz z.rules z.position z.depth).1).position).player), .int .i64 (((M.puz z.rules z.position z.depth).1).depth), .int .i64 (((M.puz z.rules z.position z.depth).1).move), .int .i64 (((M.puz z.rules z.position z.depth).1).value), .int .i64 (((M.puz z.rules z.position z.depth).1).margin)]) ty_45 rfl rfl rfl rfl rfl rfl rfl rfl) (.inr rfl) ?_
      rintro _ _ _ ⟨rfl, rfl⟩ _
      refine JH.p 16 rfl (p_assign rfl) ?_
      refine JH.done (by kernel_rfl) ?_
      exact Js.meet ⟨_, _, _, _, _, rfl, rfl, x24, by omega, by omega, h26_9, by omega, by omega, h26_10⟩ ⟨rfl, rfl, rfl, trivial⟩
  · rintro _ _ u14 ⟨b7, A6_9, c6_9, A6_10, c6_10, rfl, rfl, x14, f14_0, f14_1, f14_2, f14_3, f14_4, f14_5⟩
    refine Js.seq ?_
    refine Js.region ?_
    refine JL.q (OpP.q (p_move rfl)) ?_
    refine JL.q (OpP.q (p_eql rfl rfl)) ?_
    refine JL.q (OpP.q (p_move rfl)) ?_
    refine JL.g (Gd.t1 rfl rfl rfl) (fun hc => OpP.q (p_move rfl)) ?_
    refine JL.ge (Gd.t1 rfl rfl rfl) (fun hc => e_callV fn_80 (opds_2 rfl (gvt rfl hc)) (fun w hw => c_spec_l21Same ((M.puz z.rules z.position z.depth).1) _ z _ w ⟨_, _, [.int .i64 ((((M.puz z.rules z.position z.depth).1).rules).pits), .int .i64 ((((M.puz z.rules z.position z.depth).1).rules).seeds), .bool ((((M.puz z.rules z.position z.depth).1).rules).stores), .bool ((((M.puz z.rules z.position z.depth).1).rules).skip), .bool ((((M.puz z.rules z.position z.depth).1).rules).relay), .bool ((((M.puz z.rules z.position z.depth).1).rules).feed), .bool ((((M.puz z.rules z.position z.depth).1).rules).again), .int .i64 ((((M.puz z.rules z.position z.depth).1).rules).capture), .int .i64 ((((M.puz z.rules z.position z.depth).1).rules).slam), .slice A6_9 (((((M.puz z.rules z.position z.depth).1).position).pits).length) c6_9, .slice A6_10 (((((M.puz z.rules z.position z.depth).1).position).stores).length) c6_10, .int .i64 ((((M.puz z.rules z.position z.depth).1).position).player), .int .i64 (((M.puz z.rules z.position z.depth).1).depth), .int .i64 (((M.puz z.rules z.position z.depth).1).move), .int .i64 (((M.puz z.rules z.position z.depth).1).value), .int .i64 (((M.puz z.rules z.position z.depth).1).margin)], rfl, ⟨rfl, rfl, rfl, rfl, rfl, rfl, rfl, rfl, rfl, (Ty.mono _ f14_2 hw.vis), (Ty.mono _ f14_5 hw.vis), rfl, rfl, rfl, rfl, rfl, trivial⟩, Mem.boxR (i := 0) rfl 0 16 w hw⟩ ⟨_, _, [.int .i64 z.rules.pits, .int .i64 z.rules.seeds, .bool z.rules.stores, .bool z.rules.skip, .bool z.rules.relay, .bool z.rules.feed, .bool z.rules.again, .int .i64 z.rules.capture, .int .i64 z.rules.slam, .slice A1_9 z.position.pits.length c1_9, .slice A1_10 z.position.stores.length c1_10, .int .i64 z.position.player, .int .i64 z.depth, .int .i64 z.move, .int .i64 z.value, .int .i64 z.margin], rfl, ⟨rfl, rfl, rfl, rfl, rfl, rfl, rfl, rfl, rfl, (Ty.mono _ h1_9 (x14.vis.trans hw.vis)), (Ty.mono _ h1_10 (x14.vis.trans hw.vis)), rfl, rfl, rfl, rfl, rfl, trivial⟩, (hr1.vis (x14.vis.trans hw.vis))⟩ (by have hc9 := hc; (try simp only [decide_eq_true_eq] at hc9); omega) (by have hc9 := hc; (try simp only [decide_eq_true_eq] at hc9); omega) (by have hc9 := hc; (try simp only [decide_eq_true_eq] at hc9); omega) (by have hc9 := hc; (try simp only [decide_eq_true_eq] at hc9); omega))) ?_
    refine JL.q (OpP.q (p_pickAnd rfl rfl rfl)) ?_
    refine JL.q (OpP.q (p_assign rfl)) ?_
    refine JL.nil ?_
    refine Js.ret (R := RV w (.bool (M.okZ z))) @Try.results56 (fun _ _ => rfl) (ResOk.tmp rfl ResOk.nil) (fun w1 hw => ?_)
    refine ⟨?_, hw.ext (x14)⟩
    simp [outV, M.okZ]

set_option maxRecDepth 100000 in
set_option maxHeartbeats 400000 in
theorem c_spec_ValidPuzzle (z : M.Puz) (v_z : Value) (w : World) (h_z : (Ty.agg (cPuzzle z)).ok w v_z) (r0 : z.position.pits.length ≤ 4194304) (r1 : z.position.stores.length ≤ 4194304) : RetV Try.prog 31 [v_z] w (.bool (M.okZ z)) := by
  obtain ⟨A1_9, c1_9, A1_10, c1_10, rfl, h1_9, h1_10, bl1_9, bh1_9, bl1_10, bh1_10⟩ := open_Puzzle h_z
  refine enter @Try.func31 @Try.ntmps31 rfl rfl ?_
  refine Js.seq ?_
  refine Js.region ?_
  refine JL.e (e_box (c := [.int .i64 z.rules.pits, .int .i64 z.rules.seeds, .bool z.rules.stores, .bool z.rules.skip, .bool z.rules.relay, .bool z.rules.feed, .bool z.rules.again, .int .i64 z.rules.capture, .int .i64 z.rules.slam, .slice A1_9 z.position.pits.length c1_9, .slice A1_10 z.position.stores.length c1_10, .int .i64 z.position.player, .int .i64 z.depth, .int .i64 z.move, .int .i64 z.value, .int .i64 z.margin]) rfl rfl) ?_
  rintro _ _ _ ⟨b2, rfl, rfl, rfl⟩ _
  refine JL.q (OpP.q (p_assign rfl)) ?_
  refine JL.nil ?_
  refine Js.seq ?_
  refine Js.region ?_
  refine JL.e (e_callV fn_56 rfl (fun w hw => c_spec_l21Ok z _ w ⟨_, _, [.int .i64 z.rules.pits, .int .i64 z.rules.seeds, .bool z.rules.stores, .bool z.rules.skip, .bool z.rules.relay, .bool z.rules.feed, .bool z.rules.again, .int .i64 z.rules.capture, .int .i64 z.rules.slam, .slice A1_9 z.position.pits.length c1_9, .slice A1_10 z.position.stores.length c1_10, .int .i64 z.position.player, .int .i64 z.depth, .int .i64 z.move, .int .i64 z.value, .int .i64 z.margin], rfl, ⟨rfl, rfl, rfl, rfl, rfl, rfl, rfl, rfl, rfl, (Ty.mono _ h1_9 hw.vis), (Ty.mono _ h1_10 hw.vis), rfl, rfl, rfl, rfl, rfl, trivial⟩, Mem.boxR (i := 0) rfl 0 16 w hw⟩ (by omega) (by omega))) ?_
  rintro _ _ _ ⟨rfl, rfl, rfl⟩ _
  refine JL.q (OpP.q (p_assign rfl)) ?_
  refine JL.nil ?_
  refine Js.ret (R := RV w (.bool (M.okZ z))) @Try.results31 (fun _ _ => rfl) (ResOk.tmp rfl ResOk.nil) (fun w1 hw => ?_)
  refine ⟨?_, hw.ext (Up.refl _ _)⟩
  first | rfl | (simp [outV]; done)

set_option maxRecDepth 100000 in
set_option maxHeartbeats 400000 in
theorem c_spec_MoveFault (r : M.Rul) (v_r : Value) (p : M.Pos) (v_p : Value) (move : Int) (w : World) (h_r : (Ty.agg (cRules r)).ok w v_r) (h_p : (Ty.agg (cPosition p)).ok w v_p) (r0 : p.pits.length ≤ 4194304) (r1 : p.stores.length ≤ 4194304) : RetV Try.prog 58 [v_r, v_p, .int .i64 move] w (.int .i64 ((M.make r p move).2)) := by
  obtain rfl := open_Rules h_r
  obtain ⟨A2_0, c2_0, A2_1, c2_1, rfl, h2_0, h2_1, bl2_0, bh2_0, bl2_1, bh2_1⟩ := open_Position h_p
  refine enter @Try.func58 @Try.ntmps58 rfl rfl ?_
  refine Js.seq ?_
  refine Js.region ?_
  refine JL.e (e_box (c := [.int .i64 r.pits, .int .i64 r.seeds, .bool r.stores, .bool r.skip, .bool r.relay, .bool r.feed, .bool r.again, .int .i64 r.capture, .int .i64 r.slam]) rfl rfl) ?_
  rintro _ _ _ ⟨b3, rfl, rfl, rfl⟩ _
  refine JL.e (e_box (c := [.slice A2_0 p.pits.length c2_0, .slice A2_1 p.stores.length c2_1, .int .i64 p.player]) rfl rfl) ?_
  rintro _ _ _ ⟨b4, rfl, rfl, rfl⟩ _
  refine JL.q (OpP.q (p_assign rfl)) ?_
  refine JL.nil ?_
  refine Js.seq ?_
  refine Js.region ?_
  refine JL.q (OpP.q (p_move rfl)) ?_
  refine JL.e (e_callP fn_48 rfl (fun w hw => c_spec_l07Make r _ p _ move w ⟨_, _, [.int .i64 r.pits, .int .i64 r.seeds, .bool r.stores, .bool r.skip, .bool r.relay, .bool r.feed, .bool r.again, .int .i64 r.capture, .int .i64 r.slam], rfl, ⟨rfl, rfl, rfl, rfl, rfl, rfl, rfl, rfl, rfl, trivial⟩, Mem.boxR (i := 1) rfl 0 9 w hw⟩ ⟨_, _, [.slice A2_0 p.pits.length c2_0, .slice A2_1 p.stores.length c2_1, .int .i64 p.player], rfl, ⟨(Ty.mono _ h2_0 hw.vis), (Ty.mono _ h2_1 hw.vis), rfl, trivial⟩, Mem.boxR (i := 0) rfl 0 3 w hw⟩ (by omega) (by omega))) ?_
  rintro v5 _ u7 ⟨h6, rfl⟩ x7
  obtain ⟨vs8, rfl, hv8⟩ := h6
  obtain ⟨v8_0, vs8, rfl, hw8_0, hv8⟩ := cellsOk_cons hv8
  obtain ⟨v8_1, vs8, rfl, hw8_1, hv8⟩ := cellsOk_cons hv8
  obtain rfl := cellsOk_nil hv8
  obtain ⟨A9_3, c9_3, A9_4, c9_4, rfl, h9_3, h9_4, bl9_3, bh9_3, bl9_4, bh9_4⟩ := open_Result hw8_0
  obtain rfl : v8_1 = .int .i64 ((M.make r p move).2) := hw8_1
  refine JL.q (OpP.q (p_move rfl)) ?_
  refine JL.q (OpP.q (p_extract rfl rfl)) ?_
  refine JL.q (OpP.q (p_extract rfl rfl)) ?_
  refine JL.e (e_alloc zero_74) ?_
  rintro _ _ _ ⟨b10, rfl, rfl, rfl⟩ _
  refine JL.s (e_store (i := 0) (c' := [.int .i64 (((M.make r p move).1).move), .int .i64 (((M.make r p move).1).gain), .bool (((M.make r p move).1).again), .slice A9_3 (((((M.make r p move).1).next).pits).length) c9_3, .slice A9_4 (((((M.make r p move).1).next).stores).length) c9_4, .int .i64 ((((M.make r p move).1).next).player)]) ty_74 rfl rfl rfl rfl rfl rfl rfl rfl) ?_
  rintro _ _ _ ⟨rfl, rfl⟩ _
  refine JL.q (OpP.q (p_assign rfl)) ?_
  refine JL.nil ?_
  refine Js.seq ?_
  refine Js.region ?_
  refine JL.q (OpP.q (p_move rfl)) ?_
  refine JL.q (OpP.q (p_assign rfl)) ?_
  refine JL.nil ?_
  refine Js.ret (R := RV w (.int .i64 ((M.make r p move).2))) @Try.results58 (fun _ _ => rfl) (ResOk.tmp rfl ResOk.nil) (fun w1 hw => ?_)
  refine ⟨?_, hw.ext (x7)⟩
  first | rfl | (simp [outV]; done)

set_option maxRecDepth 100000 in
set_option maxHeartbeats 400000 in
theorem c_spec_AnswerLoss (z : M.Puz) (v_z : Value) (move : Int) (w : World) (h_z : (Ty.agg (cPuzzle z)).ok w v_z) (r0 : z.position.pits.length ≤ 4194304) (r1 : z.position.stores.length ≤ 4194304) : RetV Try.prog 34 [v_z, .int .i64 move] w (.tuple #[.int .i64 ((M.ans z move).1), .int .i64 ((M.ans z move).2)]) := by
  obtain ⟨A1_9, c1_9, A1_10, c1_10, rfl, h1_9, h1_10, bl1_9, bh1_9, bl1_10, bh1_10⟩ := open_Puzzle h_z
  refine enter @Try.func34 @Try.ntmps34 rfl rfl ?_
  refine Js.seq ?_
  refine Js.region ?_
  refine JL.e (e_box (c := [.int .i64 z.rules.pits, .int .i64 z.rules.seeds, .bool z.rules.stores, .bool z.rules.skip, .bool z.rules.relay, .bool z.rules.feed, .bool z.rules.again, .int .i64 z.rules.capture, .int .i64 z.rules.slam, .slice A1_9 z.position.pits.length c1_9, .slice A1_10 z.position.stores.length c1_10, .int .i64 z.position.player, .int .i64 z.depth, .int .i64 z.move, .int .i64 z.value, .int .i64 z.margin]) rfl rfl) ?_
  rintro _ _ _ ⟨b2, rfl, rfl, rfl⟩ _
  refine JL.q (OpP.q (p_assign rfl)) ?_
  refine JL.q (OpP.q (p_assign rfl)) ?_
  refine JL.nil ?_
  refine Js.seq ?_
  refine Js.seq ?_
  refine Js.region ?_
  refine JL.e (e_callV fn_56 rfl (fun w hw => c_spec_l21Ok z _ w ⟨_, _, [.int .i64 z.rules.pits, .int .i64 z.rules.seeds, .bool z.rules.stores, .bool z.rules.skip, .bool z.rules.relay, .bool z.rules.feed, .bool z.rules.again, .int .i64 z.rules.capture, .int .i64 z.rules.slam, .slice A1_9 z.position.pits.length c1_9, .slice A1_10 z.position.stores.length c1_10, .int .i64 z.position.player, .int .i64 z.depth, .int .i64 z.move, .int .i64 z.value, .int .i64 z.margin], rfl, ⟨rfl, rfl, rfl, rfl, rfl, rfl, rfl, rfl, rfl, (Ty.mono _ h1_9 hw.vis), (Ty.mono _ h1_10 hw.vis), rfl, rfl, rfl, rfl, rfl, trivial⟩, Mem.boxR (i := 0) rfl 0 16 w hw⟩ (by omega) (by omega))) ?_
  rintro _ _ _ ⟨rfl, rfl, rfl⟩ _
  refine JL.q (OpP.q (p_not rfl)) ?_
  refine JL.nil ?_
  refine Js.cond rfl (fun h3 => ?_) (fun h3 => ?_)
  ·
    have h3' := h3
    try simp only [Bool.not_eq_true'] at h3'
    have hno : M.okZ z = false := by simpa using h3
    have hE := M.ans_1 (move := move) hno
    refine Js.seq ?_
    refine Js.region ?_
    refine JL.q (OpP.q (p_assign rfl)) ?_
    refine JL.q (OpP.q (p_assign rfl)) ?_
    refine JL.nil ?_
    refine Js.ret (R := RV w (.tuple #[.int .i64 ((M.ans z move).1), .int .i64 ((M.ans z move).2)])) @Try.results34 (fun _ _ => rfl) (ResOk.tmp rfl (ResOk.tmp rfl ResOk.nil)) (fun w1 hw => ?_)
    refine ⟨?_, hw.ext (Up.refl _ _)⟩
    first | (rw [hE]; done) | (rw [hE, ← hgv]; rfl) | (rw [hE]; rfl)
  ·
    have h3' := h3
    try simp only [Bool.not_eq_false'] at h3'
    have hok : M.okZ z = true := by simpa using h3
    obtain ⟨hoc, hpz⟩ := M.okZ_parts hok
    have ho := M.optsC_ok hoc
    have hl9 := M.okP_len ho.1
    refine Js.skip ?_
    refine Js.seq ?_
    refine Js.region ?_
    refine JL.q (OpP.q (p_fieldAddr fld_45_0 rfl)) ?_
    refine JL.q (q_loadN ty_31 rfl (Mem.boxR (i := 0) rfl 0 9) rfl rfl) ?_
    refine JL.q (OpP.q (p_fieldAddr fld_45_1 rfl)) ?_
    refine JL.q (q_loadN ty_33 rfl (Mem.boxR (i := 0) rfl 9 3) rfl rfl) ?_
    refine JL.q (OpP.q (p_move rfl)) ?_
    refine JL.e (e_callV fn_58 rfl (fun w hw => c_spec_MoveFault z.rules _ z.position _ move w ⟨_, rfl, ⟨rfl, rfl, rfl, rfl, rfl, rfl, rfl, rfl, rfl, trivial⟩⟩ ⟨_, rfl, ⟨(Ty.mono _ h1_9 hw.vis), (Ty.mono _ h1_10 hw.vis), rfl, trivial⟩⟩ (by omega) (by omega))) ?_
    rintro _ _ _ ⟨rfl, rfl, rfl⟩ _
    refine JL.q (OpP.q (p_assign rfl)) ?_
    refine JL.nil ?_
    refine Js.seq ?_
    refine Js.seq ?_
    refine Js.region ?_
    refine JL.q (OpP.q (p_move rfl)) ?_
    refine JL.q (OpP.q (p_neq rfl rfl)) ?_
    refine JL.nil ?_
    refine Js.cond rfl (fun h4 => ?_) (fun h4 => ?_)
    ·
      have h4' := h4
      try simp only [Bool.not_eq_true', decide_eq_false_iff_not] at h4'
      have hE := M.ans_c hok (by simpa using h4)
      refine Js.seq ?_
      refine Js.region ?_
      refine JL.q (OpP.q (p_move rfl)) ?_
      refine JL.q (OpP.q (p_assign rfl)) ?_
      refine JL.q (OpP.q (p_assign rfl)) ?_
      refine JL.nil ?_
      refine Js.ret (R := RV w (.tuple #[.int .i64 ((M.ans z move).1), .int .i64 ((M.ans z move).2)])) @Try.results34 (fun _ _ => rfl) (ResOk.tmp rfl (ResOk.tmp rfl ResOk.nil)) (fun w1 hw => ?_)
      refine ⟨?_, hw.ext (Up.refl _ _)⟩
      first | (rw [hE]; done) | (rw [hE, ← hgv]; rfl) | (rw [hE]; rfl)
    ·
      have h4' := h4
      try simp only [Bool.not_eq_false', decide_eq_true_eq] at h4'
      have hz : (M.make z.rules z.position move).2 = 0 := by simpa using h4
      have hE := M.ans_0 hok hz
      have hR := M.optsR_yes hoc
      have hol := M.opts_len z.rules z.position z.depth
      have g8 := M.results_8 ho.1
      have hzv := M.okZ_val hok
      have hOb : ∀ x ∈ (M.optsR z.rules z.position z.depth), -2000 ≤ x.value ∧ x.value ≤ 2000 := by rw [hR]; exact fun x hx => M.opts_bd ho.1 (by omega) ho.2.2.1 hx
      refine Js.skip ?_
      refine Js.seq ?_
      refine Js.region ?_
      refine JL.q (OpP.q (p_fieldAddr fld_45_0 rfl)) ?_
      refine JL.q (OpP.q (p_fieldAddr fld_45_1 rfl)) ?_
      refine JL.q (OpP.q (p_fieldAddr fld_45_2 rfl)) ?_
      refine JL.q (q_load1 ty_2 rfl (Mem.box (i := 0) rfl rfl)) ?_
      refine JL.e (e_callP fn_41 rfl (fun w hw => c_spec_l15Options z.rules _ z.position _ z.depth w ⟨_, _, [.int .i64 z.rules.pits, .int .i64 z.rules.seeds, .bool z.rules.stores, .bool z.rules.skip, .bool z.rules.relay, .bool z.rules.feed, .bool z.rules.again, .int .i64 z.rules.capture, .int .i64 z.rules.slam], rfl, ⟨rfl, rfl, rfl, rfl, rfl, rfl, rfl, rfl, rfl, trivial⟩, Mem.boxR (i := 0) rfl 0 9 w hw⟩ ⟨_, _, [.slice A1_9 z.position.pits.length c1_9, .slice A1_10 z.position.stores.length c1_10, .int .i64 z.position.player], rfl, ⟨(Ty.mono _ h1_9 hw.vis), (Ty.mono _ h1_10 hw.vis), rfl, trivial⟩, Mem.boxR (i := 0) rfl 9 3 w hw⟩ (by omega) (by omega))) ?_
      rintro v5 _ u7 ⟨h6, rfl⟩ x7
      obtain ⟨vs8, rfl, hv8⟩ := h6
      obtain ⟨v8_0, vs8, rfl, hw8_0, hv8⟩ := cellsOk_cons hv8
      obtain ⟨v8_1, vs8, rfl, hw8_1, hv8⟩ := cellsOk_cons hv8
      obtain rfl := cellsOk_nil hv8
      obtain ⟨A9, c9, rfl, bl9, bh9⟩ := sl_form hw8_0
      obtain rfl : v8_1 = .int .i64 (M.optsC z.rules z.position z.depth) := hw8_1
      refine JL.q (OpP.q (p_move rfl)) ?_
      refine JL.q (OpP.q (p_extract rfl rfl)) ?_
      refine JL.q (OpP.q (p_extract rfl rfl)) ?_
      refine JL.q (OpP.q (p_assign rfl)) ?_
      refine JL.q (OpP.q (p_assign rfl)) ?_
      refine JL.nil ?_
      refine Js.seq ?_
      refine Js.seq ?_
      refine Js.region ?_
      refine JL.q (OpP.q (p_assign rfl)) ?_
      refine JL.nil ?_
      refine Js.block ?_
      refine Js.loop (fun l os u m => ∃ (k : Nat), l = [(1, .int .i64 move), (2, .pointer (some ⟨b2, 0, none⟩)), (7, .slice A9 ((M.optsR z.rules z.position z.depth).length) c9), (9, .int .i64 (k : Int))] ∧ os = [boxO b2 [.int .i64 z.rules.pits, .int .i64 z.rules.seeds, .bool z.rules.stores, .bool z.rules.skip, .bool z.rules.relay, .bool z.rules.feed, .bool z.rules.again, .int .i64 z.rules.capture, .int .i64 z.rules.slam, .slice A1_9 z.position.pits.length c1_9, .slice A1_10 z.position.stores.length c1_10, .int .i64 z.position.player, .int .i64 z.depth, .int .i64 z.move, .int .i64 z.value, .int .i64 z.margin] 45] ∧ Up w.heap.size u7 u ∧ (k ≤ (M.optsR z.rules z.position z.depth).length) ∧ (∀ (j : Nat) (x : M.Opt), j < k → (M.optsR z.rules z.position z.depth)[j]? = some x → x.move ≠ move) ∧ m = (M.optsR z.rules z.position z.depth).length - k) ⟨0, rfl, rfl, Up.refl _ _, by first | assumption | omega | rfl | (simp; done), by exact fun j x hj => absurd hj (by omega), rfl⟩ ⟨rfl, rfl, rfl, rfl, trivial⟩ ?_
      · rintro _ _ u10 _ ⟨k, rfl, rfl, x10, hk, hn, rfl⟩
        refine Js.seq ?_
        refine Js.seq ?_
        refine Js.region ?_
        refine JL.q (OpP.q (p_move rfl)) ?_
        refine JL.q (OpP.q (p_move rfl)) ?_
        refine JL.q (OpP.q (p_len el_28 rfl)) ?_
        refine JL.q (OpP.q (p_lss rfl rfl)) ?_
        refine JL.nil ?_
        refine Js.cond rfl (fun h11 => ?_) (fun h11 => ?_)
        ·
          have h11' := h11
          try simp only [decide_eq_true_eq] at h11'
          refine Js.skip ?_
          refine Js.seq ?_
          refine Js.block ?_
          refine Js.seq ?_
          obtain ⟨y12, hy12⟩ : ∃ x, (M.optsR z.rules z.position z.depth)[k]? = some x := ⟨_, List.getElem?_eq_getElem (by omega)⟩
          refine Js.region ?_
          refine JL.q (OpP.q (p_move rfl)) ?_
          refine JL.q (OpP.q (p_move rfl)) ?_
          have hy13 := hy12
          obtain ⟨b13, o13, he13, hr13⟩ := elem_Option (Ty.mono _ hw8_0 x10.vis) hy13
          refine JL.q (OpP.q (p_indexAddr el_28 rfl rfl (by omega) (by omega) he13)) ?_
          refine JL.q (OpP.q (p_fieldAddr fld_69_0 rfl)) ?_
          refine JL.q (q_load1 ty_2 rfl (Mem.pub (hr13 0 _ rfl))) ?_
          refine JL.q (OpP.q (p_move rfl)) ?_
          refine JL.q (OpP.q (p_eql rfl rfl)) ?_
          refine JL.nil ?_
          refine Js.cond rfl (fun h14 => ?_) (fun h14 => ?_)
          ·
            have h14' := h14
            try simp only [decide_eq_true_eq] at h14'
            have hob := hOb _ (List.mem_of_getElem? hy12)
            have hgv := M.opts_get (r := z.rules) (p := z.position) (depth := z.depth) (move := move) (by rw [← hR]; exact hy12) (by simpa using h14)
            refine Js.seq ?_
            refine Js.drawn _ [] mixed_ (fun _ h => h) ?_
            refine JH.p 0 rfl (p_fieldAddr fld_45_4 rfl) ?_
            refine JH.q 1 rfl (q_load1 ty_2 rfl (Mem.box (i := 0) rfl rfl)) ?_
            refine JH.p 2 rfl (p_move rfl) ?_
            refine JH.p 3 rfl (p_move rfl) ?_
            have hy15 := hy12
            obtain ⟨b15, o15, he15, hr15⟩ := elem_Option (Ty.mono _ hw8_0 x10.vis) hy15
            refine JH.p 4 rfl (p_indexAddr el_28 rfl rfl (by omega) (by omega) he15) ?_
            refine JH.p 5 rfl (p_fieldAddr fld_69_1 rfl) ?_
            refine JH.w 6 rfl (fun os' u' hv => q_load1 ty_2 rfl (Mem.pub ((hr15.vis hv) 1 _ rfl))) ?_
            refine JH.p 7 rfl (p_sub rfl rfl (IntWalk.i64_in _ (by omega))) ?_
            refine JH.p 8 rfl (p_assign rfl) ?_
            refine JH.p 9 rfl (p_assign rfl) ?_
            refine JH.done (by kernel_rfl) ?_
            refine Js.ret (R := RV w (.tuple #[.int .i64 ((M.ans z move).1), .int .i64 ((M.ans z move).2)])) @Try.results34 (fun _ _ => rfl) (ResOk.tmp rfl (ResOk.tmp rfl ResOk.nil)) (fun w1 hw => ?_)
            refine ⟨?_, hw.ext ((x7.trans x10))⟩
            first | (rw [hE]; done) | (rw [hE, ← hgv]; rfl) | (rw [hE]; rfl)
          ·
            have h14' := h14
            try simp only [decide_eq_false_iff_not] at h14'
            have hn2 := M.none_stepO hn hy12 (by simpa using h14)
            refine Js.skip ?_
            refine Js.blockEnd ?_
            refine Js.region ?_
            refine JL.q (OpP.q (p_move rfl)) ?_
            refine JL.q (OpP.q (p_add rfl rfl (IntWalk.i64_in _ (by omega)))) ?_
            refine JL.q (OpP.q (p_assign rfl)) ?_
            refine JL.nil ?_
            exact Js.again ⟨k + 1, rfl, rfl, x10, by first | assumption | omega | rfl | (simp; done), by exact hn2, rfl⟩ (by omega) ⟨rfl, rfl, rfl, rfl, trivial⟩
        ·
          obtain ⟨j, hj, x, hx, hmv⟩ := M.opts_has (depth := z.depth) hz; rw [← hR] at hj hx; have h9 := h11; simp at h9; exact absurd hmv (hn j _ (by omega) hx)

set_option maxRecDepth 100000 in
set_option maxHeartbeats 400000 in
theorem c_spec_SolutionOf (z : M.Puz) (v_z : Value) (w : World) (h_z : (Ty.agg (cPuzzle z)).ok w v_z) (r0 : z.position.pits.length ≤ 4194304) (r1 : z.position.stores.length ≤ 4194304) : Ret Try.prog 38 [v_z] w (Ty.tup [Ty.ints 2 (M.sol z), Ty.int (M.solC z)]) := by
  obtain ⟨A1_9, c1_9, A1_10, c1_10, rfl, h1_9, h1_10, bl1_9, bh1_9, bl1_10, bh1_10⟩ := open_Puzzle h_z
  refine enter @Try.func38 @Try.ntmps38 rfl rfl ?_
  refine Js.seq ?_
  refine Js.region ?_
  refine JL.e (e_box (c := [.int .i64 z.rules.pits, .int .i64 z.rules.seeds, .bool z.rules.stores, .bool z.rules.skip, .bool z.rules.relay, .bool z.rules.feed, .bool z.rules.again, .int .i64 z.rules.capture, .int .i64 z.rules.slam, .slice A1_9 z.position.pits.length c1_9, .slice A1_10 z.position.stores.length c1_10, .int .i64 z.position.player, .int .i64 z.depth, .int .i64 z.move, .int .i64 z.value, .int .i64 z.margin]) rfl rfl) ?_
  rintro _ _ _ ⟨b2, rfl, rfl, rfl⟩ _
  refine JL.q (OpP.q (p_assign rfl)) ?_
  refine JL.q (OpP.q (p_assign rfl)) ?_
  refine JL.nil ?_
  refine Js.seq ?_
  refine Js.seq ?_
  refine Js.region ?_
  refine JL.e (e_callV fn_56 rfl (fun w hw => c_spec_l21Ok z _ w ⟨_, _, [.int .i64 z.rules.pits, .int .i64 z.rules.seeds, .bool z.rules.stores, .bool z.rules.skip, .bool z.rules.relay, .bool z.rules.feed, .bool z.rules.again, .int .i64 z.rules.capture, .int .i64 z.rules.slam, .slice A1_9 z.position.pits.length c1_9, .slice A1_10 z.position.stores.length c1_10, .int .i64 z.position.player, .int .i64 z.depth, .int .i64 z.move, .int .i64 z.value, .int .i64 z.margin], rfl, ⟨rfl, rfl, rfl, rfl, rfl, rfl, rfl, rfl, rfl, (Ty.mono _ h1_9 hw.vis), (Ty.mono _ h1_10 hw.vis), rfl, rfl, rfl, rfl, rfl, trivial⟩, Mem.boxR (i := 0) rfl 0 16 w hw⟩ (by omega) (by omega))) ?_
  rintro _ _ _ ⟨rfl, rfl, rfl⟩ _
  refine JL.q (OpP.q (p_not rfl)) ?_
  refine JL.nil ?_
  refine Js.cond rfl (fun h3 => ?_) (fun h3 => ?_)
  ·
    have h3' := h3
    try simp only [Bool.not_eq_true'] at h3'
    have hno : M.okZ z = false := by simpa using h3
    have hE := M.sol_no hno
    have hC := M.solC_no hno
    refine Js.seq ?_
    refine Js.region ?_
    refine JL.q (OpP.q (p_assign rfl)) ?_
    refine JL.q (OpP.q (p_assign rfl)) ?_
    refine JL.nil ?_
    refine Js.ret (R := RO w (Ty.tup [Ty.ints 2 (M.sol z), Ty.int (M.solC z)])) @Try.results38 (fun _ _ => rfl) (ResOk.tmp rfl (ResOk.tmp rfl ResOk.nil)) (fun w1 hw => ?_)
    have hx := hw.ext (Up.refl _ _)
    exact ret_own (ps := []) hw hx ⟨_, rfl, ⟨_, _, rfl, (ints_cast (show [] = M.sol z by first | (rw [hE]; done) | (rw [hC]; done)) nil_own), ⟨_, _, rfl, ⟨by first | (rw [hE]; done) | (rw [hC]; done), rfl⟩, rfl⟩⟩⟩ Pick.nil (by simp [List.flatten, outV])
  ·
    have h3' := h3
    try simp only [Bool.not_eq_false'] at h3'
    have hok : M.okZ z = true := by simpa using h3
    obtain ⟨hoc, hpz⟩ := M.okZ_parts hok
    have ho := M.optsC_ok hoc
    have hl9 := M.okP_len ho.1
    have hE := M.sol_yes hok
    have hC := M.solC_yes hok
    refine Js.skip ?_
    refine Js.seq ?_
    refine Js.region ?_
    refine JL.q (OpP.q (p_fieldAddr fld_45_0 rfl)) ?_
    refine JL.q (q_loadN ty_31 rfl (Mem.boxR (i := 0) rfl 0 9) rfl rfl) ?_
    refine JL.q (OpP.q (p_fieldAddr fld_45_1 rfl)) ?_
    refine JL.q (q_loadN ty_33 rfl (Mem.boxR (i := 0) rfl 9 3) rfl rfl) ?_
    refine JL.q (OpP.q (p_fieldAddr fld_45_2 rfl)) ?_
    refine JL.q (q_load1 ty_2 rfl (Mem.box (i := 0) rfl rfl)) ?_
    refine JL.e (e_callO fn_20 rfl (Spl.tup (Spls.cons (Spl.ints _ _) (Spls.cons (Spl.val _) Spls.nil))) (fun w hw => c_spec_SearchLine z.rules _ z.position _ z.depth w ⟨_, rfl, ⟨rfl, rfl, rfl, rfl, rfl, rfl, rfl, rfl, rfl, trivial⟩⟩ ⟨_, rfl, ⟨(Ty.mono _ h1_9 hw.vis), (Ty.mono _ h1_10 hw.vis), rfl, trivial⟩⟩ (by omega) (by omega))) ?_
    rintro v4 _ _ ⟨_, hR5, rfl, rfl⟩ _
    obtain ⟨vs6, rfl, hr6⟩ := hR5
    obtain ⟨v6_0, vs6_0, o6_0, ow6_0, rfl, hR6_0, hs6_0, rfl⟩ := RL_cons hr6
    obtain ⟨v6_1, vs6_1, o6_1, ow6_1, rfl, hR6_1, hs6_1, rfl⟩ := RL_cons hs6_0
    obtain ⟨rfl, rfl⟩ := RL_nil hs6_1
    obtain ⟨A7, c7, rfl, rfl, bl7, bh7⟩ := hR6_0
    obtain ⟨rfl, rfl⟩ : v6_1 = .int .i64 (M.srchC z.rules z.position z.depth) ∧ _ := hR6_1
    refine JL.q (OpP.q (p_extract rfl rfl)) ?_
    refine JL.q (OpP.q (p_extract rfl rfl)) ?_
    refine JL.q (OpP.q (p_assign rfl)) ?_
    refine JL.q (OpP.q (p_assign rfl)) ?_
    refine JL.nil ?_
    refine Js.ret (R := RO w (Ty.tup [Ty.ints 2 (M.sol z), Ty.int (M.solC z)])) @Try.results38 (fun _ _ => rfl) (ResOk.tmp rfl (ResOk.tmp rfl ResOk.nil)) (fun w1 hw => ?_)
    have hx := hw.ext (Up.refl _ _)
    exact ret_own (ps := [(0, (Value.ownBlock (.slice A7 ((M.lineR z.rules z.position z.depth).length) c7)).toList)]) hw hx ⟨_, rfl, ⟨_, _, rfl, (ints_row (xs := (M.lineR z.rules z.position z.depth)) (hw.pr (i := 0) rfl) (show M.lineR z.rules z.position z.depth = M.sol z by first | (rw [hE]; done) | (rw [hC]; done))), ⟨_, _, rfl, ⟨by first | (rw [hE]; done) | (rw [hC]; done), rfl⟩, rfl⟩⟩⟩ (Pick.cons (j := 0) rfl (List.sublist_append_left _ _) rfl Pick.nil) (by simp [List.flatten, outV])

set_option maxRecDepth 100000 in
set_option maxHeartbeats 12000000 in
theorem c_spec_l04Turn (r : M.Rul) (v_r : Value) (p : M.Pos) (v_p : Value) (w : World) (h_r : (Ty.ref (cRules r)).ok w v_r) (h_p : (Ty.ref (cPosition p)).ok w v_p) (r0 : M.okP r p = true) : Ret Try.prog 61 [v_r, v_p] w (Ty.agg (cPosition (M.turnP r p))) := by
  obtain ⟨g1, g2, g3, g4, g5, g6, g7⟩ := M.okP_bd r0
  obtain ⟨b1, o1, rfl, hr1⟩ := ref_Rules h_r
  obtain ⟨b2, o2, A2_0, c2_0, A2_1, c2_1, rfl, hr2, h2_0, h2_1, bl2_0, bh2_0, bl2_1, bh2_1⟩ := ref_Position h_p
  refine enter @Try.func61 @Try.ntmps61 rfl rfl ?_
  refine Js.seq ?_
  refine Js.region ?_
  refine JL.e (e_alloc zero_33) ?_
  rintro _ _ _ ⟨b3, rfl, rfl, rfl⟩ _
  refine JL.nil ?_
  refine Js.seq ?_
  refine Js.drawn _ [] mixed_ (fun _ h => h) ?_
  refine JH.p 0 rfl (p_move rfl) ?_
  refine JH.p 1 rfl (p_nilCheck rfl) ?_
  refine JH.p 2 rfl (p_fieldAddr fld_33_0 rfl) ?_
  refine JH.w 3 rfl (fun os' u' hv => q_load1 ty_24 rfl (Mem.pub ((hr2.vis hv) 0 _ rfl))) ?_
  refine JH.p 4 rfl (p_move rfl) ?_
  refine JH.p 5 rfl (p_nilCheck rfl) ?_
  refine JH.p 6 rfl (p_fieldAddr fld_31_0 rfl) ?_
  refine JH.w 7 rfl (fun os' u' hv => q_load1 ty_2 rfl (Mem.pub ((hr1.vis hv) 0 _ rfl))) ?_
  have hs4 := ints_cut (a := r.pits.toNat) (b := p.pits.length) (m := c2_0) h2_0 (by omega) (by omega) (by omega) (by omega)
  have hl4 : ((p.pits.drop r.pits.toNat).take (p.pits.length - r.pits.toNat)).length = p.pits.length - r.pits.toNat := by rw [List.length_take, List.length_drop]; omega
  refine JH.p 8 rfl (p_slice (lo' := r.pits.toNat) (hi' := p.pits.length) (mx' := c2_0) el_24 rfl rfl ⟨rfl, rfl⟩ ⟨_, by rw [Int.toNat_of_nonneg (by omega)]; exact rfl, by omega⟩) ?_
  refine JH.one (i := 9) (by kernel_rfl) ?_
  refine JHo.e rfl (e_callO fn_83 rfl (Spl.ints _ _) (fun w hw => c_spec_l00Own ((p.pits.drop r.pits.toNat).take (p.pits.length - r.pits.toNat)) _ w (Ty.mono _ hs4 hw.vis) (by omega))) (.inl rfl) ?_
  rintro v5 _ _ ⟨_, hR6, rfl, rfl⟩ _
  obtain ⟨A7, c7, rfl, rfl, bl7, bh7⟩ := hR6
  refine JH.p 10 rfl (p_assign rfl) ?_
  refine JH.done (by kernel_rfl) ?_
  refine Js.seq ?_
  refine Js.cut (fun l os u => ∃ (b14 : Nat) (A13 : Option Addr) (c13 : Nat) (g12 : List Nat), l = [(4, .pointer (some ⟨b3, 0, none⟩))] ∧ os = [rowO 2 1 (.slice (some ⟨b14, 0, none⟩) 2 2) 2 [.int .i64 (M.nth p.stores 1), .int .i64 (M.nth p.stores 0)] [], rowO 2 1 (.slice A13 ((((p.pits.drop r.pits.toNat).take (p.pits.length - r.pits.toNat)) ++ ((p.pits.drop 0).take (r.pits.toNat - 0))).length) c13) ((((p.pits.drop r.pits.toNat).take (p.pits.length - r.pits.toNat)) ++ ((p.pits.drop 0).take (r.pits.toNat - 0))).length) (ints_ (((p.pits.drop r.pits.toNat).take (p.pits.length - r.pits.toNat)) ++ ((p.pits.drop 0).take (r.pits.toNat - 0)))) g12, boxO b3 [.slice A13 ((((p.pits.drop r.pits.toNat).take (p.pits.length - r.pits.toNat)) ++ ((p.pits.drop 0).take (r.pits.toNat - 0))).length) c13, .slice (some ⟨b14, 0, none⟩) 2 2, .int .i64 (1 - p.player)] 33] ∧ Up w.heap.size w u ∧ ((((p.pits.drop r.pits.toNat).take (p.pits.length - r.pits.toNat)) ++ ((p.pits.drop 0).take (r.pits.toNat - 0))).length ≤ c13) ∧ (c13 ≤ 9223372036854775807)) ?_ ?_
  ·
    refine Js.drawn _ [10, 30] mixed_ (fun _ h => h) ?_
    refine JH.p 0 rfl (p_move rfl) ?_
    refine JH.p 1 rfl (p_move rfl) ?_
    refine JH.p 2 rfl (p_nilCheck rfl) ?_
    refine JH.p 3 rfl (p_fieldAddr fld_33_0 rfl) ?_
    refine JH.w 4 rfl (fun os' u' hv => q_load1 ty_24 rfl (Mem.pub ((hr2.vis hv) 0 _ rfl))) ?_
    refine JH.p 5 rfl (p_move rfl) ?_
    refine JH.p 6 rfl (p_nilCheck rfl) ?_
    refine JH.p 7 rfl (p_fieldAddr fld_31_0 rfl) ?_
    refine JH.w 8 rfl (fun os' u' hv => q_load1 ty_2 rfl (Mem.pub ((hr1.vis hv) 0 _ rfl))) ?_
    have hs22 := ints_cut (a := 0) (b := r.pits.toNat) (m := c2_0) h2_0 (by omega) (by omega) (by omega) (by omega)
    have hl22 : ((p.pits.drop 0).take (r.pits.toNat - 0)).length = r.pits.toNat - 0 := by rw [List.length_take, List.length_drop]; omega
    refine JH.p 9 rfl (p_slice (lo' := 0) (hi' := r.pits.toNat) (mx' := c2_0) el_24 rfl rfl ⟨_, by rw [Int.toNat_of_nonneg (by omega)]; exact rfl, by omega⟩ rfl) ?_
    refine JH.p 11 rfl (p_move rfl) ?_
    refine JH.p 12 rfl (p_nilCheck rfl) ?_
    refine JH.p 13 rfl (p_fieldAddr fld_33_1 rfl) ?_
    refine JH.w 14 rfl (fun os' u' hv => q_load1 ty_24 rfl (Mem.pub ((hr2.vis hv) 1 _ rfl))) ?_
    obtain ⟨b23, o23, he23, hc23⟩ := ints_elem h2_1 (i := 1) (by omega)
    refine JH.p 15 rfl (p_indexAddr el_24 rfl rfl (by omega) (by omega) he23) ?_
    refine JH.w 16 rfl (fun os' u' hv => q_load1 ty_2 rfl (Mem.pub (hc23.vis hv))) ?_
    refine JH.p 17 rfl (p_move rfl) ?_
    refine JH.p 18 rfl (p_nilCheck rfl) ?_
    refine JH.p 19 rfl (p_fieldAddr fld_33_1 rfl) ?_
    refine JH.w 20 rfl (fun os' u' hv => q_load1 ty_24 rfl (Mem.pub ((hr2.vis hv) 1 _ rfl))) ?_
    obtain ⟨b24, o24, he24, hc24⟩ := ints_elem h2_1 (i := 0) (by omega)
    refine JH.p 21 rfl (p_indexAddr el_24 rfl rfl (by omega) (by omega) he24) ?_
    refine JH.w 22 rfl (fun os' u' hv => q_load1 ty_2 rfl (Mem.pub (hc24.vis hv))) ?_
    refine JH.p 24 rfl (p_move rfl) ?_
    refine JH.p 25 rfl (p_nilCheck rfl) ?_
    refine JH.p 26 rfl (p_fieldAddr fld_33_2 rfl) ?_
    refine JH.w 27 rfl (fun os' u' hv => q_load1 ty_2 rfl (Mem.pub ((hr2.vis hv) 2 _ rfl))) ?_
    refine JH.p 28 rfl (p_sub rfl rfl (IntWalk.i64_in _ (by omega))) ?_
    refine JH.all (rs := [10, 23]) (by kernel_rfl) rfl ⟨?_, ?_, trivial⟩
    ·
      refine JHo.e rfl (e_append (i := 0) (n' := (((p.pits.drop r.pits.toNat).take (p.pits.length - r.pits.toNat)) ++ ((p.pits.drop 0).take (r.pits.toNat - 0))).length) (vs' := ints_ (((p.pits.drop r.pits.toNat).take (p.pits.length - r.pits.toNat)) ++ ((p.pits.drop 0).take (r.pits.toNat - 0)))) el_24 rfl rfl rfl rfl (src_intsN und_24 hl22 hs22) (by omega) (by omega) (by first | omega | (simp only [List.length_append, List.length_cons, List.length_nil] <;> omega)) (by simp [ints_])) (.inr rfl) ?_
      rintro v25 _ _ ⟨⟨g26, rfl⟩, rfl⟩ _
      refine JH.fact (row_form' (i := 0) rfl) (fun hf27 => ?_)
      obtain ⟨A27, c27, rfl, bl27, bh27⟩ := hf27
      refine JH.one (i := 23) (by kernel_rfl) ?_
      refine JHo.e rfl (e_buildSlice (vs := [.int .i64 (M.nth p.stores 1), .int .i64 (M.nth p.stores 0)]) el_24 rfl rfl rfl rfl rfl rfl) (.inl rfl) ?_
      rintro _ _ _ ⟨b28, rfl, rfl, hl29, rfl⟩ _
      refine JH.p 29 rfl (p_build zero_33 flds_33 rfl rfl) ?_
      refine JH.one (i := 30) (by kernel_rfl) ?_
      refine JHo.s rfl (e_store (i := 2) (c' := [.slice A27 ((((p.pits.drop r.pits.toNat).take (p.pits.length - r.pits.toNat)) ++ ((p.pits.drop 0).take (r.pits.toNat - 0))).length) c27, .slice (some ⟨b28, 0, none⟩) 2 2, .int .i64 (1 - p.player)]) ty_33 rfl rfl rfl rfl rfl rfl rfl rfl) (.inr rfl) ?_
      rintro _ _ _ ⟨rfl, rfl⟩ _
      refine JH.done (by kernel_rfl) ?_
      exact Js.meet ⟨_, _, _, _, rfl, rfl, Up.refl _ _, by omega, by omega⟩ ⟨rfl, trivial⟩
    ·
      refine JHo.e rfl (e_buildSlice (vs := [.int .i64 (M.nth p.stores 1), .int .i64 (M.nth p.stores 0)]) el_24 rfl rfl rfl rfl rfl rfl) (.inl rfl) ?_
      rintro _ _ _ ⟨b30, rfl, rfl, hl31, rfl⟩ _
      refine JH.one (i := 10) (by kernel_rfl) ?_
      refine JHo.e rfl (e_append (i := 1) (n' := (((p.pits.drop r.pits.toNat).take (p.pits.length - r.pits.toNat)) ++ ((p.pits.drop 0).take (r.pits.toNat - 0))).length) (vs' := ints_ (((p.pits.drop r.pits.toNat).take (p.pits.length - r.pits.toNat)) ++ ((p.pits.drop 0).take (r.pits.toNat - 0)))) el_24 rfl rfl rfl rfl (src_intsN und_24 hl22 hs22) (by omega) (by omega) (by first | omega | (simp only [List.length_append, List.length_cons, List.length_nil] <;> omega)) (by simp [ints_])) (.inr rfl) ?_
      rintro v32 _ _ ⟨⟨g33, rfl⟩, rfl⟩ _
      refine JH.fact (row_form' (i := 1) rfl) (fun hf34 => ?_)
      obtain ⟨A34, c34, rfl, bl34, bh34⟩ := hf34
      refine JH.p 29 rfl (p_build zero_33 flds_33 rfl rfl) ?_
      refine JH.one (i := 30) (by kernel_rfl) ?_
      refine JHo.s rfl (e_store (i := 2) (c' := [.slice A34 ((((p.pits.drop r.pits.toNat).take (p.pits.length - r.pits.toNat)) ++ ((p.pits.drop 0).take (r.pits.toNat - 0))).length) c34, .slice (some ⟨b30, 0, none⟩) 2 2, .int .i64 (1 - p.player)]) ty_33 rfl rfl rfl rfl rfl rfl rfl rfl) (.inr rfl) ?_
      rintro _ _ _ ⟨rfl, rfl⟩ _
      refine JH.done (by kernel_rfl) ?_
      exact Js.meet ⟨_, _, _, _, rfl, rfl, Up.refl _ _, by omega, by omega⟩ ⟨rfl, trivial⟩
  · rintro _ _ u21 ⟨b14, A13, c13, g12, rfl, rfl, x21, f21_0, f21_1⟩
    refine Js.ret (R := RO w (Ty.agg (cPosition (M.turnP r p)))) @Try.results61 (fun _ _ => rfl) (ResOk.cell (res_box (i := 2) ty_33 rfl rfl rfl rfl rfl) ResOk.nil) (fun w1 hw => ?_)
    have hx := hw.ext (x21)
    exact ret_own (ps := [(1, (Value.ownBlock (.slice A13 ((((p.pits.drop r.pits.toNat).take (p.pits.length - r.pits.toNat)) ++ ((p.pits.drop 0).take (r.pits.toNat - 0))).length) c13)).toList), (0, (Value.ownBlock (.slice (some ⟨b14, 0, none⟩) 2 2)).toList)]) hw hx ⟨_, rfl, ⟨_, _, rfl, (ints_row (xs := (((p.pits.drop r.pits.toNat).take (p.pits.length - r.pits.toNat)) ++ ((p.pits.drop 0).take (r.pits.toNat - 0)))) (hw.pr (i := 1) rfl) (show ((p.pits.drop r.pits.toNat).take (p.pits.length - r.pits.toNat)) ++ ((p.pits.drop 0).take (r.pits.toNat - 0)) = (M.turnP r p).pits by first | rfl | (simp [M.turnP, List.take_of_length_le]; done) | (unfold M.turnP; simp; omega))), ⟨_, _, rfl, (ints_row (xs := [(M.nth p.stores 1), (M.nth p.stores 0)]) (hw.pr (i := 0) rfl) (show [(M.nth p.stores 1), (M.nth p.stores 0)] = (M.turnP r p).stores by first | rfl | (simp [M.turnP, List.take_of_length_le]; done) | (unfold M.turnP; simp; omega))), ⟨_, _, rfl, ⟨by first | rfl | (simp [M.turnP, List.take_of_length_le]; done) | (unfold M.turnP; simp; omega), rfl⟩, rfl⟩⟩⟩⟩ (Pick.cons (j := 1) rfl (List.sublist_append_left _ _) rfl (Pick.cons (j := 0) rfl (List.sublist_append_left _ _) rfl Pick.nil)) (by simp [List.flatten, outV])

set_option maxRecDepth 100000 in
set_option maxHeartbeats 4000000 in
theorem c_spec_TurnPuzzle (z : M.Puz) (v_z : Value) (w : World) (h_z : (Ty.agg (cPuzzle z)).ok w v_z) (r0 : z.position.pits.length ≤ 4194304) (r1 : z.position.stores.length ≤ 4194304) : Ret Try.prog 36 [v_z] w (Ty.tup [Ty.agg (cPuzzle ((M.turnZ z).1)), Ty.int ((M.turnZ z).2)]) := by
  obtain ⟨A1_9, c1_9, A1_10, c1_10, rfl, h1_9, h1_10, bl1_9, bh1_9, bl1_10, bh1_10⟩ := open_Puzzle h_z
  refine enter @Try.func36 @Try.ntmps36 rfl rfl ?_
  refine Js.seq ?_
  refine Js.region ?_
  refine JL.e (e_box (c := [.int .i64 z.rules.pits, .int .i64 z.rules.seeds, .bool z.rules.stores, .bool z.rules.skip, .bool z.rules.relay, .bool z.rules.feed, .bool z.rules.again, .int .i64 z.rules.capture, .int .i64 z.rules.slam, .slice A1_9 z.position.pits.length c1_9, .slice A1_10 z.position.stores.length c1_10, .int .i64 z.position.player, .int .i64 z.depth, .int .i64 z.move, .int .i64 z.value, .int .i64 z.margin]) rfl rfl) ?_
  rintro _ _ _ ⟨b2, rfl, rfl, rfl⟩ _
  refine JL.e (e_alloc zero_45) ?_
  rintro _ _ _ ⟨b3, rfl, rfl, rfl⟩ _
  refine JL.q (OpP.q (p_assign rfl)) ?_
  refine JL.nil ?_
  refine Js.seq ?_
  refine Js.seq ?_
  refine Js.region ?_
  refine JL.e (e_callV fn_56 rfl (fun w hw => c_spec_l21Ok z _ w ⟨_, _, [.int .i64 z.rules.pits, .int .i64 z.rules.seeds, .bool z.rules.stores, .bool z.rules.skip, .bool z.rules.relay, .bool z.rules.feed, .bool z.rules.again, .int .i64 z.rules.capture, .int .i64 z.rules.slam, .slice A1_9 z.position.pits.length c1_9, .slice A1_10 z.position.stores.length c1_10, .int .i64 z.position.player, .int .i64 z.depth, .int .i64 z.move, .int .i64 z.value, .int .i64 z.margin], rfl, ⟨rfl, rfl, rfl, rfl, rfl, rfl, rfl, rfl, rfl, (Ty.mono _ h1_9 hw.vis), (Ty.mono _ h1_10 hw.vis), rfl, rfl, rfl, rfl, rfl, trivial⟩, Mem.boxR (i := 1) rfl 0 16 w hw⟩ (by omega) (by omega))) ?_
  rintro _ _ _ ⟨rfl, rfl, rfl⟩ _
  refine JL.q (OpP.q (p_not rfl)) ?_
  refine JL.nil ?_
  refine Js.cond rfl (fun h4 => ?_) (fun h4 => ?_)
  ·
    have h4' := h4
    try simp only [Bool.not_eq_true'] at h4'
    have hno : M.okZ z = false := by simpa using h4
    have hE := M.turnZ_no hno
    refine Js.seq ?_
    refine Js.region ?_
    refine JL.q (OpP.q (p_build zero_45 flds_45 rfl rfl)) ?_
    refine JL.s (e_store (i := 0) (c' := [.int .i64 0, .int .i64 0, .bool false, .bool false, .bool false, .bool false, .bool false, .int .i64 0, .int .i64 0, .slice none 0 0, .slice none 0 0, .int .i64 0, .int .i64 0, .int .i64 0, .int .i64 0, .int .i64 0]) ty_45 rfl rfl rfl rfl rfl rfl rfl rfl) ?_
    rintro _ _ _ ⟨rfl, rfl⟩ _
    refine JL.q (OpP.q (p_assign rfl)) ?_
    refine JL.nil ?_
    refine Js.ret (R := RO w (Ty.tup [Ty.agg (cPuzzle ((M.turnZ z).1)), Ty.int ((M.turnZ z).2)])) @Try.results36 (fun _ _ => rfl) (ResOk.cell (res_box (i := 0) ty_45 rfl rfl rfl rfl rfl) (ResOk.tmp rfl ResOk.nil)) (fun w1 hw => ?_)
    have hx := hw.ext (Up.refl _ _)
    exact ret_own (ps := []) hw hx ⟨_, rfl, ⟨_, _, rfl, ⟨_, rfl, ⟨_, _, rfl, ⟨by first | (rw [hE]; done) | (rw [hE]; rfl), rfl⟩, ⟨_, _, rfl, ⟨by first | (rw [hE]; done) | (rw [hE]; rfl), rfl⟩, ⟨_, _, rfl, ⟨by first | (rw [hE]; done) | (rw [hE]; rfl), rfl⟩, ⟨_, _, rfl, ⟨by first | (rw [hE]; done) | (rw [hE]; rfl), rfl⟩, ⟨_, _, rfl, ⟨by first | (rw [hE]; done) | (rw [hE]; rfl), rfl⟩, ⟨_, _, rfl, ⟨by first | (rw [hE]; done) | (rw [hE]; rfl), rfl⟩, ⟨_, _, rfl, ⟨by first | (rw [hE]; done) | (rw [hE]; rfl), rfl⟩, ⟨_, _, rfl, ⟨by first | (rw [hE]; done) | (rw [hE]; rfl), rfl⟩, ⟨_, _, rfl, ⟨by first | (rw [hE]; done) | (rw [hE]; rfl), rfl⟩, ⟨_, _, rfl, (ints_cast (show [] = (((M.turnZ z).1).position).pits by first | (rw [hE]; done) | (rw [hE]; rfl)) nil_own), ⟨_, _, rfl, (ints_cast (show [] = (((M.turnZ z).1).position).stores by first | (rw [hE]; done) | (rw [hE]; rfl)) nil_own), ⟨_, _, rfl, ⟨by first | (rw [hE]; done) | (rw [hE]; rfl), rfl⟩, ⟨_, _, rfl, ⟨by first | (rw [hE]; done) | (rw [hE]; rfl), rfl⟩, ⟨_, _, rfl, ⟨by first | (rw [hE]; done) | (rw [hE]; rfl), rfl⟩, ⟨_, _, rfl, ⟨by first | (rw [hE]; done) | (rw [hE]; rfl), rfl⟩, ⟨_, _, rfl, ⟨by first | (rw [hE]; done) | (rw [hE]; rfl), rfl⟩, rfl⟩⟩⟩⟩⟩⟩⟩⟩⟩⟩⟩⟩⟩⟩⟩⟩⟩, ⟨_, _, rfl, ⟨by first | (rw [hE]; done) | (rw [hE]; rfl), rfl⟩, rfl⟩⟩⟩ Pick.nil (by simp [List.flatten, outV])
  ·
    have h4' := h4
    try simp only [Bool.not_eq_false'] at h4'
    have hok : M.okZ z = true := by simpa using h4
    obtain ⟨hoc, hpz⟩ := M.okZ_parts hok
    have ho := M.optsC_ok hoc
    have hl9 := M.okP_len ho.1
    have hE := M.turnZ_yes hok
    refine Js.skip ?_
    refine Js.seq ?_
    refine Js.region ?_
    refine JL.q (OpP.q (p_fieldAddr fld_45_0 rfl)) ?_
    refine JL.q (OpP.q (p_fieldAddr fld_45_1 rfl)) ?_
    refine JL.e (e_callO fn_61 rfl (Spl.agg (Spls.cons (Spl.ints _ _) (Spls.cons (Spl.ints _ _) (Spls.cons (Spl.val _) Spls.nil)))) (fun w hw => c_spec_l04Turn z.rules _ z.position _ w ⟨_, _, [.int .i64 z.rules.pits, .int .i64 z.rules.seeds, .bool z.rules.stores, .bool z.rules.skip, .bool z.rules.relay, .bool z.rules.feed, .bool z.rules.again, .int .i64 z.rules.capture, .int .i64 z.rules.slam], rfl, ⟨rfl, rfl, rfl, rfl, rfl, rfl, rfl, rfl, rfl, trivial⟩, Mem.boxR (i := 1) rfl 0 9 w hw⟩ ⟨_, _, [.slice A1_9 z.position.pits.length c1_9, .slice A1_10 z.position.stores.length c1_10, .int .i64 z.position.player], rfl, ⟨(Ty.mono _ h1_9 hw.vis), (Ty.mono _ h1_10 hw.vis), rfl, trivial⟩, Mem.boxR (i := 1) rfl 9 3 w hw⟩ ho.1)) ?_
    rintro v5 _ _ ⟨_, hR6, rfl, rfl⟩ _
    obtain ⟨vs7, rfl, hr7⟩ := hR6
    obtain ⟨v7_0, vs7_0, o7_0, ow7_0, rfl, hR7_0, hs7_0, rfl⟩ := RL_cons hr7
    obtain ⟨v7_1, vs7_1, o7_1, ow7_1, rfl, hR7_1, hs7_1, rfl⟩ := RL_cons hs7_0
    obtain ⟨v7_2, vs7_2, o7_2, ow7_2, rfl, hR7_2, hs7_2, rfl⟩ := RL_cons hs7_1
    obtain ⟨rfl, rfl⟩ := RL_nil hs7_2
    obtain ⟨A8, c8, rfl, rfl, bl8, bh8⟩ := hR7_0
    obtain ⟨A9, c9, rfl, rfl, bl9, bh9⟩ := hR7_1
    obtain ⟨rfl, rfl⟩ : v7_2 = .int .i64 ((M.turnP z.rules z.position).player) ∧ _ := hR7_2
    refine JL.e (e_alloc zero_33) ?_
    rintro _ _ _ ⟨b10, rfl, rfl, rfl⟩ _
    refine JL.s (e_store (i := 0) (c' := [.slice A8 (((M.turnP z.rules z.position).pits).length) c8, .slice A9 (((M.turnP z.rules z.position).stores).length) c9, .int .i64 ((M.turnP z.rules z.position).player)]) ty_33 rfl rfl rfl rfl rfl rfl rfl rfl) ?_
    rintro _ _ _ ⟨rfl, rfl⟩ _
    refine JL.nil ?_
    refine Js.seq ?_
    refine Js.region ?_
    refine JL.q (OpP.q (p_fieldAddr fld_45_0 rfl)) ?_
    refine JL.q (q_loadN ty_31 rfl (Mem.boxR (i := 4) rfl 0 9) rfl rfl) ?_
    refine JL.q (q_loadN ty_33 rfl (Mem.boxR (i := 0) rfl 0 3) rfl rfl) ?_
    refine JL.q (OpP.q (p_fieldAddr fld_45_2 rfl)) ?_
    refine JL.q (q_load1 ty_2 rfl (Mem.box (i := 4) rfl rfl)) ?_
    refine JL.q (OpP.q (p_fieldAddr fld_45_3 rfl)) ?_
    refine JL.q (q_load1 ty_2 rfl (Mem.box (i := 4) rfl rfl)) ?_
    refine JL.q (OpP.q (p_fieldAddr fld_45_4 rfl)) ?_
    refine JL.q (q_load1 ty_2 rfl (Mem.box (i := 4) rfl rfl)) ?_
    refine JL.q (OpP.q (p_fieldAddr fld_45_5 rfl)) ?_
    refine JL.q (q_load1 ty_2 rfl (Mem.box (i := 4) rfl rfl)) ?_
    refine JL.q (OpP.q (p_build zero_45 flds_45 rfl rfl)) ?_
    refine JL.s (e_store (i := 3) (c' := [.int .i64 z.rules.pits, .int .i64 z.rules.seeds, .bool z.rules.stores, .bool z.rules.skip, .bool z.rules.relay, .bool z.rules.feed, .bool z.rules.again, .int .i64 z.rules.capture, .int .i64 z.rules.slam, .slice A8 (((M.turnP z.rules z.position).pits).length) c8, .slice A9 (((M.turnP z.rules z.position).stores).length) c9, .int .i64 ((M.turnP z.rules z.position).player), .int .i64 z.depth, .int .i64 z.move, .int .i64 z.value, .int .i64 z.margin]) ty_45 rfl rfl rfl rfl rfl rfl rfl rfl) ?_
    rintro _ _ _ ⟨rfl, rfl⟩ _
    refine JL.q (OpP.q (p_assign rfl)) ?_
    refine JL.nil ?_
    refine Js.ret (R := RO w (Ty.tup [Ty.agg (cPuzzle ((M.turnZ z).1)), Ty.int ((M.turnZ z).2)])) @Try.results36 (fun _ _ => rfl) (ResOk.cell (res_box (i := 3) ty_45 rfl rfl rfl rfl rfl) (ResOk.tmp rfl ResOk.nil)) (fun w1 hw => ?_)
    have hx := hw.ext (Up.refl _ _)
    exact ret_own (ps := [(1, (Value.ownBlock (.slice A8 (((M.turnP z.rules z.position).pits).length) c8)).toList), (2, (Value.ownBlock (.slice A9 (((M.turnP z.rules z.position).stores).length) c9)).toList)]) hw hx ⟨_, rfl, ⟨_, _, rfl, ⟨_, rfl, ⟨_, _, rfl, ⟨by first | (rw [hE]; done) | (rw [hE]; rfl), rfl⟩, ⟨_, _, rfl, ⟨by first | (rw [hE]; done) | (rw [hE]; rfl), rfl⟩, ⟨_, _, rfl, ⟨by first | (rw [hE]; done) | (rw [hE]; rfl), rfl⟩, ⟨_, _, rfl, ⟨by first | (rw [hE]; done) | (rw [hE]; rfl), rfl⟩, ⟨_, _, rfl, ⟨by first | (rw [hE]; done) | (rw [hE]; rfl), rfl⟩, ⟨_, _, rfl, ⟨by first | (rw [hE]; done) | (rw [hE]; rfl), rfl⟩, ⟨_, _, rfl, ⟨by first | (rw [hE]; done) | (rw [hE]; rfl), rfl⟩, ⟨_, _, rfl, ⟨by first | (rw [hE]; done) | (rw [hE]; rfl), rfl⟩, ⟨_, _, rfl, ⟨by first | (rw [hE]; done) | (rw [hE]; rfl), rfl⟩, ⟨_, _, rfl, (ints_row (xs := ((M.turnP z.rules z.position).pits)) (hw.pr (i := 1) rfl) (show (M.turnP z.rules z.position).pits = (((M.turnZ z).1).position).pits by first | (rw [hE]; done) | (rw [hE]; rfl))), ⟨_, _, rfl, (ints_row (xs := ((M.turnP z.rules z.position).stores)) (hw.pr (i := 2) rfl) (show (M.turnP z.rules z.position).stores = (((M.turnZ z).1).position).stores by first | (rw [hE]; done) | (rw [hE]; rfl))), ⟨_, _, rfl, ⟨by first | (rw [hE]; done) | (rw [hE]; rfl), rfl⟩, ⟨_, _, rfl, ⟨by first | (rw [hE]; done) | (rw [hE]; rfl), rfl⟩, ⟨_, _, rfl, ⟨by first | (rw [hE]; done) | (rw [hE]; rfl), rfl⟩, ⟨_, _, rfl, ⟨by first | (rw [hE]; done) | (rw [hE]; rfl), rfl⟩, ⟨_, _, rfl, ⟨by first | (rw [hE]; done) | (rw [hE]; rfl), rfl⟩, rfl⟩⟩⟩⟩⟩⟩⟩⟩⟩⟩⟩⟩⟩⟩⟩⟩⟩, ⟨_, _, rfl, ⟨by first | (rw [hE]; done) | (rw [hE]; rfl), rfl⟩, rfl⟩⟩⟩ (Pick.cons (j := 1) rfl (List.sublist_append_left _ _) rfl (Pick.cons (j := 2) rfl (List.sublist_append_left _ _) rfl Pick.nil)) (by simp [List.flatten, outV])

end Go.Proofs.Ytinkeciedmjjmaa

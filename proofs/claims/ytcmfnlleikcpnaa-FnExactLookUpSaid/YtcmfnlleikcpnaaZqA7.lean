/- Walks: L34. -/
import Derived.Test.YtcmfnlleikcpnaaZqA2
import Derived.Test.YtcmfnlleikcpnaaZqA6
set_option linter.unusedSimpArgs false
set_option linter.unusedVariables false
set_option maxRecDepth 100000
attribute [local irreducible] Go.Proofs.Ytcmfnlleikcpnaa.gv
namespace Go.Proofs.Ytcmfnlleikcpnaa
open Go.RowKit

set_option maxHeartbeats 4000000 in
theorem c_laws_FnExactLookUp (aB : M.Boo) {v_aB : Value} (aP : M.Pos) {v_aP : Value} {w : World} (h_aB : (Ty.agg (cBook aB)).ok w v_aB) (h_aP : (Ty.agg (cPosition aP)).ok w v_aP) : RetV Try.prog 6 [v_aB, v_aP] w (.bool true) := by
 have q4 := M.szL_cases (aB.entries.length + M.totE aB.entries) 1048576
 have q5 := M.szL_cases (aP.pits.length + aP.stores.length) (M.szL (aB.entries.length + M.totE aB.entries) 1048576)
 change (_ < _ ∧ M.szP aP _ = -1) ∨ (_ ≤ _ ∧ M.szP aP _ = _) at q5
 have z1 := M.szs_E_le aB.entries
 have z2 := M.szs_E_nn aB.entries
 have z3 := M.szp_nn aP
 revert v_aB; apply opn
 intro A1 c1 h1 bl1 bh1
 revert v_aP; apply opn
 intro A2 c2 h2 bl2 bh2 A3 c3 h3 bl3 bh3
 refine enter @Try.func6 @Try.ntmps6 rfl rfl ?_
 refine zent ?_
 refine zS <| zb rfl fun b4 => zb rfl fun b5 => Qa rfl <| zN <| Qa rfl <| zN <| Q9 1 rfl rfl ?_
 refine Qm rfl <| zv rfl (fun w hw => c_laws_szBook aB 1048576 (ok_ hw)) <| Qa rfl <| zJ <| zS <| Qm rfl <| Ql rfl rfl <| JL.nil ?_
 refine zi (fun h6 h6' => ?_) fun h6 h6' => ?_
 ·
  refine zS <| Qa rfl <| JL.nil ?_
  exact zr (Up.refl _ _)
 refine Js.skip <| zS <| Q9 0 rfl rfl ?_
 refine Qm rfl <| zv rfl (fun w hw => c_laws_szPosition aP (M.szL (aB.entries.length + M.totE aB.entries) 1048576) (ok_ hw)) <| Qa rfl <| zJ <| zS <| Qm rfl <| Ql rfl rfl <| JL.nil ?_
 refine zi (fun h7 h7' => ?_) fun h7 h7' => ?_
 ·
  refine zS <| Qa rfl <| JL.nil ?_
  exact zr (Up.refl _ _)
 have h9l : (M.lookR aB aP).length ≤ 4194304 := M.lookR_len (M.totE_small (n := 4194304) (by omega))
 have h9m : (M.mkL M.fC M.sC 1 (M.lookR aB aP)).length = (M.lookR aB aP).length := M.mkL_len _ _ _ _
 refine Js.skip <| Js.seq ?_
 refine zdr [] ?_
 refine JH.q 0 rfl (L9 1 rfl rfl) ?_
 refine JH.q 2 rfl (L9 0 rfl rfl) ?_
 refine y1 1 ?_
 refine yp rfl rfl (fun w hw => c_laws_toBook aB (ok_ hw) (r1 := (M.totE_small (n := 4194304) (by omega)))) ?_
 intro u8 x8 A9 c9 h9 bl9 bh9
 refine y1 3 ?_
 refine yp rfl rfl (fun w hw => c_laws_toPosition aP (ok_ hw)) ?_
 intro u10 x10 A11 c11 h11 bl11 bh11 A12 c12 h12 bl12 bh12
 refine y1 4 ?_
 refine yp rfl rfl (fun w hw => c_spec_LookUp aB aP (ok_ hw) (ok_ hw) (r1 := (M.totE_small (n := 4194304) (by omega)))) ?_
 intro u13 x13 A14 c14 h14 bl14 bh14
 refine JH.p 5 rfl (p_move rfl) ?_
 refine JH.p 6 rfl (p_extract rfl rfl) ?_
 refine JH.p 7 rfl (p_extract rfl rfl) ?_
 refine JH.p 8 rfl (p_assign rfl) ?_
 refine JH.p 9 rfl (p_assign rfl) ?_
 refine yd ?_
 refine zS <| Q9 1 rfl rfl ?_
 refine zc rfl (fun w hw => c_laws_toBook aB (ok_ hw) (r1 := (M.totE_small (n := 4194304) (by omega)))) ?_
 intro A16 c16 vs16 f16 bl16 bh16
 refine za zeh fun b17 => zw 0 rfl rfl rfl ?_
 refine zN <| Q9 3 rfl rfl ?_
 refine zc rfl (fun w hw => c_laws_toPosition aP (ok_ hw)) ?_
 intro A19 c19 bl19 bh19 A20 c20 bl20 bh20
 refine za zeh fun b21 => zw 0 rfl rfl rfl ?_
 refine zN <| Q9 3 rfl rfl ?_
 refine Q9 0 rfl rfl ?_
 refine zcs rfl (fun w hw => c_impl_LookUp aB aP ⟨_, rfl, ⟨rfl, rfl, rfl, rfl, rfl, rfl, rfl, rfl, rfl, (srow_ok lBookEntry (xs := aB.entries) (hw.pr (i := 4) rfl) (hw.pr (i := 5) rfl) (lBookEntry_length _)), trivial⟩⟩ (ok_ hw) (r1 := (M.totE_small (n := 4194304) (by omega)))) ?_
 intro A23 c23 bl23 bh23
 refine Qm rfl <| Qx rfl rfl <| Qx rfl rfl <| Qa rfl <| Qa rfl <| zJ <| zS <| Qm rfl <| Qm rfl <| zv rfl (fun w hw => c_laws_eqChoiceS (M.lookR aB aP) (M.lookR aB aP) (flat_rowok lChoice (xs := (M.lookR aB aP)) (hw.pr (i := 0) rfl)) (ok_ hw)) <| Qt rfl <| Qm rfl <| zg (Gd.f1 rfl rfl rfl) (fun hc => p_move rfl) <| zg (Gd.f1 rfl rfl rfl) (fun hc => p_move rfl) ?_
 refine zg (Gd.f1 rfl rfl rfl) (fun hc => p_neq (gh hc rfl) (gh hc rfl)) <| Qq (p_pickOr rfl rfl rfl) <| JL.nil ?_
 refine zi (fun h24 h24' => ?_) fun h24 h24' => ?_
 · exact absurd h24 (by simp)
 refine Js.skip <| Js.seq <| Js.seq ?_
 refine zdr [] ?_
 refine JH.q 0 rfl (L9 4 rfl rfl) ?_
 refine JH.q 1 rfl (L9 8 rfl rfl) ?_
 refine y1 2 ?_
 refine yp rfl rfl (fun w hw => c_laws_toBook aB (ok_ hw) (r1 := (M.totE_small (n := 4194304) (by omega)))) ?_
 intro u25 x25 A26 c26 h26 bl26 bh26
 refine y1 3 ?_
 refine yv rfl rfl (fun w hw => c_laws_eqBook aB aB ⟨_, rfl, ⟨rfl, rfl, rfl, rfl, rfl, rfl, rfl, rfl, rfl, (srow_ok lBookEntry (xs := aB.entries) (hw.pr (i := 5) rfl) (hw.pr (i := 6) rfl) (lBookEntry_length _)), trivial⟩⟩ (ok_ hw) (r1 := (M.totE_small (n := 4194304) (by omega))) (r3 := (M.totE_small (n := 4194304) (by omega)))) ?_
 refine JH.p 4 rfl (p_not rfl) ?_
 refine yd ?_
 refine zi (fun h27 h27' => ?_) fun h27 h27' => ?_
 · exact absurd h27 (by simp)
 refine Js.skip <| Js.seq <| Js.seq ?_
 refine zdr [] ?_
 refine JH.q 0 rfl (L9 1 rfl rfl) ?_
 refine JH.q 1 rfl (L9 7 rfl rfl) ?_
 refine y1 2 ?_
 refine yp rfl rfl (fun w hw => c_laws_toPosition aP (ok_ hw)) ?_
 intro u28 x28 A29 c29 h29 bl29 bh29 A30 c30 h30 bl30 bh30
 refine y1 3 ?_
 refine yv rfl rfl (fun w hw => c_laws_eqPosition aP aP (ok_ hw) (ok_ hw)) ?_
 refine JH.p 4 rfl (p_not rfl) ?_
 refine yd ?_
 refine zi (fun h31 h31' => ?_) fun h31 h31' => ?_
 · exact absurd h31 (by simp)
 refine Js.skip <| zS <| Qa rfl <| zN <| Q9 4 rfl rfl ?_
 refine Qm rfl ?_
 refine zhl [5, 5] ?_
 refine zB 2 sp_ rfl (fun w hb hw => c_laws_markBook aB.rules aB.entries 1 hb) ?_
 rintro _ _ G32 ⟨vs32a_w0, f32a_w0, rfl, rfl⟩
 refine znl ?_
 refine Qa rfl <| zN <| Q9 4 rfl rfl ?_
 refine Qm rfl ?_
 refine zhl [6, 5] ?_
 refine zB 2 sp_ rfl (fun w hb hw => c_laws_markPosition aP.pits aP.stores aP.player (1 + M.szs M.sE aB.entries) hb) ?_
 rintro _ _ G33 ⟨rfl, rfl⟩
 refine znl ?_
 refine Qa rfl <| zJ <| zS <| Qm rfl <| Ql rfl rfl <| Qm rfl <| zg (Gd.f1 rfl rfl rfl) (fun hc => p_move rfl) <| zg (Gd.f1 rfl rfl rfl) (fun hc => p_move rfl) <| zgv (Gd.f1 rfl rfl rfl) (fun hc => (opds_2 (gh hc rfl) (gh hc rfl))) (fun hc => (fun w hw => c_laws_eqChoiceS (M.lookR aB aP) (M.lookR aB aP) (flat_rowok lChoice (xs := (M.lookR aB aP)) (hw.pr (i := 6) rfl)) (ok_ hw) (r0 := (by have hc9 := hc; (try simp only [Bool.not_eq_true', decide_eq_false_iff_not, Int.not_lt] at hc9); omega)) (r1 := (by have hc9 := hc; (try simp only [Bool.not_eq_true', decide_eq_false_iff_not, Int.not_lt] at hc9); omega)))) ?_
 refine zg (Gd.f1 rfl rfl rfl) (fun hc => p_not (gh hc rfl)) <| Qq (p_pickOr rfl rfl rfl) <| Qm rfl <| zg (Gd.f1 rfl rfl rfl) (fun hc => p_move rfl) <| zg (Gd.f1 rfl rfl rfl) (fun hc => p_move rfl) <| zg (Gd.f1 rfl rfl rfl) (fun hc => p_neq (gh hc rfl) (gh hc rfl)) <| Qq (p_pickOr rfl rfl rfl) <| JL.nil ?_
 refine zi (fun h34 h34' => ?_) fun h34 h34' => ?_
 · exact absurd h34 (by simp only [decide_true, Bool.not_true, Bool.or_false, decide_eq_true_eq]; omega)
 refine Js.skip <| zS <| Qa rfl <| zN <| Qm rfl <| Qm rfl ?_
 refine zhl [6] ?_
 refine zB 1 sp_ rfl (fun w hb hw => c_laws_markChoiceS (M.lookR aB aP) 1 hb) ?_
 rintro _ _ G35 ⟨rfl, rfl⟩
 refine znl ?_
 refine Qa rfl <| zN <| Qa rfl <| zN <| Qm rfl <| Qm rfl <| zv rfl (fun w hw => c_laws_heldChoiceS (M.mkL M.fC M.sC 1 (M.lookR aB aP)) 1 (flat_rowok lChoice (xs := (M.mkL M.fC M.sC 1 (M.lookR aB aP))) (hw.pr (i := 0) rfl))) <| Qa rfl <| zJ <| zS <| Qm rfl <| Ql rfl rfl <| JL.nil ?_
 refine zi (fun h36 h36' => ?_) fun h36 h36' => ?_
 · exact absurd h36 (by rw [M.held_C _ (by decide)]; simp only [decide_eq_true_eq]; omega)
 refine Js.skip <| Js.seq <| zS <| Qm rfl <| Qm rfl <| Qd rfl rfl <| JL.nil ?_
 refine zi (fun h37 h37' => ?_) fun h37 h37' => ?_
 · exact absurd h37 (by rw [M.held_C _ (by decide)]; simp)
 refine Js.skip <| Js.seq ?_
 refine zdr [] ?_
 refine JH.q 0 rfl (L9 11 rfl rfl) ?_
 refine JH.q 2 rfl (L9 10 rfl rfl) ?_
 refine y1 1 ?_
 refine yp rfl rfl (fun w hw => c_laws_toBook aB (ok_ hw) (r1 := (M.totE_small (n := 4194304) (by omega)))) ?_
 intro u38 x38 A39 c39 h39 bl39 bh39
 refine y1 3 ?_
 refine yp rfl rfl (fun w hw => c_laws_toPosition aP (ok_ hw)) ?_
 intro u40 x40 A41 c41 h41 bl41 bh41 A42 c42 h42 bl42 bh42
 refine y1 4 ?_
 refine yp rfl rfl (fun w hw => c_impl_LookUp aB aP (ok_ hw) (ok_ hw) (r1 := (M.totE_small (n := 4194304) (by omega)))) ?_
 intro u43 x43 A44 c44 h44 bl44 bh44
 refine JH.p 5 rfl (p_move rfl) ?_
 refine JH.p 6 rfl (p_extract rfl rfl) ?_
 refine JH.p 7 rfl (p_extract rfl rfl) ?_
 refine JH.p 8 rfl (p_assign rfl) ?_
 refine JH.p 9 rfl (p_assign rfl) ?_
 refine yd ?_
 refine Js.seq <| zS <| Qm rfl <| Qm rfl <| zv rfl (fun w hw => c_laws_eqChoiceS (M.lookR aB aP) (M.lookR aB aP) (ok_ hw) (ok_ hw)) <| Qt rfl <| Qm rfl <| zg (Gd.f1 rfl rfl rfl) (fun hc => p_move rfl) <| zg (Gd.f1 rfl rfl rfl) (fun hc => p_move rfl) <| zg (Gd.f1 rfl rfl rfl) (fun hc => p_neq (gh hc rfl) (gh hc rfl)) <| Qq (p_pickOr rfl rfl rfl) <| JL.nil ?_
 refine Js.condF rfl h24 ?_
 refine Js.skip <| zS <| Qa rfl <| zN <| Qm rfl <| Qm rfl <| zv rfl (fun w hw => c_laws_heldChoiceS (M.mkL M.fC M.sC 1 (M.lookR aB aP)) 1 (flat_rowok lChoice (xs := (M.mkL M.fC M.sC 1 (M.lookR aB aP))) (hw.pr (i := 0) rfl))) <| Qa rfl <| zJ <| zS <| Qm rfl <| Ql rfl rfl <| JL.nil ?_
 refine Js.condF rfl h36 ?_
 refine Js.skip <| Js.seq <| zS <| Qm rfl <| Qm rfl <| Qd rfl rfl <| JL.nil ?_
 refine Js.condF rfl h37 ?_
 refine Js.skip <| zS <| Qa rfl <| JL.nil ?_
 exact zr (((((((x8.trans x10).trans x13).trans x25).trans x28).trans x38).trans x40).trans x43)

end Go.Proofs.Ytcmfnlleikcpnaa


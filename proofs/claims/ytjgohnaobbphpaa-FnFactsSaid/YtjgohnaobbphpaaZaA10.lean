/- Walks: G56. -/
import Derived.Test.YtjgohnaobbphpaaZaA3
import Derived.Test.YtjgohnaobbphpaaZaA9
import Derived.Test.YtjgohnaobbphpaaZaA4
import Derived.Test.YtjgohnaobbphpaaZaA1
import Derived.Test.YtjgohnaobbphpaaZaA0
import Derived.Test.YtjgohnaobbphpaaZaA5
import Derived.Test.YtjgohnaobbphpaaZaA2
import Derived.Test.YtjgohnaobbphpaaZaA8
set_option linter.unusedSimpArgs false
set_option linter.unusedVariables false
set_option maxRecDepth 100000
attribute [local irreducible] Go.Proofs.Ytjgohnaobbphpaa.gv
set_option maxHeartbeats 16000000
namespace Go.Proofs.Ytjgohnaobbphpaa
open Go.RowKit
theorem c_impl_Fact_canWrite (f : M.Fct) {v_f : Value} {w : World} (h_f : (Ty.agg (cFact f)).ok w v_f) : RetV Try.prog 68 [v_f] w (.bool (M.canW f)) := by
 revert v_f; apply opn
 refine enter @Try.func68 @Try.ntmps68 rfl rfl ?_
 refine zent ?_
 refine zS <| zb rfl fun b1 => Qa rfl <| zJ <| zS <| Qf fh rfl <| Q0 0 rfl rfl rfl <| JL.nil <| Js.block <| Js.seq <| zS <| Qe rfl rfl <| Qa rfl <| JL.nil ?_
 refine zi (fun h2 h2' => ?_) fun h2 h2' => ?_
 ·
  refine Js.skip ?_
  refine Js.condT rfl h2 ?_
  refine zS <| Qf fh rfl <| Q0 0 rfl rfl rfl <| Qe rfl rfl <| Qm rfl <| zg (Gd.t1 rfl rfl rfl) (fun hc => p_fieldAddr fld_46_2.h rfl) <| zgq (Gd.t1 rfl rfl rfl) (fun hc => q_load1 ty_2.h (gh hc rfl) (Mem.box (i := 0) rfl rfl)) <| zg (Gd.t1 rfl rfl rfl) (fun hc => p_eql (gh hc rfl) rfl) <| Qq (p_pickAnd rfl rfl rfl) <| Qa rfl <| JL.nil ?_
  refine zR (Up.refl _ _) ?_
  first | (simp [outV, M.canW, *]; done) | (simp [outV, M.canW, *]; intros; exfalso; omega) | (simp [outV, M.canW, *]; omega)
 refine Js.region <| Qe rfl rfl <| Qa rfl <| JL.nil ?_
 refine zi (fun h3 h3' => ?_) fun h3 h3' => ?_
 ·
  refine zS <| Qf fh rfl <| Q0 0 rfl rfl rfl <| Qe rfl rfl <| Qm rfl <| zg (Gd.t1 rfl rfl rfl) (fun hc => p_fieldAddr fld_46_2.h rfl) <| zgq (Gd.t1 rfl rfl rfl) (fun hc => q_load1 ty_2.h (gh hc rfl) (Mem.box (i := 0) rfl rfl)) <| zg (Gd.t1 rfl rfl rfl) (fun hc => p_eql (gh hc rfl) rfl) <| Qq (p_pickAnd rfl rfl rfl) <| Qa rfl <| JL.nil ?_
  refine zR (Up.refl _ _) ?_
  first | (simp [outV, M.canW, *]; done) | (simp [outV, M.canW, *]; intros; exfalso; omega) | (simp [outV, M.canW, *]; omega)
 refine Js.seq <| zS <| Qe rfl rfl <| Qa rfl <| JL.nil ?_
 refine zi (fun h4 h4' => ?_) fun h4 h4' => ?_
 ·
  refine Js.skip ?_
  refine Js.condT rfl h4 ?_
  refine zS <| Qf fh rfl <| Q0 0 rfl rfl rfl <| zv rfl (fun w hw => c_impl_between f.count 1 96) <| Qm rfl <| zg (Gd.t1 rfl rfl rfl) (fun hc => p_fieldAddr fld_46_1.h rfl) <| zgq (Gd.t1 rfl rfl rfl) (fun hc => q_load1 ty_2.h (gh hc rfl) (Mem.box (i := 0) rfl rfl)) <| zgv (Gd.t1 rfl rfl rfl) (fun hc => (opds_3 (gh hc rfl) rfl rfl)) (fun hc => (fun w hw => c_impl_between f.place 0 15)) ?_
  refine zg (Gd.t1 rfl rfl rfl) (fun hc => p_move (gh hc rfl)) <| zg (Gd.f2 rfl rfl rfl) (fun hc => p_fieldAddr fld_46_1.h rfl) <| zgq (Gd.f2 rfl rfl rfl) (fun hc => q_load1 ty_2.h (gh hc rfl) (Mem.box (i := 0) rfl rfl)) <| zg (Gd.f2 rfl rfl rfl) (fun hc => p_eql (gh hc rfl) rfl) <| zg (Gd.f2 rfl rfl rfl) (fun hc => p_move (gh hc rfl)) <| zg (Gd.t2 rfl rfl rfl) (fun hc => p_fieldAddr fld_46_0.h rfl) <| zgq (Gd.t2 rfl rfl rfl) (fun hc => q_load1 ty_2.h (gh hc rfl) (Mem.box (i := 0) rfl rfl)) <| zg (Gd.t2 rfl rfl rfl) (fun hc => p_eql (gh hc rfl) rfl) <| zg (Gd.f2 rfl rfl rfl) (fun hc => p_pickAnd (gh hc rfl) (gvl rfl hc) rfl) <| zg (Gd.t1 rfl rfl rfl) (fun hc => p_pickOr (gh hc rfl) rfl (gvl rfl hc)) <| Qq (p_pickAnd rfl rfl rfl) <| Qa rfl <| JL.nil ?_
  refine zR (Up.refl _ _) ?_
  first | (simp [outV, M.canW, *]; done) | (simp [outV, M.canW, *]; intros; exfalso; omega) | (simp [outV, M.canW, *]; omega)
 refine zS <| Qe rfl rfl <| Qa rfl <| JL.nil ?_
 refine zi (fun h5 h5' => ?_) fun h5 h5' => ?_
 ·
  refine Js.skip ?_
  refine Js.condT rfl h5 ?_
  refine zS <| Qf fh rfl <| Q0 0 rfl rfl rfl <| zv rfl (fun w hw => c_impl_between f.count 1 96) <| Qm rfl <| zg (Gd.t1 rfl rfl rfl) (fun hc => p_fieldAddr fld_46_1.h rfl) <| zgq (Gd.t1 rfl rfl rfl) (fun hc => q_load1 ty_2.h (gh hc rfl) (Mem.box (i := 0) rfl rfl)) <| zgv (Gd.t1 rfl rfl rfl) (fun hc => (opds_3 (gh hc rfl) rfl rfl)) (fun hc => (fun w hw => c_impl_between f.place 0 15)) ?_
  refine zg (Gd.t1 rfl rfl rfl) (fun hc => p_move (gh hc rfl)) <| zg (Gd.f2 rfl rfl rfl) (fun hc => p_fieldAddr fld_46_1.h rfl) <| zgq (Gd.f2 rfl rfl rfl) (fun hc => q_load1 ty_2.h (gh hc rfl) (Mem.box (i := 0) rfl rfl)) <| zg (Gd.f2 rfl rfl rfl) (fun hc => p_eql (gh hc rfl) rfl) <| zg (Gd.f2 rfl rfl rfl) (fun hc => p_move (gh hc rfl)) <| zg (Gd.t2 rfl rfl rfl) (fun hc => p_fieldAddr fld_46_0.h rfl) <| zgq (Gd.t2 rfl rfl rfl) (fun hc => q_load1 ty_2.h (gh hc rfl) (Mem.box (i := 0) rfl rfl)) <| zg (Gd.t2 rfl rfl rfl) (fun hc => p_eql (gh hc rfl) rfl) <| zg (Gd.f2 rfl rfl rfl) (fun hc => p_pickAnd (gh hc rfl) (gvl rfl hc) rfl) <| zg (Gd.t1 rfl rfl rfl) (fun hc => p_pickOr (gh hc rfl) rfl (gvl rfl hc)) <| Qq (p_pickAnd rfl rfl rfl) <| Qa rfl <| JL.nil ?_
  refine zR (Up.refl _ _) ?_
  first | (simp [outV, M.canW, *]; done) | (simp [outV, M.canW, *]; intros; exfalso; omega) | (simp [outV, M.canW, *]; omega)
 refine zS <| Qe rfl rfl <| Qa rfl <| JL.nil ?_
 refine zi (fun h6 h6' => ?_) fun h6 h6' => ?_
 ·
  refine Js.skip ?_
  refine Js.condT rfl h6 ?_
  refine zS <| Qf fh rfl <| Q0 0 rfl rfl rfl <| zv rfl (fun w hw => c_impl_between f.count 1 96) <| Qm rfl <| zg (Gd.t1 rfl rfl rfl) (fun hc => p_fieldAddr fld_46_1.h rfl) <| zgq (Gd.t1 rfl rfl rfl) (fun hc => q_load1 ty_2.h (gh hc rfl) (Mem.box (i := 0) rfl rfl)) <| zgv (Gd.t1 rfl rfl rfl) (fun hc => (opds_3 (gh hc rfl) rfl rfl)) (fun hc => (fun w hw => c_impl_between f.place 0 15)) ?_
  refine zg (Gd.t1 rfl rfl rfl) (fun hc => p_move (gh hc rfl)) <| zg (Gd.f2 rfl rfl rfl) (fun hc => p_fieldAddr fld_46_1.h rfl) <| zgq (Gd.f2 rfl rfl rfl) (fun hc => q_load1 ty_2.h (gh hc rfl) (Mem.box (i := 0) rfl rfl)) <| zg (Gd.f2 rfl rfl rfl) (fun hc => p_eql (gh hc rfl) rfl) <| zg (Gd.f2 rfl rfl rfl) (fun hc => p_move (gh hc rfl)) <| zg (Gd.t2 rfl rfl rfl) (fun hc => p_fieldAddr fld_46_0.h rfl) <| zgq (Gd.t2 rfl rfl rfl) (fun hc => q_load1 ty_2.h (gh hc rfl) (Mem.box (i := 0) rfl rfl)) <| zg (Gd.t2 rfl rfl rfl) (fun hc => p_eql (gh hc rfl) rfl) <| zg (Gd.f2 rfl rfl rfl) (fun hc => p_pickAnd (gh hc rfl) (gvl rfl hc) rfl) <| zg (Gd.t1 rfl rfl rfl) (fun hc => p_pickOr (gh hc rfl) rfl (gvl rfl hc)) <| Qq (p_pickAnd rfl rfl rfl) <| Qa rfl <| JL.nil ?_
  refine zR (Up.refl _ _) ?_
  first | (simp [outV, M.canW, *]; done) | (simp [outV, M.canW, *]; intros; exfalso; omega) | (simp [outV, M.canW, *]; omega)
 refine Js.region <| Qe rfl rfl <| Qa rfl <| JL.nil ?_
 refine zi (fun h7 h7' => ?_) fun h7 h7' => ?_
 ·
  refine zS <| Qf fh rfl <| Q0 0 rfl rfl rfl <| zv rfl (fun w hw => c_impl_between f.count 1 96) <| Qm rfl <| zg (Gd.t1 rfl rfl rfl) (fun hc => p_fieldAddr fld_46_1.h rfl) <| zgq (Gd.t1 rfl rfl rfl) (fun hc => q_load1 ty_2.h (gh hc rfl) (Mem.box (i := 0) rfl rfl)) <| zgv (Gd.t1 rfl rfl rfl) (fun hc => (opds_3 (gh hc rfl) rfl rfl)) (fun hc => (fun w hw => c_impl_between f.place 0 15)) ?_
  refine zg (Gd.t1 rfl rfl rfl) (fun hc => p_move (gh hc rfl)) <| zg (Gd.f2 rfl rfl rfl) (fun hc => p_fieldAddr fld_46_1.h rfl) <| zgq (Gd.f2 rfl rfl rfl) (fun hc => q_load1 ty_2.h (gh hc rfl) (Mem.box (i := 0) rfl rfl)) <| zg (Gd.f2 rfl rfl rfl) (fun hc => p_eql (gh hc rfl) rfl) <| zg (Gd.f2 rfl rfl rfl) (fun hc => p_move (gh hc rfl)) <| zg (Gd.t2 rfl rfl rfl) (fun hc => p_fieldAddr fld_46_0.h rfl) <| zgq (Gd.t2 rfl rfl rfl) (fun hc => q_load1 ty_2.h (gh hc rfl) (Mem.box (i := 0) rfl rfl)) <| zg (Gd.t2 rfl rfl rfl) (fun hc => p_eql (gh hc rfl) rfl) <| zg (Gd.f2 rfl rfl rfl) (fun hc => p_pickAnd (gh hc rfl) (gvl rfl hc) rfl) <| zg (Gd.t1 rfl rfl rfl) (fun hc => p_pickOr (gh hc rfl) rfl (gvl rfl hc)) <| Qq (p_pickAnd rfl rfl rfl) <| Qa rfl <| JL.nil ?_
  refine zR (Up.refl _ _) ?_
  first | (simp [outV, M.canW, *]; done) | (simp [outV, M.canW, *]; intros; exfalso; omega) | (simp [outV, M.canW, *]; omega)
 refine Js.skip <| Js.blockEnd <| zS <| Qa rfl <| JL.nil ?_
 refine zR (Up.refl _ _) ?_
 first | (simp [outV, M.canW, *]; done) | (simp [outV, M.canW, *]; intros; exfalso; omega) | (simp [outV, M.canW, *]; omega)
theorem c_impl_Rules_hasPlace (r : M.Rul) {v_r : Value} (f : M.Fct) {v_f : Value} {w : World} (h_r : (Ty.agg (cRules r)).ok w v_r) (h_f : (Ty.agg (cFact f)).ok w v_f) (r0 : 2 ≤ r.pits := by exact om_) (r1 : r.pits ≤ 8 := by exact om_) : RetV Try.prog 69 [v_r, v_f] w (.bool (M.hasP r f)) := by
 revert v_r; apply opn
 revert v_f; apply opn
 refine enter @Try.func69 @Try.ntmps69 rfl rfl ?_
 refine zent ?_
 refine zS <| zb rfl fun b1 => zb rfl fun b2 => Qa rfl <| zN <| Qf fh rfl <| Q0 0 rfl rfl rfl <| Qe rfl rfl <| Qm rfl <| zg (Gd.f1 rfl rfl rfl) (fun hc => p_fieldAddr fld_46_0.h rfl) <| zgq (Gd.f1 rfl rfl rfl) (fun hc => q_load1 ty_2.h (gh hc rfl) (Mem.box (i := 0) rfl rfl)) <| zg (Gd.f1 rfl rfl rfl) (fun hc => p_eql (gh hc rfl) rfl) <| Qq (p_pickOr rfl rfl rfl) <| Qm rfl ?_
 refine zgq (Gd.f1 rfl rfl rfl) (fun hc => L9 1 rfl rfl) <| zg (Gd.f1 rfl rfl rfl) (fun hc => p_fieldAddr fld_46_1.h rfl) <| zgq (Gd.f1 rfl rfl rfl) (fun hc => q_load1 ty_2.h (gh hc rfl) (Mem.box (i := 0) rfl rfl)) <| zgv (Gd.f1 rfl rfl rfl) (fun hc => (opds_2 (gh hc rfl) (gh hc rfl))) (fun hc => (fun w hw => c_impl_Rules_isPit r f.place (ok_ hw) (r0 := (by have hc9 := hc; (try simp only [Bool.not_eq_true', Bool.or_eq_false_iff, decide_eq_false_iff_not] at hc9); omega)) (r1 := (by have hc9 := hc; (try simp only [Bool.not_eq_true', Bool.or_eq_false_iff, decide_eq_false_iff_not] at hc9); omega)))) ?_
 refine Qq (p_pickOr rfl rfl rfl) <| Qm rfl <| zg (Gd.f1 rfl rfl rfl) (fun hc => p_fieldAddr fld_46_1.h rfl) <| zgq (Gd.f1 rfl rfl rfl) (fun hc => q_load1 ty_2.h (gh hc rfl) (Mem.box (i := 0) rfl rfl)) <| zg (Gd.f1 rfl rfl rfl) (fun hc => p_eql (gh hc rfl) rfl) <| zg (Gd.f1 rfl rfl rfl) (fun hc => p_move (gh hc rfl)) <| zg (Gd.t2 rfl rfl rfl) (fun hc => p_fieldAddr fld_25_2.h rfl) <| zgq (Gd.t2 rfl rfl rfl) (fun hc => q_load1 ty_4.h (gh hc rfl) (Mem.box (i := 1) rfl rfl)) <| zg (Gd.f1 rfl rfl rfl) (fun hc => p_pickAnd (gh hc rfl) (gvl rfl hc) rfl) <| Qq (p_pickOr rfl rfl rfl) <| Qa rfl <| JL.nil ?_
 refine zR (Up.refl _ _) ?_
 first | (simp [outV, M.hasP, *]; done) | (simp [outV, M.hasP, *]; omega)
theorem c_impl_Rules_apply (r : M.Rul) {v_r : Value} (p_pits p_stores : List Int) (p_player : Int) {Ap_0 : Option Addr} {cp_0 : Nat} {gp_0 : List Nat} {Ap_1 : Option Addr} {cp_1 : Nat} {gp_1 : List Nat} (hand_v : Int) (f : M.Fct) {v_f : Value} {bp bhand : Nat} {w : World} (hb : Bw w [boxO bp [.slice Ap_0 p_pits.length cp_0, .slice Ap_1 p_stores.length cp_1, .int .i64 p_player] 28, rowO 2 1 (.slice Ap_0 p_pits.length cp_0) p_pits.length (ints_ p_pits) gp_0, rowO 2 1 (.slice Ap_1 p_stores.length cp_1) p_stores.length (ints_ p_stores) gp_1, boxO bhand [.int .i64 hand_v] 2]) (h_r : (Ty.agg (cRules r)).ok (offW w (([boxO bp [.slice Ap_0 p_pits.length cp_0, .slice Ap_1 p_stores.length cp_1, .int .i64 p_player] 28, rowO 2 1 (.slice Ap_0 p_pits.length cp_0) p_pits.length (ints_ p_pits) gp_0, rowO 2 1 (.slice Ap_1 p_stores.length cp_1) p_stores.length (ints_ p_stores) gp_1, boxO bhand [.int .i64 hand_v] 2] : List Own).flatMap (·.fp))) v_r) (h_f : (Ty.agg (cFact f)).ok (offW w (([boxO bp [.slice Ap_0 p_pits.length cp_0, .slice Ap_1 p_stores.length cp_1, .int .i64 p_player] 28, rowO 2 1 (.slice Ap_0 p_pits.length cp_0) p_pits.length (ints_ p_pits) gp_0, rowO 2 1 (.slice Ap_1 p_stores.length cp_1) p_stores.length (ints_ p_stores) gp_1, boxO bhand [.int .i64 hand_v] 2] : List Own).flatMap (·.fp))) v_f) (bd0 : p_pits.length ≤ cp_0 := by exact om_) (bd1 : cp_0 ≤ 9223372036854775807 := by exact om_) (bd2 : p_stores.length ≤ cp_1 := by exact om_) (bd3 : cp_1 ≤ 9223372036854775807 := by exact om_) (r0 : 2 ≤ r.pits := by exact om_) (r1 : r.pits ≤ 8 := by exact om_) (r2 : M.GP r (M.Pos.mk p_pits p_stores p_player) hand_v := by exact om_) : RetB Try.prog 35 [v_r, .pointer (some ⟨bp, 0, none⟩), .pointer (some ⟨bhand, 0, none⟩), v_f] w [boxO bp [.slice Ap_0 p_pits.length cp_0, .slice Ap_1 p_stores.length cp_1, .int .i64 p_player] 28, rowO 2 1 (.slice Ap_0 p_pits.length cp_0) p_pits.length (ints_ p_pits) gp_0, rowO 2 1 (.slice Ap_1 p_stores.length cp_1) p_stores.length (ints_ p_stores) gp_1, boxO bhand [.int .i64 hand_v] 2] (fun v bs' => ∃ (Axp_0 : Option Addr) (cxp_0 : Nat) (gxp_0 : List Nat) (Axp_1 : Option Addr) (cxp_1 : Nat) (gxp_1 : List Nat), v = .bool (M.stB r (M.Pos.mk p_pits p_stores p_player) hand_v f) ∧ bs' = [boxO bp [.slice Axp_0 (((M.apP r (M.Pos.mk p_pits p_stores p_player) hand_v f).pits).length) cxp_0, .slice Axp_1 (((M.apP r (M.Pos.mk p_pits p_stores p_player) hand_v f).stores).length) cxp_1, .int .i64 ((M.apP r (M.Pos.mk p_pits p_stores p_player) hand_v f).player)] 28, rowO 2 1 (.slice Axp_0 (((M.apP r (M.Pos.mk p_pits p_stores p_player) hand_v f).pits).length) cxp_0) (((M.apP r (M.Pos.mk p_pits p_stores p_player) hand_v f).pits).length) (ints_ ((M.apP r (M.Pos.mk p_pits p_stores p_player) hand_v f).pits)) gxp_0, rowO 2 1 (.slice Axp_1 (((M.apP r (M.Pos.mk p_pits p_stores p_player) hand_v f).stores).length) cxp_1) (((M.apP r (M.Pos.mk p_pits p_stores p_player) hand_v f).stores).length) (ints_ ((M.apP r (M.Pos.mk p_pits p_stores p_player) hand_v f).stores)) gxp_1, boxO bhand [.int .i64 (M.apH r (M.Pos.mk p_pits p_stores p_player) hand_v f)] 2] ∧ ((M.apP r (M.Pos.mk p_pits p_stores p_player) hand_v f).pits).length ≤ cxp_0 ∧ cxp_0 ≤ 9223372036854775807 ∧ ((M.apP r (M.Pos.mk p_pits p_stores p_player) hand_v f).stores).length ≤ cxp_1 ∧ cxp_1 ≤ 9223372036854775807) := by
 have hG := r2.g
 have hpl := r2.pl
 dsimp only at hG hpl
 have hlp := hG.lp
 have hls := hG.ls
 have hn0 := hG.n0
 have hp0 := hG.pit f.place
 have hs0 := hG.store p_player
 have hal := hG.all
 have hnp := M.nn_isum hG.np
 have hns := M.nn_isum hG.ns
 revert v_r; apply opn
 revert v_f; apply opn
 refine enterB hb @Try.func35 @Try.ntmps35 rfl rfl ?_
 refine zent ?_
 refine Js.trashE ?_
 refine zn ?_
 refine zS <| zb rfl fun b1 => zb rfl fun b2 => Qa rfl <| zJ <| zS <| Q9 0 rfl rfl ?_
 refine zv rfl (fun w hw => c_impl_Fact_canWrite f (ok_ hw)) <| Qt rfl <| Qm rfl <| zgq (Gd.f1 rfl rfl rfl) (fun hc => L9 1 rfl rfl) <| zgq (Gd.f1 rfl rfl rfl) (fun hc => L9 0 rfl rfl) <| zgv (Gd.f1 rfl rfl rfl) (fun hc => (opds_2 (gh hc rfl) (gh hc rfl))) (fun hc => (fun w hw => c_impl_Rules_hasPlace r f (ok_ hw) (ok_ hw) (r0 := (by have hc9 := hc; (try simp only [Bool.not_eq_true', Bool.not_eq_false'] at hc9); omega)) (r1 := (by have hc9 := hc; (try simp only [Bool.not_eq_true', Bool.not_eq_false'] at hc9); omega)))) ?_
 refine zg (Gd.f1 rfl rfl rfl) (fun hc => p_not (gh hc rfl)) <| Qq (p_pickOr rfl rfl rfl) <| Qm rfl <| zg (Gd.f1 rfl rfl rfl) (fun hc => p_move rfl) <| zg (Gd.f1 rfl rfl rfl) (fun hc => p_nilCheck (gh hc rfl)) <| zgq (Gd.f1 rfl rfl rfl) (fun hc => q_load1 ty_2.h (gh hc rfl) (Mem.box (i := 5) rfl rfl)) <| zg (Gd.f1 rfl rfl rfl) (fun hc => p_gtr (gh hc rfl) rfl) <| zg (Gd.f1 rfl rfl rfl) (fun hc => p_move (gh hc rfl)) <| zg (Gd.t2 rfl rfl rfl) (fun hc => p_fieldAddr fld_46_0.h rfl) <| zgq (Gd.t2 rfl rfl rfl) (fun hc => q_load1 ty_2.h (gh hc rfl) (Mem.box (i := 0) rfl rfl)) <| zg (Gd.t2 rfl rfl rfl) (fun hc => p_neq (gh hc rfl) rfl) <| zg (Gd.f1 rfl rfl rfl) (fun hc => p_pickAnd (gh hc rfl) (gvl rfl hc) rfl) <| Qq (p_pickOr rfl rfl rfl) <| JL.nil ?_
 refine zi (fun h3 h3' => ?_) fun h3 h3' => ?_
 ·
  have hE : M.stB r (M.Pos.mk p_pits p_stores p_player) hand_v f = false := M.stB_no r0 (by have h9 := h3; intro c1 c2; simp [c1, c2] at h9; exact h9)
  obtain ⟨hA, hB⟩ := M.ap_n hE
  refine zS <| Qa rfl <| JL.nil ?_
  refine zrb [2, 2, 2, 2] hb (Up.refl _ _) ?_
  have hE : (.bool false : Value) = .bool (M.stB r (M.Pos.mk p_pits p_stores p_player) hand_v f) := by first | (rw [hE]; done) | (rw [hA]; done) | (rw [hB]; done) | (rw [hA]; rfl) | (rw [hB]; rfl)
  have hN1 : ((M.apP r (M.Pos.mk p_pits p_stores p_player) hand_v f).pits).length = p_pits.length := by first | (rw [hA]; done) | (rw [hA]; dsimp only; simp; done) | (rw [hA]; dsimp only; simp; omega)
  have hE1 : (M.apP r (M.Pos.mk p_pits p_stores p_player) hand_v f).pits = p_pits := by first | (rw [hE]; done) | (rw [hA]; done) | (rw [hB]; done) | (rw [hA]; rfl) | (rw [hB]; rfl)
  have hN2 : ((M.apP r (M.Pos.mk p_pits p_stores p_player) hand_v f).stores).length = p_stores.length := by first | (rw [hA]; done) | (rw [hA]; dsimp only; simp; done) | (rw [hA]; dsimp only; simp; omega)
  have hE2 : (M.apP r (M.Pos.mk p_pits p_stores p_player) hand_v f).stores = p_stores := by first | (rw [hE]; done) | (rw [hA]; done) | (rw [hB]; done) | (rw [hA]; rfl) | (rw [hB]; rfl)
  have hE3 : (M.apP r (M.Pos.mk p_pits p_stores p_player) hand_v f).player = p_player := by first | (rw [hE]; done) | (rw [hA]; done) | (rw [hB]; done) | (rw [hA]; rfl) | (rw [hB]; rfl)
  have hE4 : M.apH r (M.Pos.mk p_pits p_stores p_player) hand_v f = hand_v := by first | (rw [hE]; done) | (rw [hA]; done) | (rw [hB]; done) | (rw [hA]; rfl) | (rw [hB]; rfl)
  refine ⟨Ap_0, cp_0, gp_0, Ap_1, cp_1, gp_1, hE, ?_, ?_, ?_, ?_, ?_⟩
  · rw [hN1, hE1, hN2, hE2, hE3, hE4]
  all_goals (first | (rw [hN1, hE1, hN2, hE2, hE3, hE4]; omega) | omega | (simp only [*]; omega) | (simp; done))
 obtain ⟨hcw, hhp, hh⟩ : M.canW f = true ∧ M.hasP r f = true ∧ (0 < hand_v → f.kind = 2) := by have h9 := h3; simp at h9; exact ⟨h9.1.1, h9.1.2, h9.2⟩
 have ho : M.stOk r f = true := by rw [← M.hasP_ok hcw r0]; exact hhp
 obtain ⟨_, o2, o3⟩ := M.stOk_b ho
 have hcp := M.canW_pl hcw
 have hck := M.canW_k hcw
 refine Js.skip <| Js.seq <| zS <| Qf fh rfl <| Q0 0 rfl rfl rfl <| JL.nil <| Js.block <| Js.seq <| zS <| Qe rfl rfl <| Qa rfl <| JL.nil ?_
 refine zi (fun h4 h4' => ?_) fun h4 h4' => ?_
 ·
  have hk13 : f.kind = 1 ∨ f.kind = 3 := by have h9 := h4; simp at h9; omega
  refine Js.skip ?_
  refine Js.condT rfl h4 ?_
  refine Js.seq <| Js.seq ?_
  refine zdr [] ?_
  refine jF 0 fld_46_2 rfl rfl ?_
  refine jB 1 0 ty_2 rfl rfl rfl rfl ?_
  refine jM 2 rfl rfl ?_
  refine jN 3 rfl rfl ?_
  refine jF 4 fld_28_0 rfl rfl ?_
  refine jB 5 2 ty_26 rfl rfl rfl rfl ?_
  refine jF 6 fld_46_1 rfl rfl ?_
  refine jB 7 0 ty_2 rfl rfl rfl rfl ?_
  refine JH.fact (row_some (i := 3) rfl (by omega)) (fun hf6 => ?_)
  obtain ⟨b6, rfl⟩ := hf6
  refine jI 8 el_26 rfl rfl rfl rfl ?_
  refine JH.q 9 rfl (q_load1 ty_2.h rfl (Mem.row (i := 3) rfl (ints_getI (i := f.place) (by omega)))) ?_
  refine JH.p 10 rfl (p_neq rfl rfl) ?_
  refine yd ?_
  refine zi (fun h7 h7' => ?_) fun h7 h7' => ?_
  ·
   have hE : M.stB r (M.Pos.mk p_pits p_stores p_player) hand_v f = false := by rw [M.stB_3 ho (by omega) hk13]; simp; have h9 := h7; simp at h9; exact fun e => h9 e.symm
   obtain ⟨hA, hB⟩ := M.ap_n hE
   refine zS <| Qa rfl <| JL.nil ?_
   refine zrb [2, 2, 2, 2] hb (Up.refl _ _) ?_
   have hE : (.bool false : Value) = .bool (M.stB r (M.Pos.mk p_pits p_stores p_player) hand_v f) := by first | (rw [hE]; done) | (rw [hA]; done) | (rw [hB]; done) | (rw [hA]; rfl) | (rw [hB]; rfl)
   have hN1 : ((M.apP r (M.Pos.mk p_pits p_stores p_player) hand_v f).pits).length = p_pits.length := by first | (rw [hA]; done) | (rw [hA]; dsimp only; simp; done) | (rw [hA]; dsimp only; simp; omega)
   have hE1 : (M.apP r (M.Pos.mk p_pits p_stores p_player) hand_v f).pits = p_pits := by first | (rw [hE]; done) | (rw [hA]; done) | (rw [hB]; done) | (rw [hA]; rfl) | (rw [hB]; rfl)
   have hN2 : ((M.apP r (M.Pos.mk p_pits p_stores p_player) hand_v f).stores).length = p_stores.length := by first | (rw [hA]; done) | (rw [hA]; dsimp only; simp; done) | (rw [hA]; dsimp only; simp; omega)
   have hE2 : (M.apP r (M.Pos.mk p_pits p_stores p_player) hand_v f).stores = p_stores := by first | (rw [hE]; done) | (rw [hA]; done) | (rw [hB]; done) | (rw [hA]; rfl) | (rw [hB]; rfl)
   have hE3 : (M.apP r (M.Pos.mk p_pits p_stores p_player) hand_v f).player = p_player := by first | (rw [hE]; done) | (rw [hA]; done) | (rw [hB]; done) | (rw [hA]; rfl) | (rw [hB]; rfl)
   have hE4 : M.apH r (M.Pos.mk p_pits p_stores p_player) hand_v f = hand_v := by first | (rw [hE]; done) | (rw [hA]; done) | (rw [hB]; done) | (rw [hA]; rfl) | (rw [hB]; rfl)
   refine ⟨(some ⟨b6, 0, none⟩), cp_0, gp_0, Ap_1, cp_1, gp_1, hE, ?_, ?_, ?_, ?_, ?_⟩
   · rw [hN1, hE1, hN2, hE2, hE3, hE4]
   all_goals (first | (rw [hN1, hE1, hN2, hE2, hE3, hE4]; omega) | omega | (simp only [*]; omega) | (simp; done))
  have hE : M.stB r (M.Pos.mk p_pits p_stores p_player) hand_v f = true := by rw [M.stB_3 ho (by omega) hk13]; have h9 := h7; simp at h9; simp [h9]
  refine Js.skip <| Js.seq ?_
  refine zdr [7] ?_
  refine jM 0 rfl rfl ?_
  refine jN 1 rfl rfl ?_
  refine jF 2 fld_28_0 rfl rfl ?_
  refine jB 3 2 ty_26 rfl rfl rfl rfl ?_
  refine jF 4 fld_46_1 rfl rfl ?_
  refine jB 5 0 ty_2 rfl rfl rfl rfl ?_
  refine jI 6 el_26 rfl rfl rfl rfl ?_
  refine y1 7 ?_
  refine JHo.s rfl (e_storeRow (i := 3) (xs' := ints_ (M.setI p_pits f.place 0)) ty_2.h rfl rfl rfl rfl rfl rfl (ints_lt (i := f.place.toNat) (by omega)) (ints_setL (i := f.place.toNat) (by omega))) (.inr rfl) ?_
  rintro _ _ _ ⟨rfl, rfl⟩ _
  refine znh ?_
  refine yd ?_
  refine zS <| Qf fh rfl <| Q0 0 rfl rfl rfl <| Qe rfl rfl <| JL.nil ?_
  refine Js.condT rfl h4 ?_
  have hk1 : f.kind = 1 := by omega
  obtain ⟨hA, hB⟩ := M.ap_y hE
  obtain ⟨hC, hD⟩ := (M.stP_1 hk1 : M.stP (M.Pos.mk p_pits p_stores p_player) f = _ ∧ M.stH hand_v f = _)
  rw [hC] at hA
  rw [hD] at hB
  refine Js.region <| Qm rfl <| Qf fh rfl <| Q0 0 rfl rfl rfl <| Qc rfl <| zw 5 rfl rfl rfl ?_
  refine JL.nil <| Js.blockEnd <| zS <| Qa rfl <| JL.nil ?_
  refine zrb [2, 2, 2, 2] hb (Up.refl _ _) ?_
  have hE : (.bool true : Value) = .bool (M.stB r (M.Pos.mk p_pits p_stores p_player) hand_v f) := by first | (rw [hE]; done) | (rw [hA]; done) | (rw [hB]; done) | (rw [hA]; rfl) | (rw [hB]; rfl)
  have hN1 : ((M.apP r (M.Pos.mk p_pits p_stores p_player) hand_v f).pits).length = p_pits.length := by first | (rw [hA]; done) | (rw [hA]; dsimp only; simp; done) | (rw [hA]; dsimp only; simp; omega)
  have hE1 : (M.apP r (M.Pos.mk p_pits p_stores p_player) hand_v f).pits = (M.setI p_pits f.place 0) := by first | (rw [hE]; done) | (rw [hA]; done) | (rw [hB]; done) | (rw [hA]; rfl) | (rw [hB]; rfl)
  have hN2 : ((M.apP r (M.Pos.mk p_pits p_stores p_player) hand_v f).stores).length = p_stores.length := by first | (rw [hA]; done) | (rw [hA]; dsimp only; simp; done) | (rw [hA]; dsimp only; simp; omega)
  have hE2 : (M.apP r (M.Pos.mk p_pits p_stores p_player) hand_v f).stores = p_stores := by first | (rw [hE]; done) | (rw [hA]; done) | (rw [hB]; done) | (rw [hA]; rfl) | (rw [hB]; rfl)
  have hE3 : (M.apP r (M.Pos.mk p_pits p_stores p_player) hand_v f).player = p_player := by first | (rw [hE]; done) | (rw [hA]; done) | (rw [hB]; done) | (rw [hA]; rfl) | (rw [hB]; rfl)
  have hE4 : M.apH r (M.Pos.mk p_pits p_stores p_player) hand_v f = f.count := by first | (rw [hE]; done) | (rw [hA]; done) | (rw [hB]; done) | (rw [hA]; rfl) | (rw [hB]; rfl)
  refine ⟨(some ⟨b6, 0, none⟩), cp_0, gp_0, Ap_1, cp_1, gp_1, hE, ?_, ?_, ?_, ?_, ?_⟩
  · rw [hN1, hE1, hN2, hE2, hE3, hE4]
  all_goals (first | (rw [hN1, hE1, hN2, hE2, hE3, hE4]; omega) | omega | (simp only [*]; omega) | (simp; done))
 have nk9 := h4'
 refine Js.region <| Qe rfl rfl <| Qa rfl <| JL.nil ?_
 refine zi (fun h9 h9' => ?_) fun h9 h9' => ?_
 ·
  have hk13 : f.kind = 1 ∨ f.kind = 3 := by have h9 := h9; simp at h9; omega
  refine Js.seq <| Js.seq ?_
  refine zdr [] ?_
  refine jF 0 fld_46_2 rfl rfl ?_
  refine jB 1 0 ty_2 rfl rfl rfl rfl ?_
  refine jM 2 rfl rfl ?_
  refine jN 3 rfl rfl ?_
  refine jF 4 fld_28_0 rfl rfl ?_
  refine jB 5 2 ty_26 rfl rfl rfl rfl ?_
  refine jF 6 fld_46_1 rfl rfl ?_
  refine jB 7 0 ty_2 rfl rfl rfl rfl ?_
  refine JH.fact (row_some (i := 3) rfl (by omega)) (fun hf11 => ?_)
  obtain ⟨b11, rfl⟩ := hf11
  refine jI 8 el_26 rfl rfl rfl rfl ?_
  refine JH.q 9 rfl (q_load1 ty_2.h rfl (Mem.row (i := 3) rfl (ints_getI (i := f.place) (by omega)))) ?_
  refine JH.p 10 rfl (p_neq rfl rfl) ?_
  refine yd ?_
  refine zi (fun h12 h12' => ?_) fun h12 h12' => ?_
  ·
   have hE : M.stB r (M.Pos.mk p_pits p_stores p_player) hand_v f = false := by rw [M.stB_3 ho (by omega) hk13]; simp; have h9 := h12; simp at h9; exact fun e => h9 e.symm
   obtain ⟨hA, hB⟩ := M.ap_n hE
   refine zS <| Qa rfl <| JL.nil ?_
   refine zrb [2, 2, 2, 2] hb (Up.refl _ _) ?_
   have hE : (.bool false : Value) = .bool (M.stB r (M.Pos.mk p_pits p_stores p_player) hand_v f) := by first | (rw [hE]; done) | (rw [hA]; done) | (rw [hB]; done) | (rw [hA]; rfl) | (rw [hB]; rfl)
   have hN1 : ((M.apP r (M.Pos.mk p_pits p_stores p_player) hand_v f).pits).length = p_pits.length := by first | (rw [hA]; done) | (rw [hA]; dsimp only; simp; done) | (rw [hA]; dsimp only; simp; omega)
   have hE1 : (M.apP r (M.Pos.mk p_pits p_stores p_player) hand_v f).pits = p_pits := by first | (rw [hE]; done) | (rw [hA]; done) | (rw [hB]; done) | (rw [hA]; rfl) | (rw [hB]; rfl)
   have hN2 : ((M.apP r (M.Pos.mk p_pits p_stores p_player) hand_v f).stores).length = p_stores.length := by first | (rw [hA]; done) | (rw [hA]; dsimp only; simp; done) | (rw [hA]; dsimp only; simp; omega)
   have hE2 : (M.apP r (M.Pos.mk p_pits p_stores p_player) hand_v f).stores = p_stores := by first | (rw [hE]; done) | (rw [hA]; done) | (rw [hB]; done) | (rw [hA]; rfl) | (rw [hB]; rfl)
   have hE3 : (M.apP r (M.Pos.mk p_pits p_stores p_player) hand_v f).player = p_player := by first | (rw [hE]; done) | (rw [hA]; done) | (rw [hB]; done) | (rw [hA]; rfl) | (rw [hB]; rfl)
   have hE4 : M.apH r (M.Pos.mk p_pits p_stores p_player) hand_v f = hand_v := by first | (rw [hE]; done) | (rw [hA]; done) | (rw [hB]; done) | (rw [hA]; rfl) | (rw [hB]; rfl)
   refine ⟨(some ⟨b11, 0, none⟩), cp_0, gp_0, Ap_1, cp_1, gp_1, hE, ?_, ?_, ?_, ?_, ?_⟩
   · rw [hN1, hE1, hN2, hE2, hE3, hE4]
   all_goals (first | (rw [hN1, hE1, hN2, hE2, hE3, hE4]; omega) | omega | (simp only [*]; omega) | (simp; done))
  have hE : M.stB r (M.Pos.mk p_pits p_stores p_player) hand_v f = true := by rw [M.stB_3 ho (by omega) hk13]; have h9 := h12; simp at h9; simp [h9]
  refine Js.skip <| Js.seq ?_
  refine zdr [7] ?_
  refine jM 0 rfl rfl ?_
  refine jN 1 rfl rfl ?_
  refine jF 2 fld_28_0 rfl rfl ?_
  refine jB 3 2 ty_26 rfl rfl rfl rfl ?_
  refine jF 4 fld_46_1 rfl rfl ?_
  refine jB 5 0 ty_2 rfl rfl rfl rfl ?_
  refine jI 6 el_26 rfl rfl rfl rfl ?_
  refine y1 7 ?_
  refine JHo.s rfl (e_storeRow (i := 3) (xs' := ints_ (M.setI p_pits f.place 0)) ty_2.h rfl rfl rfl rfl rfl rfl (ints_lt (i := f.place.toNat) (by omega)) (ints_setL (i := f.place.toNat) (by omega))) (.inr rfl) ?_
  rintro _ _ _ ⟨rfl, rfl⟩ _
  refine znh ?_
  refine yd ?_
  refine zS <| Qf fh rfl <| Q0 0 rfl rfl rfl <| Qe rfl rfl <| JL.nil ?_
  refine Js.condF rfl h4 ?_
  have hk3 : f.kind = 3 := by omega
  obtain ⟨hA, hB⟩ := M.ap_y hE
  obtain ⟨hC, hD⟩ := (M.stP_3 hk3 : M.stP (M.Pos.mk p_pits p_stores p_player) f = _ ∧ M.stH hand_v f = _)
  rw [hC] at hA
  rw [hD] at hB
  refine zdr [14] ?_
  refine jM 0 rfl rfl ?_
  refine jN 1 rfl rfl ?_
  refine jF 2 fld_28_1 rfl rfl ?_
  refine jB 3 2 ty_26 rfl rfl rfl rfl ?_
  refine jM 4 rfl rfl ?_
  refine jN 5 rfl rfl ?_
  refine jF 6 fld_28_2 rfl rfl ?_
  refine jB 7 2 ty_2 rfl rfl rfl rfl ?_
  refine JH.fact (row_some (i := 4) rfl (by omega)) (fun hf15 => ?_)
  obtain ⟨b15, rfl⟩ := hf15
  refine jI 8 el_26 rfl rfl rfl rfl ?_
  refine JH.q 9 rfl (q_load1 ty_2.h rfl (Mem.row (i := 4) rfl (ints_getI (i := p_player) (by omega)))) ?_
  refine jF 10 fld_46_2 rfl rfl ?_
  refine jB 11 0 ty_2 rfl rfl rfl rfl ?_
  refine JH.p 12 rfl (p_add rfl rfl (IntWalk.i64_in _ (by omega))) ?_
  refine jI 13 el_26 rfl rfl rfl rfl ?_
  refine y1 14 ?_
  refine JHo.s rfl (e_storeRow (i := 4) (xs' := ints_ (M.setI p_stores p_player ((M.getI p_stores p_player) + f.count))) ty_2.h rfl rfl rfl rfl rfl rfl (ints_lt (i := p_player.toNat) (by omega)) (ints_setL (i := p_player.toNat) (by omega))) (.inr rfl) ?_
  rintro _ _ _ ⟨rfl, rfl⟩ _
  refine znh ?_
  refine yd ?_
  refine Js.blockEnd <| zS <| Qa rfl <| JL.nil ?_
  refine zrb [2, 2, 2, 2] hb (Up.refl _ _) ?_
  have hE : (.bool true : Value) = .bool (M.stB r (M.Pos.mk p_pits p_stores p_player) hand_v f) := by first | (rw [hE]; done) | (rw [hA]; done) | (rw [hB]; done) | (rw [hA]; rfl) | (rw [hB]; rfl)
  have hN1 : ((M.apP r (M.Pos.mk p_pits p_stores p_player) hand_v f).pits).length = p_pits.length := by first | (rw [hA]; done) | (rw [hA]; dsimp only; simp; done) | (rw [hA]; dsimp only; simp; omega)
  have hE1 : (M.apP r (M.Pos.mk p_pits p_stores p_player) hand_v f).pits = (M.setI p_pits f.place 0) := by first | (rw [hE]; done) | (rw [hA]; done) | (rw [hB]; done) | (rw [hA]; rfl) | (rw [hB]; rfl)
  have hN2 : ((M.apP r (M.Pos.mk p_pits p_stores p_player) hand_v f).stores).length = p_stores.length := by first | (rw [hA]; done) | (rw [hA]; dsimp only; simp; done) | (rw [hA]; dsimp only; simp; omega)
  have hE2 : (M.apP r (M.Pos.mk p_pits p_stores p_player) hand_v f).stores = (M.setI p_stores p_player ((M.getI p_stores p_player) + f.count)) := by first | (rw [hE]; done) | (rw [hA]; done) | (rw [hB]; done) | (rw [hA]; rfl) | (rw [hB]; rfl)
  have hE3 : (M.apP r (M.Pos.mk p_pits p_stores p_player) hand_v f).player = p_player := by first | (rw [hE]; done) | (rw [hA]; done) | (rw [hB]; done) | (rw [hA]; rfl) | (rw [hB]; rfl)
  have hE4 : M.apH r (M.Pos.mk p_pits p_stores p_player) hand_v f = hand_v := by first | (rw [hE]; done) | (rw [hA]; done) | (rw [hB]; done) | (rw [hA]; rfl) | (rw [hB]; rfl)
  refine ⟨(some ⟨b11, 0, none⟩), cp_0, gp_0, (some ⟨b15, 0, none⟩), cp_1, gp_1, hE, ?_, ?_, ?_, ?_, ?_⟩
  · rw [hN1, hE1, hN2, hE2, hE3, hE4]
  all_goals (first | (rw [hN1, hE1, hN2, hE2, hE3, hE4]; omega) | omega | (simp only [*]; omega) | (simp; done))
 have nk9 := h9'
 refine zS <| Qe rfl rfl <| Qa rfl <| JL.nil ?_
 refine zi (fun h17 h17' => ?_) fun h17 h17' => ?_
 ·
  have hk2 : f.kind = 2 := by have := h17'; omega
  refine Js.seq <| Js.seq ?_
  refine zdr [] ?_
  refine jF 0 fld_46_2 rfl rfl ?_
  refine jB 1 0 ty_2 rfl rfl rfl rfl ?_
  refine jM 2 rfl rfl ?_
  refine jN 3 rfl rfl ?_
  refine jB 4 5 ty_2 rfl rfl rfl rfl ?_
  refine JH.p 5 rfl (p_gtr rfl rfl) ?_
  refine yd ?_
  refine zi (fun h18 h18' => ?_) fun h18 h18' => ?_
  ·
   have hE : M.stB r (M.Pos.mk p_pits p_stores p_player) hand_v f = false := by rw [M.stB_2 ho hk2]; exact decide_eq_false (by have := h18'; omega)
   obtain ⟨hA, hB⟩ := M.ap_n hE
   refine zS <| Qa rfl <| JL.nil ?_
   refine zrb [2, 2, 2, 2] hb (Up.refl _ _) ?_
   have hE : (.bool false : Value) = .bool (M.stB r (M.Pos.mk p_pits p_stores p_player) hand_v f) := by first | (rw [hE]; done) | (rw [hA]; done) | (rw [hB]; done) | (rw [hA]; rfl) | (rw [hB]; rfl)
   have hN1 : ((M.apP r (M.Pos.mk p_pits p_stores p_player) hand_v f).pits).length = p_pits.length := by first | (rw [hA]; done) | (rw [hA]; dsimp only; simp; done) | (rw [hA]; dsimp only; simp; omega)
   have hE1 : (M.apP r (M.Pos.mk p_pits p_stores p_player) hand_v f).pits = p_pits := by first | (rw [hE]; done) | (rw [hA]; done) | (rw [hB]; done) | (rw [hA]; rfl) | (rw [hB]; rfl)
   have hN2 : ((M.apP r (M.Pos.mk p_pits p_stores p_player) hand_v f).stores).length = p_stores.length := by first | (rw [hA]; done) | (rw [hA]; dsimp only; simp; done) | (rw [hA]; dsimp only; simp; omega)
   have hE2 : (M.apP r (M.Pos.mk p_pits p_stores p_player) hand_v f).stores = p_stores := by first | (rw [hE]; done) | (rw [hA]; done) | (rw [hB]; done) | (rw [hA]; rfl) | (rw [hB]; rfl)
   have hE3 : (M.apP r (M.Pos.mk p_pits p_stores p_player) hand_v f).player = p_player := by first | (rw [hE]; done) | (rw [hA]; done) | (rw [hB]; done) | (rw [hA]; rfl) | (rw [hB]; rfl)
   have hE4 : M.apH r (M.Pos.mk p_pits p_stores p_player) hand_v f = hand_v := by first | (rw [hE]; done) | (rw [hA]; done) | (rw [hB]; done) | (rw [hA]; rfl) | (rw [hB]; rfl)
   refine ⟨Ap_0, cp_0, gp_0, Ap_1, cp_1, gp_1, hE, ?_, ?_, ?_, ?_, ?_⟩
   · rw [hN1, hE1, hN2, hE2, hE3, hE4]
   all_goals (first | (rw [hN1, hE1, hN2, hE2, hE3, hE4]; omega) | omega | (simp only [*]; omega) | (simp; done))
  have hE : M.stB r (M.Pos.mk p_pits p_stores p_player) hand_v f = true := by rw [M.stB_2 ho hk2]; exact decide_eq_true (by have := h18'; omega)
  refine Js.skip <| Js.seq ?_
  refine zdr [7] ?_
  refine jM 0 rfl rfl ?_
  refine jN 1 rfl rfl ?_
  refine jB 2 5 ty_2 rfl rfl rfl rfl ?_
  refine jF 3 fld_46_2 rfl rfl ?_
  refine jB 4 0 ty_2 rfl rfl rfl rfl ?_
  refine JH.p 5 rfl (p_sub rfl rfl (IntWalk.i64_in _ (by omega))) ?_
  refine jN 6 rfl rfl ?_
  refine y1 7 ?_
  refine yst rfl rfl rfl ?_
  refine yd ?_
  refine zS <| Qf fh rfl <| Q0 0 rfl rfl rfl <| Ql rfl rfl <| JL.nil ?_
  refine zi (fun h19 h19' => ?_) fun h19 h19' => ?_
  ·
   have hp9 : f.place < 0 := by have := h19'; omega
   obtain ⟨hA, hB⟩ := M.ap_y hE
   obtain ⟨hC, hD⟩ := (M.stP_2s hk2 hp9 : M.stP (M.Pos.mk p_pits p_stores p_player) f = _ ∧ M.stH hand_v f = _)
   rw [hC] at hA
   rw [hD] at hB
   refine zdr [14] ?_
   refine jM 0 rfl rfl ?_
   refine jN 1 rfl rfl ?_
   refine jF 2 fld_28_1 rfl rfl ?_
   refine jB 3 2 ty_26 rfl rfl rfl rfl ?_
   refine jM 4 rfl rfl ?_
   refine jN 5 rfl rfl ?_
   refine jF 6 fld_28_2 rfl rfl ?_
   refine jB 7 2 ty_2 rfl rfl rfl rfl ?_
   refine JH.fact (row_some (i := 4) rfl (by omega)) (fun hf21 => ?_)
   obtain ⟨b21, rfl⟩ := hf21
   refine jI 8 el_26 rfl rfl rfl rfl ?_
   refine JH.q 9 rfl (q_load1 ty_2.h rfl (Mem.row (i := 4) rfl (ints_getI (i := p_player) (by omega)))) ?_
   refine jF 10 fld_46_2 rfl rfl ?_
   refine jB 11 0 ty_2 rfl rfl rfl rfl ?_
   refine JH.p 12 rfl (p_add rfl rfl (IntWalk.i64_in _ (by omega))) ?_
   refine jI 13 el_26 rfl rfl rfl rfl ?_
   refine y1 14 ?_
   refine JHo.s rfl (e_storeRow (i := 4) (xs' := ints_ (M.setI p_stores p_player ((M.getI p_stores p_player) + f.count))) ty_2.h rfl rfl rfl rfl rfl rfl (ints_lt (i := p_player.toNat) (by omega)) (ints_setL (i := p_player.toNat) (by omega))) (.inr rfl) ?_
   rintro _ _ _ ⟨rfl, rfl⟩ _
   refine znh ?_
   refine yd ?_
   refine Js.blockEnd <| zS <| Qa rfl <| JL.nil ?_
   refine zrb [2, 2, 2, 2] hb (Up.refl _ _) ?_
   have hE : (.bool true : Value) = .bool (M.stB r (M.Pos.mk p_pits p_stores p_player) hand_v f) := by first | (rw [hE]; done) | (rw [hA]; done) | (rw [hB]; done) | (rw [hA]; rfl) | (rw [hB]; rfl)
   have hN1 : ((M.apP r (M.Pos.mk p_pits p_stores p_player) hand_v f).pits).length = p_pits.length := by first | (rw [hA]; done) | (rw [hA]; dsimp only; simp; done) | (rw [hA]; dsimp only; simp; omega)
   have hE1 : (M.apP r (M.Pos.mk p_pits p_stores p_player) hand_v f).pits = p_pits := by first | (rw [hE]; done) | (rw [hA]; done) | (rw [hB]; done) | (rw [hA]; rfl) | (rw [hB]; rfl)
   have hN2 : ((M.apP r (M.Pos.mk p_pits p_stores p_player) hand_v f).stores).length = p_stores.length := by first | (rw [hA]; done) | (rw [hA]; dsimp only; simp; done) | (rw [hA]; dsimp only; simp; omega)
   have hE2 : (M.apP r (M.Pos.mk p_pits p_stores p_player) hand_v f).stores = (M.setI p_stores p_player ((M.getI p_stores p_player) + f.count)) := by first | (rw [hE]; done) | (rw [hA]; done) | (rw [hB]; done) | (rw [hA]; rfl) | (rw [hB]; rfl)
   have hE3 : (M.apP r (M.Pos.mk p_pits p_stores p_player) hand_v f).player = p_player := by first | (rw [hE]; done) | (rw [hA]; done) | (rw [hB]; done) | (rw [hA]; rfl) | (rw [hB]; rfl)
   have hE4 : M.apH r (M.Pos.mk p_pits p_stores p_player) hand_v f = (hand_v - f.count) := by first | (rw [hE]; done) | (rw [hA]; done) | (rw [hB]; done) | (rw [hA]; rfl) | (rw [hB]; rfl)
   refine ⟨Ap_0, cp_0, gp_0, (some ⟨b21, 0, none⟩), cp_1, gp_1, hE, ?_, ?_, ?_, ?_, ?_⟩
   · rw [hN1, hE1, hN2, hE2, hE3, hE4]
   all_goals (first | (rw [hN1, hE1, hN2, hE2, hE3, hE4]; omega) | omega | (simp only [*]; omega) | (simp; done))
  have hp9 : ¬ f.place < 0 := by have := h19'; omega
  obtain ⟨hA, hB⟩ := M.ap_y hE
  obtain ⟨hC, hD⟩ := (M.stP_2p hk2 hp9 : M.stP (M.Pos.mk p_pits p_stores p_player) f = _ ∧ M.stH hand_v f = _)
  rw [hC] at hA
  rw [hD] at hB
  refine zdr [12] ?_
  refine jM 0 rfl rfl ?_
  refine jN 1 rfl rfl ?_
  refine jF 2 fld_28_0 rfl rfl ?_
  refine jB 3 2 ty_26 rfl rfl rfl rfl ?_
  refine jF 4 fld_46_1 rfl rfl ?_
  refine jB 5 0 ty_2 rfl rfl rfl rfl ?_
  refine JH.fact (row_some (i := 3) rfl (by omega)) (fun hf24 => ?_)
  obtain ⟨b24, rfl⟩ := hf24
  refine jI 6 el_26 rfl rfl rfl rfl ?_
  refine JH.q 7 rfl (q_load1 ty_2.h rfl (Mem.row (i := 3) rfl (ints_getI (i := f.place) (by omega)))) ?_
  refine jF 8 fld_46_2 rfl rfl ?_
  refine jB 9 0 ty_2 rfl rfl rfl rfl ?_
  refine JH.p 10 rfl (p_add rfl rfl (IntWalk.i64_in _ (by omega))) ?_
  refine jI 11 el_26 rfl rfl rfl rfl ?_
  refine y1 12 ?_
  refine JHo.s rfl (e_storeRow (i := 3) (xs' := ints_ (M.setI p_pits f.place ((M.getI p_pits f.place) + f.count))) ty_2.h rfl rfl rfl rfl rfl rfl (ints_lt (i := f.place.toNat) (by omega)) (ints_setL (i := f.place.toNat) (by omega))) (.inr rfl) ?_
  rintro _ _ _ ⟨rfl, rfl⟩ _
  refine znh ?_
  refine yd ?_
  refine Js.blockEnd <| zS <| Qa rfl <| JL.nil ?_
  refine zrb [2, 2, 2, 2] hb (Up.refl _ _) ?_
  have hE : (.bool true : Value) = .bool (M.stB r (M.Pos.mk p_pits p_stores p_player) hand_v f) := by first | (rw [hE]; done) | (rw [hA]; done) | (rw [hB]; done) | (rw [hA]; rfl) | (rw [hB]; rfl)
  have hN1 : ((M.apP r (M.Pos.mk p_pits p_stores p_player) hand_v f).pits).length = p_pits.length := by first | (rw [hA]; done) | (rw [hA]; dsimp only; simp; done) | (rw [hA]; dsimp only; simp; omega)
  have hE1 : (M.apP r (M.Pos.mk p_pits p_stores p_player) hand_v f).pits = (M.setI p_pits f.place ((M.getI p_pits f.place) + f.count)) := by first | (rw [hE]; done) | (rw [hA]; done) | (rw [hB]; done) | (rw [hA]; rfl) | (rw [hB]; rfl)
  have hN2 : ((M.apP r (M.Pos.mk p_pits p_stores p_player) hand_v f).stores).length = p_stores.length := by first | (rw [hA]; done) | (rw [hA]; dsimp only; simp; done) | (rw [hA]; dsimp only; simp; omega)
  have hE2 : (M.apP r (M.Pos.mk p_pits p_stores p_player) hand_v f).stores = p_stores := by first | (rw [hE]; done) | (rw [hA]; done) | (rw [hB]; done) | (rw [hA]; rfl) | (rw [hB]; rfl)
  have hE3 : (M.apP r (M.Pos.mk p_pits p_stores p_player) hand_v f).player = p_player := by first | (rw [hE]; done) | (rw [hA]; done) | (rw [hB]; done) | (rw [hA]; rfl) | (rw [hB]; rfl)
  have hE4 : M.apH r (M.Pos.mk p_pits p_stores p_player) hand_v f = (hand_v - f.count) := by first | (rw [hE]; done) | (rw [hA]; done) | (rw [hB]; done) | (rw [hA]; rfl) | (rw [hB]; rfl)
  refine ⟨(some ⟨b24, 0, none⟩), cp_0, gp_0, Ap_1, cp_1, gp_1, hE, ?_, ?_, ?_, ?_, ?_⟩
  · rw [hN1, hE1, hN2, hE2, hE3, hE4]
  all_goals (first | (rw [hN1, hE1, hN2, hE2, hE3, hE4]; omega) | omega | (simp only [*]; omega) | (simp; done))
 have hk2 : ¬ f.kind = 2 := by have := h17'; omega
 refine zS <| Qe rfl rfl <| Qa rfl <| JL.nil ?_
 refine zi (fun h26 h26' => ?_) fun h26 h26' => ?_
 ·
  have hk6 : f.kind = 6 := by have := h26'; omega
  have hE : M.stB r (M.Pos.mk p_pits p_stores p_player) hand_v f = true := M.stB_6 ho (by omega) hk2 (by omega)
  obtain ⟨hA, hB⟩ := M.ap_y hE
  obtain ⟨hC, hD⟩ := (M.stP_6 hk6 : M.stP (M.Pos.mk p_pits p_stores p_player) f = _ ∧ M.stH hand_v f = _)
  rw [hC] at hA
  rw [hD] at hB
  refine Js.region <| Qm rfl <| Qm rfl <| Qc rfl <| Qf fh rfl <| Q0 2 rfl rfl rfl <| Qs rfl rfl <| Qc rfl <| Qf fh rfl <| zw 2 rfl rfl rfl ?_
  refine JL.nil <| Js.blockEnd <| zS <| Qa rfl <| JL.nil ?_
  refine zrb [2, 2, 2, 2] hb (Up.refl _ _) ?_
  have hE : (.bool true : Value) = .bool (M.stB r (M.Pos.mk p_pits p_stores p_player) hand_v f) := by first | (rw [hE]; done) | (rw [hA]; done) | (rw [hB]; done) | (rw [hA]; rfl) | (rw [hB]; rfl)
  have hN1 : ((M.apP r (M.Pos.mk p_pits p_stores p_player) hand_v f).pits).length = p_pits.length := by first | (rw [hA]; done) | (rw [hA]; dsimp only; simp; done) | (rw [hA]; dsimp only; simp; omega)
  have hE1 : (M.apP r (M.Pos.mk p_pits p_stores p_player) hand_v f).pits = p_pits := by first | (rw [hE]; done) | (rw [hA]; done) | (rw [hB]; done) | (rw [hA]; rfl) | (rw [hB]; rfl)
  have hN2 : ((M.apP r (M.Pos.mk p_pits p_stores p_player) hand_v f).stores).length = p_stores.length := by first | (rw [hA]; done) | (rw [hA]; dsimp only; simp; done) | (rw [hA]; dsimp only; simp; omega)
  have hE2 : (M.apP r (M.Pos.mk p_pits p_stores p_player) hand_v f).stores = p_stores := by first | (rw [hE]; done) | (rw [hA]; done) | (rw [hB]; done) | (rw [hA]; rfl) | (rw [hB]; rfl)
  have hE3 : (M.apP r (M.Pos.mk p_pits p_stores p_player) hand_v f).player = (1 - p_player) := by first | (rw [hE]; done) | (rw [hA]; done) | (rw [hB]; done) | (rw [hA]; rfl) | (rw [hB]; rfl)
  have hE4 : M.apH r (M.Pos.mk p_pits p_stores p_player) hand_v f = hand_v := by first | (rw [hE]; done) | (rw [hA]; done) | (rw [hB]; done) | (rw [hA]; rfl) | (rw [hB]; rfl)
  refine ⟨Ap_0, cp_0, gp_0, Ap_1, cp_1, gp_1, hE, ?_, ?_, ?_, ?_, ?_⟩
  · rw [hN1, hE1, hN2, hE2, hE3, hE4]
  all_goals (first | (rw [hN1, hE1, hN2, hE2, hE3, hE4]; omega) | omega | (simp only [*]; omega) | (simp; done))
 have hk6 : ¬ f.kind = 6 := by have := h26'; omega
 have hE : M.stB r (M.Pos.mk p_pits p_stores p_player) hand_v f = true := M.stB_6 ho (by omega) hk2 (by omega)
 obtain ⟨hA, hB⟩ := M.ap_y hE
 obtain ⟨hC, hD⟩ := (M.stP_o (by omega) hk2 (by omega) hk6 : M.stP (M.Pos.mk p_pits p_stores p_player) f = _ ∧ M.stH hand_v f = _)
 rw [hC] at hA
 rw [hD] at hB
 refine Js.skip <| Js.blockEnd <| zS <| Qa rfl <| JL.nil ?_
 refine zrb [2, 2, 2, 2] hb (Up.refl _ _) ?_
 have hE : (.bool true : Value) = .bool (M.stB r (M.Pos.mk p_pits p_stores p_player) hand_v f) := by first | (rw [hE]; done) | (rw [hA]; done) | (rw [hB]; done) | (rw [hA]; rfl) | (rw [hB]; rfl)
 have hN1 : ((M.apP r (M.Pos.mk p_pits p_stores p_player) hand_v f).pits).length = p_pits.length := by first | (rw [hA]; done) | (rw [hA]; dsimp only; simp; done) | (rw [hA]; dsimp only; simp; omega)
 have hE1 : (M.apP r (M.Pos.mk p_pits p_stores p_player) hand_v f).pits = p_pits := by first | (rw [hE]; done) | (rw [hA]; done) | (rw [hB]; done) | (rw [hA]; rfl) | (rw [hB]; rfl)
 have hN2 : ((M.apP r (M.Pos.mk p_pits p_stores p_player) hand_v f).stores).length = p_stores.length := by first | (rw [hA]; done) | (rw [hA]; dsimp only; simp; done) | (rw [hA]; dsimp only; simp; omega)
 have hE2 : (M.apP r (M.Pos.mk p_pits p_stores p_player) hand_v f).stores = p_stores := by first | (rw [hE]; done) | (rw [hA]; done) | (rw [hB]; done) | (rw [hA]; rfl) | (rw [hB]; rfl)
 have hE3 : (M.apP r (M.Pos.mk p_pits p_stores p_player) hand_v f).player = p_player := by first | (rw [hE]; done) | (rw [hA]; done) | (rw [hB]; done) | (rw [hA]; rfl) | (rw [hB]; rfl)
 have hE4 : M.apH r (M.Pos.mk p_pits p_stores p_player) hand_v f = hand_v := by first | (rw [hE]; done) | (rw [hA]; done) | (rw [hB]; done) | (rw [hA]; rfl) | (rw [hB]; rfl)
 refine ⟨Ap_0, cp_0, gp_0, Ap_1, cp_1, gp_1, hE, ?_, ?_, ?_, ?_, ?_⟩
 · rw [hN1, hE1, hN2, hE2, hE3, hE4]
 all_goals (first | (rw [hN1, hE1, hN2, hE2, hE3, hE4]; omega) | omega | (simp only [*]; omega) | (simp; done))
theorem c_impl_ApplyFacts (r : M.Rul) {v_r : Value} (p : M.Pos) {v_p : Value} (facts : List M.Fct) {v_facts : Value} {w : World} (h_r : (Ty.agg (cRules r)).ok w v_r) (h_p : (Ty.agg (cPosition p)).ok w v_p) (h_facts : (Ty.sl 46 3 facts.length (lFact facts)).ok w v_facts) (r0 : p.pits.length ≤ 4194304 := by exact om_) (r1 : p.stores.length ≤ 4194304 := by exact om_) (r2 : facts.length ≤ 4194304 := by exact om_) : Ret Try.prog 13 [v_r, v_p, v_facts] w (Ty.tup [Ty.agg (cPosition ((M.apR r p facts).1)), Ty.int ((M.apR r p facts).2)]) := by
 revert v_r; apply opn
 revert v_p; apply opn
 intro A1 c1 h1 bl1 bh1 A2 c2 h2 bl2 bh2
 revert v_facts; apply opn
 intro A3 c3 h3 bl3 bh3
 have h_facts := h3
 refine enter @Try.func13 @Try.ntmps13 rfl rfl ?_
 refine zent ?_
 refine zS <| zb rfl fun b4 => zb rfl fun b5 => za zeh fun b6 => Qa rfl <| zJ <| zS <| Q9 2 rfl rfl ?_
 refine Q9 1 rfl rfl ?_
 refine zv rfl (fun w hw => c_impl_ValidPosition r p (ok_ hw) (ok_ hw)) <| Qt rfl <| JL.nil ?_
 refine zi (fun h7 h7' => ?_) fun h7 h7' => ?_
 ·
  have hE := M.apR_1 (l := facts) (show M.okP r p = false by simpa using h7)
  have hq0 : [] = ((M.apR r p facts).1).pits := by first | (rw [hE]; done) | (rw [hE]; rfl) | rfl
  have hq1 : [] = ((M.apR r p facts).1).stores := by first | (rw [hE]; done) | (rw [hE]; rfl) | rfl
  have hq2 : 0 = ((M.apR r p facts).1).player := by first | (rw [hE]; done) | (rw [hE]; rfl) | rfl
  have hq3 : 1 = (M.apR r p facts).2 := by first | (rw [hE]; done) | (rw [hE]; rfl) | rfl
  refine zS <| Qb ?_
  refine zw 0 rfl rfl rfl ?_
  refine Qa rfl <| JL.nil ?_
  exact zro (Up.refl _ _)
 have hok : M.okP r p = true := by simpa using h7
 obtain ⟨g1, g2, g3, g4, g5, g6, g7⟩ := M.okP_bd hok
 refine Js.skip <| Js.seq <| zS <| Qm rfl <| Qz rfl <| Qg rfl rfl <| JL.nil ?_
 refine zi (fun h8 h8' => ?_) fun h8 h8' => ?_
 ·
  have hE := M.apR_5 hok (show 3000 < facts.length by have := h8'; omega)
  have hq0 : [] = ((M.apR r p facts).1).pits := by first | (rw [hE]; done) | (rw [hE]; rfl) | rfl
  have hq1 : [] = ((M.apR r p facts).1).stores := by first | (rw [hE]; done) | (rw [hE]; rfl) | rfl
  have hq2 : 0 = ((M.apR r p facts).1).player := by first | (rw [hE]; done) | (rw [hE]; rfl) | rfl
  have hq3 : 5 = (M.apR r p facts).2 := by first | (rw [hE]; done) | (rw [hE]; rfl) | rfl
  refine zS <| Qb ?_
  refine zw 0 rfl rfl rfl ?_
  refine Qa rfl <| JL.nil ?_
  exact zro (Up.refl _ _)
 have hl9 : ¬ 3000 < facts.length := by have := h8'; omega
 refine Js.skip <| zS <| Q9 1 rfl rfl ?_
 refine zc rfl (fun w hw => c_impl_Position_copied p (ok_ hw)) ?_
 intro A10 c10 bl10 bh10 A11 c11 bl11 bh11
 refine za zeh fun b12 => za zeh fun b13 => zw 1 rfl rfl rfl ?_
 refine zw 0 rfl rfl rfl ?_
 refine zJ <| zS <| Qm rfl <| Qz rfl <| Qm rfl <| JL.nil <| Js.block ?_
 refine zl [3, 6, 8, 9, 23, 24] (fun F U l os u m => ∃ (k : Nat) (q : M.Pos) (hd : Int) (A14_8_0 : Option Addr) (c14_8_0 : Nat) (g14_8_0 : List Nat) (A14_8_1 : Option Addr) (c14_8_1 : Nat) (g14_8_1 : List Nat), l = F [(25, .int .i64 (k : Int))] ∧ os = U [some (boxO b13 [.int .i64 hd] 2), some (boxO b12 [.slice A14_8_0 q.pits.length c14_8_0, .slice A14_8_1 q.stores.length c14_8_1, .int .i64 q.player] 28), some (rowO 2 1 (.slice A14_8_1 q.stores.length c14_8_1) q.stores.length (ints_ q.stores) g14_8_1), some (rowO 2 1 (.slice A14_8_0 q.pits.length c14_8_0) q.pits.length (ints_ q.pits) g14_8_0)] ∧ (M.ApI r p facts k q hd) ∧ (k ≤ facts.length) ∧ (q.pits.length ≤ c14_8_0) ∧ (c14_8_0 ≤ 9223372036854775807) ∧ (q.stores.length ≤ c14_8_1) ∧ (c14_8_1 ≤ 9223372036854775807) ∧ m = facts.length - k) ⟨0, p, 0, _, _, _, _, _, _, rfl, rfl, by exact M.ApI.zero facts hok, zt, zu, zu, zu, zu, rfl⟩ ?_
 rintro _ _ u14 _ ⟨k, q, hd, A14_8_0, c14_8_0, g14_8_0, A14_8_1, c14_8_1, g14_8_1, rfl, rfl, hI, hk, f14_2, f14_3, f14_4, f14_5, rfl⟩ x14
 refine zn ?_
 have hqg := hI.g.g
 have hq1 := hqg.lp
 have hq2 := hqg.ls
 refine zS <| Ql rfl rfl <| zJ ?_
 refine zi (fun h15 h15' => ?_) fun h15 h15' => ?_
 ·
  have hk2 : k < facts.length := by have := h15'; omega
  have hy16 : facts[k]? = some (M.fct facts k) := M.fct_get (by omega)
  obtain ⟨b16, o16, he16, hr16⟩ := elem_Fact (Ty.mono _ h3 x14.vis) hy16
  refine Js.skip <| Js.seq <| Js.block <| zS <| Qq (p_indexAddr el_31 rfl rfl (by omega) (by omega) he16) <| QS 0 hr16 rfl ?_
  refine za zeh fun b17 => zw 0 rfl rfl rfl ?_
  refine zN <| Q9 7 rfl rfl ?_
  refine Q9 0 rfl rfl ?_
  refine zhl [2, 3, 2, 1] ?_
  refine zB 4 sp_ rfl (fun w hb hw => c_impl_Rules_apply r q.pits q.stores q.player hd (M.fct facts k) hb (ok_ hw) (ok_ hw) (r2 := hI.g)) ?_
  rintro _ _ G18 ⟨A18p_0, c18p_0, g18p_0, A18p_1, c18p_1, g18p_1, rfl, rfl, bl18_0, bl18_1, bl18_2, bl18_3⟩
  refine znl ?_
  refine Qt rfl <| JL.nil ?_
  refine zi (fun h19 h19' => ?_) fun h19 h19' => ?_
  ·
   have hE := hI.no hok hl9 hk2 (by simpa using h19)
   have hq0 : [] = ((M.apR r p facts).1).pits := by first | (rw [hE]; done) | (rw [hE]; rfl) | rfl
   have hq1 : [] = ((M.apR r p facts).1).stores := by first | (rw [hE]; done) | (rw [hE]; rfl) | rfl
   have hq2 : 0 = ((M.apR r p facts).1).player := by first | (rw [hE]; done) | (rw [hE]; rfl) | rfl
   have hq3 : 6 = (M.apR r p facts).2 := by first | (rw [hE]; done) | (rw [hE]; rfl) | rfl
   refine zS <| Qb ?_
   refine zw 6 rfl rfl rfl ?_
   refine Qa rfl <| JL.nil ?_
   exact zro x14
  have hB9 : M.stB r q hd (M.fct facts k) = true := by simpa using h19
  have hI2 := hI.step hk2 hB9
  obtain ⟨hA9, hH9⟩ := M.ap_y hB9
  rw [← hA9, ← hH9] at hI2
  refine Js.skip <| Js.blockEnd <| Js.region <| Qp rfl rfl <| Qm rfl <| JL.nil ?_
  refine zd [3, 0, 1, 0, 2, 2, 2] rfl fun u20 x20 => ?_
  exact zag ⟨k + 1, (M.apP r q hd (M.fct facts k)), (M.apH r q hd (M.fct facts k)), _, _, _, _, _, _, rfl, rfl, by exact hI2, zt, zu, zu, zu, zu, rfl⟩ (x14.trans x20)
 have hE := hI.all hok hl9 (by have := h15'; omega)
 have hn9 := hI.g.g.n0
 refine zx ?_
 refine Js.seq <| zS <| Q0 0 rfl rfl rfl <| Qg rfl rfl <| JL.nil ?_
 refine zi (fun h21 h21' => ?_) fun h21 h21' => ?_
 ·
  rw [if_neg (by have := h21'; omega)] at hE
  have hq0 : [] = ((M.apR r p facts).1).pits := by first | (rw [hE]; done) | (rw [hE]; rfl) | rfl
  have hq1 : [] = ((M.apR r p facts).1).stores := by first | (rw [hE]; done) | (rw [hE]; rfl) | rfl
  have hq2 : 0 = ((M.apR r p facts).1).player := by first | (rw [hE]; done) | (rw [hE]; rfl) | rfl
  have hq3 : 6 = (M.apR r p facts).2 := by first | (rw [hE]; done) | (rw [hE]; rfl) | rfl
  refine zS <| Qb ?_
  refine zw 4 rfl rfl rfl ?_
  refine Qa rfl <| JL.nil ?_
  exact zro x14
 rw [if_pos (by have := h21'; omega)] at hE
 have hq0 : q.pits = ((M.apR r p facts).1).pits := by first | (rw [hE]; done) | (rw [hE]; rfl) | rfl
 have hq1 : q.stores = ((M.apR r p facts).1).stores := by first | (rw [hE]; done) | (rw [hE]; rfl) | rfl
 have hq2 : q.player = ((M.apR r p facts).1).player := by first | (rw [hE]; done) | (rw [hE]; rfl) | rfl
 have hq3 : 0 = (M.apR r p facts).2 := by first | (rw [hE]; done) | (rw [hE]; rfl) | rfl
 refine Js.skip <| zS <| Q9 1 rfl rfl ?_
 refine zw 4 rfl rfl rfl ?_
 refine Qa rfl <| JL.nil ?_
 exact zro x14
theorem c_impl_TouchedPits (r : M.Rul) {v_r : Value} (p : M.Pos) {v_p : Value} (move : Int) {w : World} (h_r : (Ty.agg (cRules r)).ok w v_r) (h_p : (Ty.agg (cPosition p)).ok w v_p) (r0 : p.pits.length ≤ 4194304 := by exact om_) (r1 : p.stores.length ≤ 4194304 := by exact om_) : Ret Try.prog 10 [v_r, v_p, .int .i64 move] w (Ty.tup [Ty.ints 2 ((M.touR r p move).1), Ty.int ((M.touR r p move).2)]) := by
 revert v_r; apply opn
 revert v_p; apply opn
 intro A1 c1 h1 bl1 bh1 A2 c2 h2 bl2 bh2
 refine enter @Try.func10 @Try.ntmps10 rfl rfl ?_
 refine zent ?_
 refine zS <| zb rfl fun b3 => zb rfl fun b4 => Qa rfl <| Qa rfl <| zN <| Q9 1 rfl rfl ?_
 refine Q9 0 rfl rfl ?_
 refine Qm rfl <| zc rfl (fun w hw => c_impl_Rules_resultOf r p move (ok_ hw) (ok_ hw)) ?_
 intro A7 c7 bl7 bh7 A8 c8 bl8 bh8
 refine Qm rfl <| Qx rfl rfl <| Qx rfl rfl <| za zeh fun b9 => zw 0 rfl rfl rfl ?_
 refine Qa rfl <| zJ <| zS <| Qm rfl <| Qd rfl rfl <| JL.nil ?_
 refine zi (fun h10 h10' => ?_) fun h10 h10' => ?_
 ·
  have hE := M.touR_n (r := r) (p := p) (move := move) (by simpa using h10)
  have hq0 : [] = (M.touR r p move).1 := by first | (rw [hE, hO]; done) | (rw [hE]; exact hO.symm) | (rw [hE]; exact hO) | (rw [hE]; done) | (rw [hE]; rfl)
  have hq1 : ((M.make r p move).2) = (M.touR r p move).2 := by first | (rw [hE, hO]; done) | (rw [hE]; exact hO.symm) | (rw [hE]; exact hO) | (rw [hE]; done) | (rw [hE]; rfl)
  refine zS <| Qm rfl <| Qa rfl <| Qa rfl <| JL.nil ?_
  exact zro (Up.refl _ _)
 have hm0 : (M.make r p move).2 = 0 := by simpa using h10
 have hE := M.touR_y hm0
 obtain ⟨hok, _, _, hok2, _⟩ := M.make_ok hm0
 obtain ⟨_, _, g3, g4, _⟩ := M.okP_bd hok
 obtain ⟨_, _, k3, k4, _⟩ := M.okP_bd hok2
 refine Js.skip <| zS <| zbs fun b11 => ?_
 refine Qa rfl <| zJ <| zS <| Qf fh rfl <| Q0 4 rfl rfl rfl <| Qz rfl <| Qm rfl <| JL.nil <| Js.block ?_
 refine zl [8, 25, 26] (fun F U l os u m => ∃ (k : Nat) (out : List Int) (A13_10 : Option Addr) (c13_10 : Nat) (g13_10 : List Nat), l = F [(10, .slice A13_10 out.length c13_10), (27, .int .i64 (k : Int))] ∧ os = U [some (rowO 2 1 (.slice A13_10 out.length c13_10) out.length (ints_ out) g13_10)] ∧ (out = M.touT p.pits (M.make r p move).1.next.pits k) ∧ (k ≤ p.pits.length) ∧ (out.length ≤ k) ∧ (out.length ≤ c13_10) ∧ (c13_10 ≤ 9223372036854775807) ∧ m = p.pits.length - k) ⟨0, [], _, _, _, rfl, rfl, by rfl, zt, by simp, zu, zu, rfl⟩ ?_
 rintro _ _ u13 _ ⟨k, out, A13_10, c13_10, g13_10, rfl, rfl, hO, hk, hl, f13_3, f13_4, rfl⟩ x13
 refine zn ?_
 refine zS <| Ql rfl rfl <| zJ ?_
 refine zi (fun h14 h14' => ?_) fun h14 h14' => ?_
 ·
  have hk2 : k < p.pits.length := by have := h14'; omega
  obtain ⟨b15, o15, he15, hc15⟩ := ints_elem (Ty.mono _ h1 x13.vis) (i := k) (by omega)
  refine Js.skip <| Js.seq <| Js.block <| zS <| Qm rfl <| Qq (p_indexAddr el_26 rfl rfl (by omega) (by omega) he15) <| QC hc15 rfl <| Qa rfl <| Qa rfl <| zN <| Qf fh rfl <| Qf fh rfl <| Q0 1 rfl rfl rfl <| Qm rfl ?_
  refine JL.fact (row_some (i := 3) rfl (by omega)) (fun hf17 => ?_)
  obtain ⟨b17, rfl⟩ := hf17
  refine Qq (p_indexAddr el_26 rfl rfl (by omega) (by omega) rfl) <| Qw (q_load1 ty_2.h rfl (Mem.row (i := 3) rfl (ints_get (i := k) (by omega)))) <| Qm rfl <| Qd rfl rfl <| JL.nil ?_
  refine zi (fun h18 h18' => ?_) fun h18 h18' => ?_
  ·
   have hO2 : out ++ [(k : Int)] = M.touT p.pits (M.make r p move).1.next.pits (k + 1) := by rw [hO]; exact (M.touT_y (by simpa using h18)).symm
   refine Js.region <| Qm rfl <| Qm rfl <| zbs fun b19 => ?_
   refine JL.e (e_append (i := 1) (n' := (out ++ [(k : Int)]).length) (vs' := ints_ (out ++ [(k : Int)])) el_26 rfl rfl rfl rfl (src_row (i := 0) und_26 rfl rfl) (by omega) (by omega) ln2_ (by simp [ints_])) ?_
   rintro v21 _ _ ⟨⟨g22, rfl⟩, rfl⟩ _
   refine JL.fact (row_form' (i := 1) rfl) (fun hf23 => ?_)
   obtain ⟨A23, c23, rfl, bl23, bh23⟩ := hf23
   refine znl ?_
   refine Qa rfl <| JL.nil <| Js.blockEnd <| Js.region <| Qp rfl rfl <| Qm rfl <| JL.nil ?_
   refine zd [1, 1, 1, 1, 1, 1] rfl fun u24 x24 => ?_
   exact zag ⟨k + 1, out ++ [(k : Int)], _, _, _, rfl, rfl, by exact hO2, zt, by first | omega | (simp; omega), zu, zu, rfl⟩ (x13.trans x24)
  have hO2 : out = M.touT p.pits (M.make r p move).1.next.pits (k + 1) := by rw [hO]; exact (M.touT_n (by simpa using h18)).symm
  refine Js.skip <| Js.blockEnd <| Js.region <| Qp rfl rfl <| Qm rfl <| JL.nil ?_
  exact zag ⟨k + 1, out, _, _, _, rfl, rfl, by exact hO2, zt, by first | omega | (simp; omega), zu, zu, rfl⟩ x13
 have hk3 : k = p.pits.length := by have := h14'; omega
 subst hk3
 refine zx ?_
 have hq0 : out = (M.touR r p move).1 := by first | (rw [hE, hO]; done) | (rw [hE]; exact hO.symm) | (rw [hE]; exact hO) | (rw [hE]; done) | (rw [hE]; rfl)
 have hq1 : 0 = (M.touR r p move).2 := by first | (rw [hE, hO]; done) | (rw [hE]; exact hO.symm) | (rw [hE]; exact hO) | (rw [hE]; done) | (rw [hE]; rfl)
 refine zS <| Qm rfl <| Qa rfl <| Qa rfl <| JL.nil ?_
 exact zro x13
theorem c_impl_SeedsMoved (r : M.Rul) {v_r : Value} (p : M.Pos) {v_p : Value} (move : Int) {w : World} (h_r : (Ty.agg (cRules r)).ok w v_r) (h_p : (Ty.agg (cPosition p)).ok w v_p) (r0 : p.pits.length ≤ 4194304 := by exact om_) (r1 : p.stores.length ≤ 4194304 := by exact om_) : RetV Try.prog 8 [v_r, v_p, .int .i64 move] w (.tuple #[.int .i64 ((M.movR r p move).1), .int .i64 ((M.movR r p move).2)]) := by
 revert v_r; apply opn
 revert v_p; apply opn
 intro A1 c1 h1 bl1 bh1 A2 c2 h2 bl2 bh2
 refine enter @Try.func8 @Try.ntmps8 rfl rfl ?_
 refine zent ?_
 refine zS <| zb rfl fun b3 => zb rfl fun b4 => Qa rfl <| Qa rfl <| zJ <| zS <| Q9 1 rfl rfl ?_
 refine Q9 0 rfl rfl ?_
 refine Qm rfl <| zv rfl (fun w hw => c_impl_MoveFault r p move (ok_ hw) (ok_ hw)) <| Qa rfl <| zN <| Qm rfl <| Qd rfl rfl <| JL.nil ?_
 refine zi (fun h5 h5' => ?_) fun h5 h5' => ?_
 ·
  have hE := M.movR_n (r := r) (p := p) (move := move) (by rw [M.make_code]; simpa using h5)
  rw [M.make_code] at hE
  refine zS <| Qm rfl <| Qa rfl <| Qa rfl <| JL.nil ?_
  refine zR (Up.refl _ _) ?_
  first | (rw [hE]; done) | (rw [hE]; rfl) | rfl
 have hm0 : (M.make r p move).2 = 0 := by rw [M.make_code]; simpa using h5
 have hE := M.movR_y hm0
 have hz := M.make_sow0 hm0
 refine Js.skip <| zS <| Q9 1 rfl rfl ?_
 refine Q9 0 rfl rfl ?_
 refine Qm rfl <| zp rfl (fun w hw => c_impl_sowMove r p move (ok_ hw) (ok_ hw)) ?_
 intro u6 x6 v7 h7
 obtain ⟨b8, o8, A8_10, c8_10, A8_11, c8_11, A8_14, c8_14, rfl, hr8, h8_10, h8_11, h8_14, bl8_10, bh8_10, bl8_11, bh8_11, bl8_14, bh8_14⟩ := ref_sowing (box_ref (opt_yes h7 (by exact decide_eq_true hz)))
 refine Qm rfl <| Qx rfl rfl <| Qx rfl rfl <| Qa rfl <| Qa rfl <| zN <| Qm rfl <| Qc rfl <| Qf fh rfl <| QC (hr8 14 _ rfl) rfl <| Qz rfl <| Qa rfl <| Qa rfl <| JL.nil ?_
 refine zR x6 ?_
 first | (rw [hE]; done) | (rw [hE]; rfl) | rfl
theorem c_laws_f6ints (a : List Int) {v_a : Value} (b : List Int) {v_b : Value} {w : World} (h_a : (Ty.ints 2 a).ok w v_a) (h_b : (Ty.ints 2 b).ok w v_b) (r0 : a.length ≤ 4194304 := by exact om_) (r1 : b.length ≤ 4194304 := by exact om_) : RetV Try.prog 16 [v_a, v_b] w (.bool (decide (a = b))) := by
 revert v_a; apply opn
 intro A1 c1 h1 bl1 bh1
 have h_a := h1
 revert v_b; apply opn
 intro A2 c2 h2 bl2 bh2
 have h_b := h2
 refine enter @Try.func16 @Try.ntmps16 rfl rfl ?_
 refine zent ?_
 refine zS <| Qa rfl <| zJ <| zS <| Qm rfl <| Qz rfl <| Qm rfl <| Qz rfl <| Qd rfl rfl <| JL.nil ?_
 refine zi (fun h3 h3' => ?_) fun h3 h3' => ?_
 ·
  have e1 : decide (a = b) = false := by simp; rintro rfl; simp at h3
  refine zS <| Qa rfl <| JL.nil ?_
  refine zR (Up.refl _ _) ?_
  simp [outV, e1]
 have hlen : a.length = b.length := by have := h3'; omega
 refine Js.skip <| Js.seq <| zS <| Qa rfl <| JL.nil <| Js.block ?_
 refine zl [0, 1] (fun F U l os u m => ∃ (k : Nat), l = F [(5, .int .i64 (k : Int))] ∧ os = U [] ∧ (k ≤ a.length) ∧ (M.Upto a b k) ∧ m = a.length - k) ⟨0, rfl, rfl, zt, by exact M.Upto.zero _ _, rfl⟩ ?_
 rintro _ _ u4 _ ⟨k, rfl, rfl, hk, hU, rfl⟩ x4
 refine zn ?_
 refine Js.seq <| zS <| Qm rfl <| Qm rfl <| Qz rfl <| Ql rfl rfl <| JL.nil ?_
 refine zi (fun h5 h5' => ?_) fun h5 h5' => ?_
 ·
  refine Js.skip <| Js.seq <| Js.block <| Js.seq ?_
  refine zdr [] ?_
  refine jM 0 rfl rfl ?_
  refine jM 1 rfl rfl ?_
  obtain ⟨b6, o6, he6, hc6⟩ := ints_elem (Ty.mono _ h1 x4.vis) (i := k) (by omega)
  refine jI 2 el_26 rfl rfl rfl he6 ?_
  refine jW 3 ty_2 rfl rfl hc6.vis ?_
  refine jM 4 rfl rfl ?_
  refine jM 5 rfl rfl ?_
  obtain ⟨b7, o7, he7, hc7⟩ := ints_elem (Ty.mono _ h2 x4.vis) (i := k) (by omega)
  refine jI 6 el_26 rfl rfl rfl he7 ?_
  refine jW 7 ty_2 rfl rfl hc7.vis ?_
  refine JH.p 8 rfl (p_neq rfl rfl) ?_
  refine yd ?_
  refine zi (fun h8 h8' => ?_) fun h8 h8' => ?_
  ·
   have e1 : decide (a = b) = false := by simpa using M.ne_of_nth (a := a) (b := b) (k := k) (by simpa using h8)
   refine zS <| Qa rfl <| JL.nil ?_
   refine zR x4 ?_
   simp [outV, e1]
  have hab : M.nth a k = M.nth b k := by simpa using h8
  refine Js.skip <| Js.blockEnd <| Js.region <| Qm rfl <| Qp rfl rfl <| Qa rfl <| JL.nil ?_
  exact zag ⟨k + 1, rfl, rfl, zt, by exact hU.step (by omega) (by omega) hab, rfl⟩ x4
 have e1 : a = b := hU.done (by omega) (by omega)
 refine zx ?_
 refine zS <| Qa rfl <| JL.nil ?_
 refine zR x4 ?_
 simp [outV, e1]
theorem c_laws_f6big (code : Nat) {v_code : Value} {w : World} (h_code : (Ty.bytes 5 code).ok w v_code) : RetV Try.prog 4 [v_code] w (.bool (decide (4096 < (code : Int)))) := by
 revert v_code; apply opn
 intro A1 c1 h1 bl1 bh1
 have h_code := h1
 refine enter @Try.func4 @Try.ntmps4 rfl rfl ?_
 refine zent ?_
 refine zS <| Qa rfl <| zN <| Qm rfl <| Qz rfl <| Qg rfl rfl <| Qa rfl <| JL.nil ?_
 exact zr (Up.refl _ _)
theorem c_spec_SamePosition (a : M.Pos) {v_a : Value} (b : M.Pos) {v_b : Value} {w : World} (h_a : (Ty.agg (cPosition a)).ok w v_a) (h_b : (Ty.agg (cPosition b)).ok w v_b) (r0 : a.pits.length ≤ 4194304 := by exact om_) (r1 : a.stores.length ≤ 4194304 := by exact om_) (r2 : b.pits.length ≤ 4194304 := by exact om_) (r3 : b.stores.length ≤ 4194304 := by exact om_) : RetV Try.prog 17 [v_a, v_b] w (.bool (M.sameP a b)) := by
 revert v_a; apply opn
 intro A1 c1 h1 bl1 bh1 A2 c2 h2 bl2 bh2
 revert v_b; apply opn
 intro A3 c3 h3 bl3 bh3 A4 c4 h4 bl4 bh4
 refine enter @Try.func17 @Try.ntmps17 rfl rfl ?_
 refine zent ?_
 refine zS <| zb rfl fun b5 => zb rfl fun b6 => Qa rfl <| zN <| zv rfl (fun w hw => c_spec_l04Same a b (ok_ hw) (ok_ hw)) <| Qa rfl <| JL.nil ?_
 exact zr (Up.refl _ _)
theorem c_laws_FnFacts (code : Nat) {v_code : Value} {w : World} (h_code : (Ty.bytes 5 code).ok w v_code) : RetV Try.prog 3 [v_code] w (.bool true) := by
 revert v_code; apply opn
 intro A1 c1 h1 bl1 bh1
 have h_code := h1
 refine enter @Try.func3 @Try.ntmps3 rfl rfl ?_
 refine zent ?_
 refine zS <| Qa rfl <| zJ <| zS <| Qm rfl <| zv rfl (fun w hw => c_laws_f6big code (ok_ hw)) <| JL.nil ?_
 refine zi (fun h2 h2' => ?_) fun h2 h2' => ?_
 ·
  refine zS <| Qa rfl <| JL.nil ?_
  refine zR (Up.refl _ _) ?_
  first | rfl | (simp [outV, e1_, e2_, hm0, M.sameP_true]; done)
 refine Js.skip <| zS <| Qm rfl <| zp rfl (fun w hw => c_spec_DrawFactsOf code (ok_ hw)) ?_
 intro u3 x3 X4 hX4 X5 hX5 A6 c6 h6 bl6 bh6 A7 c7 h7 bl7 bh7 X8 hX8
 have hfl := M.factsR_len X4 X5 X8
 have htl := M.touR_len X4 X5 X8
 refine Qm rfl <| Qx rfl rfl <| Qx rfl rfl <| Qx rfl rfl <| za zeh fun b9 => za zeh fun b10 => zw 1 rfl rfl rfl ?_
 refine zw 0 rfl rfl rfl ?_
 refine Qa rfl <| zN <| Q9 1 rfl rfl ?_
 refine Q9 0 rfl rfl ?_
 refine Qm rfl <| zp rfl (fun w hw => c_impl_FactsOf X4 X5 X8 (ok_ hw) (ok_ hw)) ?_
 intro u11 x11 A12 c12 h12 bl12 bh12
 refine Qm rfl <| Qx rfl rfl <| Qx rfl rfl <| Qa rfl <| Qa rfl <| zN <| Q9 1 rfl rfl ?_
 refine Q9 0 rfl rfl ?_
 refine Qm rfl <| zp rfl (fun w hw => c_spec_FactsOf X4 X5 X8 (ok_ hw) (ok_ hw)) ?_
 intro u13 x13 A14 c14 h14 bl14 bh14
 refine Qm rfl <| Qx rfl rfl <| Qx rfl rfl <| Qa rfl <| Qa rfl <| zN <| Q9 1 rfl rfl ?_
 refine Q9 0 rfl rfl ?_
 refine Qm rfl <| zv rfl (fun w hw => c_impl_SeedsMoved X4 X5 X8 (ok_ hw) (ok_ hw)) <| Qm rfl <| Qx rfl rfl <| Qx rfl rfl <| Qa rfl <| Qa rfl <| zN <| Q9 1 rfl rfl ?_
 refine Q9 0 rfl rfl ?_
 refine Qm rfl <| zv rfl (fun w hw => c_spec_SeedsMoved X4 X5 X8 (ok_ hw) (ok_ hw)) <| Qm rfl <| Qx rfl rfl <| Qx rfl rfl <| Qa rfl <| Qa rfl <| zN <| Q9 1 rfl rfl ?_
 refine Q9 0 rfl rfl ?_
 refine Qm rfl <| zp rfl (fun w hw => c_impl_TouchedPits X4 X5 X8 (ok_ hw) (ok_ hw)) ?_
 intro u15 x15 A16 c16 h16 bl16 bh16
 refine Qm rfl <| Qx rfl rfl <| Qx rfl rfl <| Qa rfl <| Qa rfl <| zN <| Q9 1 rfl rfl ?_
 refine Q9 0 rfl rfl ?_
 refine Qm rfl <| zp rfl (fun w hw => c_spec_TouchedPits X4 X5 X8 (ok_ hw) (ok_ hw)) ?_
 intro u17 x17 A18 c18 h18 bl18 bh18
 refine Qm rfl <| Qx rfl rfl <| Qx rfl rfl <| Qa rfl <| Qa rfl <| zN <| Qm rfl <| zp rfl (fun w hw => c_spec_DrawApplyFacts code (ok_ hw)) ?_
 intro u19 x19 X20 hX20 X21 hX21 A22 c22 h22 bl22 bh22 A23 c23 h23 bl23 bh23 X24 hX24 A25 c25 h25 bl25 bh25
 obtain ⟨ha1, ha2⟩ := M.apR_len X20 X21 X24
 refine Qm rfl <| Qx rfl rfl <| Qx rfl rfl <| Qx rfl rfl <| za zeh fun b26 => za zeh fun b27 => zw 1 rfl rfl rfl ?_
 refine zw 0 rfl rfl rfl ?_
 refine Qa rfl <| zN <| Q9 1 rfl rfl ?_
 refine Q9 0 rfl rfl ?_
 refine Qm rfl <| zp rfl (fun w hw => c_impl_ApplyFacts X20 X21 X24 (ok_ hw) (ok_ hw) (ok_ hw)) ?_
 intro u28 x28 A29 c29 h29 bl29 bh29 A30 c30 h30 bl30 bh30
 refine Qm rfl <| Qx rfl rfl <| Qx rfl rfl <| za zeh fun b31 => zw 0 rfl rfl rfl ?_
 refine Qa rfl <| zN <| Q9 2 rfl rfl ?_
 refine Q9 1 rfl rfl ?_
 refine Qm rfl <| zp rfl (fun w hw => c_spec_ApplyFacts X20 X21 X24 (ok_ hw) (ok_ hw) (ok_ hw)) ?_
 intro u32 x32 A33 c33 h33 bl33 bh33 A34 c34 h34 bl34 bh34
 refine Qm rfl <| Qx rfl rfl <| Qx rfl rfl <| za zeh fun b35 => zw 0 rfl rfl rfl ?_
 refine Qa rfl <| zJ <| zS <| Qm rfl <| Qm rfl <| Qd rfl rfl <| Qm rfl <| zg (Gd.f1 rfl rfl rfl) (fun hc => p_move rfl) <| zg (Gd.f1 rfl rfl rfl) (fun hc => p_move rfl) <| zgv (Gd.f1 rfl rfl rfl) (fun hc => (opds_2 (gh hc rfl) (gh hc rfl))) (fun hc => (fun w hw => c_spec_SameFacts ((M.factsR X4 X5 X8).1) ((M.factsR X4 X5 X8).1) (ok_ hw) (ok_ hw) (r0 := (by have hc9 := hc; (try simp only [Bool.not_eq_true', Bool.not_eq_false', decide_eq_true_eq] at hc9); omega)) (r1 := (by have hc9 := hc; (try simp only [Bool.not_eq_true', Bool.not_eq_false', decide_eq_true_eq] at hc9); omega)))) ?_
 refine zg (Gd.f1 rfl rfl rfl) (fun hc => p_not (gh hc rfl)) <| Qq (p_pickOr rfl rfl rfl) <| Qm rfl <| zg (Gd.f1 rfl rfl rfl) (fun hc => p_move rfl) <| zg (Gd.f1 rfl rfl rfl) (fun hc => p_move rfl) <| zg (Gd.f1 rfl rfl rfl) (fun hc => p_neq (gh hc rfl) (gh hc rfl)) <| Qq (p_pickOr rfl rfl rfl) <| Qm rfl <| zg (Gd.f1 rfl rfl rfl) (fun hc => p_move rfl) <| zg (Gd.f1 rfl rfl rfl) (fun hc => p_move rfl) <| zg (Gd.f1 rfl rfl rfl) (fun hc => p_neq (gh hc rfl) (gh hc rfl)) <| Qq (p_pickOr rfl rfl rfl) <| Qm rfl <| zg (Gd.f1 rfl rfl rfl) (fun hc => p_move rfl) ?_
 refine zg (Gd.f1 rfl rfl rfl) (fun hc => p_move rfl) <| zg (Gd.f1 rfl rfl rfl) (fun hc => p_neq (gh hc rfl) (gh hc rfl)) <| Qq (p_pickOr rfl rfl rfl) <| Qm rfl <| zg (Gd.f1 rfl rfl rfl) (fun hc => p_move rfl) <| zg (Gd.f1 rfl rfl rfl) (fun hc => p_move rfl) <| zgv (Gd.f1 rfl rfl rfl) (fun hc => (opds_2 (gh hc rfl) (gh hc rfl))) (fun hc => (fun w hw => c_laws_f6ints ((M.touR X4 X5 X8).1) ((M.touR X4 X5 X8).1) (ok_ hw) (ok_ hw) (r0 := (by have hc9 := hc; (try simp only [Bool.not_eq_true', Bool.or_eq_false_iff, Bool.not_eq_false', decide_eq_true_eq] at hc9); omega)) (r1 := (by have hc9 := hc; (try simp only [Bool.not_eq_true', Bool.or_eq_false_iff, Bool.not_eq_false', decide_eq_true_eq] at hc9); omega)))) ?_
 refine zg (Gd.f1 rfl rfl rfl) (fun hc => p_not (gh hc rfl)) <| Qq (p_pickOr rfl rfl rfl) <| Qm rfl <| zg (Gd.f1 rfl rfl rfl) (fun hc => p_move rfl) <| zg (Gd.f1 rfl rfl rfl) (fun hc => p_move rfl) <| zg (Gd.f1 rfl rfl rfl) (fun hc => p_neq (gh hc rfl) (gh hc rfl)) <| Qq (p_pickOr rfl rfl rfl) <| Qm rfl <| zgq (Gd.f1 rfl rfl rfl) (fun hc => L9 1 rfl rfl) <| zgq (Gd.f1 rfl rfl rfl) (fun hc => L9 0 rfl rfl) <| zgv (Gd.f1 rfl rfl rfl) (fun hc => (opds_2 (gh hc rfl) (gh hc rfl))) (fun hc => (fun w hw => c_spec_SamePosition ((M.apR X20 X21 X24).1) ((M.apR X20 X21 X24).1) (ok_ hw) (ok_ hw) (r0 := (by have hc9 := hc; (try simp only [Bool.not_eq_true', Bool.or_eq_false_iff, Bool.not_eq_false', decide_eq_true_eq] at hc9); omega)) (r1 := (by have hc9 := hc; (try simp only [Bool.not_eq_true', Bool.or_eq_false_iff, Bool.not_eq_false', decide_eq_true_eq] at hc9); omega)) (r2 := (by have hc9 := hc; (try simp only [Bool.not_eq_true', Bool.or_eq_false_iff, Bool.not_eq_false', decide_eq_true_eq] at hc9); omega)) (r3 := (by have hc9 := hc; (try simp only [Bool.not_eq_true', Bool.or_eq_false_iff, Bool.not_eq_false', decide_eq_true_eq] at hc9); omega)))) ?_
 refine zg (Gd.f1 rfl rfl rfl) (fun hc => p_not (gh hc rfl)) <| Qq (p_pickOr rfl rfl rfl) <| JL.nil ?_
 refine zi (fun h36 h36' => ?_) fun h36 h36' => ?_
 · exact absurd h36 (by simp [M.sameP_true])
 refine Js.skip <| Js.seq <| zS <| Qm rfl <| Qd rfl rfl <| JL.nil ?_
 refine zi (fun h37 h37' => ?_) fun h37 h37' => ?_
 ·
  refine zS <| Qa rfl <| JL.nil ?_
  refine zR (((((((x3.trans x11).trans x13).trans x15).trans x17).trans x19).trans x28).trans x32) ?_
  first | rfl | (simp [outV, e1_, e2_, hm0, M.sameP_true]; done)
 have hb0 : (M.factsR X4 X5 X8).2 = 0 := by simpa using h37
 have hm0 := M.factsR_0 hb0
 have hFR := M.factsR_y hm0
 obtain ⟨hx1, hx2, hx3⟩ := M.facts_run hm0
 have hmv := M.movR_y hm0
 have hok9 := (M.make_ok hm0).2.2.2.1
 obtain ⟨k1_, k2_, k3_, k4_, _⟩ := M.okP_bd hok9
 refine Js.skip <| zS <| Qa rfl <| zJ <| zS <| Qa rfl <| JL.nil <| Js.block ?_
 refine zl [3, 4, 5, 6, 10] (fun F U l os u m => ∃ (k : Nat) (sm : Int), l = F [(25, .int .i64 sm), (26, .int .i64 (k : Int))] ∧ os = U [] ∧ (sm = M.sowN ((M.factsR X4 X5 X8).1.take k)) ∧ (k ≤ (M.factsR X4 X5 X8).1.length) ∧ (0 ≤ sm) ∧ (sm ≤ 96 * k) ∧ m = (M.factsR X4 X5 X8).1.length - k) ⟨0, 0, rfl, rfl, by rfl, zt, zt, zt, rfl⟩ ?_
 rintro _ _ u38 _ ⟨k, sm, rfl, rfl, hS, hk, hs0, hs1, rfl⟩ x38
 refine zn ?_
 refine Js.seq <| zS <| Qm rfl <| Qm rfl <| Qz rfl <| Ql rfl rfl <| JL.nil ?_
 refine zi (fun h39 h39' => ?_) fun h39 h39' => ?_
 ·
  obtain ⟨ye40, hye40⟩ : ∃ x, ((M.factsR X4 X5 X8).1)[k]? = some x := ⟨_, List.getElem?_eq_getElem (by omega)⟩
  have hcb := M.canW_b (M.facts_can hm0 _ (by have h9 := hye40; rw [hFR] at h9; exact List.mem_of_getElem? h9))
  have hS3 := M.sowN_step hye40
  have hy41 := hye40
  obtain ⟨b41, o41, he41, hr41⟩ := elem_Fact (Ty.mono _ h12 ((((((x13.vis.trans x15.vis).trans x17.vis).trans x19.vis).trans x28.vis).trans x32.vis).trans x38.vis)) hy41
  refine Js.skip <| Js.seq <| Js.block <| zS <| Qm rfl <| Qm rfl <| Qq (p_indexAddr el_31 rfl rfl (by omega) (by omega) he41) <| Qf fh rfl <| QC (hr41 0 _ rfl) rfl <| Qe rfl rfl <| JL.nil ?_
  refine zi (fun h42 h42' => ?_) fun h42 h42' => ?_
  ·
   rw [if_pos (by simpa using h42), ← hS] at hS3
   have hS2 := hS3.symm
   have hy43 := hye40
   obtain ⟨b43, o43, he43, hr43⟩ := elem_Fact (Ty.mono _ h12 ((((((x13.vis.trans x15.vis).trans x17.vis).trans x19.vis).trans x28.vis).trans x32.vis).trans x38.vis)) hy43
   refine Js.region <| Qm rfl <| Qm rfl <| Qm rfl <| Qq (p_indexAddr el_31 rfl rfl (by omega) (by omega) he43) <| Qf fh rfl <| QC (hr43 2 _ rfl) rfl <| Qp rfl rfl <| Qa rfl <| JL.nil <| Js.blockEnd <| Js.region <| Qm rfl <| Qp rfl rfl ?_
   refine Qa rfl <| JL.nil ?_
   exact zag ⟨k + 1, sm + ye40.count, rfl, rfl, by exact hS2, zt, zt, zt, rfl⟩ x38
  rw [if_neg (by simpa using h42), ← hS, Int.add_zero] at hS3
  have hS2 := hS3.symm
  refine Js.skip <| Js.blockEnd <| Js.region <| Qm rfl <| Qp rfl rfl <| Qa rfl <| JL.nil ?_
  exact zag ⟨k + 1, sm, rfl, rfl, by exact hS2, zt, zt, zt, rfl⟩ x38
 have hSx : sm = M.sowN (M.factsR X4 X5 X8).1 := by rw [hS, List.take_of_length_le (by have := h39'; omega)]
 have e1_ : sm = (M.movR X4 X5 X8).1 := by rw [hSx, hFR, hx2, hmv]
 have e2_ : M.apR X4 X5 (M.factsR X4 X5 X8).1 = ((M.make X4 X5 X8).1.next, 0) := by rw [hFR]; exact hx1
 have e3_ := M.apR_len X4 X5 (M.factsR X4 X5 X8).1
 refine zx ?_
 refine zS <| Q9 5 rfl rfl ?_
 refine Q9 4 rfl rfl ?_
 refine Qm rfl <| zp rfl (fun w hw => c_impl_ApplyFacts X4 X5 ((M.factsR X4 X5 X8).1) (ok_ hw) (ok_ hw) (ok_ hw)) ?_
 intro u44 x44 A45 c45 h45 bl45 bh45 A46 c46 h46 bl46 bh46
 refine Qm rfl <| Qx rfl rfl <| Qx rfl rfl <| za zeh fun b47 => zw 0 rfl rfl rfl ?_
 refine Qa rfl <| zN <| Q9 6 rfl rfl ?_
 refine Q9 5 rfl rfl ?_
 refine Qm rfl <| zp rfl (fun w hw => c_impl_MakeMove X4 X5 X8 (ok_ hw) (ok_ hw)) ?_
 intro u48 x48 A49 c49 h49 bl49 bh49 A50 c50 h50 bl50 bh50
 refine Qm rfl <| Qx rfl rfl <| Qx rfl rfl <| Qx rfl rfl <| za zeh fun b51 => zw 0 rfl rfl rfl ?_
 refine Qa rfl <| Qa rfl <| zN <| Qm rfl <| Qm rfl <| Qe rfl rfl <| Qm rfl <| zg (Gd.t1 rfl rfl rfl) (fun hc => p_move rfl) <| zg (Gd.t1 rfl rfl rfl) (fun hc => p_eql (gh hc rfl) rfl) <| Qq (p_pickAnd rfl rfl rfl) <| Qm rfl <| zg (Gd.t1 rfl rfl rfl) (fun hc => p_move rfl) <| zg (Gd.t1 rfl rfl rfl) (fun hc => p_eql (gh hc rfl) rfl) <| Qq (p_pickAnd rfl rfl rfl) ?_
 refine Qm rfl <| zgq (Gd.t1 rfl rfl rfl) (fun hc => L9 1 rfl rfl) <| zgq (Gd.t1 rfl rfl rfl) (fun hc => L9 0 rfl rfl) <| zgv (Gd.t1 rfl rfl rfl) (fun hc => (opds_2 (gh hc rfl) (gh hc rfl))) (fun hc => (fun w hw => c_spec_SamePosition ((M.apR X4 X5 ((M.factsR X4 X5 X8).1)).1) ((M.make X4 X5 X8).1.next) (ok_ hw) (ok_ hw) (r0 := (by have hc9 := hc; (try simp only [Bool.and_eq_true, decide_eq_true_eq] at hc9); omega)) (r1 := (by have hc9 := hc; (try simp only [Bool.and_eq_true, decide_eq_true_eq] at hc9); omega)) (r2 := (by have hc9 := hc; (try simp only [Bool.and_eq_true, decide_eq_true_eq] at hc9); omega)) (r3 := (by have hc9 := hc; (try simp only [Bool.and_eq_true, decide_eq_true_eq] at hc9); omega)))) ?_
 refine Qq (p_pickAnd rfl rfl rfl) <| Qa rfl <| JL.nil ?_
 refine zR ((((((((((x3.trans x11).trans x13).trans x15).trans x17).trans x19).trans x28).trans x32).trans x38).trans x44).trans x48) ?_
 first | rfl | (simp [outV, e1_, e2_, hm0, M.sameP_true]; done)
end Go.Proofs.Ytjgohnaobbphpaa

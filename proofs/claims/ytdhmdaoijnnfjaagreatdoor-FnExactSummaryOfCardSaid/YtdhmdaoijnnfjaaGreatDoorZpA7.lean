/- Walks: K16. -/
import Derived.Test.YtdhmdaoijnnfjaaGreatDoorZpA3
import Derived.Test.YtdhmdaoijnnfjaaGreatDoorZpA6
import Derived.Test.YtdhmdaoijnnfjaaGreatDoorZpA2
import Derived.Test.YtdhmdaoijnnfjaaGreatDoorZpA4
import Derived.Test.YtdhmdaoijnnfjaaGreatDoorZpA5
set_option linter.unusedSimpArgs false
set_option linter.unusedVariables false
set_option maxRecDepth 100000
attribute [local irreducible] Go.Proofs.YtdhmdaoijnnfjaaGreatDoor.gv
namespace Go.Proofs.YtdhmdaoijnnfjaaGreatDoor
open Go.RowKit

set_option maxHeartbeats 2000000 in
theorem c_spec_SummaryOf (g : M.Gam) {v_g : Value} {w : World} (h_g : (Ty.agg (cGame g)).ok w v_g) (r0 : g.start.pits.length ≤ 4194304 := by exact om_) (r1 : g.start.stores.length ≤ 4194304 := by exact om_) (r2 : g.moves.length ≤ 4194304 := by exact om_) (r3 : g.now.pits.length ≤ 4194304 := by exact om_) (r4 : g.now.stores.length ≤ 4194304 := by exact om_) : RetV Tryz.prog 18 [v_g] w (.tuple #[.string (sB ((M.summaryR g).1)), .int .i64 ((M.summaryR g).2)]) := by
 revert v_g; apply opn
 intro A1 c1 h1 bl1 bh1 A2 c2 h2 bl2 bh2 A3 c3 h3 bl3 bh3 A4 c4 h4 bl4 bh4 A5 c5 h5 bl5 bh5
 refine enter @Tryz.func18 @Tryz.ntmps18 rfl rfl ?_
 refine zent ?_
 refine zS <| zb rfl fun b6 => Qa rfl <| Qa rfl <| zJ <| zS <| zv rfl (fun w hw => c_spec_l08Ok g (ok_ hw)) <| Qt rfl <| JL.nil ?_
 refine zi (fun h7 h7' => ?_) fun h7 h7' => ?_
 ·
  have hno : M.okG g = false := by simpa using h7
  have hE := M.summaryR_no hno
  refine zS <| Qa rfl <| Qa rfl <| JL.nil ?_
  refine zR (Up.refl _ _) ?_
  first | (rw [hE]; rfl) | (rw [hE, M.summary, hF, hN9]; rfl)
 have hok : M.okG g = true := by simpa using h7
 obtain ⟨k1, k2, k3, k4, k5, k6, k7, k8, k9⟩ := M.okG_parts hok
 have hnow := M.okG_now hok
 have k10 := M.okP_len hnow
 obtain ⟨g1, g2, g3, g4, g5, g6, g7⟩ := M.okP_bd hnow
 have hfs := M.final_stores g
 have v0 := M.allOk_nth g6 0
 have v1 := M.allOk_nth g6 1
 have v2 : -10000 ≤ M.nth (M.final g).stores 0 ∧ M.nth (M.final g).stores 0 ≤ 10000 := M.final_bd hok 0
 have v3 : -10000 ≤ M.nth (M.final g).stores 1 ∧ M.nth (M.final g).stores 1 ≤ 10000 := M.final_bd hok 1
 have he9 := M.endOf_bd g
 have hl6 : M.endNames.length = 6 := rfl
 refine Js.skip <| zS <| zv rfl (fun w hw => c_spec_l09End g (ok_ hw) (r5 := hok)) <| Qa rfl <| zN <| Qf fh rfl <| Q9 0 rfl rfl ?_
 refine za zeh fun b8 => zw 0 rfl rfl rfl ?_
 refine zJ <| zS <| Qm rfl <| Qd rfl rfl <| JL.nil ?_
 refine zi (fun h9 h9' => ?_) fun h9 h9' => ?_
 ·
  have hE : M.summaryR g = (M.summary g, 0) := M.summaryR_yes hok
  have hF := M.fin_final (g := g) (by simpa using h9)
  refine Js.region <| zp rfl (fun w hw => c_spec_l09Final g (ok_ hw) (r0 := hnow)) ?_
  intro u10 x10 A11 c11 h11 bl11 bh11 A12 c12 h12 bl12 bh12
  obtain ⟨y13, hy13⟩ : ∃ x, M.endNames[(M.endOf g).toNat]? = some x := ⟨_, List.getElem?_eq_getElem (by omega)⟩
  have hN9 := M.endName_yes (k := M.endOf g) (M.betw_iff.2 he9) hy13
  have lb9 : LenB y13 8 := ⟨M.endNames_len hy13⟩
  refine zw 0 rfl rfl rfl ?_
  refine zJ ?_
  refine zk [3] (fun F U l os u => l = F [(2, .string (sB (((((((M.dec (g.moves.length : Int)) ++ ([32, 109, 111, 118, 101, 115, 44, 32] : List UInt8)) ++ y13) ++ ([44, 32] : List UInt8)) ++ (M.dec (M.nth ((M.final g).stores) 0))) ++ ([58] : List UInt8)) ++ (M.dec (M.nth ((M.final g).stores) 1)))))] ∧ os = U []) ?_ ?_
  ·
   refine zdr [] ?_
   refine JH.p 0 rfl (p_fieldAddr fld_46_2.h rfl) ?_
   refine JH.q 1 rfl (q_load1 ty_24.h rfl (Mem.box (i := 1) rfl rfl)) ?_
   refine JH.p 2 rfl (p_len el_24 rfl) ?_
   refine JH.p 6 rfl (p_move rfl) ?_
   refine JH.p 11 rfl (p_fieldAddr fld_33_1.h rfl) ?_
   refine JH.q 12 rfl (q_load1 ty_24.h rfl (Mem.box (i := 0) rfl rfl)) ?_
   obtain ⟨b20, o20, he20, hc20⟩ := ints_elem h12 (i := 0) (by omega)
   refine JH.p 13 rfl (p_indexAddr el_24 rfl rfl (by omega) (by omega) he20) ?_
   refine JH.w 14 rfl (fun os' u' hv => q_load1 ty_2.h rfl (Mem.pub (hc20.vis hv))) ?_
   refine JH.p 18 rfl (p_fieldAddr fld_33_1.h rfl) ?_
   refine JH.q 19 rfl (q_load1 ty_24.h rfl (Mem.box (i := 0) rfl rfl)) ?_
   obtain ⟨b21, o21, he21, hc21⟩ := ints_elem h12 (i := 1) (by omega)
   refine JH.p 20 rfl (p_indexAddr el_24 rfl rfl (by omega) (by omega) he21) ?_
   refine JH.w 21 rfl (fun os' u' hv => q_load1 ty_2.h rfl (Mem.pub (hc21.vis hv))) ?_
   refine y1 3 ?_
   refine yv rfl rfl (fun w hw => c_spec_l01Dec (g.moves.length : Int)) ?_
   refine JH.p 4 rfl (q_cat rfl rfl) ?_
   refine y1 5 ?_
   refine yp rfl rfl (fun w hw => c_spec_l09Names) ?_
   intro u22 x22 A23 c23 h23 bl23 bh23
   have hy24 := hy13
   obtain ⟨b24, o24, he24, hc24⟩ := strs_elem h23 hy24
   refine JH.p 7 rfl (p_indexAddr el_87 rfl rfl (by omega) (by omega) he24) ?_
   refine y2 8 15 ?_ ?_
   ·
    refine JHo.q rfl (q_load1 ty_9.h rfl (Mem.pub hc24)) ?_
    refine JH.p 9 rfl (q_cat rfl rfl) ?_
    refine JH.p 10 rfl (q_cat rfl rfl) ?_
    refine y1 15 ?_
    refine yv rfl rfl (fun w hw => c_spec_l01Dec (M.nth ((M.final g).stores) 0)) ?_
    refine JH.p 16 rfl (q_cat rfl rfl) ?_
    refine JH.p 17 rfl (q_cat rfl rfl) ?_
    refine y1 22 ?_
    refine yv rfl rfl (fun w hw => c_spec_l01Dec (M.nth ((M.final g).stores) 1)) ?_
    refine JH.p 23 rfl (q_cat rfl rfl) ?_
    refine JH.p 24 rfl (p_assign rfl) ?_
    refine JH.p 25 rfl (p_assign rfl) ?_
    refine yd ?_
    exact zm ⟨rfl, rfl⟩ x22
   refine yv rfl rfl (fun w hw => c_spec_l01Dec (M.nth ((M.final g).stores) 0)) ?_
   refine y2 8 22 ?_ ?_
   ·
    refine JHo.q rfl (q_load1 ty_9.h rfl (Mem.pub hc24)) ?_
    refine JH.p 9 rfl (q_cat rfl rfl) ?_
    refine JH.p 10 rfl (q_cat rfl rfl) ?_
    refine JH.p 16 rfl (q_cat rfl rfl) ?_
    refine JH.p 17 rfl (q_cat rfl rfl) ?_
    refine y1 22 ?_
    refine yv rfl rfl (fun w hw => c_spec_l01Dec (M.nth ((M.final g).stores) 1)) ?_
    refine JH.p 23 rfl (q_cat rfl rfl) ?_
    refine JH.p 24 rfl (p_assign rfl) ?_
    refine JH.p 25 rfl (p_assign rfl) ?_
    refine yd ?_
    exact zm ⟨rfl, rfl⟩ x22
   refine yv rfl rfl (fun w hw => c_spec_l01Dec (M.nth ((M.final g).stores) 1)) ?_
   refine y1 8 ?_
   refine JHo.q rfl (q_load1 ty_9.h rfl (Mem.pub hc24)) ?_
   refine JH.p 9 rfl (q_cat rfl rfl) ?_
   refine JH.p 10 rfl (q_cat rfl rfl) ?_
   refine JH.p 16 rfl (q_cat rfl rfl) ?_
   refine JH.p 17 rfl (q_cat rfl rfl) ?_
   refine JH.p 23 rfl (q_cat rfl rfl) ?_
   refine JH.p 24 rfl (p_assign rfl) ?_
   refine JH.p 25 rfl (p_assign rfl) ?_
   refine yd ?_
   exact zm ⟨rfl, rfl⟩ x22
  rintro _ _ u19 ⟨rfl, rfl⟩ x19
  refine zn ?_
  refine zR (x10.trans x19) ?_
  first | (rw [hE]; rfl) | (rw [hE, M.summary, hF, hN9]; rfl)
 have hE : M.summaryR g = (M.summary g, 0) := M.summaryR_yes hok
 have hF := M.fin_now (g := g) (by simpa using h9)
 obtain ⟨y25, hy25⟩ : ∃ x, M.endNames[(M.endOf g).toNat]? = some x := ⟨_, List.getElem?_eq_getElem (by omega)⟩
 have hN9 := M.endName_yes (k := M.endOf g) (M.betw_iff.2 he9) hy25
 have lb9 : LenB y25 8 := ⟨M.endNames_len hy25⟩
 refine Js.skip <| Js.seq ?_
 refine zk [3] (fun F U l os u => l = F [(2, .string (sB (((((((M.dec (g.moves.length : Int)) ++ ([32, 109, 111, 118, 101, 115, 44, 32] : List UInt8)) ++ y25) ++ ([44, 32] : List UInt8)) ++ (M.dec (M.nth g.now.stores 0))) ++ ([58] : List UInt8)) ++ (M.dec (M.nth g.now.stores 1)))))] ∧ os = U []) ?_ ?_
 ·
  refine zdr [] ?_
  refine JH.p 0 rfl (p_fieldAddr fld_46_2.h rfl) ?_
  refine JH.q 1 rfl (q_load1 ty_24.h rfl (Mem.box (i := 1) rfl rfl)) ?_
  refine JH.p 2 rfl (p_len el_24 rfl) ?_
  refine JH.p 6 rfl (p_move rfl) ?_
  refine JH.p 11 rfl (p_fieldAddr fld_33_1.h rfl) ?_
  refine JH.q 12 rfl (q_load1 ty_24.h rfl (Mem.box (i := 0) rfl rfl)) ?_
  obtain ⟨b32, o32, he32, hc32⟩ := ints_elem h5 (i := 0) (by omega)
  refine JH.p 13 rfl (p_indexAddr el_24 rfl rfl (by omega) (by omega) he32) ?_
  refine JH.w 14 rfl (fun os' u' hv => q_load1 ty_2.h rfl (Mem.pub (hc32.vis hv))) ?_
  refine JH.p 18 rfl (p_fieldAddr fld_33_1.h rfl) ?_
  refine JH.q 19 rfl (q_load1 ty_24.h rfl (Mem.box (i := 0) rfl rfl)) ?_
  obtain ⟨b33, o33, he33, hc33⟩ := ints_elem h5 (i := 1) (by omega)
  refine JH.p 20 rfl (p_indexAddr el_24 rfl rfl (by omega) (by omega) he33) ?_
  refine JH.w 21 rfl (fun os' u' hv => q_load1 ty_2.h rfl (Mem.pub (hc33.vis hv))) ?_
  refine y1 3 ?_
  refine yv rfl rfl (fun w hw => c_spec_l01Dec (g.moves.length : Int)) ?_
  refine JH.p 4 rfl (q_cat rfl rfl) ?_
  refine y1 5 ?_
  refine yp rfl rfl (fun w hw => c_spec_l09Names) ?_
  intro u34 x34 A35 c35 h35 bl35 bh35
  have hy36 := hy25
  obtain ⟨b36, o36, he36, hc36⟩ := strs_elem h35 hy36
  refine JH.p 7 rfl (p_indexAddr el_87 rfl rfl (by omega) (by omega) he36) ?_
  refine y2 8 15 ?_ ?_
  ·
   refine JHo.q rfl (q_load1 ty_9.h rfl (Mem.pub hc36)) ?_
   refine JH.p 9 rfl (q_cat rfl rfl) ?_
   refine JH.p 10 rfl (q_cat rfl rfl) ?_
   refine y1 15 ?_
   refine yv rfl rfl (fun w hw => c_spec_l01Dec (M.nth g.now.stores 0)) ?_
   refine JH.p 16 rfl (q_cat rfl rfl) ?_
   refine JH.p 17 rfl (q_cat rfl rfl) ?_
   refine y1 22 ?_
   refine yv rfl rfl (fun w hw => c_spec_l01Dec (M.nth g.now.stores 1)) ?_
   refine JH.p 23 rfl (q_cat rfl rfl) ?_
   refine JH.p 24 rfl (p_assign rfl) ?_
   refine JH.p 25 rfl (p_assign rfl) ?_
   refine yd ?_
   exact zm ⟨rfl, rfl⟩ x34
  refine yv rfl rfl (fun w hw => c_spec_l01Dec (M.nth g.now.stores 0)) ?_
  refine y2 8 22 ?_ ?_
  ·
   refine JHo.q rfl (q_load1 ty_9.h rfl (Mem.pub hc36)) ?_
   refine JH.p 9 rfl (q_cat rfl rfl) ?_
   refine JH.p 10 rfl (q_cat rfl rfl) ?_
   refine JH.p 16 rfl (q_cat rfl rfl) ?_
   refine JH.p 17 rfl (q_cat rfl rfl) ?_
   refine y1 22 ?_
   refine yv rfl rfl (fun w hw => c_spec_l01Dec (M.nth g.now.stores 1)) ?_
   refine JH.p 23 rfl (q_cat rfl rfl) ?_
   refine JH.p 24 rfl (p_assign rfl) ?_
   refine JH.p 25 rfl (p_assign rfl) ?_
   refine yd ?_
   exact zm ⟨rfl, rfl⟩ x34
  refine yv rfl rfl (fun w hw => c_spec_l01Dec (M.nth g.now.stores 1)) ?_
  refine y1 8 ?_
  refine JHo.q rfl (q_load1 ty_9.h rfl (Mem.pub hc36)) ?_
  refine JH.p 9 rfl (q_cat rfl rfl) ?_
  refine JH.p 10 rfl (q_cat rfl rfl) ?_
  refine JH.p 16 rfl (q_cat rfl rfl) ?_
  refine JH.p 17 rfl (q_cat rfl rfl) ?_
  refine JH.p 23 rfl (q_cat rfl rfl) ?_
  refine JH.p 24 rfl (p_assign rfl) ?_
  refine JH.p 25 rfl (p_assign rfl) ?_
  refine yd ?_
  exact zm ⟨rfl, rfl⟩ x34
 rintro _ _ u31 ⟨rfl, rfl⟩ x31
 refine zn ?_
 refine zR x31 ?_
 first | (rw [hE]; rfl) | (rw [hE, M.summary, hF, hN9]; rfl)

end Go.Proofs.YtdhmdaoijnnfjaaGreatDoor

namespace Go.Proofs.YtdhmdaoijnnfjaaGreatDoor
open Go.RowKit

set_option maxHeartbeats 1000000 in
theorem c_laws_szInt64S (a : List Int) {v_a : Value} (left : Int) {w : World} (h_a : (Ty.ints 2 a).ok w v_a) (r0 : -1 ≤ left := by exact om_) (r1 : left ≤ 1048576 := by exact om_) : RetV Tryz.prog 49 [v_a, .int .i64 left] w (.int .i64 (M.szL a.length left)) := by
 have q1 := M.szL_cases a.length left
 revert v_a; apply opn
 intro A1 c1 h1 bl1 bh1
 have h_a := h1
 refine enter @Tryz.func49 @Tryz.ntmps49 rfl rfl ?_
 refine zent ?_
 refine zS <| Qa rfl <| zN <| Qm rfl <| Qm rfl <| Qz rfl <| Qs rfl rfl <| Qa rfl <| zJ <| zS <| Qm rfl <| Ql rfl rfl <| JL.nil ?_
 refine zi (fun h2 h2' => ?_) fun h2 h2' => ?_
 ·
  refine zS <| Qa rfl <| JL.nil ?_
  refine zR (Up.refl _ _) ?_
  refine congrArg (fun n => Ending.returned (Value.int .i64 n)) ?_; omega
 refine Js.skip <| zS <| Qm rfl <| Qa rfl <| JL.nil ?_
 refine zR (Up.refl _ _) ?_
 refine congrArg (fun n => Ending.returned (Value.int .i64 n)) ?_; omega

set_option maxHeartbeats 1000000 in
theorem c_laws_szPosition (a : M.Pos) {v_a : Value} (left : Int) {w : World} (h_a : (Ty.agg (cPosition a)).ok w v_a) (r0 : -1 ≤ left := by exact om_) (r1 : left ≤ 1048576 := by exact om_) : RetV Tryz.prog 35 [v_a, .int .i64 left] w (.int .i64 (M.szP a left)) := by
 have q1 := M.szL_cases a.pits.length left
 have q2 := M.szL_cases a.stores.length (M.szL a.pits.length left)
 have q3 := M.szL_cases (a.pits.length + a.stores.length) left
 revert v_a; apply opn
 intro A1 c1 h1 bl1 bh1 A2 c2 h2 bl2 bh2
 refine enter @Tryz.func35 @Tryz.ntmps35 rfl rfl ?_
 refine zent ?_
 refine zS <| zb rfl fun b3 => Qa rfl <| zN <| Qf fh rfl <| Q0 0 rfl rfl rfl <| Qm rfl <| zv rfl (fun w hw => c_laws_szInt64S a.pits left (ok_ hw)) <| Qa rfl <| zJ <| zS <| Qm rfl <| Ql rfl rfl <| JL.nil ?_
 refine zi (fun h4 h4' => ?_) fun h4 h4' => ?_
 ·
  refine zS <| Qa rfl <| JL.nil ?_
  refine zR (Up.refl _ _) ?_
  refine congrArg (fun n => Ending.returned (Value.int .i64 n)) ?_; unfold M.szP; omega
 refine Js.skip <| zS <| Qf fh rfl <| Q0 0 rfl rfl rfl <| Qm rfl <| zv rfl (fun w hw => c_laws_szInt64S a.stores (M.szL a.pits.length left) (ok_ hw)) <| Qa rfl <| zJ <| zS <| Qm rfl <| Ql rfl rfl <| JL.nil ?_
 refine zi (fun h5 h5' => ?_) fun h5 h5' => ?_
 ·
  refine zS <| Qa rfl <| JL.nil ?_
  refine zR (Up.refl _ _) ?_
  refine congrArg (fun n => Ending.returned (Value.int .i64 n)) ?_; unfold M.szP; omega
 refine Js.skip <| zS <| Qm rfl <| Qa rfl <| JL.nil ?_
 refine zR (Up.refl _ _) ?_
 refine congrArg (fun n => Ending.returned (Value.int .i64 n)) ?_; unfold M.szP; omega

set_option maxHeartbeats 1000000 in
theorem c_laws_szGame (a : M.Gam) {v_a : Value} (left : Int) {w : World} (h_a : (Ty.agg (cGame a)).ok w v_a) (r0 : -1 ≤ left := by exact om_) (r1 : left ≤ 1048576 := by exact om_) : RetV Tryz.prog 17 [v_a, .int .i64 left] w (.int .i64 (M.szG a left)) := by
 have q1 := M.szL_cases (a.start.pits.length + a.start.stores.length) left
 have q2 := M.szL_cases a.moves.length (M.szP a.start left)
 have q3 := M.szL_cases (a.now.pits.length + a.now.stores.length) (M.szL a.moves.length (M.szP a.start left))
 have q4 := M.szL_cases (a.start.pits.length + a.start.stores.length + a.moves.length + a.now.pits.length + a.now.stores.length) left
 change (left < _ ∧ M.szP a.start left = -1) ∨ (_ ≤ left ∧ M.szP a.start left = left - _) at q1
 change (_ < _ ∧ M.szP a.now _ = -1) ∨ (_ ≤ _ ∧ M.szP a.now _ = _) at q3
 revert v_a; apply opn
 intro A1 c1 h1 bl1 bh1 A2 c2 h2 bl2 bh2 A3 c3 h3 bl3 bh3 A4 c4 h4 bl4 bh4 A5 c5 h5 bl5 bh5
 refine enter @Tryz.func17 @Tryz.ntmps17 rfl rfl ?_
 refine zent ?_
 refine zS <| zb rfl fun b6 => Qa rfl <| zN <| Qf fh rfl <| Q9 0 rfl rfl ?_
 refine Qm rfl <| zv rfl (fun w hw => c_laws_szPosition a.start left (ok_ hw)) <| Qa rfl <| zJ <| zS <| Qm rfl <| Ql rfl rfl <| JL.nil ?_
 refine zi (fun h7 h7' => ?_) fun h7 h7' => ?_
 ·
  refine zS <| Qa rfl <| JL.nil ?_
  refine zR (Up.refl _ _) ?_
  refine congrArg (fun n => Ending.returned (Value.int .i64 n)) ?_; unfold M.szG; omega
 refine Js.skip <| zS <| Qf fh rfl <| Q0 0 rfl rfl rfl <| Qm rfl <| zv rfl (fun w hw => c_laws_szInt64S a.moves (M.szP a.start left) (ok_ hw)) <| Qa rfl <| zJ <| zS <| Qm rfl <| Ql rfl rfl <| JL.nil ?_
 refine zi (fun h8 h8' => ?_) fun h8 h8' => ?_
 ·
  refine zS <| Qa rfl <| JL.nil ?_
  refine zR (Up.refl _ _) ?_
  refine congrArg (fun n => Ending.returned (Value.int .i64 n)) ?_; unfold M.szG; omega
 refine Js.skip <| zS <| Qf fh rfl <| Q9 0 rfl rfl ?_
 refine Qm rfl <| zv rfl (fun w hw => c_laws_szPosition a.now (M.szL a.moves.length (M.szP a.start left)) (ok_ hw)) <| Qa rfl <| zJ <| zS <| Qm rfl <| Ql rfl rfl <| JL.nil ?_
 refine zi (fun h9 h9' => ?_) fun h9 h9' => ?_
 ·
  refine zS <| Qa rfl <| JL.nil ?_
  refine zR (Up.refl _ _) ?_
  refine congrArg (fun n => Ending.returned (Value.int .i64 n)) ?_; unfold M.szG; omega
 refine Js.skip <| zS <| Qm rfl <| Qa rfl <| JL.nil ?_
 refine zR (Up.refl _ _) ?_
 refine congrArg (fun n => Ending.returned (Value.int .i64 n)) ?_; unfold M.szG; omega

set_option maxHeartbeats 1000000 in
theorem c_laws_toInt64S (a : List Int) {v_a : Value} {w : World} (h_a : (Ty.ints 2 a).ok w v_a) (r0 : a.length ≤ 4194304 := by exact om_) : Ret Tryz.prog 54 [v_a] w (Ty.ints 2 a) := by
 revert v_a; apply opn
 intro A1 c1 h1 bl1 bh1
 have h_a := h1
 refine enter @Tryz.func54 @Tryz.ntmps54 rfl rfl ?_
 refine zent ?_
 refine zS <| Qa rfl <| zN <| Qm rfl <| Qz rfl <| zmk (a0 := (a.length : Int)) (m := a.length) (by omega) (by omega) fun b2 => Qa rfl <| zJ <| zS <| Qa rfl <| JL.nil <| Js.block ?_
 refine zl [0, 3] (fun F U l os u m => ∃ (k : Nat) (xs : List Int), l = F [(4, .int .i64 (k : Int))] ∧ os = U [some (rowO 2 1 (.slice (some ⟨b2, 0, none⟩) a.length a.length) a.length (ints_ xs) [])] ∧ (xs = M.cp a k) ∧ (k ≤ a.length) ∧ (xs.length = a.length) ∧ m = a.length - k) ⟨0, List.replicate a.length 0, rfl, rfl, by exact M.cp_zero a, zt, by simp, rfl⟩ ?_
 rintro _ _ u3 _ ⟨k, xs, rfl, rfl, hX, hk, hl, rfl⟩ x3
 refine zn ?_
 refine Js.seq <| zS <| Qm rfl <| Qm rfl <| Qz rfl <| Ql rfl rfl <| JL.nil ?_
 refine zi (fun h4 h4' => ?_) fun h4 h4' => ?_
 ·
  obtain ⟨b5, o5, he5, hc5⟩ := ints_elem (Ty.mono _ h1 x3.vis) (i := k) (by omega)
  refine Js.skip <| Js.seq <| Js.block <| Js.region <| Qm rfl <| Qm rfl <| Qm rfl <| Qm rfl <| Qq (p_indexAddr el_24 rfl rfl (by omega) (by omega) he5) <| QC hc5 rfl <| Qq (p_indexAddr el_24 rfl rfl (by omega) (by omega) rfl) ?_
  refine JL.s (e_storeRow (i := 0) (xs' := ints_ (xs.set k (M.nth a k))) ty_2.h rfl rfl rfl rfl rfl rfl (ints_lt (i := k) (by omega)) (ints_setL (i := k) (by omega))) ?_
  rintro _ _ _ ⟨rfl, rfl⟩ _
  refine znl ?_
  refine JL.nil <| Js.blockEnd <| Js.region <| Qm rfl <| Qp rfl rfl <| Qa rfl <| JL.nil ?_
  exact zag ⟨k + 1, xs.set k (M.nth a k), rfl, rfl, by rw [hX]; exact M.cp_step (by omega), zt, by rw [List.length_set]; exact hl, rfl⟩ x3
 have hE : xs = a := by rw [hX]; exact M.cp_all a (by have := h4'; omega)
 refine zx ?_
 have hq0 : xs = a := by exact hE
 refine zS <| Qm rfl <| Qa rfl <| JL.nil ?_
 exact zro x3

set_option maxHeartbeats 1000000 in
theorem c_laws_toPosition (a : M.Pos) {v_a : Value} {w : World} (h_a : (Ty.agg (cPosition a)).ok w v_a) (r0 : a.pits.length ≤ 4194304 := by exact om_) (r1 : a.stores.length ≤ 4194304 := by exact om_) : Ret Tryz.prog 40 [v_a] w (Ty.agg (cPosition a)) := by
 revert v_a; apply opn
 intro A1 c1 h1 bl1 bh1 A2 c2 h2 bl2 bh2
 refine enter @Tryz.func40 @Tryz.ntmps40 rfl rfl ?_
 refine zent ?_
 refine zS <| zb rfl fun b3 => za zeh fun b4 => zN <| za zeh fun b5 => zN <| Qf fh rfl <| Q0 2 rfl rfl rfl <| zcs rfl (fun w hw => c_laws_toInt64S a.pits (ok_ hw)) ?_
 intro A6 c6 bl6 bh6
 refine Qf fh rfl <| zw 1 rfl rfl rfl ?_
 refine zN <| Qf fh rfl <| Q0 3 rfl rfl rfl <| zcs rfl (fun w hw => c_laws_toInt64S a.stores (ok_ hw)) ?_
 intro A7 c7 bl7 bh7
 refine Qf fh rfl <| zw 2 rfl rfl rfl ?_
 refine zN <| Qf fh rfl <| Q0 4 rfl rfl rfl <| Qf fh rfl <| zw 2 rfl rfl rfl ?_
 refine zN <| Q9 2 rfl rfl ?_
 refine zw 3 rfl rfl rfl ?_
 refine JL.nil ?_
 exact zro (Up.refl _ _)

set_option maxHeartbeats 8000000 in
theorem c_laws_toRules (a : M.Rul) {v_a : Value} {w : World} (h_a : (Ty.agg (cRules a)).ok w v_a) : Ret Tryz.prog 25 [v_a] w (Ty.agg (cRules a)) := by
 revert v_a; apply opn
 refine enter @Tryz.func25 @Tryz.ntmps25 rfl rfl ?_
 refine zent ?_
 refine zS <| zb rfl fun b1 => za zeh fun b2 => zN <| za zeh fun b3 => zN <| Qf fh rfl <| Q0 2 rfl rfl rfl <| Qf fh rfl <| zw 0 rfl rfl rfl ?_
 refine zN <| Qf fh rfl <| Q0 2 rfl rfl rfl <| Qf fh rfl <| zw 0 rfl rfl rfl ?_
 refine zN <| Qf fh rfl <| Q0 2 rfl rfl rfl <| Qf fh rfl <| zw 0 rfl rfl rfl ?_
 refine zN <| Qf fh rfl <| Q0 2 rfl rfl rfl <| Qf fh rfl <| zw 0 rfl rfl rfl ?_
 refine zN <| Qf fh rfl <| Q0 2 rfl rfl rfl <| Qf fh rfl <| zw 0 rfl rfl rfl ?_
 refine zN <| Qf fh rfl <| Q0 2 rfl rfl rfl <| Qf fh rfl <| zw 0 rfl rfl rfl ?_
 refine zN <| Qf fh rfl <| Q0 2 rfl rfl rfl <| Qf fh rfl <| zw 0 rfl rfl rfl ?_
 refine zN <| Qf fh rfl <| Q0 2 rfl rfl rfl <| Qf fh rfl <| zw 0 rfl rfl rfl ?_
 refine zN <| Qf fh rfl <| Q0 2 rfl rfl rfl <| Qf fh rfl <| zw 0 rfl rfl rfl ?_
 refine zN <| Q9 0 rfl rfl ?_
 refine zw 1 rfl rfl rfl ?_
 refine JL.nil ?_
 exact zro (Up.refl _ _)

set_option maxHeartbeats 1000000 in
theorem c_laws_toGame (a : M.Gam) {v_a : Value} {w : World} (h_a : (Ty.agg (cGame a)).ok w v_a) (r0 : a.start.pits.length ≤ 4194304 := by exact om_) (r1 : a.start.stores.length ≤ 4194304 := by exact om_) (r2 : a.moves.length ≤ 4194304 := by exact om_) (r3 : a.now.pits.length ≤ 4194304 := by exact om_) (r4 : a.now.stores.length ≤ 4194304 := by exact om_) : Ret Tryz.prog 19 [v_a] w (Ty.agg (cGame a)) := by
 revert v_a; apply opn
 intro A1 c1 h1 bl1 bh1 A2 c2 h2 bl2 bh2 A3 c3 h3 bl3 bh3 A4 c4 h4 bl4 bh4 A5 c5 h5 bl5 bh5
 refine enter @Tryz.func19 @Tryz.ntmps19 rfl rfl ?_
 refine zent ?_
 refine zS <| zb rfl fun b6 => za zeh fun b7 => zN <| za zeh fun b8 => zN <| Qf fh rfl <| Q9 2 rfl rfl ?_
 refine zc rfl (fun w hw => c_laws_toRules a.rules (ok_ hw)) <| Qf fh rfl <| zw 0 rfl rfl rfl ?_
 refine zN <| Qf fh rfl <| Q9 2 rfl rfl ?_
 refine zc rfl (fun w hw => c_laws_toPosition a.start (ok_ hw)) ?_
 intro A11 c11 bl11 bh11 A12 c12 bl12 bh12
 refine Qf fh rfl <| zw 2 rfl rfl rfl ?_
 refine zN <| Qf fh rfl <| Q0 4 rfl rfl rfl <| zcs rfl (fun w hw => c_laws_toInt64S a.moves (ok_ hw)) ?_
 intro A13 c13 bl13 bh13
 refine Qf fh rfl <| zw 3 rfl rfl rfl ?_
 refine zN <| Qf fh rfl <| Q9 5 rfl rfl ?_
 refine zc rfl (fun w hw => c_laws_toPosition a.now (ok_ hw)) ?_
 intro A15 c15 bl15 bh15 A16 c16 bl16 bh16
 refine Qf fh rfl <| zw 5 rfl rfl rfl ?_
 refine zN <| Qf fh rfl <| Q0 7 rfl rfl rfl <| Qf fh rfl <| zw 5 rfl rfl rfl ?_
 refine zN <| Q9 5 rfl rfl ?_
 refine zw 6 rfl rfl rfl ?_
 refine JL.nil ?_
 exact zro (Up.refl _ _)

set_option maxHeartbeats 1000000 in
theorem c_laws_eqInt64S (a : List Int) {v_a : Value} (b : List Int) {v_b : Value} {w : World} (h_a : (Ty.ints 2 a).ok w v_a) (h_b : (Ty.ints 2 b).ok w v_b) (r0 : a.length ≤ 4194304 := by exact om_) (r1 : b.length ≤ 4194304 := by exact om_) : RetV Tryz.prog 59 [v_a, v_b] w (.bool (decide (a = b))) := by
 revert v_a; apply opn
 intro A1 c1 h1 bl1 bh1
 have h_a := h1
 revert v_b; apply opn
 intro A2 c2 h2 bl2 bh2
 have h_b := h2
 refine enter @Tryz.func59 @Tryz.ntmps59 rfl rfl ?_
 refine zent ?_
 refine zS <| Qa rfl <| zJ <| zS <| Qm rfl <| Qz rfl <| Qm rfl <| Qz rfl <| Qd rfl rfl <| JL.nil ?_
 refine zi (fun h3 h3' => ?_) fun h3 h3' => ?_
 ·
  have e1 : decide (a = b) = false := by simp; rintro rfl; simp at h3
  refine zS <| Qa rfl <| JL.nil ?_
  refine zR (Up.refl _ _) ?_
  simp [outV, e1]
 have hlen : a.length = b.length := by have := h3'; omega
 refine Js.skip <| Js.seq <| zS <| Qa rfl <| JL.nil <| Js.block ?_
 refine zl [0, 1] (fun F U l os u m => ∃ (k : Nat), l = F [(5, .int .i64 (k : Int))] ∧ os = U [] ∧ (k ≤ a.length) ∧ (M.Upto a b k) ∧ m = a.length - k) ⟨0, rfl, rfl, zt, by exact M.Upto.zero _ _, rfl⟩ ?_
 rintro _ _ u4 _ ⟨k, rfl, rfl, hk, hU, rfl⟩ x4
 refine zn ?_
 refine Js.seq <| zS <| Qm rfl <| Qm rfl <| Qz rfl <| Ql rfl rfl <| JL.nil ?_
 refine zi (fun h5 h5' => ?_) fun h5 h5' => ?_
 ·
  refine Js.skip <| Js.seq <| Js.block <| Js.seq ?_
  refine zdr [] ?_
  refine JH.p 0 rfl (p_move rfl) ?_
  refine JH.p 1 rfl (p_move rfl) ?_
  obtain ⟨b6, o6, he6, hc6⟩ := ints_elem (Ty.mono _ h1 x4.vis) (i := k) (by omega)
  refine JH.p 2 rfl (p_indexAddr el_24 rfl rfl (by omega) (by omega) he6) ?_
  refine JH.w 3 rfl (fun os' u' hv => q_load1 ty_2.h rfl (Mem.pub (hc6.vis hv))) ?_
  refine JH.p 4 rfl (p_move rfl) ?_
  refine JH.p 5 rfl (p_move rfl) ?_
  obtain ⟨b7, o7, he7, hc7⟩ := ints_elem (Ty.mono _ h2 x4.vis) (i := k) (by omega)
  refine JH.p 6 rfl (p_indexAddr el_24 rfl rfl (by omega) (by omega) he7) ?_
  refine JH.w 7 rfl (fun os' u' hv => q_load1 ty_2.h rfl (Mem.pub (hc7.vis hv))) ?_
  refine JH.p 8 rfl (p_neq rfl rfl) ?_
  refine yd ?_
  refine zi (fun h8 h8' => ?_) fun h8 h8' => ?_
  ·
   have e1 : decide (a = b) = false := by simpa using M.ne_of_nth (a := a) (b := b) (k := k) (by simpa using h8)
   refine zS <| Qa rfl <| JL.nil ?_
   refine zR x4 ?_
   simp [outV, e1]
  have hab : M.nth a k = M.nth b k := by simpa using h8
  refine Js.skip <| Js.blockEnd <| Js.region <| Qm rfl <| Qp rfl rfl <| Qa rfl <| JL.nil ?_
  exact zag ⟨k + 1, rfl, rfl, zt, by exact hU.step (by omega) (by omega) hab, rfl⟩ x4
 have e1 : a = b := hU.done (by omega) (by omega)
 refine zx ?_
 refine zS <| Qa rfl <| JL.nil ?_
 refine zR x4 ?_
 simp [outV, e1]

set_option maxHeartbeats 1000000 in
theorem c_laws_eqPosition (a : M.Pos) {v_a : Value} (b : M.Pos) {v_b : Value} {w : World} (h_a : (Ty.agg (cPosition a)).ok w v_a) (h_b : (Ty.agg (cPosition b)).ok w v_b) (r0 : a.pits.length ≤ 4194304 := by exact om_) (r1 : a.stores.length ≤ 4194304 := by exact om_) (r2 : b.pits.length ≤ 4194304 := by exact om_) (r3 : b.stores.length ≤ 4194304 := by exact om_) : RetV Tryz.prog 46 [v_a, v_b] w (.bool (decide (a = b))) := by
 revert v_a; apply opn
 intro A1 c1 h1 bl1 bh1 A2 c2 h2 bl2 bh2
 revert v_b; apply opn
 intro A3 c3 h3 bl3 bh3 A4 c4 h4 bl4 bh4
 refine enter @Tryz.func46 @Tryz.ntmps46 rfl rfl ?_
 refine zent ?_
 refine zS <| zb rfl fun b5 => zb rfl fun b6 => Qa rfl <| zJ <| zS <| Qf fh rfl <| Q0 1 rfl rfl rfl <| Qf fh rfl <| Q0 0 rfl rfl rfl <| zv rfl (fun w hw => c_laws_eqInt64S a.pits b.pits (ok_ hw) (ok_ hw)) <| Qt rfl <| JL.nil ?_
 refine zi (fun h7 h7' => ?_) fun h7 h7' => ?_
 ·
  have hne : a ≠ b := by rintro rfl; simp at h7
  refine zS <| Qa rfl <| JL.nil ?_
  refine zR (Up.refl _ _) ?_
  first | (rw [decide_eq_false hne]; rfl) | (rw [decide_eq_true (M.pos_ext q0 q1 q2)]; rfl)
 have q0 : a.pits = b.pits := by simpa using h7
 refine Js.skip <| Js.seq <| zS <| Qf fh rfl <| Q0 1 rfl rfl rfl <| Qf fh rfl <| Q0 0 rfl rfl rfl <| zv rfl (fun w hw => c_laws_eqInt64S a.stores b.stores (ok_ hw) (ok_ hw)) <| Qt rfl <| JL.nil ?_
 refine zi (fun h8 h8' => ?_) fun h8 h8' => ?_
 ·
  have hne : a ≠ b := by rintro rfl; simp at h8
  refine zS <| Qa rfl <| JL.nil ?_
  refine zR (Up.refl _ _) ?_
  first | (rw [decide_eq_false hne]; rfl) | (rw [decide_eq_true (M.pos_ext q0 q1 q2)]; rfl)
 have q1 : a.stores = b.stores := by simpa using h8
 refine Js.skip <| Js.seq <| zS <| Qf fh rfl <| Q0 1 rfl rfl rfl <| Qf fh rfl <| Q0 0 rfl rfl rfl <| Qd rfl rfl <| JL.nil ?_
 refine zi (fun h9 h9' => ?_) fun h9 h9' => ?_
 ·
  have hne : a ≠ b := by rintro rfl; simp at h9
  refine zS <| Qa rfl <| JL.nil ?_
  refine zR (Up.refl _ _) ?_
  first | (rw [decide_eq_false hne]; rfl) | (rw [decide_eq_true (M.pos_ext q0 q1 q2)]; rfl)
 have q2 : a.player = b.player := by simpa using h9
 refine Js.skip <| zS <| Qa rfl <| JL.nil ?_
 refine zR (Up.refl _ _) ?_
 first | (rw [decide_eq_false hne]; rfl) | (rw [decide_eq_true (M.pos_ext q0 q1 q2)]; rfl)

set_option maxHeartbeats 1000000 in
theorem c_laws_eqRules (a : M.Rul) {v_a : Value} (b : M.Rul) {v_b : Value} {w : World} (h_a : (Ty.agg (cRules a)).ok w v_a) (h_b : (Ty.agg (cRules b)).ok w v_b) : RetV Tryz.prog 45 [v_a, v_b] w (.bool (decide (a = b))) := by
 revert v_a; apply opn
 revert v_b; apply opn
 refine enter @Tryz.func45 @Tryz.ntmps45 rfl rfl ?_
 refine zent ?_
 refine zS <| zb rfl fun b1 => zb rfl fun b2 => Qa rfl <| zJ <| zS <| Qf fh rfl <| Q0 1 rfl rfl rfl <| Qf fh rfl <| Q0 0 rfl rfl rfl <| Qd rfl rfl <| JL.nil ?_
 refine zi (fun h3 h3' => ?_) fun h3 h3' => ?_
 ·
  have hne : a ≠ b := by rintro rfl; simp at h3
  refine zS <| Qa rfl <| JL.nil ?_
  refine zR (Up.refl _ _) ?_
  first | (rw [decide_eq_false hne]; rfl) | (rw [decide_eq_true (M.rul_ext q0 q1 q2 q3 q4 q5 q6 q7 q8)]; rfl)
 have q0 : a.pits = b.pits := by simpa using h3
 refine Js.skip <| Js.seq <| zS <| Qf fh rfl <| Q0 1 rfl rfl rfl <| Qf fh rfl <| Q0 0 rfl rfl rfl <| Qd rfl rfl <| JL.nil ?_
 refine zi (fun h4 h4' => ?_) fun h4 h4' => ?_
 ·
  have hne : a ≠ b := by rintro rfl; simp at h4
  refine zS <| Qa rfl <| JL.nil ?_
  refine zR (Up.refl _ _) ?_
  first | (rw [decide_eq_false hne]; rfl) | (rw [decide_eq_true (M.rul_ext q0 q1 q2 q3 q4 q5 q6 q7 q8)]; rfl)
 have q1 : a.seeds = b.seeds := by simpa using h4
 refine Js.skip <| Js.seq <| zS <| Qf fh rfl <| Q0 1 rfl rfl rfl <| Qf fh rfl <| Q0 0 rfl rfl rfl <| Qq (p_neqB und_4 rfl rfl) <| JL.nil ?_
 refine zi (fun h5 h5' => ?_) fun h5 h5' => ?_
 ·
  have hne : a ≠ b := by rintro rfl; simp at h5
  refine zS <| Qa rfl <| JL.nil ?_
  refine zR (Up.refl _ _) ?_
  first | (rw [decide_eq_false hne]; rfl) | (rw [decide_eq_true (M.rul_ext q0 q1 q2 q3 q4 q5 q6 q7 q8)]; rfl)
 have q2 : a.stores = b.stores := by simpa using h5
 refine Js.skip <| Js.seq <| zS <| Qf fh rfl <| Q0 1 rfl rfl rfl <| Qf fh rfl <| Q0 0 rfl rfl rfl <| Qq (p_neqB und_4 rfl rfl) <| JL.nil ?_
 refine zi (fun h6 h6' => ?_) fun h6 h6' => ?_
 ·
  have hne : a ≠ b := by rintro rfl; simp at h6
  refine zS <| Qa rfl <| JL.nil ?_
  refine zR (Up.refl _ _) ?_
  first | (rw [decide_eq_false hne]; rfl) | (rw [decide_eq_true (M.rul_ext q0 q1 q2 q3 q4 q5 q6 q7 q8)]; rfl)
 have q3 : a.skip = b.skip := by simpa using h6
 refine Js.skip <| Js.seq <| zS <| Qf fh rfl <| Q0 1 rfl rfl rfl <| Qf fh rfl <| Q0 0 rfl rfl rfl <| Qq (p_neqB und_4 rfl rfl) <| JL.nil ?_
 refine zi (fun h7 h7' => ?_) fun h7 h7' => ?_
 ·
  have hne : a ≠ b := by rintro rfl; simp at h7
  refine zS <| Qa rfl <| JL.nil ?_
  refine zR (Up.refl _ _) ?_
  first | (rw [decide_eq_false hne]; rfl) | (rw [decide_eq_true (M.rul_ext q0 q1 q2 q3 q4 q5 q6 q7 q8)]; rfl)
 have q4 : a.relay = b.relay := by simpa using h7
 refine Js.skip <| Js.seq <| zS <| Qf fh rfl <| Q0 1 rfl rfl rfl <| Qf fh rfl <| Q0 0 rfl rfl rfl <| Qq (p_neqB und_4 rfl rfl) <| JL.nil ?_
 refine zi (fun h8 h8' => ?_) fun h8 h8' => ?_
 ·
  have hne : a ≠ b := by rintro rfl; simp at h8
  refine zS <| Qa rfl <| JL.nil ?_
  refine zR (Up.refl _ _) ?_
  first | (rw [decide_eq_false hne]; rfl) | (rw [decide_eq_true (M.rul_ext q0 q1 q2 q3 q4 q5 q6 q7 q8)]; rfl)
 have q5 : a.feed = b.feed := by simpa using h8
 refine Js.skip <| Js.seq <| zS <| Qf fh rfl <| Q0 1 rfl rfl rfl <| Qf fh rfl <| Q0 0 rfl rfl rfl <| Qq (p_neqB und_4 rfl rfl) <| JL.nil ?_
 refine zi (fun h9 h9' => ?_) fun h9 h9' => ?_
 ·
  have hne : a ≠ b := by rintro rfl; simp at h9
  refine zS <| Qa rfl <| JL.nil ?_
  refine zR (Up.refl _ _) ?_
  first | (rw [decide_eq_false hne]; rfl) | (rw [decide_eq_true (M.rul_ext q0 q1 q2 q3 q4 q5 q6 q7 q8)]; rfl)
 have q6 : a.again = b.again := by simpa using h9
 refine Js.skip <| Js.seq <| zS <| Qf fh rfl <| Q0 1 rfl rfl rfl <| Qf fh rfl <| Q0 0 rfl rfl rfl <| Qd rfl rfl <| JL.nil ?_
 refine zi (fun h10 h10' => ?_) fun h10 h10' => ?_
 ·
  have hne : a ≠ b := by rintro rfl; simp at h10
  refine zS <| Qa rfl <| JL.nil ?_
  refine zR (Up.refl _ _) ?_
  first | (rw [decide_eq_false hne]; rfl) | (rw [decide_eq_true (M.rul_ext q0 q1 q2 q3 q4 q5 q6 q7 q8)]; rfl)
 have q7 : a.capture = b.capture := by simpa using h10
 refine Js.skip <| Js.seq <| zS <| Qf fh rfl <| Q0 1 rfl rfl rfl <| Qf fh rfl <| Q0 0 rfl rfl rfl <| Qd rfl rfl <| JL.nil ?_
 refine zi (fun h11 h11' => ?_) fun h11 h11' => ?_
 ·
  have hne : a ≠ b := by rintro rfl; simp at h11
  refine zS <| Qa rfl <| JL.nil ?_
  refine zR (Up.refl _ _) ?_
  first | (rw [decide_eq_false hne]; rfl) | (rw [decide_eq_true (M.rul_ext q0 q1 q2 q3 q4 q5 q6 q7 q8)]; rfl)
 have q8 : a.slam = b.slam := by simpa using h11
 refine Js.skip <| zS <| Qa rfl <| JL.nil ?_
 refine zR (Up.refl _ _) ?_
 first | (rw [decide_eq_false hne]; rfl) | (rw [decide_eq_true (M.rul_ext q0 q1 q2 q3 q4 q5 q6 q7 q8)]; rfl)

set_option maxHeartbeats 1000000 in
theorem c_laws_eqGame (a : M.Gam) {v_a : Value} (b : M.Gam) {v_b : Value} {w : World} (h_a : (Ty.agg (cGame a)).ok w v_a) (h_b : (Ty.agg (cGame b)).ok w v_b) (r0 : a.start.pits.length ≤ 4194304 := by exact om_) (r1 : a.start.stores.length ≤ 4194304 := by exact om_) (r2 : a.moves.length ≤ 4194304 := by exact om_) (r3 : a.now.pits.length ≤ 4194304 := by exact om_) (r4 : a.now.stores.length ≤ 4194304 := by exact om_) (r5 : b.start.pits.length ≤ 4194304 := by exact om_) (r6 : b.start.stores.length ≤ 4194304 := by exact om_) (r7 : b.moves.length ≤ 4194304 := by exact om_) (r8 : b.now.pits.length ≤ 4194304 := by exact om_) (r9 : b.now.stores.length ≤ 4194304 := by exact om_) : RetV Tryz.prog 21 [v_a, v_b] w (.bool (decide (a = b))) := by
 revert v_a; apply opn
 intro A1 c1 h1 bl1 bh1 A2 c2 h2 bl2 bh2 A3 c3 h3 bl3 bh3 A4 c4 h4 bl4 bh4 A5 c5 h5 bl5 bh5
 revert v_b; apply opn
 intro A6 c6 h6 bl6 bh6 A7 c7 h7 bl7 bh7 A8 c8 h8 bl8 bh8 A9 c9 h9 bl9 bh9 A10 c10 h10 bl10 bh10
 refine enter @Tryz.func21 @Tryz.ntmps21 rfl rfl ?_
 refine zent ?_
 refine zS <| zb rfl fun b11 => zb rfl fun b12 => Qa rfl <| zJ <| zS <| Qf fh rfl <| Q9 1 rfl rfl ?_
 refine Qf fh rfl <| Q9 0 rfl rfl ?_
 refine zv rfl (fun w hw => c_laws_eqRules a.rules b.rules (ok_ hw) (ok_ hw)) <| Qt rfl <| JL.nil ?_
 refine zi (fun h13 h13' => ?_) fun h13 h13' => ?_
 ·
  have hne : a ≠ b := by rintro rfl; simp at h13
  refine zS <| Qa rfl <| JL.nil ?_
  refine zR (Up.refl _ _) ?_
  first | (rw [decide_eq_false hne]; rfl) | (rw [decide_eq_true (M.gam_ext q0 q1 q2 q3 q4)]; rfl)
 have q0 : a.rules = b.rules := by simpa using h13
 refine Js.skip <| Js.seq <| zS <| Qf fh rfl <| Q9 1 rfl rfl ?_
 refine Qf fh rfl <| Q9 0 rfl rfl ?_
 refine zv rfl (fun w hw => c_laws_eqPosition a.start b.start (ok_ hw) (ok_ hw)) <| Qt rfl <| JL.nil ?_
 refine zi (fun h14 h14' => ?_) fun h14 h14' => ?_
 ·
  have hne : a ≠ b := by rintro rfl; simp at h14
  refine zS <| Qa rfl <| JL.nil ?_
  refine zR (Up.refl _ _) ?_
  first | (rw [decide_eq_false hne]; rfl) | (rw [decide_eq_true (M.gam_ext q0 q1 q2 q3 q4)]; rfl)
 have q1 : a.start = b.start := by simpa using h14
 refine Js.skip <| Js.seq <| zS <| Qf fh rfl <| Q0 1 rfl rfl rfl <| Qf fh rfl <| Q0 0 rfl rfl rfl <| zv rfl (fun w hw => c_laws_eqInt64S a.moves b.moves (ok_ hw) (ok_ hw)) <| Qt rfl <| JL.nil ?_
 refine zi (fun h15 h15' => ?_) fun h15 h15' => ?_
 ·
  have hne : a ≠ b := by rintro rfl; simp at h15
  refine zS <| Qa rfl <| JL.nil ?_
  refine zR (Up.refl _ _) ?_
  first | (rw [decide_eq_false hne]; rfl) | (rw [decide_eq_true (M.gam_ext q0 q1 q2 q3 q4)]; rfl)
 have q2 : a.moves = b.moves := by simpa using h15
 refine Js.skip <| Js.seq <| zS <| Qf fh rfl <| Q9 1 rfl rfl ?_
 refine Qf fh rfl <| Q9 0 rfl rfl ?_
 refine zv rfl (fun w hw => c_laws_eqPosition a.now b.now (ok_ hw) (ok_ hw)) <| Qt rfl <| JL.nil ?_
 refine zi (fun h16 h16' => ?_) fun h16 h16' => ?_
 ·
  have hne : a ≠ b := by rintro rfl; simp at h16
  refine zS <| Qa rfl <| JL.nil ?_
  refine zR (Up.refl _ _) ?_
  first | (rw [decide_eq_false hne]; rfl) | (rw [decide_eq_true (M.gam_ext q0 q1 q2 q3 q4)]; rfl)
 have q3 : a.now = b.now := by simpa using h16
 refine Js.skip <| Js.seq <| zS <| Qf fh rfl <| Q0 1 rfl rfl rfl <| Qf fh rfl <| Q0 0 rfl rfl rfl <| Qd rfl rfl <| JL.nil ?_
 refine zi (fun h17 h17' => ?_) fun h17 h17' => ?_
 ·
  have hne : a ≠ b := by rintro rfl; simp at h17
  refine zS <| Qa rfl <| JL.nil ?_
  refine zR (Up.refl _ _) ?_
  first | (rw [decide_eq_false hne]; rfl) | (rw [decide_eq_true (M.gam_ext q0 q1 q2 q3 q4)]; rfl)
 have q4 : a.resigned = b.resigned := by simpa using h17
 refine Js.skip <| zS <| Qa rfl <| JL.nil ?_
 refine zR (Up.refl _ _) ?_
 first | (rw [decide_eq_false hne]; rfl) | (rw [decide_eq_true (M.gam_ext q0 q1 q2 q3 q4)]; rfl)

end Go.Proofs.YtdhmdaoijnnfjaaGreatDoor

namespace Go.Proofs.YtdhmdaoijnnfjaaGreatDoor
open Go.RowKit

set_option maxHeartbeats 1000000 in
theorem c_laws_FnExactSummaryOf (aG : M.Gam) {v_aG : Value} {w : World} (h_aG : (Ty.agg (cGame aG)).ok w v_aG) (h_tab : tabT.ok w undef) : RetV Tryz.prog 5 [v_aG] w (.bool true) := by
 have q4 := M.szL_cases (aG.start.pits.length + aG.start.stores.length + aG.moves.length + aG.now.pits.length + aG.now.stores.length) 1048576
 change (1048576 < _ ∧ M.szG aG 1048576 = -1) ∨ (_ ≤ _ ∧ M.szG aG 1048576 = _) at q4
 revert v_aG; apply opn
 intro A1 c1 h1 bl1 bh1 A2 c2 h2 bl2 bh2 A3 c3 h3 bl3 bh3 A4 c4 h4 bl4 bh4 A5 c5 h5 bl5 bh5
 refine enter @Tryz.func5 @Tryz.ntmps5 rfl rfl ?_
 refine zent ?_
 refine zS <| zb rfl fun b6 => Qa rfl <| zN <| Qa rfl <| zN <| Q9 0 rfl rfl ?_
 refine Qm rfl <| zv rfl (fun w hw => c_laws_szGame aG 1048576 (ok_ hw)) <| Qa rfl <| zJ <| zS <| Qm rfl <| Ql rfl rfl <| JL.nil ?_
 refine zi (fun h7 h7' => ?_) fun h7 h7' => ?_
 ·
  refine zS <| Qa rfl <| JL.nil ?_
  exact zr (Up.refl _ _)
 refine Js.skip <| zS <| Q9 0 rfl rfl ?_
 refine zp rfl (fun w hw => c_laws_toGame aG (ok_ hw)) ?_
 intro u8 x8 A9 c9 h9 bl9 bh9 A10 c10 h10 bl10 bh10 A11 c11 h11 bl11 bh11 A12 c12 h12 bl12 bh12 A13 c13 h13 bl13 bh13
 refine zv rfl (fun w hw => c_spec_SummaryOf aG (ok_ hw)) <| Qm rfl <| Qx rfl rfl <| Qx rfl rfl <| Qa rfl <| Qa rfl <| zN <| Q9 0 rfl rfl ?_
 refine zp rfl (fun w hw => c_laws_toGame aG (ok_ hw)) ?_
 intro u14 x14 A15 c15 h15 bl15 bh15 A16 c16 h16 bl16 bh16 A17 c17 h17 bl17 bh17 A18 c18 h18 bl18 bh18 A19 c19 h19 bl19 bh19
 refine za zeh fun b20 => zw 0 rfl rfl rfl ?_
 refine zN <| Q9 0 rfl rfl ?_
 refine zv rfl (fun w hw => c_impl_SummaryOf aG (ok_ hw) (ok_ hw)) <| Qm rfl <| Qx rfl rfl <| Qx rfl rfl <| Qa rfl <| Qa rfl <| zJ <| zS <| Qm rfl <| Qm rfl <| Qq (p_neqT und_9 rfl rfl) <| Qm rfl <| zg (Gd.f1 rfl rfl rfl) (fun hc => p_move rfl) <| zg (Gd.f1 rfl rfl rfl) (fun hc => p_move rfl) ?_
 refine zg (Gd.f1 rfl rfl rfl) (fun hc => p_neq (gh hc rfl) (gh hc rfl)) <| Qq (p_pickOr rfl rfl rfl) <| JL.nil ?_
 refine zi (fun h21 h21' => ?_) fun h21 h21' => ?_
 · exact absurd h21 (by simp)
 refine Js.skip <| Js.seq <| Js.seq ?_
 refine zdr [] ?_
 refine JH.q 0 rfl (L9 0 rfl rfl) ?_
 refine JH.q 1 rfl (L9 1 rfl rfl) ?_
 refine y1 2 ?_
 refine yp rfl rfl (fun w hw => c_laws_toGame aG (ok_ hw)) ?_
 intro u22 x22 A23 c23 h23 bl23 bh23 A24 c24 h24 bl24 bh24 A25 c25 h25 bl25 bh25 A26 c26 h26 bl26 bh26 A27 c27 h27 bl27 bh27
 refine y1 3 ?_
 refine yv rfl rfl (fun w hw => c_laws_eqGame aG aG (ok_ hw) (ok_ hw)) ?_
 refine JH.p 4 rfl (p_not rfl) ?_
 refine yd ?_
 refine zi (fun h28 h28' => ?_) fun h28 h28' => ?_
 · exact absurd h28 (by simp)
 refine Js.skip <| zS <| Qa rfl <| JL.nil ?_
 exact zr ((x8.trans x14).trans x22)

end Go.Proofs.YtdhmdaoijnnfjaaGreatDoor


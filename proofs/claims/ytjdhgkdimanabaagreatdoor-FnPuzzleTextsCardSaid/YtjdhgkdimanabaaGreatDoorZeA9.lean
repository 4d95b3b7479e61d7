/- Walks: G10. -/
import Derived.Test.YtjdhgkdimanabaaGreatDoorZeA3
import Derived.Test.YtjdhgkdimanabaaGreatDoorZeA8
import Derived.Test.YtjdhgkdimanabaaGreatDoorZeA5
import Derived.Test.YtjdhgkdimanabaaGreatDoorZeA7
import Derived.Test.YtjdhgkdimanabaaGreatDoorZeA4
import Derived.Test.YtjdhgkdimanabaaGreatDoorZeA2
set_option linter.unusedSimpArgs false
set_option linter.unusedVariables false
set_option maxRecDepth 100000
attribute [local irreducible] Go.Proofs.YtjdhgkdimanabaaGreatDoor.gv
set_option maxHeartbeats 8000000
namespace Go.Proofs.YtjdhgkdimanabaaGreatDoor
open Go.RowKit
theorem c_impl_puzzleOf (r : M.Rul) {v_r : Value} (p : M.Pos) {v_p : Value} (depth : Int) {w : World} (h_r : (Ty.agg (cRules r)).ok w v_r) (h_p : (Ty.agg (cPosition p)).ok w v_p) (r0 : p.pits.length ≤ 4194304 := by exact om_) (r1 : p.stores.length ≤ 4194304 := by exact om_) : Ret Tryz.prog 47 [v_r, v_p, .int .i64 depth] w (Ty.tup [Ty.agg (cPuzzle ((M.puz r p depth).1)), Ty.int ((M.puz r p depth).2)]) := by
 revert v_r; apply opn
 revert v_p; apply opn
 intro A1 c1 h1 bl1 bh1 A2 c2 h2 bl2 bh2
 refine enter @Tryz.func47 @Tryz.ntmps47 rfl rfl ?_
 refine zent ?_
 refine zS <| zb rfl fun b3 => zb rfl fun b4 => za zeh fun b5 => Qa rfl <| zN <| Q9 2 rfl rfl ?_
 refine Q9 1 rfl rfl ?_
 refine Qm rfl <| zp rfl (fun w hw => c_impl_SearchOptions r p depth (ok_ hw) (ok_ hw)) ?_
 intro u6 x6 A7 c7 h7 bl7 bh7
 refine Qm rfl <| Qx rfl rfl <| Qx rfl rfl <| Qa rfl <| Qa rfl <| zJ <| zS <| Qm rfl <| Qd rfl rfl <| JL.nil ?_
 refine zi (fun h8 h8' => ?_) fun h8 h8' => ?_
 ·
  have hE := M.puz_c (r := r) (p := p) (depth := depth) (by simpa using h8)
  have hq0 : 0 = (((M.puz r p depth).1).rules).pits := rp_ hE
  have hq1 : 0 = (((M.puz r p depth).1).rules).seeds := rp_ hE
  have hq2 : false = (((M.puz r p depth).1).rules).stores := rp_ hE
  have hq3 : false = (((M.puz r p depth).1).rules).skip := rp_ hE
  have hq4 : false = (((M.puz r p depth).1).rules).relay := rp_ hE
  have hq5 : false = (((M.puz r p depth).1).rules).feed := rp_ hE
  have hq6 : false = (((M.puz r p depth).1).rules).again := rp_ hE
  have hq7 : 0 = (((M.puz r p depth).1).rules).capture := rp_ hE
  have hq8 : 0 = (((M.puz r p depth).1).rules).slam := rp_ hE
  have hq9 : [] = (((M.puz r p depth).1).position).pits := rp_ hE
  have hq10 : [] = (((M.puz r p depth).1).position).stores := rp_ hE
  have hq11 : 0 = (((M.puz r p depth).1).position).player := rp_ hE
  have hq12 : 0 = ((M.puz r p depth).1).depth := rp_ hE
  have hq13 : 0 = ((M.puz r p depth).1).move := rp_ hE
  have hq14 : 0 = ((M.puz r p depth).1).value := rp_ hE
  have hq15 : 0 = ((M.puz r p depth).1).margin := rp_ hE
  have hq16 : (M.optsC r p depth) = (M.puz r p depth).2 := rp_ hE
  refine zS <| Qb ?_
  refine Qm rfl <| zw 0 rfl rfl rfl ?_
  refine Qa rfl <| JL.nil ?_
  exact zro x6
 have hz : M.optsC r p depth = 0 := by simpa using h8
 have ho := M.optsC_ok hz
 have hR := M.optsR_yes hz
 have hrl := M.optsR_len r p depth
 have hol := M.opts_len r p depth
 have g8 := M.results_8 ho.1
 have hOb : ∀ x ∈ (M.optsR r p depth), -2000 ≤ x.value ∧ x.value ≤ 2000 := by rw [hR]; exact fun x hx => M.opts_bd ho.1 (by omega) ho.2.2.1 hx
 refine Js.skip <| Js.seq <| zS <| Qm rfl <| Qz rfl <| Ql rfl rfl <| JL.nil ?_
 refine zi (fun h9 h9' => ?_) fun h9 h9' => ?_
 ·
  have hE := M.puz_2 hz (by rw [← hR]; have := h9'; omega)
  have hq0 : 0 = (((M.puz r p depth).1).rules).pits := rp_ hE
  have hq1 : 0 = (((M.puz r p depth).1).rules).seeds := rp_ hE
  have hq2 : false = (((M.puz r p depth).1).rules).stores := rp_ hE
  have hq3 : false = (((M.puz r p depth).1).rules).skip := rp_ hE
  have hq4 : false = (((M.puz r p depth).1).rules).relay := rp_ hE
  have hq5 : false = (((M.puz r p depth).1).rules).feed := rp_ hE
  have hq6 : false = (((M.puz r p depth).1).rules).again := rp_ hE
  have hq7 : 0 = (((M.puz r p depth).1).rules).capture := rp_ hE
  have hq8 : 0 = (((M.puz r p depth).1).rules).slam := rp_ hE
  have hq9 : [] = (((M.puz r p depth).1).position).pits := rp_ hE
  have hq10 : [] = (((M.puz r p depth).1).position).stores := rp_ hE
  have hq11 : 0 = (((M.puz r p depth).1).position).player := rp_ hE
  have hq12 : 0 = ((M.puz r p depth).1).depth := rp_ hE
  have hq13 : 0 = ((M.puz r p depth).1).move := rp_ hE
  have hq14 : 0 = ((M.puz r p depth).1).value := rp_ hE
  have hq15 : 0 = ((M.puz r p depth).1).margin := rp_ hE
  have hq16 : 6 = (M.puz r p depth).2 := rp_ hE
  refine zS <| Qb ?_
  refine zw 0 rfl rfl rfl ?_
  refine Qa rfl <| JL.nil ?_
  exact zro x6
 have h2 : ¬ (M.optsR r p depth).length < 2 := by have := h9'; omega
 have hbb := hOb _ (M.bOpt_mem (l := (M.optsR r p depth)) (by omega))
 refine Js.skip <| zS <| Qm rfl <| zp rfl (fun w hw => c_impl_bestOption (M.optsR r p depth) (ok_ hw)) ?_
 intro u10 x10
 refine za zeh fun b11 => zw 0 rfl rfl rfl ?_
 refine Qa rfl <| zJ <| zS <| Qm rfl <| Qz rfl <| Qm rfl <| JL.nil <| Js.block ?_
 refine zl [2, 3, 4, 6, 10, 31, 32] (fun F U l os u m => ∃ (k : Nat) (s : Int), l = F [(11, .int .i64 s), (33, .int .i64 (k : Int))] ∧ os = U [] ∧ (M.second (M.bOpt (M.optsR r p depth)).move s ((M.optsR r p depth).drop k) = M.second (M.bOpt (M.optsR r p depth)).move (-1000) (M.optsR r p depth)) ∧ (-2000 ≤ s) ∧ (s ≤ 2000) ∧ (k ≤ (M.optsR r p depth).length) ∧ m = (M.optsR r p depth).length - k) ⟨0, (-1000), rfl, rfl, by rfl, zt, zt, zt, rfl⟩ ?_
 rintro _ _ u12 _ ⟨k, s, rfl, rfl, hS, s0, s1, hk, rfl⟩ x12
 refine zn ?_
 refine zS <| Ql rfl rfl <| zJ ?_
 refine zi (fun h13 h13' => ?_) fun h13 h13' => ?_
 ·
  obtain ⟨y14, hy14⟩ : ∃ x, (M.optsR r p depth)[k]? = some x := ⟨_, List.getElem?_eq_getElem (by omega)⟩
  obtain ⟨b14, o14, he14, hr14⟩ := elem_Option (Ty.mono _ h7 (x10.vis.trans x12.vis)) hy14
  refine Js.skip <| Js.seq <| Js.block <| zS <| Qq (p_indexAddr el_95 rfl rfl (by omega) (by omega) he14) <| QS 0 hr14 rfl ?_
  refine za zeh fun b15 => zw 0 rfl rfl rfl ?_
  refine zN <| Qf fh rfl <| Q0 0 rfl rfl rfl <| Qf fh rfl <| Q0 1 rfl rfl rfl <| Qd rfl rfl <| JL.nil ?_
  refine zi (fun h16 h16' => ?_) fun h16 h16' => ?_
  ·
   have hob := hOb _ (List.mem_of_getElem? hy14)
   have hS2 := M.second_s hS hy14
   rw [if_neg (by simpa using h16)] at hS2
   refine Js.region <| Qm rfl <| Qf fh rfl <| Q0 0 rfl rfl rfl <| Qq (p_max rfl rfl) <| Qa rfl <| JL.nil <| Js.blockEnd <| Js.region <| Qp rfl rfl <| Qm rfl <| JL.nil ?_
   refine zd [1, 1, 1, 1] rfl fun u17 x17 => ?_
   exact zag ⟨k + 1, if s < y14.value then y14.value else s, rfl, rfl, by exact hS2, by first | omega | (split <;> omega), by first | omega | (split <;> omega), zt, rfl⟩ (x12.trans x17)
  have hS2 := M.second_s hS hy14
  rw [if_pos (by simpa using h16)] at hS2
  refine Js.skip <| Js.blockEnd <| Js.region <| Qp rfl rfl <| Qm rfl <| JL.nil ?_
  refine zd [1, 1, 1, 1] rfl fun u18 x18 => ?_
  exact zag ⟨k + 1, s, rfl, rfl, by exact hS2, by first | omega | (split <;> omega), by first | omega | (split <;> omega), zt, rfl⟩ (x12.trans x18)
 have hS3 := M.second_e hS (by have := h13'; omega)
 refine zx ?_
 refine Js.seq <| zS <| Qm rfl <| Qf fh rfl <| Q0 0 rfl rfl rfl <| Qe rfl rfl <| JL.nil ?_
 refine zi (fun h19 h19' => ?_) fun h19 h19' => ?_
 ·
  have hE := M.puz_6 hz (by rw [← hR]; exact h2) (by rw [← hR, ← hS3]; simpa using h19)
  have hq0 : 0 = (((M.puz r p depth).1).rules).pits := rp_ hE
  have hq1 : 0 = (((M.puz r p depth).1).rules).seeds := rp_ hE
  have hq2 : false = (((M.puz r p depth).1).rules).stores := rp_ hE
  have hq3 : false = (((M.puz r p depth).1).rules).skip := rp_ hE
  have hq4 : false = (((M.puz r p depth).1).rules).relay := rp_ hE
  have hq5 : false = (((M.puz r p depth).1).rules).feed := rp_ hE
  have hq6 : false = (((M.puz r p depth).1).rules).again := rp_ hE
  have hq7 : 0 = (((M.puz r p depth).1).rules).capture := rp_ hE
  have hq8 : 0 = (((M.puz r p depth).1).rules).slam := rp_ hE
  have hq9 : [] = (((M.puz r p depth).1).position).pits := rp_ hE
  have hq10 : [] = (((M.puz r p depth).1).position).stores := rp_ hE
  have hq11 : 0 = (((M.puz r p depth).1).position).player := rp_ hE
  have hq12 : 0 = ((M.puz r p depth).1).depth := rp_ hE
  have hq13 : 0 = ((M.puz r p depth).1).move := rp_ hE
  have hq14 : 0 = ((M.puz r p depth).1).value := rp_ hE
  have hq15 : 0 = ((M.puz r p depth).1).margin := rp_ hE
  have hq16 : 6 = (M.puz r p depth).2 := rp_ hE
  refine zS <| Qb ?_
  refine zw 1 rfl rfl rfl ?_
  refine Qa rfl <| JL.nil ?_
  exact zro ((x6.trans x10).trans x12)
 have hE := M.puz_0 hz (by rw [← hR]; exact h2) (by rw [← hR, ← hS3]; simpa using h19)
 rw [← hR, ← hS3] at hE
 refine Js.skip <| Js.seq ?_
 refine zdr [13] ?_
 refine JH.q 0 rfl (L9 3 rfl rfl) ?_
 refine JH.q 1 rfl (L9 2 rfl rfl) ?_
 refine jM 3 rfl rfl ?_
 refine jF 4 fld_99_0 rfl rfl ?_
 refine jB 5 0 ty_2 rfl rfl rfl rfl ?_
 refine jF 6 fld_99_1 rfl rfl ?_
 refine jB 7 0 ty_2 rfl rfl rfl rfl ?_
 refine jF 8 fld_99_1 rfl rfl ?_
 refine jB 9 0 ty_2 rfl rfl rfl rfl ?_
 refine jM 10 rfl rfl ?_
 refine JH.p 11 rfl (p_sub rfl rfl (IntWalk.i64_in _ (by omega))) ?_
 refine y1 2 ?_
 refine yc rfl rfl (fun w hw => c_impl_Position_copied p (ok_ hw)) ?_
 intro A21 c21 bl21 bh21 A22 c22 bl22 bh22
 refine JH.p 12 rfl (q_bld) ?_
 refine y1 13 ?_
 refine yst rfl rfl rfl ?_
 refine jA 14 rfl rfl ?_
 refine yd ?_
 have hq0 : r.pits = (((M.puz r p depth).1).rules).pits := rp_ hE
 have hq1 : r.seeds = (((M.puz r p depth).1).rules).seeds := rp_ hE
 have hq2 : r.stores = (((M.puz r p depth).1).rules).stores := rp_ hE
 have hq3 : r.skip = (((M.puz r p depth).1).rules).skip := rp_ hE
 have hq4 : r.relay = (((M.puz r p depth).1).rules).relay := rp_ hE
 have hq5 : r.feed = (((M.puz r p depth).1).rules).feed := rp_ hE
 have hq6 : r.again = (((M.puz r p depth).1).rules).again := rp_ hE
 have hq7 : r.capture = (((M.puz r p depth).1).rules).capture := rp_ hE
 have hq8 : r.slam = (((M.puz r p depth).1).rules).slam := rp_ hE
 have hq9 : p.pits = (((M.puz r p depth).1).position).pits := rp_ hE
 have hq10 : p.stores = (((M.puz r p depth).1).position).stores := rp_ hE
 have hq11 : p.player = (((M.puz r p depth).1).position).player := rp_ hE
 have hq12 : depth = ((M.puz r p depth).1).depth := rp_ hE
 have hq13 : ((M.bOpt (M.optsR r p depth)).move) = ((M.puz r p depth).1).move := rp_ hE
 have hq14 : ((M.bOpt (M.optsR r p depth)).value) = ((M.puz r p depth).1).value := rp_ hE
 have hq15 : (((M.bOpt (M.optsR r p depth)).value) - s) = ((M.puz r p depth).1).margin := rp_ hE
 have hq16 : 0 = (M.puz r p depth).2 := rp_ hE
 exact zro ((x6.trans x10).trans x12)
theorem c_impl_SamePuzzle (a : M.Puz) {v_a : Value} (b : M.Puz) {v_b : Value} {w : World} (h_a : (Ty.agg (cPuzzle a)).ok w v_a) (h_b : (Ty.agg (cPuzzle b)).ok w v_b) (r0 : a.position.pits.length ≤ 4194304 := by exact om_) (r1 : a.position.stores.length ≤ 4194304 := by exact om_) (r2 : b.position.pits.length ≤ 4194304 := by exact om_) (r3 : b.position.stores.length ≤ 4194304 := by exact om_) : RetV Tryz.prog 89 [v_a, v_b] w (.bool (M.samez a b)) := by
 revert v_a; apply opn
 intro A1 c1 h1 bl1 bh1 A2 c2 h2 bl2 bh2
 revert v_b; apply opn
 intro A3 c3 h3 bl3 bh3 A4 c4 h4 bl4 bh4
 refine enter @Tryz.func89 @Tryz.ntmps89 rfl rfl ?_
 refine zent ?_
 refine zS <| zb rfl fun b5 => zb rfl fun b6 => Qa rfl <| zN <| Qf fh rfl <| Q9 1 rfl rfl ?_
 refine Qf fh rfl <| Q9 0 rfl rfl ?_
 refine Qq (p_eqlS (by kernel_rfl) (fun w => eqs_Rules a.rules b.rules w) rfl rfl) <| Qm rfl <| zg (Gd.t1 rfl rfl rfl) (fun hc => p_fieldAddr fld_30_1.h rfl) <| zgq (Gd.t1 rfl rfl rfl) (fun hc => L9 1 (gh hc rfl) rfl) <| zg (Gd.t1 rfl rfl rfl) (fun hc => p_fieldAddr fld_30_1.h rfl) <| zgq (Gd.t1 rfl rfl rfl) (fun hc => L9 0 (gh hc rfl) rfl) <| zgv (Gd.t1 rfl rfl rfl) (fun hc => (opds_2 (gh hc rfl) (gh hc rfl))) (fun hc => (fun w hw => c_impl_SamePosition a.position b.position (ok_ hw) (ok_ hw) (r0 := (oh_ hc)) (r1 := (oh_ hc)) (r2 := (oh_ hc)) (r3 := (oh_ hc)))) ?_
 refine Qq (p_pickAnd rfl rfl rfl) <| Qm rfl <| zg (Gd.t1 rfl rfl rfl) (fun hc => p_fieldAddr fld_30_2.h rfl) <| zgq (Gd.t1 rfl rfl rfl) (fun hc => q_load1 ty_2.h (gh hc rfl) (Mem.box (i := 1) rfl rfl)) <| zg (Gd.t1 rfl rfl rfl) (fun hc => p_fieldAddr fld_30_2.h rfl) <| zgq (Gd.t1 rfl rfl rfl) (fun hc => q_load1 ty_2.h (gh hc rfl) (Mem.box (i := 0) rfl rfl)) <| zg (Gd.t1 rfl rfl rfl) (fun hc => p_eql (gh hc rfl) (gh hc rfl)) <| Qq (p_pickAnd rfl rfl rfl) <| Qm rfl <| zg (Gd.t1 rfl rfl rfl) (fun hc => p_fieldAddr fld_30_3.h rfl) <| zgq (Gd.t1 rfl rfl rfl) (fun hc => q_load1 ty_2.h (gh hc rfl) (Mem.box (i := 1) rfl rfl)) <| zg (Gd.t1 rfl rfl rfl) (fun hc => p_fieldAddr fld_30_3.h rfl) <| zgq (Gd.t1 rfl rfl rfl) (fun hc => q_load1 ty_2.h (gh hc rfl) (Mem.box (i := 0) rfl rfl)) <| zg (Gd.t1 rfl rfl rfl) (fun hc => p_eql (gh hc rfl) (gh hc rfl)) ?_
 refine Qq (p_pickAnd rfl rfl rfl) <| Qm rfl <| zg (Gd.t1 rfl rfl rfl) (fun hc => p_fieldAddr fld_30_4.h rfl) <| zgq (Gd.t1 rfl rfl rfl) (fun hc => q_load1 ty_2.h (gh hc rfl) (Mem.box (i := 1) rfl rfl)) <| zg (Gd.t1 rfl rfl rfl) (fun hc => p_fieldAddr fld_30_4.h rfl) <| zgq (Gd.t1 rfl rfl rfl) (fun hc => q_load1 ty_2.h (gh hc rfl) (Mem.box (i := 0) rfl rfl)) <| zg (Gd.t1 rfl rfl rfl) (fun hc => p_eql (gh hc rfl) (gh hc rfl)) <| Qq (p_pickAnd rfl rfl rfl) <| Qm rfl <| zg (Gd.t1 rfl rfl rfl) (fun hc => p_fieldAddr fld_30_5.h rfl) <| zgq (Gd.t1 rfl rfl rfl) (fun hc => q_load1 ty_2.h (gh hc rfl) (Mem.box (i := 1) rfl rfl)) <| zg (Gd.t1 rfl rfl rfl) (fun hc => p_fieldAddr fld_30_5.h rfl) <| zgq (Gd.t1 rfl rfl rfl) (fun hc => q_load1 ty_2.h (gh hc rfl) (Mem.box (i := 0) rfl rfl)) <| zg (Gd.t1 rfl rfl rfl) (fun hc => p_eql (gh hc rfl) (gh hc rfl)) ?_
 refine Qq (p_pickAnd rfl rfl rfl) <| Qa rfl <| JL.nil ?_
 refine zR (Up.refl _ _) ?_
 simp [outV, M.samez, Bool.and_assoc]
theorem c_impl_ValidPuzzle (z : M.Puz) {v_z : Value} {w : World} (h_z : (Ty.agg (cPuzzle z)).ok w v_z) (r0 : z.position.pits.length ≤ 4194304 := by exact om_) (r1 : z.position.stores.length ≤ 4194304 := by exact om_) : RetV Tryz.prog 41 [v_z] w (.bool (M.okZ z)) := by
 have hsm := M.puz_small z.rules z.position z.depth
 have hs1 := hsm.sp
 have hs2 := hsm.ss
 revert v_z; apply opn
 intro A1 c1 h1 bl1 bh1 A2 c2 h2 bl2 bh2
 refine enter @Tryz.func41 @Tryz.ntmps41 rfl rfl ?_
 refine zent ?_
 refine zS <| zb rfl fun b3 => Qa rfl <| zN <| Qf fh rfl <| Q9 0 rfl rfl ?_
 refine Qf fh rfl <| Q9 0 rfl rfl ?_
 refine Qf fh rfl <| Q0 0 rfl rfl rfl <| zp rfl (fun w hw => c_impl_puzzleOf z.rules z.position z.depth (ok_ hw) (ok_ hw)) ?_
 intro u4 x4 A5 c5 h5 bl5 bh5 A6 c6 h6 bl6 bh6
 refine Qm rfl <| Qx rfl rfl <| Qx rfl rfl <| za zeh fun b7 => zw 0 rfl rfl rfl ?_
 refine Qa rfl <| zN <| Qm rfl <| Qe rfl rfl <| Qm rfl <| zgq (Gd.t1 rfl rfl rfl) (fun hc => L9 0 rfl rfl) <| zgq (Gd.t1 rfl rfl rfl) (fun hc => L9 1 rfl rfl) <| zgv (Gd.t1 rfl rfl rfl) (fun hc => (opds_2 (gh hc rfl) (gh hc rfl))) (fun hc => (fun w hw => c_impl_SamePuzzle ((M.puz z.rules z.position z.depth).1) z (ok_ hw) (ok_ hw) (r0 := (oh_ hc)) (r1 := (oh_ hc)) (r2 := (oh_ hc)) (r3 := (oh_ hc)))) ?_
 refine Qq (p_pickAnd rfl rfl rfl) <| Qa rfl <| JL.nil ?_
 refine zR x4 ?_
 simp [outV, M.okZ]
theorem c_impl_AnswerLoss (z : M.Puz) {v_z : Value} (move : Int) {w : World} (h_z : (Ty.agg (cPuzzle z)).ok w v_z) (r0 : z.position.pits.length ≤ 4194304 := by exact om_) (r1 : z.position.stores.length ≤ 4194304 := by exact om_) : RetV Tryz.prog 15 [v_z, .int .i64 move] w (.tuple #[.int .i64 ((M.ans z move).1), .int .i64 ((M.ans z move).2)]) := by
 revert v_z; apply opn
 intro A1 c1 h1 bl1 bh1 A2 c2 h2 bl2 bh2
 refine enter @Tryz.func15 @Tryz.ntmps15 rfl rfl ?_
 refine zent ?_
 refine zS <| zb rfl fun b3 => Qa rfl <| Qa rfl <| zJ <| zS <| Q9 0 rfl rfl ?_
 refine zv rfl (fun w hw => c_impl_ValidPuzzle z (ok_ hw)) <| Qt rfl <| JL.nil ?_
 refine zi (fun h4 h4' => ?_) fun h4 h4' => ?_
 ·
  have hno : M.okZ z = false := by simpa using h4
  have hE := M.ans_1 (move := move) hno
  refine zS <| Qa rfl <| Qa rfl <| JL.nil ?_
  refine zR (Up.refl _ _) ?_
  rw [hE]; rfl
 have hok : M.okZ z = true := by simpa using h4
 obtain ⟨hoc, hpz⟩ := M.okZ_parts hok
 have ho := M.optsC_ok hoc
 refine Js.skip <| zS <| Qf fh rfl <| Q9 0 rfl rfl ?_
 refine Qf fh rfl <| Q9 0 rfl rfl ?_
 refine Qm rfl <| zp rfl (fun w hw => c_impl_Rules_resultOf z.rules z.position move (ok_ hw) (ok_ hw)) ?_
 intro u5 x5 A6 c6 h6 bl6 bh6 A7 c7 h7 bl7 bh7
 refine Qm rfl <| Qx rfl rfl <| Qx rfl rfl <| za zeh fun b8 => zw 0 rfl rfl rfl ?_
 refine Qa rfl <| zJ <| zS <| Qm rfl <| Qd rfl rfl <| JL.nil ?_
 refine zi (fun h9 h9' => ?_) fun h9 h9' => ?_
 ·
  have hE := M.ans_c hok (by simpa using h9)
  refine zS <| Qm rfl <| Qa rfl <| Qa rfl <| JL.nil ?_
  refine zR x5 ?_
  rw [hE]; rfl
 have hz : (M.make z.rules z.position move).2 = 0 := by simpa using h9
 have hE := M.ans_0 hok hz
 have hmo := (M.make_ok hz).2.2.2.1
 have hml := M.okP_len hmo
 have hgb9 := M.make_gain hz
 have hvb9 := M.val_bd (z.depth - 1).toNat (M.make z.rules z.position move).1.next hmo
 have hmb9 := M.moveV_bd hgb9 hvb9
 have hzv := M.okZ_val hok
 refine Js.skip <| Js.seq ?_
 refine zdr [] ?_
 refine jF 0 fld_30_4 rfl rfl ?_
 refine jB 1 1 ty_2 rfl rfl rfl rfl ?_
 refine jF 2 fld_30_0 rfl rfl ?_
 refine JH.q 3 rfl (L9 1 rfl rfl) ?_
 refine JH.q 4 rfl (L9 0 rfl rfl) ?_
 refine jF 5 fld_30_0 rfl rfl ?_
 refine JH.q 6 rfl (L9 1 rfl rfl) ?_
 refine jF 7 fld_87_3 rfl rfl ?_
 refine JH.q 8 rfl (L9 0 rfl rfl) ?_
 refine jF 9 fld_30_2 rfl rfl ?_
 refine jB 10 1 ty_2 rfl rfl rfl rfl ?_
 refine JH.p 11 rfl (p_sub rfl rfl (IntWalk.i64_in _ (by omega))) ?_
 refine y1 12 ?_
 refine yv rfl rfl (fun w hw => c_impl_Rules_value z.rules (((M.make z.rules z.position move).1).next) (z.depth - 1) (ok_ hw) (ok_ hw) (r0 := hmo)) ?_
 refine y1 13 ?_
 refine yv rfl rfl (fun w hw => c_impl_Rules_moveValue z.rules ((M.make z.rules z.position move).1) (M.val z.rules (z.depth - 1).toNat (((M.make z.rules z.position move).1).next)) (ok_ hw) (ok_ hw) (r0 := hgb9)) ?_
 refine JH.p 14 rfl (p_sub rfl rfl (IntWalk.i64_in _ (by omega))) ?_
 refine jA 15 rfl rfl ?_
 refine jA 16 rfl rfl ?_
 refine yd ?_
 refine zR x5 ?_
 rw [hE]; rfl
theorem c_impl_SolutionOf (z : M.Puz) {v_z : Value} {w : World} (h_z : (Ty.agg (cPuzzle z)).ok w v_z) (r0 : z.position.pits.length ≤ 4194304 := by exact om_) (r1 : z.position.stores.length ≤ 4194304 := by exact om_) : Ret Tryz.prog 18 [v_z] w (Ty.tup [Ty.ints 2 (M.sol z), Ty.int (M.solC z)]) := by
 revert v_z; apply opn
 intro A1 c1 h1 bl1 bh1 A2 c2 h2 bl2 bh2
 refine enter @Tryz.func18 @Tryz.ntmps18 rfl rfl ?_
 refine zent ?_
 refine zS <| zb rfl fun b3 => Qa rfl <| Qa rfl <| zJ <| zS <| Q9 0 rfl rfl ?_
 refine zv rfl (fun w hw => c_impl_ValidPuzzle z (ok_ hw)) <| Qt rfl <| JL.nil ?_
 refine zi (fun h4 h4' => ?_) fun h4 h4' => ?_
 ·
  have hno : M.okZ z = false := by simpa using h4
  have hE := M.sol_no hno
  have hC := M.solC_no hno
  have hq0 : [] = M.sol z := by first | (rw [hE]; done) | (rw [hC]; done)
  have hq1 : 1 = M.solC z := by first | (rw [hE]; done) | (rw [hC]; done)
  refine zS <| Qa rfl <| Qa rfl <| JL.nil ?_
  exact zro (Up.refl _ _)
 have hok : M.okZ z = true := by simpa using h4
 obtain ⟨hoc, hpz⟩ := M.okZ_parts hok
 have ho := M.optsC_ok hoc
 have hE := M.sol_yes hok
 have hC := M.solC_yes hok
 refine Js.skip <| zS <| Qf fh rfl <| Q9 0 rfl rfl ?_
 refine Qf fh rfl <| Q9 0 rfl rfl ?_
 refine Qf fh rfl <| Q0 0 rfl rfl rfl <| zcs rfl (fun w hw => c_impl_SearchLine z.rules z.position z.depth (ok_ hw) (ok_ hw)) ?_
 intro A6 c6 bl6 bh6
 have hq0 : (M.lineR z.rules z.position z.depth) = M.sol z := by first | (rw [hE]; done) | (rw [hC]; done)
 have hq1 : (M.srchC z.rules z.position z.depth) = M.solC z := by first | (rw [hE]; done) | (rw [hC]; done)
 refine Qx rfl rfl <| Qx rfl rfl <| Qa rfl <| Qa rfl <| JL.nil ?_
 exact zro (Up.refl _ _)
theorem c_spec_l21Of (r : M.Rul) {v_r : Value} (p : M.Pos) {v_p : Value} (depth : Int) {w : World} (h_r : (Ty.ref (cRules r)).ok w v_r) (h_p : (Ty.ref (cPosition p)).ok w v_p) (r0 : p.pits.length ≤ 4194304 := by exact om_) (r1 : p.stores.length ≤ 4194304 := by exact om_) : Ret Tryz.prog 55 [v_r, v_p, .int .i64 depth] w (Ty.tup [Ty.agg (cPuzzle ((M.puz r p depth).1)), Ty.int ((M.puz r p depth).2)]) := by
 revert v_r; apply opn
 intro b1 o1 hr1
 revert v_p; apply opn
 intro b4 o4 A2 c2 h2 bl2 bh2 A3 c3 h3 bl3 bh3 hr4
 refine enter @Tryz.func55 @Tryz.ntmps55 rfl rfl ?_
 refine zent ?_
 refine zS <| za zeh fun b5 => Qa rfl <| zN <| Qm rfl <| Qm rfl <| Qm rfl <| zp rfl (fun w hw => c_spec_l15Options r p depth (ok_ hw) (ok_ hw)) ?_
 intro u6 x6 A7 c7 h7 bl7 bh7
 refine Qm rfl <| Qx rfl rfl <| Qx rfl rfl <| Qa rfl <| Qa rfl <| zJ <| zS <| Qm rfl <| Qd rfl rfl <| JL.nil ?_
 refine zi (fun h8 h8' => ?_) fun h8 h8' => ?_
 ·
  have hE := M.puz_c (r := r) (p := p) (depth := depth) (by simpa using h8)
  have hq0 : 0 = (((M.puz r p depth).1).rules).pits := rp_ hE
  have hq1 : 0 = (((M.puz r p depth).1).rules).seeds := rp_ hE
  have hq2 : false = (((M.puz r p depth).1).rules).stores := rp_ hE
  have hq3 : false = (((M.puz r p depth).1).rules).skip := rp_ hE
  have hq4 : false = (((M.puz r p depth).1).rules).relay := rp_ hE
  have hq5 : false = (((M.puz r p depth).1).rules).feed := rp_ hE
  have hq6 : false = (((M.puz r p depth).1).rules).again := rp_ hE
  have hq7 : 0 = (((M.puz r p depth).1).rules).capture := rp_ hE
  have hq8 : 0 = (((M.puz r p depth).1).rules).slam := rp_ hE
  have hq9 : [] = (((M.puz r p depth).1).position).pits := rp_ hE
  have hq10 : [] = (((M.puz r p depth).1).position).stores := rp_ hE
  have hq11 : 0 = (((M.puz r p depth).1).position).player := rp_ hE
  have hq12 : 0 = ((M.puz r p depth).1).depth := rp_ hE
  have hq13 : 0 = ((M.puz r p depth).1).move := rp_ hE
  have hq14 : 0 = ((M.puz r p depth).1).value := rp_ hE
  have hq15 : 0 = ((M.puz r p depth).1).margin := rp_ hE
  have hq16 : (M.optsC r p depth) = (M.puz r p depth).2 := rp_ hE
  refine zS <| Qb ?_
  refine Qm rfl <| zw 0 rfl rfl rfl ?_
  refine Qa rfl <| JL.nil ?_
  exact zro x6
 have hz : M.optsC r p depth = 0 := by simpa using h8
 have ho := M.optsC_ok hz
 have hR := M.optsR_yes hz
 have hrl := M.optsR_len r p depth
 have hol := M.opts_len r p depth
 have g8 := M.results_8 ho.1
 have hOb : ∀ x ∈ (M.optsR r p depth), -2000 ≤ x.value ∧ x.value ≤ 2000 := by rw [hR]; exact fun x hx => M.opts_bd ho.1 (by omega) ho.2.2.1 hx
 refine Js.skip <| Js.seq <| zS <| Qm rfl <| Qz rfl <| Ql rfl rfl <| JL.nil ?_
 refine zi (fun h9 h9' => ?_) fun h9 h9' => ?_
 ·
  have hE := M.puz_2 hz (by rw [← hR]; have := h9'; omega)
  have hq0 : 0 = (((M.puz r p depth).1).rules).pits := rp_ hE
  have hq1 : 0 = (((M.puz r p depth).1).rules).seeds := rp_ hE
  have hq2 : false = (((M.puz r p depth).1).rules).stores := rp_ hE
  have hq3 : false = (((M.puz r p depth).1).rules).skip := rp_ hE
  have hq4 : false = (((M.puz r p depth).1).rules).relay := rp_ hE
  have hq5 : false = (((M.puz r p depth).1).rules).feed := rp_ hE
  have hq6 : false = (((M.puz r p depth).1).rules).again := rp_ hE
  have hq7 : 0 = (((M.puz r p depth).1).rules).capture := rp_ hE
  have hq8 : 0 = (((M.puz r p depth).1).rules).slam := rp_ hE
  have hq9 : [] = (((M.puz r p depth).1).position).pits := rp_ hE
  have hq10 : [] = (((M.puz r p depth).1).position).stores := rp_ hE
  have hq11 : 0 = (((M.puz r p depth).1).position).player := rp_ hE
  have hq12 : 0 = ((M.puz r p depth).1).depth := rp_ hE
  have hq13 : 0 = ((M.puz r p depth).1).move := rp_ hE
  have hq14 : 0 = ((M.puz r p depth).1).value := rp_ hE
  have hq15 : 0 = ((M.puz r p depth).1).margin := rp_ hE
  have hq16 : 6 = (M.puz r p depth).2 := rp_ hE
  refine zS <| Qb ?_
  refine zw 0 rfl rfl rfl ?_
  refine Qa rfl <| JL.nil ?_
  exact zro x6
 have h2 : ¬ (M.optsR r p depth).length < 2 := by have := h9'; omega
 have hbb := hOb _ (M.bOpt_mem (l := (M.optsR r p depth)) (by omega))
 refine Js.skip <| zS <| Qm rfl <| zp rfl (fun w hw => c_spec_l15First (M.optsR r p depth) (ok_ hw)) ?_
 intro u10 x10
 refine za zeh fun b11 => zw 0 rfl rfl rfl ?_
 refine zN <| Qa rfl <| zJ <| zS <| Qa rfl <| JL.nil <| Js.block ?_
 refine zl [0, 1, 2, 6, 8, 10] (fun F U l os u m => ∃ (k : Nat) (s : Int), l = F [(11, .int .i64 s), (12, .int .i64 (k : Int))] ∧ os = U [] ∧ (M.second (M.bOpt (M.optsR r p depth)).move s ((M.optsR r p depth).drop k) = M.second (M.bOpt (M.optsR r p depth)).move (-1000) (M.optsR r p depth)) ∧ (-2000 ≤ s) ∧ (s ≤ 2000) ∧ (k ≤ (M.optsR r p depth).length) ∧ m = (M.optsR r p depth).length - k) ⟨0, (-1000), rfl, rfl, by rfl, zt, zt, zt, rfl⟩ ?_
 rintro _ _ u12 _ ⟨k, s, rfl, rfl, hS, s0, s1, hk, rfl⟩ x12
 refine zn ?_
 refine Js.seq <| zS <| Qm rfl <| Qm rfl <| Qz rfl <| Ql rfl rfl <| JL.nil ?_
 refine zi (fun h13 h13' => ?_) fun h13 h13' => ?_
 ·
  obtain ⟨ye14, hye14⟩ : ∃ x, (M.optsR r p depth)[k]? = some x := ⟨_, List.getElem?_eq_getElem (by omega)⟩
  refine Js.skip <| Js.seq <| Js.block <| Js.seq ?_
  refine zdr [] ?_
  refine jM 0 rfl rfl ?_
  refine jM 1 rfl rfl ?_
  have hy15 := hye14
  obtain ⟨b15, o15, he15, hr15⟩ := elem_Option (Ty.mono _ h7 (x10.vis.trans x12.vis)) hy15
  refine jI 2 el_95 rfl rfl rfl he15 ?_
  refine jF 3 fld_99_0 rfl rfl ?_
  refine jW 4 ty_2 rfl rfl (fun hv => (hr15.vis hv) 0 _ rfl) ?_
  refine jF 5 fld_99_0 rfl rfl ?_
  refine jB 6 0 ty_2 rfl rfl rfl rfl ?_
  refine JH.p 7 rfl (p_neq rfl rfl) ?_
  refine yd ?_
  refine zi (fun h16 h16' => ?_) fun h16 h16' => ?_
  ·
   have hob := hOb _ (List.mem_of_getElem? hye14)
   have hS2 := M.second_s hS hye14
   rw [if_neg (by simpa using h16)] at hS2
   have hy17 := hye14
   obtain ⟨b17, o17, he17, hr17⟩ := elem_Option (Ty.mono _ h7 (x10.vis.trans x12.vis)) hy17
   refine Js.region <| Qm rfl <| Qm rfl <| Qm rfl <| Qq (p_indexAddr el_95 rfl rfl (by omega) (by omega) he17) <| Qf fh rfl <| QC (hr17 1 _ rfl) rfl <| zv rfl (fun w hw => c_spec_l00Max s ye14.value) <| Qa rfl <| JL.nil <| Js.blockEnd <| Js.region <| Qm rfl <| Qp rfl rfl ?_
   refine Qa rfl <| JL.nil ?_
   exact zag ⟨k + 1, if s < ye14.value then ye14.value else s, rfl, rfl, by exact hS2, by first | omega | (split <;> omega), by first | omega | (split <;> omega), zt, rfl⟩ x12
  have hS2 := M.second_s hS hye14
  rw [if_pos (by simpa using h16)] at hS2
  refine Js.skip <| Js.blockEnd <| Js.region <| Qm rfl <| Qp rfl rfl <| Qa rfl <| JL.nil ?_
  exact zag ⟨k + 1, s, rfl, rfl, by exact hS2, by first | omega | (split <;> omega), by first | omega | (split <;> omega), zt, rfl⟩ x12
 have hS3 := M.second_e hS (by have := h13'; omega)
 refine zx ?_
 refine Js.seq <| zS <| Qm rfl <| Qf fh rfl <| Q0 0 rfl rfl rfl <| Qe rfl rfl <| JL.nil ?_
 refine zi (fun h18 h18' => ?_) fun h18 h18' => ?_
 ·
  have hE := M.puz_6 hz (by rw [← hR]; exact h2) (by rw [← hR, ← hS3]; simpa using h18)
  have hq0 : 0 = (((M.puz r p depth).1).rules).pits := rp_ hE
  have hq1 : 0 = (((M.puz r p depth).1).rules).seeds := rp_ hE
  have hq2 : false = (((M.puz r p depth).1).rules).stores := rp_ hE
  have hq3 : false = (((M.puz r p depth).1).rules).skip := rp_ hE
  have hq4 : false = (((M.puz r p depth).1).rules).relay := rp_ hE
  have hq5 : false = (((M.puz r p depth).1).rules).feed := rp_ hE
  have hq6 : false = (((M.puz r p depth).1).rules).again := rp_ hE
  have hq7 : 0 = (((M.puz r p depth).1).rules).capture := rp_ hE
  have hq8 : 0 = (((M.puz r p depth).1).rules).slam := rp_ hE
  have hq9 : [] = (((M.puz r p depth).1).position).pits := rp_ hE
  have hq10 : [] = (((M.puz r p depth).1).position).stores := rp_ hE
  have hq11 : 0 = (((M.puz r p depth).1).position).player := rp_ hE
  have hq12 : 0 = ((M.puz r p depth).1).depth := rp_ hE
  have hq13 : 0 = ((M.puz r p depth).1).move := rp_ hE
  have hq14 : 0 = ((M.puz r p depth).1).value := rp_ hE
  have hq15 : 0 = ((M.puz r p depth).1).margin := rp_ hE
  have hq16 : 6 = (M.puz r p depth).2 := rp_ hE
  refine zS <| Qb ?_
  refine zw 1 rfl rfl rfl ?_
  refine Qa rfl <| JL.nil ?_
  exact zro ((x6.trans x10).trans x12)
 have hE := M.puz_0 hz (by rw [← hR]; exact h2) (by rw [← hR, ← hS3]; simpa using h18)
 rw [← hR, ← hS3] at hE
 refine Js.skip <| Js.seq ?_
 refine zdr [15] ?_
 refine jM 0 rfl rfl ?_
 refine jN 1 rfl rfl ?_
 refine JH.w 2 rfl (fun os' u' hv => LS 0 (hr1.vis (((x6.vis.trans x10.vis).trans x12.vis).trans hv)) rfl) ?_
 refine jM 3 rfl rfl ?_
 refine jM 5 rfl rfl ?_
 refine jF 6 fld_99_0 rfl rfl ?_
 refine jB 7 0 ty_2 rfl rfl rfl rfl ?_
 refine jF 8 fld_99_1 rfl rfl ?_
 refine jB 9 0 ty_2 rfl rfl rfl rfl ?_
 refine jF 10 fld_99_1 rfl rfl ?_
 refine jB 11 0 ty_2 rfl rfl rfl rfl ?_
 refine jM 12 rfl rfl ?_
 refine JH.p 13 rfl (p_sub rfl rfl (IntWalk.i64_in _ (by omega))) ?_
 refine y1 4 ?_
 refine yc rfl rfl (fun w hw => c_spec_l04Own p (ok_ hw)) ?_
 intro A20 c20 bl20 bh20 A21 c21 bl21 bh21
 refine JH.p 14 rfl (q_bld) ?_
 refine y1 15 ?_
 refine yst rfl rfl rfl ?_
 refine jA 16 rfl rfl ?_
 refine yd ?_
 have hq0 : r.pits = (((M.puz r p depth).1).rules).pits := rp_ hE
 have hq1 : r.seeds = (((M.puz r p depth).1).rules).seeds := rp_ hE
 have hq2 : r.stores = (((M.puz r p depth).1).rules).stores := rp_ hE
 have hq3 : r.skip = (((M.puz r p depth).1).rules).skip := rp_ hE
 have hq4 : r.relay = (((M.puz r p depth).1).rules).relay := rp_ hE
 have hq5 : r.feed = (((M.puz r p depth).1).rules).feed := rp_ hE
 have hq6 : r.again = (((M.puz r p depth).1).rules).again := rp_ hE
 have hq7 : r.capture = (((M.puz r p depth).1).rules).capture := rp_ hE
 have hq8 : r.slam = (((M.puz r p depth).1).rules).slam := rp_ hE
 have hq9 : p.pits = (((M.puz r p depth).1).position).pits := rp_ hE
 have hq10 : p.stores = (((M.puz r p depth).1).position).stores := rp_ hE
 have hq11 : p.player = (((M.puz r p depth).1).position).player := rp_ hE
 have hq12 : depth = ((M.puz r p depth).1).depth := rp_ hE
 have hq13 : ((M.bOpt (M.optsR r p depth)).move) = ((M.puz r p depth).1).move := rp_ hE
 have hq14 : ((M.bOpt (M.optsR r p depth)).value) = ((M.puz r p depth).1).value := rp_ hE
 have hq15 : (((M.bOpt (M.optsR r p depth)).value) - s) = ((M.puz r p depth).1).margin := rp_ hE
 have hq16 : 0 = (M.puz r p depth).2 := rp_ hE
 exact zro ((x6.trans x10).trans x12)
theorem c_spec_l21Same (a : M.Puz) {v_a : Value} (b : M.Puz) {v_b : Value} {w : World} (h_a : (Ty.ref (cPuzzle a)).ok w v_a) (h_b : (Ty.ref (cPuzzle b)).ok w v_b) (r0 : a.position.pits.length ≤ 4194304 := by exact om_) (r1 : a.position.stores.length ≤ 4194304 := by exact om_) (r2 : b.position.pits.length ≤ 4194304 := by exact om_) (r3 : b.position.stores.length ≤ 4194304 := by exact om_) : RetV Tryz.prog 68 [v_a, v_b] w (.bool (M.samez a b)) := by
 revert v_a; apply opn
 intro b3 o3 A1 c1 h1 bl1 bh1 A2 c2 h2 bl2 bh2 hr3
 revert v_b; apply opn
 intro b6 o6 A4 c4 h4 bl4 bh4 A5 c5 h5 bl5 bh5 hr6
 refine enter @Tryz.func68 @Tryz.ntmps68 rfl rfl ?_
 refine zent ?_
 refine zS <| Qa rfl <| zJ ?_
 refine zdr [] ?_
 refine jM 0 rfl rfl ?_
 refine jN 1 rfl rfl ?_
 refine jF 2 fld_30_0 rfl rfl ?_
 refine JH.w 3 rfl (fun os' u' hv => LS 0 (hr3.vis hv) rfl) ?_
 refine jM 4 rfl rfl ?_
 refine jN 5 rfl rfl ?_
 refine jF 6 fld_30_0 rfl rfl ?_
 refine JH.w 7 rfl (fun os' u' hv => LS 0 (hr6.vis hv) rfl) ?_
 refine JH.p 8 rfl (p_eqlS (by kernel_rfl) (fun w => eqs_Rules a.rules b.rules w) rfl rfl) ?_
 refine jM 9 rfl rfl ?_
 refine JH.pg 10 rfl (Gd.t1 rfl rfl rfl) (fun hc => p_move rfl) ?_
 refine JH.pg 11 rfl (Gd.t1 rfl rfl rfl) (fun hc => p_nilCheck (gvt rfl hc)) ?_
 refine JH.pg 12 rfl (Gd.t1 rfl rfl rfl) (fun hc => p_fieldAddr fld_30_1.h (gvt rfl hc)) ?_
 refine JH.pg 13 rfl (Gd.t1 rfl rfl rfl) (fun hc => p_move rfl) ?_
 refine JH.pg 14 rfl (Gd.t1 rfl rfl rfl) (fun hc => p_nilCheck (gvt rfl hc)) ?_
 refine JH.pg 15 rfl (Gd.t1 rfl rfl rfl) (fun hc => p_fieldAddr fld_30_1.h (gvt rfl hc)) ?_
 refine y1 16 ?_
 refine JHo.ge rfl (Gd.t1 rfl rfl rfl) (fun hc => e_callV fn_120.h (opds_2 (gvt rfl hc) (gvt rfl hc)) (fun w hw => c_spec_l04Same a.position b.position (ok_ hw) (ok_ hw) (r0 := (oh_ hc)) (r1 := (oh_ hc)) (r2 := (oh_ hc)) (r3 := (oh_ hc)))) ?_
 refine JH.p 17 rfl (p_pickAnd rfl rfl rfl) ?_
 refine jM 18 rfl rfl ?_
 refine JH.pg 19 rfl (Gd.t1 rfl rfl rfl) (fun hc => p_move rfl) ?_
 refine JH.pg 20 rfl (Gd.t1 rfl rfl rfl) (fun hc => p_nilCheck (gvt rfl hc)) ?_
 refine JH.pg 21 rfl (Gd.t1 rfl rfl rfl) (fun hc => p_fieldAddr fld_30_2.h (gvt rfl hc)) ?_
 refine JH.wg 22 rfl (Gd.t1 rfl rfl rfl) (fun hc os' u' hv => q_load1 ty_2.h (gvt rfl hc) (Mem.pub ((hr3.vis hv) 12 _ rfl))) ?_
 refine JH.pg 23 rfl (Gd.t1 rfl rfl rfl) (fun hc => p_move rfl) ?_
 refine JH.pg 24 rfl (Gd.t1 rfl rfl rfl) (fun hc => p_nilCheck (gvt rfl hc)) ?_
 refine JH.pg 25 rfl (Gd.t1 rfl rfl rfl) (fun hc => p_fieldAddr fld_30_2.h (gvt rfl hc)) ?_
 refine JH.wg 26 rfl (Gd.t1 rfl rfl rfl) (fun hc os' u' hv => q_load1 ty_2.h (gvt rfl hc) (Mem.pub ((hr6.vis hv) 12 _ rfl))) ?_
 refine JH.pg 27 rfl (Gd.t1 rfl rfl rfl) (fun hc => p_eql (gvt rfl hc) (gvt rfl hc)) ?_
 refine JH.p 28 rfl (p_pickAnd rfl rfl rfl) ?_
 refine jM 29 rfl rfl ?_
 refine JH.pg 30 rfl (Gd.t1 rfl rfl rfl) (fun hc => p_move rfl) ?_
 refine JH.pg 31 rfl (Gd.t1 rfl rfl rfl) (fun hc => p_nilCheck (gvt rfl hc)) ?_
 refine JH.pg 32 rfl (Gd.t1 rfl rfl rfl) (fun hc => p_fieldAddr fld_30_3.h (gvt rfl hc)) ?_
 refine JH.wg 33 rfl (Gd.t1 rfl rfl rfl) (fun hc os' u' hv => q_load1 ty_2.h (gvt rfl hc) (Mem.pub ((hr3.vis hv) 13 _ rfl))) ?_
 refine JH.pg 34 rfl (Gd.t1 rfl rfl rfl) (fun hc => p_move rfl) ?_
 refine JH.pg 35 rfl (Gd.t1 rfl rfl rfl) (fun hc => p_nilCheck (gvt rfl hc)) ?_
 refine JH.pg 36 rfl (Gd.t1 rfl rfl rfl) (fun hc => p_fieldAddr fld_30_3.h (gvt rfl hc)) ?_
 refine JH.wg 37 rfl (Gd.t1 rfl rfl rfl) (fun hc os' u' hv => q_load1 ty_2.h (gvt rfl hc) (Mem.pub ((hr6.vis hv) 13 _ rfl))) ?_
 refine JH.pg 38 rfl (Gd.t1 rfl rfl rfl) (fun hc => p_eql (gvt rfl hc) (gvt rfl hc)) ?_
 refine JH.p 39 rfl (p_pickAnd rfl rfl rfl) ?_
 refine jM 40 rfl rfl ?_
 refine JH.pg 41 rfl (Gd.t1 rfl rfl rfl) (fun hc => p_move rfl) ?_
 refine JH.pg 42 rfl (Gd.t1 rfl rfl rfl) (fun hc => p_nilCheck (gvt rfl hc)) ?_
 refine JH.pg 43 rfl (Gd.t1 rfl rfl rfl) (fun hc => p_fieldAddr fld_30_4.h (gvt rfl hc)) ?_
 refine JH.wg 44 rfl (Gd.t1 rfl rfl rfl) (fun hc os' u' hv => q_load1 ty_2.h (gvt rfl hc) (Mem.pub ((hr3.vis hv) 14 _ rfl))) ?_
 refine JH.pg 45 rfl (Gd.t1 rfl rfl rfl) (fun hc => p_move rfl) ?_
 refine JH.pg 46 rfl (Gd.t1 rfl rfl rfl) (fun hc => p_nilCheck (gvt rfl hc)) ?_
 refine JH.pg 47 rfl (Gd.t1 rfl rfl rfl) (fun hc => p_fieldAddr fld_30_4.h (gvt rfl hc)) ?_
 refine JH.wg 48 rfl (Gd.t1 rfl rfl rfl) (fun hc os' u' hv => q_load1 ty_2.h (gvt rfl hc) (Mem.pub ((hr6.vis hv) 14 _ rfl))) ?_
 refine JH.pg 49 rfl (Gd.t1 rfl rfl rfl) (fun hc => p_eql (gvt rfl hc) (gvt rfl hc)) ?_
 refine JH.p 50 rfl (p_pickAnd rfl rfl rfl) ?_
 refine jM 51 rfl rfl ?_
 refine JH.pg 52 rfl (Gd.t1 rfl rfl rfl) (fun hc => p_move rfl) ?_
 refine JH.pg 53 rfl (Gd.t1 rfl rfl rfl) (fun hc => p_nilCheck (gvt rfl hc)) ?_
 refine JH.pg 54 rfl (Gd.t1 rfl rfl rfl) (fun hc => p_fieldAddr fld_30_5.h (gvt rfl hc)) ?_
 refine JH.wg 55 rfl (Gd.t1 rfl rfl rfl) (fun hc os' u' hv => q_load1 ty_2.h (gvt rfl hc) (Mem.pub ((hr3.vis hv) 15 _ rfl))) ?_
 refine JH.pg 56 rfl (Gd.t1 rfl rfl rfl) (fun hc => p_move rfl) ?_
 refine JH.pg 57 rfl (Gd.t1 rfl rfl rfl) (fun hc => p_nilCheck (gvt rfl hc)) ?_
 refine JH.pg 58 rfl (Gd.t1 rfl rfl rfl) (fun hc => p_fieldAddr fld_30_5.h (gvt rfl hc)) ?_
 refine JH.wg 59 rfl (Gd.t1 rfl rfl rfl) (fun hc os' u' hv => q_load1 ty_2.h (gvt rfl hc) (Mem.pub ((hr6.vis hv) 15 _ rfl))) ?_
 refine JH.pg 60 rfl (Gd.t1 rfl rfl rfl) (fun hc => p_eql (gvt rfl hc) (gvt rfl hc)) ?_
 refine JH.p 61 rfl (p_pickAnd rfl rfl rfl) ?_
 refine jA 62 rfl rfl ?_
 refine yd ?_
 refine zR (Up.refl _ _) ?_
 simp [outV, M.samez, Bool.and_assoc]
theorem c_spec_l21Ok (z : M.Puz) {v_z : Value} {w : World} (h_z : (Ty.ref (cPuzzle z)).ok w v_z) (r0 : z.position.pits.length ≤ 4194304 := by exact om_) (r1 : z.position.stores.length ≤ 4194304 := by exact om_) : RetV Tryz.prog 48 [v_z] w (.bool (M.okZ z)) := by
 have hsm := M.puz_small z.rules z.position z.depth
 have hs1 := hsm.sp
 have hs2 := hsm.ss
 revert v_z; apply opn
 intro b3 o3 A1 c1 h1 bl1 bh1 A2 c2 h2 bl2 bh2 hr3
 refine enter @Tryz.func48 @Tryz.ntmps48 rfl rfl ?_
 refine zent ?_
 refine zS <| Qa rfl <| zJ ?_
 refine zk [0] (fun F U l os u => ∃ (b7 : Nat) (A5 : Option Addr) (c5 : Nat) (A6 : Option Addr) (c6 : Nat), l = F [(3, .pointer (some ⟨b7, 0, none⟩)), (4, .int .i64 ((M.puz z.rules z.position z.depth).2))] ∧ os = [boxO b7 [.int .i64 ((((M.puz z.rules z.position z.depth).1).rules).pits), .int .i64 ((((M.puz z.rules z.position z.depth).1).rules).seeds), .bool ((((M.puz z.rules z.position z.depth).1).rules).stores), .bool ((((M.puz z.rules z.position z.depth).1).rules).skip), .bool ((((M.puz z.rules z.position z.depth).1).rules).relay), .bool ((((M.puz z.rules z.position z.depth).1).rules).feed), .bool ((((M.puz z.rules z.position z.depth).1).rules).again), .int .i64 ((((M.puz z.rules z.position z.depth).1).rules).capture), .int .i64 ((((M.puz z.rules z.position z.depth).1).rules).slam), .slice A5 (((((M.puz z.rules z.position z.depth).1).position).pits).length) c5, .slice A6 (((((M.puz z.rules z.position z.depth).1).position).stores).length) c6, .int .i64 ((((M.puz z.rules z.position z.depth).1).position).player), .int .i64 (((M.puz z.rules z.position z.depth).1).depth), .int .i64 (((M.puz z.rules z.position z.depth).1).move), .int .i64 (((M.puz z.rules z.position z.depth).1).value), .int .i64 (((M.puz z.rules z.position z.depth).1).margin)] 30] ∧ (((((M.puz z.rules z.position z.depth).1).position).pits).length ≤ c5) ∧ (c5 ≤ 9223372036854775807) ∧ ((Ty.ints 2 ((((M.puz z.rules z.position z.depth).1).position).pits)).ok u (.slice A5 (((((M.puz z.rules z.position z.depth).1).position).pits).length) c5)) ∧ (((((M.puz z.rules z.position z.depth).1).position).stores).length ≤ c6) ∧ (c6 ≤ 9223372036854775807) ∧ ((Ty.ints 2 ((((M.puz z.rules z.position z.depth).1).position).stores)).ok u (.slice A6 (((((M.puz z.rules z.position z.depth).1).position).stores).length) c6))) ?_ ?_
 ·
  refine zdr [15] ?_
  refine jM 0 rfl rfl ?_
  refine jN 1 rfl rfl ?_
  refine jF 2 fld_30_0 rfl rfl ?_
  refine jM 3 rfl rfl ?_
  refine jN 4 rfl rfl ?_
  refine jF 5 fld_30_1 rfl rfl ?_
  refine jM 6 rfl rfl ?_
  refine jN 7 rfl rfl ?_
  refine jF 8 fld_30_2 rfl rfl ?_
  refine jW 9 ty_2 rfl rfl (fun hv => (hr3.vis hv) 12 _ rfl) ?_
  refine y2 10 14 ?_ ?_
  ·
   refine yp rfl rfl (fun w hw => c_spec_l21Of z.rules z.position z.depth (ok_ hw) (ok_ hw)) ?_
   intro u13 x13 A14 c14 h14 bl14 bh14 A15 c15 h15 bl15 bh15
   refine jM 11 rfl rfl ?_
   refine JH.p 12 rfl (p_extract rfl rfl) ?_
   refine JH.p 13 rfl (p_extract rfl rfl) ?_
   refine y1 14 ?_
   refine ya rfl fun b16 => ?_
   refine y1 15 ?_
   refine yst rfl rfl rfl ?_
   refine jA 16 rfl rfl ?_
   refine yd ?_
   exact zm ⟨_, _, _, _, _, rfl, rfl, zt, zt, h14, zt, zt, h15⟩ x13
  refine ya rfl fun b17 => ?_
  refine y1 10 ?_
  refine yp rfl rfl (fun w hw => c_spec_l21Of z.rules z.position z.depth (ok_ hw) (ok_ hw)) ?_
  intro u18 x18 A19 c19 h19 bl19 bh19 A20 c20 h20 bl20 bh20
  refine jM 11 rfl rfl ?_
  refine JH.p 12 rfl (p_extract rfl rfl) ?_
  refine JH.p 13 rfl (p_extract rfl rfl) ?_
  refine y1 15 ?_
  refine yst rfl rfl rfl ?_
  refine jA 16 rfl rfl ?_
  refine yd ?_
  exact zm ⟨_, _, _, _, _, rfl, rfl, zt, zt, h19, zt, zt, h20⟩ x18
 rintro _ _ u12 ⟨b7, A5, c5, A6, c6, rfl, rfl, f12_0, f12_1, f12_2, f12_3, f12_4, f12_5⟩ x12
 refine zn ?_
 refine zS <| Qm rfl <| Qe rfl rfl <| Qm rfl <| zg (Gd.t1 rfl rfl rfl) (fun hc => p_move rfl) <| zgv (Gd.t1 rfl rfl rfl) (fun hc => (opds_2 rfl (gh hc rfl))) (fun hc => (fun w hw => c_spec_l21Same ((M.puz z.rules z.position z.depth).1) z (ok_ hw) (ok_ hw) (r0 := (oh_ hc)) (r1 := (oh_ hc)) (r2 := (oh_ hc)) (r3 := (oh_ hc)))) ?_
 refine Qq (p_pickAnd rfl rfl rfl) <| Qa rfl <| JL.nil ?_
 refine zR x12 ?_
 simp [outV, M.okZ]
theorem c_spec_MoveFault (r : M.Rul) {v_r : Value} (p : M.Pos) {v_p : Value} (move : Int) {w : World} (h_r : (Ty.agg (cRules r)).ok w v_r) (h_p : (Ty.agg (cPosition p)).ok w v_p) (r0 : p.pits.length ≤ 4194304 := by exact om_) (r1 : p.stores.length ≤ 4194304 := by exact om_) : RetV Tryz.prog 64 [v_r, v_p, .int .i64 move] w (.int .i64 ((M.make r p move).2)) := by
 revert v_r; apply opn
 revert v_p; apply opn
 intro A1 c1 h1 bl1 bh1 A2 c2 h2 bl2 bh2
 refine enter @Tryz.func64 @Tryz.ntmps64 rfl rfl ?_
 refine zent ?_
 refine zS <| zb rfl fun b3 => zb rfl fun b4 => Qa rfl <| zN <| Qm rfl <| zp rfl (fun w hw => c_spec_l07Make r p move (ok_ hw) (ok_ hw)) ?_
 intro u5 x5 A6 c6 h6 bl6 bh6 A7 c7 h7 bl7 bh7
 refine Qm rfl <| Qx rfl rfl <| Qx rfl rfl <| za zeh fun b8 => zw 0 rfl rfl rfl ?_
 refine Qa rfl <| zN <| Qm rfl <| Qa rfl <| JL.nil ?_
 exact zr x5
theorem c_spec_AnswerLoss (z : M.Puz) {v_z : Value} (move : Int) {w : World} (h_z : (Ty.agg (cPuzzle z)).ok w v_z) (r0 : z.position.pits.length ≤ 4194304 := by exact om_) (r1 : z.position.stores.length ≤ 4194304 := by exact om_) : RetV Tryz.prog 16 [v_z, .int .i64 move] w (.tuple #[.int .i64 ((M.ans z move).1), .int .i64 ((M.ans z move).2)]) := by
 revert v_z; apply opn
 intro A1 c1 h1 bl1 bh1 A2 c2 h2 bl2 bh2
 refine enter @Tryz.func16 @Tryz.ntmps16 rfl rfl ?_
 refine zent ?_
 refine zS <| zb rfl fun b3 => Qa rfl <| Qa rfl <| zJ <| zS <| zv rfl (fun w hw => c_spec_l21Ok z (ok_ hw)) <| Qt rfl <| JL.nil ?_
 refine zi (fun h4 h4' => ?_) fun h4 h4' => ?_
 ·
  have hno : M.okZ z = false := by simpa using h4
  have hE := M.ans_1 (move := move) hno
  refine zS <| Qa rfl <| Qa rfl <| JL.nil ?_
  refine zR (Up.refl _ _) ?_
  first | (rw [hE]; done) | (rw [hE, ← hgv]; rfl) | (rw [hE]; rfl)
 have hok : M.okZ z = true := by simpa using h4
 obtain ⟨hoc, hpz⟩ := M.okZ_parts hok
 have ho := M.optsC_ok hoc
 have hl9 := M.okP_len ho.1
 refine Js.skip <| zS <| Qf fh rfl <| Q9 0 rfl rfl ?_
 refine Qf fh rfl <| Q9 0 rfl rfl ?_
 refine Qm rfl <| zv rfl (fun w hw => c_spec_MoveFault z.rules z.position move (ok_ hw) (ok_ hw)) <| Qa rfl <| zJ <| zS <| Qm rfl <| Qd rfl rfl <| JL.nil ?_
 refine zi (fun h5 h5' => ?_) fun h5 h5' => ?_
 ·
  have hE := M.ans_c hok (by simpa using h5)
  refine zS <| Qm rfl <| Qa rfl <| Qa rfl <| JL.nil ?_
  refine zR (Up.refl _ _) ?_
  first | (rw [hE]; done) | (rw [hE, ← hgv]; rfl) | (rw [hE]; rfl)
 have hz : (M.make z.rules z.position move).2 = 0 := by simpa using h5
 have hE := M.ans_0 hok hz
 have hR := M.optsR_yes hoc
 have hol := M.opts_len z.rules z.position z.depth
 have g8 := M.results_8 ho.1
 have hzv := M.okZ_val hok
 have hOb : ∀ x ∈ (M.optsR z.rules z.position z.depth), -2000 ≤ x.value ∧ x.value ≤ 2000 := by rw [hR]; exact fun x hx => M.opts_bd ho.1 (by omega) ho.2.2.1 hx
 refine Js.skip <| zS <| Qf fh rfl <| Qf fh rfl <| Qf fh rfl <| Q0 0 rfl rfl rfl <| zp rfl (fun w hw => c_spec_l15Options z.rules z.position z.depth ⟨_, _, [.int .i64 z.rules.pits, .int .i64 z.rules.seeds, .bool z.rules.stores, .bool z.rules.skip, .bool z.rules.relay, .bool z.rules.feed, .bool z.rules.again, .int .i64 z.rules.capture, .int .i64 z.rules.slam], rfl, ⟨rfl, rfl, rfl, rfl, rfl, rfl, rfl, rfl, rfl, trivial⟩, Mem.boxR (i := 0) rfl 0 9 _ hw⟩ ⟨_, _, [.slice A1 z.position.pits.length c1, .slice A2 z.position.stores.length c2, .int .i64 z.position.player], rfl, ⟨(ok_ hw), (ok_ hw), rfl, trivial⟩, Mem.boxR (i := 0) rfl 9 3 _ hw⟩) ?_
 intro u6 x6 A7 c7 h7 bl7 bh7
 refine Qm rfl <| Qx rfl rfl <| Qx rfl rfl <| Qa rfl <| Qa rfl <| zJ <| zS <| Qa rfl <| JL.nil <| Js.block ?_
 refine zl [1, 2, 7] (fun F U l os u m => ∃ (k : Nat), l = F [(9, .int .i64 (k : Int))] ∧ os = U [] ∧ (k ≤ (M.optsR z.rules z.position z.depth).length) ∧ (∀ (j : Nat) (x : M.Opt), j < k → (M.optsR z.rules z.position z.depth)[j]? = some x → x.move ≠ move) ∧ m = (M.optsR z.rules z.position z.depth).length - k) ⟨0, rfl, rfl, zt, by exact fun j x hj => absurd hj (by omega), rfl⟩ ?_
 rintro _ _ u8 _ ⟨k, rfl, rfl, hk, hn, rfl⟩ x8
 refine zn ?_
 refine Js.seq <| zS <| Qm rfl <| Qm rfl <| Qz rfl <| Ql rfl rfl <| JL.nil ?_
 refine zi (fun h9 h9' => ?_) fun h9 h9' => ?_
 ·
  obtain ⟨ye10, hye10⟩ : ∃ x, (M.optsR z.rules z.position z.depth)[k]? = some x := ⟨_, List.getElem?_eq_getElem (by omega)⟩
  have hy11 := hye10
  obtain ⟨b11, o11, he11, hr11⟩ := elem_Option (Ty.mono _ h7 x8.vis) hy11
  refine Js.skip <| Js.seq <| Js.block <| zS <| Qm rfl <| Qm rfl <| Qq (p_indexAddr el_95 rfl rfl (by omega) (by omega) he11) <| Qf fh rfl <| QC (hr11 0 _ rfl) rfl <| Qm rfl <| Qe rfl rfl <| JL.nil ?_
  refine zi (fun h12 h12' => ?_) fun h12 h12' => ?_
  ·
   have hob := hOb _ (List.mem_of_getElem? hye10)
   have hgv := M.opts_get (r := z.rules) (p := z.position) (depth := z.depth) (move := move) (by rw [← hR]; exact hye10) (by simpa using h12)
   refine Js.seq ?_
   refine zdr [] ?_
   refine jF 0 fld_30_4 rfl rfl ?_
   refine jB 1 0 ty_2 rfl rfl rfl rfl ?_
   refine jM 2 rfl rfl ?_
   refine jM 3 rfl rfl ?_
   have hy13 := hye10
   obtain ⟨b13, o13, he13, hr13⟩ := elem_Option (Ty.mono _ h7 x8.vis) hy13
   refine jI 4 el_95 rfl rfl rfl he13 ?_
   refine jF 5 fld_99_1 rfl rfl ?_
   refine jW 6 ty_2 rfl rfl (fun hv => (hr13.vis hv) 1 _ rfl) ?_
   refine JH.p 7 rfl (p_sub rfl rfl (IntWalk.i64_in _ (by omega))) ?_
   refine jA 8 rfl rfl ?_
   refine jA 9 rfl rfl ?_
   refine yd ?_
   refine zR (x6.trans x8) ?_
   first | (rw [hE]; done) | (rw [hE, ← hgv]; rfl) | (rw [hE]; rfl)
  have hn2 := M.none_stepO hn hye10 (by simpa using h12)
  refine Js.skip <| Js.blockEnd <| Js.region <| Qm rfl <| Qp rfl rfl <| Qa rfl <| JL.nil ?_
  exact zag ⟨k + 1, rfl, rfl, zt, by exact hn2, rfl⟩ x8
 obtain ⟨j, hj, x, hx, hmv⟩ := M.opts_has (depth := z.depth) hz; rw [← hR] at hj hx; have h9 := h9; simp at h9; exact absurd hmv (hn j _ (by omega) hx)
theorem c_spec_SolutionOf (z : M.Puz) {v_z : Value} {w : World} (h_z : (Ty.agg (cPuzzle z)).ok w v_z) (r0 : z.position.pits.length ≤ 4194304 := by exact om_) (r1 : z.position.stores.length ≤ 4194304 := by exact om_) : Ret Tryz.prog 19 [v_z] w (Ty.tup [Ty.ints 2 (M.sol z), Ty.int (M.solC z)]) := by
 revert v_z; apply opn
 intro A1 c1 h1 bl1 bh1 A2 c2 h2 bl2 bh2
 refine enter @Tryz.func19 @Tryz.ntmps19 rfl rfl ?_
 refine zent ?_
 refine zS <| zb rfl fun b3 => Qa rfl <| Qa rfl <| zJ <| zS <| zv rfl (fun w hw => c_spec_l21Ok z (ok_ hw)) <| Qt rfl <| JL.nil ?_
 refine zi (fun h4 h4' => ?_) fun h4 h4' => ?_
 ·
  have hno : M.okZ z = false := by simpa using h4
  have hE := M.sol_no hno
  have hC := M.solC_no hno
  have hq0 : [] = M.sol z := by first | (rw [hE]; done) | (rw [hC]; done)
  have hq1 : 1 = M.solC z := by first | (rw [hE]; done) | (rw [hC]; done)
  refine zS <| Qa rfl <| Qa rfl <| JL.nil ?_
  exact zro (Up.refl _ _)
 have hok : M.okZ z = true := by simpa using h4
 obtain ⟨hoc, hpz⟩ := M.okZ_parts hok
 have ho := M.optsC_ok hoc
 have hl9 := M.okP_len ho.1
 have hE := M.sol_yes hok
 have hC := M.solC_yes hok
 refine Js.skip <| zS <| Qf fh rfl <| Q9 0 rfl rfl ?_
 refine Qf fh rfl <| Q9 0 rfl rfl ?_
 refine Qf fh rfl <| Q0 0 rfl rfl rfl <| zcs rfl (fun w hw => c_spec_SearchLine z.rules z.position z.depth (ok_ hw) (ok_ hw)) ?_
 intro A6 c6 bl6 bh6
 have hq0 : (M.lineR z.rules z.position z.depth) = M.sol z := by first | (rw [hE]; done) | (rw [hC]; done)
 have hq1 : (M.srchC z.rules z.position z.depth) = M.solC z := by first | (rw [hE]; done) | (rw [hC]; done)
 refine Qx rfl rfl <| Qx rfl rfl <| Qa rfl <| Qa rfl <| JL.nil ?_
 exact zro (Up.refl _ _)
theorem c_spec_l21Bent (s_code : Nat) (s_at s_seed : Int) {As_0 : Option Addr} {cs_0 bs : Nat} {w : World} (hb : Bw w [boxO bs [.slice As_0 s_code cs_0, .int .i64 s_at, .int .u64 s_seed] 126]) (hps_0 : (Ty.bytes 5 s_code).ok (offW w (([boxO bs [.slice As_0 s_code cs_0, .int .i64 s_at, .int .u64 s_seed] 126] : List Own).flatMap (·.fp))) (.slice As_0 s_code cs_0)) (r0 : 0 ≤ s_at := by exact om_) (r1 : s_at ≤ 999960000 := by exact om_) (r2 : s_code ≤ 1048576 := by exact om_) : RetB Tryz.prog 39 [.pointer (some ⟨bs, 0, none⟩)] w [boxO bs [.slice As_0 s_code cs_0, .int .i64 s_at, .int .u64 s_seed] 126] (fun v bs' => ∃ (ZX : M.Puz) (AT SD : Int) (Axr_9 : Option Addr) (cxr_9 : Nat) (gxr_9 : List Nat) (Axr_10 : Option Addr) (cxr_10 : Nat) (gxr_10 : List Nat), v = .agg #[.int .i64 ZX.rules.pits, .int .i64 ZX.rules.seeds, .bool ZX.rules.stores, .bool ZX.rules.skip, .bool ZX.rules.relay, .bool ZX.rules.feed, .bool ZX.rules.again, .int .i64 ZX.rules.capture, .int .i64 ZX.rules.slam, .slice Axr_9 ZX.position.pits.length cxr_9, .slice Axr_10 ZX.position.stores.length cxr_10, .int .i64 ZX.position.player, .int .i64 ZX.depth, .int .i64 ZX.move, .int .i64 ZX.value, .int .i64 ZX.margin] ∧ bs' = [boxO bs [.slice As_0 s_code cs_0, .int .i64 AT, .int .u64 SD] 126, rowO 2 1 (.slice Axr_9 ZX.position.pits.length cxr_9) ZX.position.pits.length (ints_ ZX.position.pits) gxr_9, rowO 2 1 (.slice Axr_10 ZX.position.stores.length cxr_10) ZX.position.stores.length (ints_ ZX.position.stores) gxr_10] ∧ ZX.position.pits.length ≤ cxr_9 ∧ cxr_9 ≤ 9223372036854775807 ∧ ZX.position.stores.length ≤ cxr_10 ∧ cxr_10 ≤ 9223372036854775807 ∧ (ZX.position.pits.length ≤ 4194304 ∧ ZX.position.stores.length ≤ 4194304) ∧ (s_at ≤ AT) ∧ (AT ≤ s_at + 40000)) := by
 refine enterB hb @Tryz.func39 @Tryz.ntmps39 rfl rfl ?_
 refine zent ?_
 refine Js.trashE ?_
 refine zn ?_
 refine zS <| za zeh fun b1 => zN <| Qb ?_
 refine za zeh fun b2 => zw 0 rfl rfl rfl ?_
 refine zJ <| zS <| Qa rfl <| JL.nil <| Js.block ?_
 refine zl [0, 2, 3] (fun F U l os u m => ∃ (k at1 sd1 : Int) (G3_3 : List Nat), l = F [(4, .int .i64 k)] ∧ os = U [nO, nO, some (boxO bs [.slice As_0 s_code cs_0, .int .i64 at1, .int .u64 sd1] 126), some (anyO G3_3)] ∧ (0 ≤ k ∧ k ≤ 6) ∧ (s_at ≤ at1) ∧ (at1 ≤ s_at + 5500 * k) ∧ m = (6 - k).toNat) ⟨0, s_at, s_seed, _, rfl, rfl, zt, zt, zt, rfl⟩ ?_
 rintro _ _ u3 _ ⟨k, at1, sd1, G3_3, rfl, rfl, hk, ha0, ha1, rfl⟩ x3
 refine zn ?_
 refine Js.seq <| zS <| Qm rfl <| Ql rfl rfl <| JL.nil ?_
 refine zi (fun h4 h4' => ?_) fun h4 h4' => ?_
 ·
  refine Js.skip <| Js.seq <| Js.block <| zS <| Qm rfl ?_
  refine zhl [2] ?_
  refine zBB 1 sp_ rfl (fun w hb _ hw => c_spec_l15Draw s_code at1 sd1 hb (ok_ hw)) ?_
  rintro _ _ G5 ⟨X5RX, X5PX, X5AT, X5SD, A5rb_0, c5rb_0, A5rb_1, c5rb_1, g5rb_1, rfl, rfl, bl5_0, bl5_1, bl5_2, bl5_3, hX5_0, hX5_1, hX5_2, hX5_3⟩
  refine znl ?_
  refine Qm rfl <| Qx rfl rfl <| Qx rfl rfl <| za zeh fun b6 => za zeh fun b7 => zw 1 rfl rfl rfl ?_
  refine zw 0 rfl rfl rfl ?_
  refine JL.nil ?_
  refine zf [0, 0, 0, 0, 0, 1, 1] fun GG8 => ?_
  refine zn ?_
  refine zS <| Qm rfl ?_
  refine zhl [2] ?_
  refine zBB 1 sp_ rfl (fun w hb _ hw => c_spec_l00Src_pick s_code X5AT X5SD 3 hb (ok_ hw)) ?_
  rintro _ _ G9 ⟨X9KX, X9AT, X9SD, rfl, rfl, hX9_0, hX9_1, hX9_2, hX9_3⟩
  refine znl ?_
  refine Qp rfl rfl <| zc rfl (fun w hw => c_spec_l21Of X5RX X5PX (1 + X9KX) (okx_ hw) (okx_ hw)) ?_
  intro A12 c12 bl12 bh12 A13 c13 bl13 bh13
  refine Qm rfl <| Qx rfl rfl <| Qx rfl rfl <| za zeh fun b14 => zw 0 rfl rfl rfl ?_
  refine Qa rfl <| JL.nil ?_
  refine zf [0, 0, 0, 0, 5, 5] fun GG15 => ?_
  refine zn ?_
  have hsm : M.SmallP (((M.puz X5RX X5PX (1 + X9KX)).1)).position := M.puz_small _ _ _
  have hs1 := hsm.sp
  have hs2 := hsm.ss
  refine zS <| Qm rfl <| Qe rfl rfl <| JL.nil ?_
  refine zi (fun h16 h16' => ?_) fun h16 h16' => ?_
  ·
   refine zS <| Q9 0 rfl rfl ?_
   refine zw 4 rfl rfl rfl ?_
   refine JL.nil ?_
   refine zf [1, 1, 1, 1, 1] fun GG17 => ?_
   refine zn ?_
   refine zx ?_
   refine Js.seq <| zS <| Qm rfl ?_
   refine zhl [2] ?_
   refine zBB 1 sp_ rfl (fun w hb _ hw => c_spec_l00Src_pick s_code X9AT X9SD 24 hb (ok_ hw)) ?_
   rintro _ _ G18 ⟨X18KX, X18AT, X18SD, rfl, rfl, hX18_0, hX18_1, hX18_2, hX18_3⟩
   refine znl ?_
   refine JL.nil ?_
   refine zf [0, 1, 1, 1, 1] fun GG19 => ?_
   refine zn ?_
   refine Js.block <| zS <| Qe rfl rfl <| Qa rfl <| JL.nil ?_
   refine zi (fun h20 h20' => ?_) fun h20 h20' => ?_
   ·
    refine Js.region <| Qf fh rfl <| Q0 3 rfl rfl rfl <| Qq (p_add rfl rfl rfl) <| Qf fh rfl <| zw 3 rfl rfl rfl ?_
    refine JL.nil <| Js.blockEnd <| zS <| Q9 3 rfl rfl ?_
    refine zw 4 rfl rfl rfl ?_
    refine JL.nil ?_
    refine zf [0, 0, 0, 1] fun GG21 => ?_
    refine zn ?_
    refine zrb [0, 1, 0] hb x3 ?_
    refine ⟨((M.Puz.mk (((M.puz X5RX X5PX (1 + X9KX)).1).rules) (((M.puz X5RX X5PX (1 + X9KX)).1).position) (((M.puz X5RX X5PX (1 + X9KX)).1).depth) (IntKind.i64.wrap ((((M.puz X5RX X5PX (1 + X9KX)).1).move) + 1)) (((M.puz X5RX X5PX (1 + X9KX)).1).value) (((M.puz X5RX X5PX (1 + X9KX)).1).margin))), (X18AT), (X18SD), A12, c12, [], A13, c13, [], rfl, ?_, ?_, ?_, ?_, ?_, by first | trivial | assumption | omega | (dsimp only; omega) | (constructor <;> first | assumption | omega) | (dsimp only; constructor <;> first | assumption | omega | (simp; done)), by first | trivial | assumption | omega | (dsimp only; omega) | (constructor <;> first | assumption | omega) | (dsimp only; constructor <;> first | assumption | omega | (simp; done)), by first | trivial | assumption | omega | (dsimp only; omega) | (constructor <;> first | assumption | omega) | (dsimp only; constructor <;> first | assumption | omega | (simp; done))⟩
    · rfl
    all_goals (try dsimp only)
    all_goals (first | (omega) | omega | (simp only [*]; omega) | (simp; done))
   refine zS <| Qe rfl rfl <| Qa rfl <| JL.nil ?_
   refine zi (fun h22 h22' => ?_) fun h22 h22' => ?_
   ·
    refine Js.region <| Qf fh rfl <| Q0 3 rfl rfl rfl <| Qq (p_add rfl rfl rfl) <| Qf fh rfl <| zw 3 rfl rfl rfl ?_
    refine JL.nil <| Js.blockEnd <| zS <| Q9 3 rfl rfl ?_
    refine zw 4 rfl rfl rfl ?_
    refine JL.nil ?_
    refine zf [0, 0, 0, 1] fun GG23 => ?_
    refine zn ?_
    refine zrb [0, 1, 0] hb x3 ?_
    refine ⟨((M.Puz.mk (((M.puz X5RX X5PX (1 + X9KX)).1).rules) (((M.puz X5RX X5PX (1 + X9KX)).1).position) (((M.puz X5RX X5PX (1 + X9KX)).1).depth) (((M.puz X5RX X5PX (1 + X9KX)).1).move) (IntKind.i64.wrap ((((M.puz X5RX X5PX (1 + X9KX)).1).value) + 1)) (((M.puz X5RX X5PX (1 + X9KX)).1).margin))), (X18AT), (X18SD), A12, c12, [], A13, c13, [], rfl, ?_, ?_, ?_, ?_, ?_, by first | trivial | assumption | omega | (dsimp only; omega) | (constructor <;> first | assumption | omega) | (dsimp only; constructor <;> first | assumption | omega | (simp; done)), by first | trivial | assumption | omega | (dsimp only; omega) | (constructor <;> first | assumption | omega) | (dsimp only; constructor <;> first | assumption | omega | (simp; done)), by first | trivial | assumption | omega | (dsimp only; omega) | (constructor <;> first | assumption | omega) | (dsimp only; constructor <;> first | assumption | omega | (simp; done))⟩
    · rfl
    all_goals (try dsimp only)
    all_goals (first | (omega) | omega | (simp only [*]; omega) | (simp; done))
   refine zS <| Qe rfl rfl <| Qa rfl <| JL.nil ?_
   refine zi (fun h24 h24' => ?_) fun h24 h24' => ?_
   ·
    refine Js.region <| Qf fh rfl <| Q0 3 rfl rfl rfl <| Qq (p_add rfl rfl rfl) <| Qf fh rfl <| zw 3 rfl rfl rfl ?_
    refine JL.nil <| Js.blockEnd <| zS <| Q9 3 rfl rfl ?_
    refine zw 4 rfl rfl rfl ?_
    refine JL.nil ?_
    refine zf [0, 0, 0, 1] fun GG25 => ?_
    refine zn ?_
    refine zrb [0, 1, 0] hb x3 ?_
    refine ⟨((M.Puz.mk (((M.puz X5RX X5PX (1 + X9KX)).1).rules) (((M.puz X5RX X5PX (1 + X9KX)).1).position) (((M.puz X5RX X5PX (1 + X9KX)).1).depth) (((M.puz X5RX X5PX (1 + X9KX)).1).move) (((M.puz X5RX X5PX (1 + X9KX)).1).value) (IntKind.i64.wrap ((((M.puz X5RX X5PX (1 + X9KX)).1).margin) + 1)))), (X18AT), (X18SD), A12, c12, [], A13, c13, [], rfl, ?_, ?_, ?_, ?_, ?_, by first | trivial | assumption | omega | (dsimp only; omega) | (constructor <;> first | assumption | omega) | (dsimp only; constructor <;> first | assumption | omega | (simp; done)), by first | trivial | assumption | omega | (dsimp only; omega) | (constructor <;> first | assumption | omega) | (dsimp only; constructor <;> first | assumption | omega | (simp; done)), by first | trivial | assumption | omega | (dsimp only; omega) | (constructor <;> first | assumption | omega) | (dsimp only; constructor <;> first | assumption | omega | (simp; done))⟩
    · rfl
    all_goals (try dsimp only)
    all_goals (first | (omega) | omega | (simp only [*]; omega) | (simp; done))
   refine zS <| Qe rfl rfl <| Qa rfl <| JL.nil ?_
   refine zi (fun h26 h26' => ?_) fun h26 h26' => ?_
   ·
    refine Js.region <| Qf fh rfl <| Q0 3 rfl rfl rfl <| Qq (p_add rfl rfl rfl) <| Qf fh rfl <| zw 3 rfl rfl rfl ?_
    refine JL.nil <| Js.blockEnd <| zS <| Q9 3 rfl rfl ?_
    refine zw 4 rfl rfl rfl ?_
    refine JL.nil ?_
    refine zf [0, 0, 0, 1] fun GG27 => ?_
    refine zn ?_
    refine zrb [0, 1, 0] hb x3 ?_
    refine ⟨((M.Puz.mk (((M.puz X5RX X5PX (1 + X9KX)).1).rules) (((M.puz X5RX X5PX (1 + X9KX)).1).position) (IntKind.i64.wrap ((((M.puz X5RX X5PX (1 + X9KX)).1).depth) + 1)) (((M.puz X5RX X5PX (1 + X9KX)).1).move) (((M.puz X5RX X5PX (1 + X9KX)).1).value) (((M.puz X5RX X5PX (1 + X9KX)).1).margin))), (X18AT), (X18SD), A12, c12, [], A13, c13, [], rfl, ?_, ?_, ?_, ?_, ?_, by first | trivial | assumption | omega | (dsimp only; omega) | (constructor <;> first | assumption | omega) | (dsimp only; constructor <;> first | assumption | omega | (simp; done)), by first | trivial | assumption | omega | (dsimp only; omega) | (constructor <;> first | assumption | omega) | (dsimp only; constructor <;> first | assumption | omega | (simp; done)), by first | trivial | assumption | omega | (dsimp only; omega) | (constructor <;> first | assumption | omega) | (dsimp only; constructor <;> first | assumption | omega | (simp; done))⟩
    · rfl
    all_goals (try dsimp only)
    all_goals (first | (omega) | omega | (simp only [*]; omega) | (simp; done))
   refine zS <| Qe rfl rfl <| Qa rfl <| JL.nil ?_
   refine zi (fun h28 h28' => ?_) fun h28 h28' => ?_
   ·
    refine Js.region <| Qf fh rfl <| Qf fh rfl <| Q0 3 rfl rfl rfl <| Qq (p_sub rfl rfl rfl) <| Qf fh rfl <| Qf fh rfl <| zw 3 rfl rfl rfl ?_
    refine JL.nil <| Js.blockEnd <| zS <| Q9 3 rfl rfl ?_
    refine zw 4 rfl rfl rfl ?_
    refine JL.nil ?_
    refine zf [0, 0, 0, 1] fun GG29 => ?_
    refine zn ?_
    refine zrb [0, 1, 0] hb x3 ?_
    refine ⟨((M.Puz.mk (((M.puz X5RX X5PX (1 + X9KX)).1).rules) (M.Pos.mk ((((M.puz X5RX X5PX (1 + X9KX)).1).position).pits) ((((M.puz X5RX X5PX (1 + X9KX)).1).position).stores) (IntKind.i64.wrap (1 - ((((M.puz X5RX X5PX (1 + X9KX)).1).position).player)))) (((M.puz X5RX X5PX (1 + X9KX)).1).depth) (((M.puz X5RX X5PX (1 + X9KX)).1).move) (((M.puz X5RX X5PX (1 + X9KX)).1).value) (((M.puz X5RX X5PX (1 + X9KX)).1).margin))), (X18AT), (X18SD), A12, c12, [], A13, c13, [], rfl, ?_, ?_, ?_, ?_, ?_, by first | trivial | assumption | omega | (dsimp only; omega) | (constructor <;> first | assumption | omega) | (dsimp only; constructor <;> first | assumption | omega | (simp; done)), by first | trivial | assumption | omega | (dsimp only; omega) | (constructor <;> first | assumption | omega) | (dsimp only; constructor <;> first | assumption | omega | (simp; done)), by first | trivial | assumption | omega | (dsimp only; omega) | (constructor <;> first | assumption | omega) | (dsimp only; constructor <;> first | assumption | omega | (simp; done))⟩
    · rfl
    all_goals (try dsimp only)
    all_goals (first | (omega) | omega | (simp only [*]; omega) | (simp; done))
   refine Js.skip <| Js.blockEnd <| zS <| Q9 3 rfl rfl ?_
   refine zw 4 rfl rfl rfl ?_
   refine JL.nil ?_
   refine zf [0, 0, 0, 1] fun GG30 => ?_
   refine zn ?_
   refine zrb [0, 1, 0] hb x3 ?_
   refine ⟨(((M.puz X5RX X5PX (1 + X9KX)).1)), (X18AT), (X18SD), A12, c12, [], A13, c13, [], rfl, ?_, ?_, ?_, ?_, ?_, by first | trivial | assumption | omega | (dsimp only; omega) | (constructor <;> first | assumption | omega) | (dsimp only; constructor <;> first | assumption | omega | (simp; done)), by first | trivial | assumption | omega | (dsimp only; omega) | (constructor <;> first | assumption | omega) | (dsimp only; constructor <;> first | assumption | omega | (simp; done)), by first | trivial | assumption | omega | (dsimp only; omega) | (constructor <;> first | assumption | omega) | (dsimp only; constructor <;> first | assumption | omega | (simp; done))⟩
   · rfl
   all_goals (try dsimp only)
   all_goals (first | (omega) | omega | (simp only [*]; omega) | (simp; done))
  refine Js.skip <| Js.blockEnd <| Js.region <| Qm rfl <| Qp rfl rfl <| Qa rfl <| JL.nil ?_
  refine zf [3, 3, 3] fun GG31 => ?_
  refine zn ?_
  refine zf [1, 1, 0] fun GG32 => ?_
  refine zn ?_
  exact zag ⟨k + 1, X9AT, X9SD, _, rfl, rfl, zt, zt, zt, rfl⟩ x3
 refine zx ?_
 refine Js.seq <| zS <| Qm rfl ?_
 refine zhl [2] ?_
 refine zBB 1 sp_ rfl (fun w hb _ hw => c_spec_l00Src_pick s_code at1 sd1 24 hb (ok_ hw)) ?_
 rintro _ _ G33 ⟨X33KX, X33AT, X33SD, rfl, rfl, hX33_0, hX33_1, hX33_2, hX33_3⟩
 refine znl ?_
 refine JL.nil ?_
 refine zf [0, 1, 1] fun GG34 => ?_
 refine zn ?_
 refine Js.block <| zS <| Qe rfl rfl <| Qa rfl <| JL.nil ?_
 refine zi (fun h35 h35' => ?_) fun h35 h35' => ?_
 ·
  refine Js.region <| Qf fh rfl <| Q0 1 rfl rfl rfl <| Qq (p_add rfl rfl rfl) <| Qf fh rfl <| zw 1 rfl rfl rfl ?_
  refine JL.nil <| Js.blockEnd <| zS <| Q9 1 rfl rfl ?_
  refine zw 2 rfl rfl rfl ?_
  refine JL.nil ?_
  refine zf [0, 1] fun GG36 => ?_
  refine zn ?_
  refine Js.conv (fun w hw => St.nilRow 2 hw) ?_
  refine Js.conv (fun w hw => St.nilRow 2 hw) ?_
  refine zrb [2, 1, 0] hb x3 ?_
  refine ⟨((M.Puz.mk (M.Rul.mk 0 0 false false false false false 0 0) (M.Pos.mk ([] : List Int) ([] : List Int) 0) 0 (IntKind.i64.wrap (0 + 1)) 0 0)), (X33AT), (X33SD), none, 0, [], none, 0, [], rfl, ?_, ?_, ?_, ?_, ?_, by first | trivial | assumption | omega | (dsimp only; omega) | (constructor <;> first | assumption | omega) | (dsimp only; constructor <;> first | assumption | omega | (simp; done)), by first | trivial | assumption | omega | (dsimp only; omega) | (constructor <;> first | assumption | omega) | (dsimp only; constructor <;> first | assumption | omega | (simp; done)), by first | trivial | assumption | omega | (dsimp only; omega) | (constructor <;> first | assumption | omega) | (dsimp only; constructor <;> first | assumption | omega | (simp; done))⟩
  · rfl
  all_goals (try dsimp only)
  all_goals (first | (omega) | omega | (simp only [*]; omega) | (simp; done))
 refine zS <| Qe rfl rfl <| Qa rfl <| JL.nil ?_
 refine zi (fun h37 h37' => ?_) fun h37 h37' => ?_
 ·
  refine Js.region <| Qf fh rfl <| Q0 1 rfl rfl rfl <| Qq (p_add rfl rfl rfl) <| Qf fh rfl <| zw 1 rfl rfl rfl ?_
  refine JL.nil <| Js.blockEnd <| zS <| Q9 1 rfl rfl ?_
  refine zw 2 rfl rfl rfl ?_
  refine JL.nil ?_
  refine zf [0, 1] fun GG38 => ?_
  refine zn ?_
  refine Js.conv (fun w hw => St.nilRow 2 hw) ?_
  refine Js.conv (fun w hw => St.nilRow 2 hw) ?_
  refine zrb [2, 1, 0] hb x3 ?_
  refine ⟨((M.Puz.mk (M.Rul.mk 0 0 false false false false false 0 0) (M.Pos.mk ([] : List Int) ([] : List Int) 0) 0 0 (IntKind.i64.wrap (0 + 1)) 0)), (X33AT), (X33SD), none, 0, [], none, 0, [], rfl, ?_, ?_, ?_, ?_, ?_, by first | trivial | assumption | omega | (dsimp only; omega) | (constructor <;> first | assumption | omega) | (dsimp only; constructor <;> first | assumption | omega | (simp; done)), by first | trivial | assumption | omega | (dsimp only; omega) | (constructor <;> first | assumption | omega) | (dsimp only; constructor <;> first | assumption | omega | (simp; done)), by first | trivial | assumption | omega | (dsimp only; omega) | (constructor <;> first | assumption | omega) | (dsimp only; constructor <;> first | assumption | omega | (simp; done))⟩
  · rfl
  all_goals (try dsimp only)
  all_goals (first | (omega) | omega | (simp only [*]; omega) | (simp; done))
 refine zS <| Qe rfl rfl <| Qa rfl <| JL.nil ?_
 refine zi (fun h39 h39' => ?_) fun h39 h39' => ?_
 ·
  refine Js.region <| Qf fh rfl <| Q0 1 rfl rfl rfl <| Qq (p_add rfl rfl rfl) <| Qf fh rfl <| zw 1 rfl rfl rfl ?_
  refine JL.nil <| Js.blockEnd <| zS <| Q9 1 rfl rfl ?_
  refine zw 2 rfl rfl rfl ?_
  refine JL.nil ?_
  refine zf [0, 1] fun GG40 => ?_
  refine zn ?_
  refine Js.conv (fun w hw => St.nilRow 2 hw) ?_
  refine Js.conv (fun w hw => St.nilRow 2 hw) ?_
  refine zrb [2, 1, 0] hb x3 ?_
  refine ⟨((M.Puz.mk (M.Rul.mk 0 0 false false false false false 0 0) (M.Pos.mk ([] : List Int) ([] : List Int) 0) 0 0 0 (IntKind.i64.wrap (0 + 1)))), (X33AT), (X33SD), none, 0, [], none, 0, [], rfl, ?_, ?_, ?_, ?_, ?_, by first | trivial | assumption | omega | (dsimp only; omega) | (constructor <;> first | assumption | omega) | (dsimp only; constructor <;> first | assumption | omega | (simp; done)), by first | trivial | assumption | omega | (dsimp only; omega) | (constructor <;> first | assumption | omega) | (dsimp only; constructor <;> first | assumption | omega | (simp; done)), by first | trivial | assumption | omega | (dsimp only; omega) | (constructor <;> first | assumption | omega) | (dsimp only; constructor <;> first | assumption | omega | (simp; done))⟩
  · rfl
  all_goals (try dsimp only)
  all_goals (first | (omega) | omega | (simp only [*]; omega) | (simp; done))
 refine zS <| Qe rfl rfl <| Qa rfl <| JL.nil ?_
 refine zi (fun h41 h41' => ?_) fun h41 h41' => ?_
 ·
  refine Js.region <| Qf fh rfl <| Q0 1 rfl rfl rfl <| Qq (p_add rfl rfl rfl) <| Qf fh rfl <| zw 1 rfl rfl rfl ?_
  refine JL.nil <| Js.blockEnd <| zS <| Q9 1 rfl rfl ?_
  refine zw 2 rfl rfl rfl ?_
  refine JL.nil ?_
  refine zf [0, 1] fun GG42 => ?_
  refine zn ?_
  refine Js.conv (fun w hw => St.nilRow 2 hw) ?_
  refine Js.conv (fun w hw => St.nilRow 2 hw) ?_
  refine zrb [2, 1, 0] hb x3 ?_
  refine ⟨((M.Puz.mk (M.Rul.mk 0 0 false false false false false 0 0) (M.Pos.mk ([] : List Int) ([] : List Int) 0) (IntKind.i64.wrap (0 + 1)) 0 0 0)), (X33AT), (X33SD), none, 0, [], none, 0, [], rfl, ?_, ?_, ?_, ?_, ?_, by first | trivial | assumption | omega | (dsimp only; omega) | (constructor <;> first | assumption | omega) | (dsimp only; constructor <;> first | assumption | omega | (simp; done)), by first | trivial | assumption | omega | (dsimp only; omega) | (constructor <;> first | assumption | omega) | (dsimp only; constructor <;> first | assumption | omega | (simp; done)), by first | trivial | assumption | omega | (dsimp only; omega) | (constructor <;> first | assumption | omega) | (dsimp only; constructor <;> first | assumption | omega | (simp; done))⟩
  · rfl
  all_goals (try dsimp only)
  all_goals (first | (omega) | omega | (simp only [*]; omega) | (simp; done))
 refine zS <| Qe rfl rfl <| Qa rfl <| JL.nil ?_
 refine zi (fun h43 h43' => ?_) fun h43 h43' => ?_
 ·
  refine Js.region <| Qf fh rfl <| Qf fh rfl <| Q0 1 rfl rfl rfl <| Qq (p_sub rfl rfl rfl) <| Qf fh rfl <| Qf fh rfl <| zw 1 rfl rfl rfl ?_
  refine JL.nil <| Js.blockEnd <| zS <| Q9 1 rfl rfl ?_
  refine zw 2 rfl rfl rfl ?_
  refine JL.nil ?_
  refine zf [0, 1] fun GG44 => ?_
  refine zn ?_
  refine Js.conv (fun w hw => St.nilRow 2 hw) ?_
  refine Js.conv (fun w hw => St.nilRow 2 hw) ?_
  refine zrb [2, 1, 0] hb x3 ?_
  refine ⟨((M.Puz.mk (M.Rul.mk 0 0 false false false false false 0 0) (M.Pos.mk ([] : List Int) ([] : List Int) (IntKind.i64.wrap (1 - 0))) 0 0 0 0)), (X33AT), (X33SD), none, 0, [], none, 0, [], rfl, ?_, ?_, ?_, ?_, ?_, by first | trivial | assumption | omega | (dsimp only; omega) | (constructor <;> first | assumption | omega) | (dsimp only; constructor <;> first | assumption | omega | (simp; done)), by first | trivial | assumption | omega | (dsimp only; omega) | (constructor <;> first | assumption | omega) | (dsimp only; constructor <;> first | assumption | omega | (simp; done)), by first | trivial | assumption | omega | (dsimp only; omega) | (constructor <;> first | assumption | omega) | (dsimp only; constructor <;> first | assumption | omega | (simp; done))⟩
  · rfl
  all_goals (try dsimp only)
  all_goals (first | (omega) | omega | (simp only [*]; omega) | (simp; done))
 refine Js.skip <| Js.blockEnd <| zS <| Q9 1 rfl rfl ?_
 refine zw 2 rfl rfl rfl ?_
 refine JL.nil ?_
 refine zf [0, 1] fun GG45 => ?_
 refine zn ?_
 refine Js.conv (fun w hw => St.nilRow 2 hw) ?_
 refine Js.conv (fun w hw => St.nilRow 2 hw) ?_
 refine zrb [2, 1, 0] hb x3 ?_
 refine ⟨((M.Puz.mk (M.Rul.mk 0 0 false false false false false 0 0) (M.Pos.mk ([] : List Int) ([] : List Int) 0) 0 0 0 0)), (X33AT), (X33SD), none, 0, [], none, 0, [], rfl, ?_, ?_, ?_, ?_, ?_, by first | trivial | assumption | omega | (dsimp only; omega) | (constructor <;> first | assumption | omega) | (dsimp only; constructor <;> first | assumption | omega | (simp; done)), by first | trivial | assumption | omega | (dsimp only; omega) | (constructor <;> first | assumption | omega) | (dsimp only; constructor <;> first | assumption | omega | (simp; done)), by first | trivial | assumption | omega | (dsimp only; omega) | (constructor <;> first | assumption | omega) | (dsimp only; constructor <;> first | assumption | omega | (simp; done))⟩
 · rfl
 all_goals (try dsimp only)
 all_goals (first | (omega) | omega | (simp only [*]; omega) | (simp; done))
theorem c_spec_l01Dec (n : Int) {w : World} (r0 : -9223372036854775808 ≤ n := by exact om_) (r1 : n ≤ 9223372036854775807 := by exact om_) : RetV Tryz.prog 60 [.int .i64 n] w (.string (sB (M.dec n))) := by
 refine enter @Tryz.func60 @Tryz.ntmps60 rfl rfl ?_
 refine zent ?_
 refine zS <| Qa rfl <| zN <| zbs fun b1 => ?_
 refine Qa rfl <| zJ <| zS <| Qm rfl <| Qa rfl <| JL.nil <| Js.block ?_
 refine zl [0] (fun F U l os u m => ∃ (k : Int) (out : List UInt8) (A3_3 : Option Addr) (c3_3 : Nat) (g3_3 : List Nat), l = F [(3, .slice A3_3 out.length c3_3), (4, .int .i64 k)] ∧ os = U [some (rowO 5 1 (.slice A3_3 out.length c3_3) out.length (byt_ out) g3_3)] ∧ (M.DecI n k out) ∧ (-9223372036854775808 ≤ k) ∧ (k ≤ 9223372036854775807) ∧ (out.length ≤ c3_3) ∧ (c3_3 ≤ 9223372036854775807) ∧ m = k.natAbs) ⟨n, ([] : List UInt8), _, _, _, rfl, rfl, by exact M.DecI.zero n, zt, zt, zu, zu, rfl⟩ ?_
 rintro _ _ u3 _ ⟨k, out, A3_3, c3_3, g3_3, rfl, rfl, hD, hk0, hk1, f3_3, f3_4, rfl⟩ x3
 refine zn ?_
 obtain ⟨t1, t2, t3, t4⟩ := M.tdiv10_bd hk0 hk1
 have hol := hD.len r0 r1
 obtain ⟨t5, t6⟩ := M.tdiv10 k
 refine Js.seq <| zS <| Qm rfl <| Qd rfl rfl <| JL.nil ?_
 refine zi (fun h4 h4' => ?_) fun h4 h4' => ?_
 ·
  have hkn : k ≠ 0 := by simpa using h4
  refine Js.skip <| Js.seq <| Js.block <| zS <| Qm rfl <| Qq (p_rem rfl rfl (by omega) rfl) <| Qa rfl <| zJ <| zS <| Qm rfl <| Ql rfl rfl <| JL.nil ?_
  refine zi (fun h5 h5' => ?_) fun h5 h5' => ?_
  ·
   have hd9 := h5'
   have hD2 := hD.step (d := -k.tmod 10) hkn (by omega)
   have hu8 : ((M.u8 (48 + (-(k.tmod 10)))).toNat : Int) = 48 + (-(k.tmod 10)) := M.u8_val (by omega) (by omega)
   refine Js.region <| Qm rfl <| Qq (p_neg (r := -(k.tmod 10)) rfl (by rw [Int.zero_sub]; exact IntWalk.i64_in _ (by omega))) <| Qa rfl <| zG <| Qm rfl <| Qp rfl rfl <| Qq (p_conv @Tryz.underlying2 @Tryz.underlying5 rfl (IntWalk.u8_in _ (by omega))) <| zbs fun b6 => ?_
   refine Qm rfl ?_
   refine JL.e (e_append (i := 0) (n' := (([M.u8 (48 + (-(k.tmod 10)))] : List UInt8) ++ out).length) (vs' := byt_ (([M.u8 (48 + (-(k.tmod 10)))] : List UInt8) ++ out)) el_22 rfl rfl rfl rfl (src_rowG (i := 1) und_22 rfl (byt_one _)) (by omega) (by omega) ln2_ (by first | rfl | (simp [byt_, hu8]; done))) ?_
   rintro v9 _ _ ⟨⟨g10, rfl⟩, rfl⟩ _
   refine JL.fact (row_form' (i := 0) rfl) (fun hf11 => ?_)
   obtain ⟨A11, c11, rfl, bl11, bh11⟩ := hf11
   refine znl ?_
   refine Qa rfl <| JL.nil <| Js.blockEnd <| Js.region <| Qm rfl <| Qq (p_quo rfl rfl (by omega) (IntWalk.i64_in _ (by omega))) <| Qa rfl <| JL.nil ?_
   refine zd [0] rfl fun u12 x12 => ?_
   exact zag ⟨k.tdiv 10, ([M.u8 (48 + (-(k.tmod 10)))] : List UInt8) ++ out, _, _, _, rfl, rfl, by exact hD2, zt, zt, zu, zu, rfl⟩ (x3.trans x12)
  have hd9 := h5'
  have hD2 := hD.step (d := k.tmod 10) hkn (by omega)
  have hu15 : ((M.u8 (48 + (k.tmod 10))).toNat : Int) = 48 + (k.tmod 10) := M.u8_val (by omega) (by omega)
  refine Js.skip <| Js.region <| Qm rfl <| Qp rfl rfl <| Qq (p_conv @Tryz.underlying2 @Tryz.underlying5 rfl (IntWalk.u8_in _ (by omega))) <| zbs fun b13 => ?_
  refine Qm rfl ?_
  refine JL.e (e_append (i := 0) (n' := (([M.u8 (48 + (k.tmod 10))] : List UInt8) ++ out).length) (vs' := byt_ (([M.u8 (48 + (k.tmod 10))] : List UInt8) ++ out)) el_22 rfl rfl rfl rfl (src_rowG (i := 1) und_22 rfl (byt_one _)) (by omega) (by omega) ln2_ (by first | rfl | (simp [byt_, hu15]; done))) ?_
  rintro v16 _ _ ⟨⟨g17, rfl⟩, rfl⟩ _
  refine JL.fact (row_form' (i := 0) rfl) (fun hf18 => ?_)
  obtain ⟨A18, c18, rfl, bl18, bh18⟩ := hf18
  refine znl ?_
  refine Qa rfl <| JL.nil <| Js.blockEnd <| Js.region <| Qm rfl <| Qq (p_quo rfl rfl (by omega) (IntWalk.i64_in _ (by omega))) <| Qa rfl <| JL.nil ?_
  refine zd [0] rfl fun u19 x19 => ?_
  exact zag ⟨k.tdiv 10, ([M.u8 (48 + (k.tmod 10))] : List UInt8) ++ out, _, _, _, rfl, rfl, by exact hD2, zt, zt, zu, zu, rfl⟩ (x3.trans x19)
 have hk9 : k = 0 := by simpa using h4
 subst hk9
 refine zx ?_
 refine Js.seq <| zS <| Qm rfl <| Qz rfl <| Qe rfl rfl <| JL.nil ?_
 refine zi (fun h20 h20' => ?_) fun h20 h20' => ?_
 ·
  have hE := hD.done0 (by have := h20'; omega) r0 r1
  refine zS <| Qa rfl <| JL.nil ?_
  refine zR x3 ?_
  rw [hE]; rfl
 have hl9 : out.length ≠ 0 := by have := h20'; omega
 have lb9 : LenB out 20 := ⟨hol⟩
 refine Js.skip <| Js.seq <| zS <| Qm rfl <| Ql rfl rfl <| JL.nil ?_
 refine zi (fun h21 h21' => ?_) fun h21 h21' => ?_
 ·
  have hE := hD.neg hl9 (by simpa using h21) r0 r1
  refine zS <| Qm rfl <| Qw (q_toStr (i := 0) und_22 @Tryz.underlying5 und_9 rfl rfl) <| Qq (q_cat rfl rfl) <| Qa rfl <| JL.nil ?_
  refine zR x3 ?_
  rw [hE]; rfl
 have hE := hD.pos hl9 (by simpa using h21) r0 r1
 refine Js.skip <| zS <| Qm rfl <| Qw (q_toStr (i := 0) und_22 @Tryz.underlying5 und_9 rfl rfl) <| Qa rfl <| JL.nil ?_
 refine zR x3 ?_
 rw [hE]; rfl
theorem c_spec_l04Join (ns : List Int) {v_ns : Value} {w : World} (h_ns : (Ty.ints 2 ns).ok w v_ns) (r0 : ns.length ≤ 4194304 := by exact om_) (r1 : M.Rng ns := by exact om_) : RetV Tryz.prog 145 [v_ns] w (.string (sB (M.joinT ns))) := by
 revert v_ns; apply opn
 intro A1 c1 h1 bl1 bh1
 have h_ns := h1
 refine enter @Tryz.func145 @Tryz.ntmps145 rfl rfl ?_
 refine zent ?_
 refine zS <| Qa rfl <| zN <| Qa rfl <| zJ <| zS <| Qa rfl <| JL.nil <| Js.block ?_
 refine zl [0] (fun F U l os u m => ∃ (k : Nat) (out : List UInt8), l = F [(3, .string (sB out)), (4, .int .i64 (k : Int))] ∧ os = U [] ∧ (out = M.joinN ns k) ∧ (k ≤ ns.length) ∧ m = ns.length - k) ⟨0, ([] : List UInt8), rfl, rfl, by rfl, zt, rfl⟩ ?_
 rintro _ _ u2 _ ⟨k, out, rfl, rfl, hJ, hk, rfl⟩ x2
 refine zn ?_
 have lb9 : LenB out 92274688 := ⟨M.joinN_big hJ (by omega)⟩
 obtain ⟨n1, n2⟩ := M.Rng.nth r1 k
 refine Js.seq <| zS <| Qm rfl <| Qm rfl <| Qz rfl <| Ql rfl rfl <| JL.nil ?_
 refine zi (fun h3 h3' => ?_) fun h3 h3' => ?_
 ·
  refine Js.skip <| Js.seq <| Js.block <| Js.seq <| zS <| Qm rfl <| Qg rfl rfl <| JL.nil ?_
  refine zi (fun h4 h4' => ?_) fun h4 h4' => ?_
  ·
   have hJ2 := M.joinN_p hJ (by have := h4'; omega)
   obtain ⟨b5, o5, he5, hc5⟩ := ints_elem (Ty.mono _ h1 x2.vis) (i := k) (by omega)
   refine Js.region <| Qm rfl <| Qq (q_cat rfl rfl) <| Qa rfl <| zG <| Qm rfl <| Qm rfl <| Qm rfl <| Qq (p_indexAddr el_26 rfl rfl (by omega) (by omega) he5) <| QC hc5 rfl <| zv rfl (fun w hw => c_spec_l01Dec (M.nth ns k)) <| Qq (q_cat rfl rfl) <| Qa rfl <| JL.nil ?_
   refine Js.blockEnd <| Js.region <| Qm rfl <| Qp rfl rfl <| Qa rfl <| JL.nil ?_
   exact zag ⟨k + 1, (out ++ ([44] : List UInt8)) ++ (M.dec (M.nth ns k)), rfl, rfl, by exact hJ2, zt, rfl⟩ x2
  have hJ2 := M.joinN_z hJ (by have := h4'; omega)
  obtain ⟨b6, o6, he6, hc6⟩ := ints_elem (Ty.mono _ h1 x2.vis) (i := k) (by omega)
  refine Js.skip <| Js.region <| Qm rfl <| Qm rfl <| Qm rfl <| Qq (p_indexAddr el_26 rfl rfl (by omega) (by omega) he6) <| QC hc6 rfl <| zv rfl (fun w hw => c_spec_l01Dec (M.nth ns k)) <| Qq (q_cat rfl rfl) <| Qa rfl <| JL.nil <| Js.blockEnd <| Js.region <| Qm rfl ?_
  refine Qp rfl rfl <| Qa rfl <| JL.nil ?_
  exact zag ⟨k + 1, out ++ (M.dec (M.nth ns k)), rfl, rfl, by exact hJ2, zt, rfl⟩ x2
 have hE := M.joinN_e hJ (by have := h3'; omega) hk
 refine zx ?_
 refine zS <| Qm rfl <| Qa rfl <| JL.nil ?_
 refine zR x2 ?_
 rw [hE]; rfl
theorem c_spec_l04Text (p : M.Pos) {v_p : Value} {w : World} (h_p : (Ty.ref (cPosition p)).ok w v_p) (r0 : p.pits.length ≤ 16 := by exact om_) (r1 : p.stores.length ≤ 2 := by exact om_) (r2 : M.allOk p.pits = true := by exact om_) (r3 : M.allOk p.stores = true := by exact om_) (r4 : p.player = 0 ∨ p.player = 1 := by exact om_) : RetV Tryz.prog 98 [v_p] w (.string (sB (M.posText p))) := by
 have lj1 : LenB (M.joinT (List.take (p.pits.length / 2 - 0) (List.drop 0 p.pits))) 352 := ⟨by have := M.joinT_len (List.take (p.pits.length / 2 - 0) (List.drop 0 p.pits)); rw [List.length_take, List.length_drop] at this; omega⟩
 have lj2 : LenB (M.joinT (List.take (p.pits.length - p.pits.length / 2) (List.drop (p.pits.length / 2) p.pits))) 352 := ⟨by have := M.joinT_len (List.take (p.pits.length - p.pits.length / 2) (List.drop (p.pits.length / 2) p.pits)); rw [List.length_take, List.length_drop] at this; omega⟩
 have lj3 : LenB (M.joinT p.stores) 352 := ⟨by have := M.joinT_len p.stores; omega⟩
 have ra := M.Rng.ok r3
 have rb := ((M.Rng.ok r2).drop 0).take (p.pits.length / 2 - 0)
 have rc := ((M.Rng.ok r2).drop (p.pits.length / 2)).take (p.pits.length - p.pits.length / 2)
 revert v_p; apply opn
 intro b3 o3 A1 c1 h1 bl1 bh1 A2 c2 h2 bl2 bh2 hr3
 refine enter @Tryz.func98 @Tryz.ntmps98 rfl rfl ?_
 refine zent ?_
 refine zS <| Qa rfl <| zN <| Qm rfl <| Qc rfl <| Qf fh rfl <| QC (hr3 0 _ rfl) rfl <| Qz rfl <| Qq (p_quo rfl rfl (by omega) (wrap_quo (by omega) (by omega) (by omega))) <| Qa rfl <| zJ ?_
 refine zdr [] ?_
 refine jM 0 rfl rfl ?_
 refine jN 1 rfl rfl ?_
 refine jF 2 fld_28_2 rfl rfl ?_
 refine jW 3 ty_2 rfl rfl (fun hv => (hr3.vis hv) 2 _ rfl) ?_
 refine jM 6 rfl rfl ?_
 refine jN 7 rfl rfl ?_
 refine jF 8 fld_28_0 rfl rfl ?_
 refine jW 9 ty_26 rfl rfl (fun hv => (hr3.vis hv) 0 _ rfl) ?_
 refine jM 10 rfl rfl ?_
 have hs4 := ints_cut (a := 0) (b := p.pits.length / 2) (m := c1) h1 (by omega) (by omega) (by omega) (by omega)
 have hl4 : ((p.pits.drop 0).take ((p.pits.length / 2) - 0)).length = (p.pits.length / 2) - 0 := by rw [List.length_take, List.length_drop]; omega
 refine JH.p 11 rfl (p_slice (lo' := 0) (hi' := p.pits.length / 2) (mx' := c1) el_26 rfl rfl ⟨_, rfl, by omega⟩ rfl) ?_
 refine jM 15 rfl rfl ?_
 refine jN 16 rfl rfl ?_
 refine jF 17 fld_28_0 rfl rfl ?_
 refine jW 18 ty_26 rfl rfl (fun hv => (hr3.vis hv) 0 _ rfl) ?_
 refine jM 19 rfl rfl ?_
 have hs5 := ints_cut (a := p.pits.length / 2) (b := p.pits.length) (m := c1) h1 (by omega) (by omega) (by omega) (by omega)
 have hl5 : ((p.pits.drop (p.pits.length / 2)).take (p.pits.length - (p.pits.length / 2))).length = p.pits.length - (p.pits.length / 2) := by rw [List.length_take, List.length_drop]; omega
 refine JH.p 20 rfl (p_slice (lo' := p.pits.length / 2) (hi' := p.pits.length) (mx' := c1) el_26 rfl rfl ⟨rfl, rfl⟩ ⟨_, rfl, by omega⟩) ?_
 refine jM 24 rfl rfl ?_
 refine jN 25 rfl rfl ?_
 refine jF 26 fld_28_1 rfl rfl ?_
 refine jW 27 ty_26 rfl rfl (fun hv => (hr3.vis hv) 1 _ rfl) ?_
 refine y1 4 ?_
 refine yv rfl rfl (fun w hw => c_spec_l01Dec p.player) ?_
 refine JH.p 5 rfl (q_cat rfl rfl) ?_
 refine y1 12 ?_
 refine yv rfl rfl (fun w hw => c_spec_l04Join ((p.pits.drop 0).take ((p.pits.length / 2) - 0)) (ok_ hw) (r0 := (by first | omega | (simp only [List.length_take, List.length_drop]; omega))) (r1 := (by first | exact ra | exact rb | exact rc))) ?_
 refine JH.p 13 rfl (q_cat rfl rfl) ?_
 refine JH.p 14 rfl (q_cat rfl rfl) ?_
 refine y1 21 ?_
 refine yv rfl rfl (fun w hw => c_spec_l04Join ((p.pits.drop (p.pits.length / 2)).take (p.pits.length - (p.pits.length / 2))) (ok_ hw) (r0 := (by first | omega | (simp only [List.length_take, List.length_drop]; omega))) (r1 := (by first | exact ra | exact rb | exact rc))) ?_
 refine JH.p 22 rfl (q_cat rfl rfl) ?_
 refine JH.p 23 rfl (q_cat rfl rfl) ?_
 refine y1 28 ?_
 refine yv rfl rfl (fun w hw => c_spec_l04Join p.stores (ok_ hw) (r0 := (by first | omega | (simp only [List.length_take, List.length_drop]; omega))) (r1 := (by first | exact ra | exact rb | exact rc))) ?_
 refine JH.p 29 rfl (q_cat rfl rfl) ?_
 refine jA 30 rfl rfl ?_
 refine yd ?_
 refine zR (Up.refl _ _) ?_
 simp [outV, M.posText, List.take_of_length_le]
theorem c_spec_l21Text (z : M.Puz) {v_z : Value} {w : World} (h_z : (Ty.ref (cPuzzle z)).ok w v_z) (r0 : M.okZ z = true := by exact om_) : RetV Tryz.prog 49 [v_z] w (.string (sB (M.puzText z))) := by
 have hok : M.okZ z = true := by simpa using r0
 obtain ⟨hoc, hpz⟩ := M.okZ_parts hok
 have ho := M.optsC_ok hoc
 have hpl := M.okP_len ho.1
 obtain ⟨g1, g2, g3, g4, g5, g6, g7⟩ := M.okP_bd ho.1
 have hE := M.puzText_yes hok
 have lb9 : LenB (M.posText z.position) 1000 := ⟨M.posText_len (by omega) (by omega)⟩
 revert v_z; apply opn
 intro b3 o3 A1 c1 h1 bl1 bh1 A2 c2 h2 bl2 bh2 hr3
 refine enter @Tryz.func49 @Tryz.ntmps49 rfl rfl ?_
 refine zent ?_
 refine zS <| Qa rfl <| zJ ?_
 refine zdr [] ?_
 refine jM 0 rfl rfl ?_
 refine jN 1 rfl rfl ?_
 refine jF 2 fld_30_1 rfl rfl ?_
 refine jM 5 rfl rfl ?_
 refine jN 6 rfl rfl ?_
 refine jF 7 fld_30_2 rfl rfl ?_
 refine jW 8 ty_2 rfl rfl (fun hv => (hr3.vis hv) 12 _ rfl) ?_
 refine y1 3 ?_
 refine yv rfl rfl (fun w hw => c_spec_l04Text z.position (ok_ hw) (r2 := g5) (r3 := g6)) ?_
 refine JH.p 4 rfl (q_cat rfl rfl) ?_
 refine y1 9 ?_
 refine yv rfl rfl (fun w hw => c_spec_l01Dec z.depth) ?_
 refine JH.p 10 rfl (q_cat rfl rfl) ?_
 refine jA 11 rfl rfl ?_
 refine yd ?_
 refine zR (Up.refl _ _) ?_
 rw [hE]; rfl
theorem c_spec_PuzzleText (z : M.Puz) {v_z : Value} {w : World} (h_z : (Ty.agg (cPuzzle z)).ok w v_z) (r0 : z.position.pits.length ≤ 4194304 := by exact om_) (r1 : z.position.stores.length ≤ 4194304 := by exact om_) : RetV Tryz.prog 20 [v_z] w (.string (sB (M.puzText z))) := by
 revert v_z; apply opn
 intro A1 c1 h1 bl1 bh1 A2 c2 h2 bl2 bh2
 refine enter @Tryz.func20 @Tryz.ntmps20 rfl rfl ?_
 refine zent ?_
 refine zS <| zb rfl fun b3 => Qa rfl <| zJ <| zS <| zv rfl (fun w hw => c_spec_l21Ok z (ok_ hw)) <| Qt rfl <| JL.nil ?_
 refine zi (fun h4 h4' => ?_) fun h4 h4' => ?_
 ·
  have hno : M.okZ z = false := by simpa using h4
  have hE := M.puzText_no hno
  refine zS <| Qa rfl <| JL.nil ?_
  refine zR (Up.refl _ _) ?_
  first | (rw [hE]; rfl) | rfl
 have hok : M.okZ z = true := by simpa using h4
 obtain ⟨hoc, hpz⟩ := M.okZ_parts hok
 have ho := M.optsC_ok hoc
 have hpl := M.okP_len ho.1
 obtain ⟨g1, g2, g3, g4, g5, g6, g7⟩ := M.okP_bd ho.1
 refine Js.skip <| zS <| zv rfl (fun w hw => c_spec_l21Text z (ok_ hw) (r0 := hok)) <| Qa rfl <| JL.nil ?_
 refine zR (Up.refl _ _) ?_
 first | (rw [hE]; rfl) | rfl
theorem c_spec_HintFor (z : M.Puz) {v_z : Value} (level : Int) {w : World} (h_z : (Ty.agg (cPuzzle z)).ok w v_z) (r0 : z.position.pits.length ≤ 4194304 := by exact om_) (r1 : z.position.stores.length ≤ 4194304 := by exact om_) : RetV Tryz.prog 13 [v_z, .int .i64 level] w (.tuple #[.string (sB ((M.hint z level).1)), .int .i64 ((M.hint z level).2)]) := by
 revert v_z; apply opn
 intro A1 c1 h1 bl1 bh1 A2 c2 h2 bl2 bh2
 refine enter @Tryz.func13 @Tryz.ntmps13 rfl rfl ?_
 refine zent ?_
 refine zS <| zb rfl fun b3 => Qa rfl <| Qa rfl <| zJ <| zS <| zv rfl (fun w hw => c_spec_l21Ok z (ok_ hw)) <| Qt rfl <| JL.nil ?_
 refine zi (fun h4 h4' => ?_) fun h4 h4' => ?_
 ·
  have hno : M.okZ z = false := by simpa using h4
  have hE := M.hint_no (level := level) hno
  refine zS <| Qa rfl <| Qa rfl <| JL.nil ?_
  refine zR (Up.refl _ _) ?_
  first | (rw [hE]; rfl) | (rw [hE]; simp only [outV, *, if_true, if_false]; done) | (rw [hE]; simp [outV, *])
 have hok : M.okZ z = true := by simpa using h4
 obtain ⟨hoc, hpz⟩ := M.okZ_parts hok
 have ho := M.optsC_ok hoc
 have hpl := M.okP_len ho.1
 obtain ⟨g1, g2, g3, g4, g5, g6, g7⟩ := M.okP_bd ho.1
 obtain ⟨hmk, q1, q2, q3, q4⟩ := M.okZ_more hok
 have hmg := M.make_gain hmk
 have h8 := M.results_8 ho.1
 have hE := M.hint_yes (level := level) hok
 refine Js.skip <| zS <| Qf fh rfl <| Qf fh rfl <| zp rfl (fun w hw => c_spec_l07All z.rules z.position ⟨_, _, [.int .i64 z.rules.pits, .int .i64 z.rules.seeds, .bool z.rules.stores, .bool z.rules.skip, .bool z.rules.relay, .bool z.rules.feed, .bool z.rules.again, .int .i64 z.rules.capture, .int .i64 z.rules.slam], rfl, ⟨rfl, rfl, rfl, rfl, rfl, rfl, rfl, rfl, rfl, trivial⟩, Mem.boxR (i := 0) rfl 0 9 _ hw⟩ ⟨_, _, [.slice A1 z.position.pits.length c1, .slice A2 z.position.stores.length c2, .int .i64 z.position.player], rfl, ⟨(ok_ hw), (ok_ hw), rfl, trivial⟩, Mem.boxR (i := 0) rfl 9 3 _ hw⟩ (r0 := ho.1)) ?_
 intro u5 x5 A6 c6 h6 bl6 bh6
 refine Qa rfl <| zJ <| zS <| Qm rfl <| JL.nil <| Js.block <| zS <| Qe rfl rfl <| Qa rfl <| JL.nil ?_
 refine zi (fun h7 h7' => ?_) fun h7 h7' => ?_
 ·
  have l0 := h7'
  refine zS <| Qm rfl <| Qz rfl <| zv rfl (fun w hw => c_spec_l01Dec (((M.results z.rules z.position).length) : Int)) <| Qq (q_cat rfl rfl) <| Qq (q_cat rfl rfl) <| Qa rfl <| Qa rfl <| JL.nil ?_
  refine zR x5 ?_
  first | (rw [hE]; rfl) | (rw [hE]; simp only [outV, *, if_true, if_false]; done) | (rw [hE]; simp [outV, *])
 have l0 := h7'
 refine zS <| Qe rfl rfl <| Qa rfl <| JL.nil ?_
 refine zi (fun h8 h8' => ?_) fun h8 h8' => ?_
 ·
  have l1 := h8'
  refine zS <| Qf fh rfl <| Qf fh rfl <| Qf fh rfl <| Q0 0 rfl rfl rfl <| zp rfl (fun w hw => c_spec_l07Make z.rules z.position z.move ⟨_, _, [.int .i64 z.rules.pits, .int .i64 z.rules.seeds, .bool z.rules.stores, .bool z.rules.skip, .bool z.rules.relay, .bool z.rules.feed, .bool z.rules.again, .int .i64 z.rules.capture, .int .i64 z.rules.slam], rfl, ⟨rfl, rfl, rfl, rfl, rfl, rfl, rfl, rfl, rfl, trivial⟩, Mem.boxR (i := 0) rfl 0 9 _ hw⟩ ⟨_, _, [.slice A1 z.position.pits.length c1, .slice A2 z.position.stores.length c2, .int .i64 z.position.player], rfl, ⟨(ok_ hw), (ok_ hw), rfl, trivial⟩, Mem.boxR (i := 0) rfl 9 3 _ hw⟩) ?_
  intro u9 x9 A10 c10 h10 bl10 bh10 A11 c11 h11 bl11 bh11
  refine Qm rfl <| Qx rfl rfl <| Qx rfl rfl <| za zeh fun b12 => zw 0 rfl rfl rfl ?_
  refine Qa rfl <| zN <| Qf fh rfl <| Q0 0 rfl rfl rfl <| zv rfl (fun w hw => c_spec_l01Dec (((M.make z.rules z.position z.move).1).gain)) <| Qq (q_cat rfl rfl) <| Qq (q_cat rfl rfl) <| Qa rfl <| Qa rfl <| JL.nil ?_
  refine zR (x5.trans x9) ?_
  first | (rw [hE]; rfl) | (rw [hE]; simp only [outV, *, if_true, if_false]; done) | (rw [hE]; simp [outV, *])
 have l1 := h8'
 refine zS <| Qe rfl rfl <| Qa rfl <| JL.nil ?_
 refine zi (fun h13 h13' => ?_) fun h13 h13' => ?_
 ·
  have l2 := h13'
  refine zS <| Qf fh rfl <| Q0 0 rfl rfl rfl <| zv rfl (fun w hw => c_spec_l01Dec z.margin) <| Qq (q_cat rfl rfl) <| Qa rfl <| Qa rfl <| JL.nil ?_
  refine zR x5 ?_
  first | (rw [hE]; rfl) | (rw [hE]; simp only [outV, *, if_true, if_false]; done) | (rw [hE]; simp [outV, *])
 have l2 := h13'
 refine zS <| Qe rfl rfl <| Qa rfl <| JL.nil ?_
 refine zi (fun h14 h14' => ?_) fun h14 h14' => ?_
 ·
  have l3 := h14'
  refine zS <| Qf fh rfl <| Q0 0 rfl rfl rfl <| zv rfl (fun w hw => c_spec_l01Dec z.move) <| Qq (q_cat rfl rfl) <| Qa rfl <| Qa rfl <| JL.nil ?_
  refine zR x5 ?_
  first | (rw [hE]; rfl) | (rw [hE]; simp only [outV, *, if_true, if_false]; done) | (rw [hE]; simp [outV, *])
 have l3 := h14'
 refine Js.skip <| Js.blockEnd <| zS <| Qa rfl <| Qa rfl <| JL.nil ?_
 refine zR x5 ?_
 first | (rw [hE]; rfl) | (rw [hE]; simp only [outV, *, if_true, if_false]; done) | (rw [hE]; simp [outV, *])
theorem c_spec_l00Src_textL (s_code : Nat) (s_at s_seed : Int) {As_0 : Option Addr} {cs_0 : Nat} (list : List (List UInt8)) {v_list : Value} {bs : Nat} {w : World} (hb : Bw w [boxO bs [.slice As_0 s_code cs_0, .int .i64 s_at, .int .u64 s_seed] 126]) (hps_0 : (Ty.bytes 5 s_code).ok (offW w (([boxO bs [.slice As_0 s_code cs_0, .int .i64 s_at, .int .u64 s_seed] 126] : List Own).flatMap (·.fp))) (.slice As_0 s_code cs_0)) (h_list : (Ty.strs 9 list).ok (offW w (([boxO bs [.slice As_0 s_code cs_0, .int .i64 s_at, .int .u64 s_seed] 126] : List Own).flatMap (·.fp))) v_list) (r0 : 0 ≤ s_at := by exact om_) (r1 : s_at ≤ 999999998 := by exact om_) (r2 : s_code ≤ 1048576 := by exact om_) (r3 : 1 ≤ list.length := by exact om_) (r4 : list.length ≤ 1000 := by exact om_) (r5 : ∀ x ∈ list, x.length ≤ 8 := by exact om_) : RetB Tryz.prog 99 [.pointer (some ⟨bs, 0, none⟩), v_list] w [boxO bs [.slice As_0 s_code cs_0, .int .i64 s_at, .int .u64 s_seed] 126] (fun v bs' => ∃ (TX : List UInt8) (AT SD : Int), v = .string (sB TX) ∧ bs' = [boxO bs [.slice As_0 s_code cs_0, .int .i64 AT, .int .u64 SD] 126] ∧ (LenB TX 8) ∧ (s_at ≤ AT) ∧ (AT ≤ s_at + 2)) := by
 revert v_list; apply opn
 intro A1 c1 h1 bl1 bh1
 have h_list := h1
 refine enterB hb @Tryz.func99 @Tryz.ntmps99 rfl rfl ?_
 refine zent ?_
 refine Js.trashE ?_
 refine zn ?_
 refine zS <| Qa rfl <| zN <| Qm rfl <| Qm rfl <| Qm rfl <| Qz rfl <| zBB 1 sp_ rfl (fun w hb _ hw => c_spec_l00Src_pick s_code s_at s_seed (list.length : Int) hb (ok_ hw)) ?_
 rintro _ _ G2 ⟨X2KX, X2AT, X2SD, rfl, rfl, hX2_0, hX2_1, hX2_2, hX2_3⟩
 refine znl ?_
 obtain ⟨y3, hy3⟩ : ∃ x, list[X2KX.toNat]? = some x := ⟨_, List.getElem?_eq_getElem (by omega)⟩
 obtain ⟨b3, o3, he3, hc3⟩ := strs_elem h1 hy3
 refine Qq (p_indexAddr el_50 rfl rfl (by omega) (by omega) he3) <| QC hc3 rfl <| Qa rfl <| JL.nil ?_
 refine zrb [0] hb (Up.refl _ _) ?_
 refine ⟨(y3), (X2AT), (X2SD), rfl, ?_, by first | trivial | omega | exact ⟨r5 _ (List.mem_of_getElem? (by assumption))⟩, by first | trivial | omega | exact ⟨r5 _ (List.mem_of_getElem? (by assumption))⟩, by first | trivial | omega | exact ⟨r5 _ (List.mem_of_getElem? (by assumption))⟩⟩
 · rfl
theorem c_spec_l01Spoil (s_code : Nat) (s_at s_seed : Int) {As_0 : Option Addr} {cs_0 : Nat} (t : List UInt8) {bs : Nat} {w : World} (hb : Bw w [boxO bs [.slice As_0 s_code cs_0, .int .i64 s_at, .int .u64 s_seed] 126]) (hps_0 : (Ty.bytes 5 s_code).ok (offW w (([boxO bs [.slice As_0 s_code cs_0, .int .i64 s_at, .int .u64 s_seed] 126] : List Own).flatMap (·.fp))) (.slice As_0 s_code cs_0)) (r0 : 0 ≤ s_at := by exact om_) (r1 : s_at ≤ 999999992 := by exact om_) (r2 : s_code ≤ 1048576 := by exact om_) (r3 : t.length ≤ 900000 := by exact om_) : RetB Tryz.prog 51 [.pointer (some ⟨bs, 0, none⟩), .string (sB t)] w [boxO bs [.slice As_0 s_code cs_0, .int .i64 s_at, .int .u64 s_seed] 126] (fun v bs' => ∃ (TX : List UInt8) (AT SD : Int), v = .string (sB TX) ∧ bs' = [boxO bs [.slice As_0 s_code cs_0, .int .i64 AT, .int .u64 SD] 126] ∧ (TX.length ≤ t.length + 8) ∧ (s_at ≤ AT) ∧ (AT ≤ s_at + 8)) := by
 have lbt : LenB t 900000 := ⟨by omega⟩
 refine enterB hb @Tryz.func51 @Tryz.ntmps51 rfl rfl ?_
 refine zent ?_
 refine Js.trashE ?_
 refine zn ?_
 refine zS <| Qa rfl <| zJ <| zS <| Qm rfl <| zBB 1 sp_ rfl (fun w hb _ hw => c_spec_l00Src_pick s_code s_at s_seed 5 hb (ok_ hw)) ?_
 rintro _ _ G1 ⟨X1KX, X1AT, X1SD, rfl, rfl, hX1_0, hX1_1, hX1_2, hX1_3⟩
 refine znl ?_
 refine JL.nil ?_
 refine zf [0] fun GG2 => ?_
 refine zn ?_
 refine Js.block <| zS <| Qe rfl rfl <| Qa rfl <| JL.nil ?_
 refine zi (fun h3 h3' => ?_) fun h3 h3' => ?_
 ·
  refine zS <| Qm rfl <| Qm rfl <| Qq (p_lenS und_9 rfl) <| Qp rfl rfl <| zBB 1 sp_ rfl (fun w hb _ hw => c_spec_l00Src_pick s_code X1AT X1SD ((t.length : Int) + 1) hb (ok_ hw)) ?_
  rintro _ _ G4 ⟨X4KX, X4AT, X4SD, rfl, rfl, hX4_0, hX4_1, hX4_2, hX4_3⟩
  refine znl ?_
  refine Qa rfl <| JL.nil ?_
  refine zf [0] fun GG5 => ?_
  refine zn ?_
  refine zdr [5] ?_
  refine jM 0 rfl rfl ?_
  refine jM 1 rfl rfl ?_
  refine JH.p 2 rfl (p_takeS (i := X4KX.toNat) und_9 rfl (by rw [Int.toNat_of_nonneg (by omega)]; exact rfl) (by omega)) ?_
  refine jM 3 rfl rfl ?_
  refine jM 7 rfl rfl ?_
  refine jM 8 rfl rfl ?_
  refine JH.p 9 rfl (p_dropS (i := X4KX.toNat) und_9 rfl (by rw [Int.toNat_of_nonneg (by omega)]; exact rfl) (by omega)) ?_
  refine y1 4 ?_
  refine ybs rfl fun b6 => ?_
  refine y1 5 ?_
  refine zhh [1] ?_
  refine yBB 1 sp_ rfl rfl (fun w hb _ hw => c_spec_l00Src_textL s_code X4AT X4SD ([([32] : List UInt8), ([48] : List UInt8), ([45] : List UInt8), ([120] : List UInt8), ([49] : List UInt8), ([57] : List UInt8), ([46] : List UInt8)]) hb (ok_ hw) (strs_rowok (xs := ([([32] : List UInt8), ([48] : List UInt8), ([45] : List UInt8), ([120] : List UInt8), ([49] : List UInt8), ([57] : List UInt8), ([46] : List UInt8)])) (hw.pr (i := 0) rfl)) (r3 := (by decide)) (r4 := (by decide)) (r5 := (by decide))) ?_
  rintro _ _ G8 ⟨X8TX, X8AT, X8SD, rfl, rfl, hX8_0, hX8_1, hX8_2⟩
  refine znh ?_
  refine JH.p 6 rfl (q_cat rfl rfl) ?_
  refine JH.p 10 rfl (q_cat rfl rfl) ?_
  refine jA 11 rfl rfl ?_
  refine yd ?_
  refine zf [0] fun GG9 => ?_
  refine zn ?_
  refine Js.blockEnd <| zS <| Qm rfl <| Qa rfl <| JL.nil ?_
  refine zrb [0] hb (Up.refl _ _) ?_
  refine ⟨(((t.take X4KX.toNat) ++ X8TX) ++ (t.drop X4KX.toNat)), (X8AT), (X8SD), rfl, ?_, by first | trivial | assumption | omega | (simp only [List.length_append, List.length_take, List.length_drop, List.length_cons, List.length_nil]; omega) | (simp only [List.length_append, List.length_take, List.length_drop]; have h9 := (by assumption : LenB _ 8).h; omega), by first | trivial | assumption | omega | (simp only [List.length_append, List.length_take, List.length_drop, List.length_cons, List.length_nil]; omega) | (simp only [List.length_append, List.length_take, List.length_drop]; have h9 := (by assumption : LenB _ 8).h; omega), by first | trivial | assumption | omega | (simp only [List.length_append, List.length_take, List.length_drop, List.length_cons, List.length_nil]; omega) | (simp only [List.length_append, List.length_take, List.length_drop]; have h9 := (by assumption : LenB _ 8).h; omega)⟩
  · rfl
 refine zS <| Qe rfl rfl <| Qa rfl <| JL.nil ?_
 refine zi (fun h10 h10' => ?_) fun h10 h10' => ?_
 ·
  refine zS <| Qm rfl <| Qq (p_neqT und_9 rfl rfl) <| JL.nil ?_
  refine zi (fun h11 h11' => ?_) fun h11 h11' => ?_
  ·
   have ht0 : 0 < t.length := List.length_pos_iff.2 (by simpa using h11)
   refine zS <| Qm rfl <| Qm rfl <| Qq (p_lenS und_9 rfl) <| zBB 1 sp_ rfl (fun w hb _ hw => c_spec_l00Src_pick s_code X1AT X1SD (t.length : Int) hb (ok_ hw)) ?_
   rintro _ _ G12 ⟨X12KX, X12AT, X12SD, rfl, rfl, hX12_0, hX12_1, hX12_2, hX12_3⟩
   refine znl ?_
   refine Qa rfl <| JL.nil ?_
   refine zf [0] fun GG13 => ?_
   refine zn ?_
   refine zdr [] ?_
   refine jM 0 rfl rfl ?_
   refine jM 1 rfl rfl ?_
   refine JH.p 2 rfl (p_takeS (i := X12KX.toNat) und_9 rfl (by rw [Int.toNat_of_nonneg (by omega)]; exact rfl) (by omega)) ?_
   refine jM 3 rfl rfl ?_
   refine jM 4 rfl rfl ?_
   refine JH.p 5 rfl (p_add rfl rfl (IntWalk.i64_in _ (by omega))) ?_
   refine JH.p 6 rfl (p_dropS (i := (X12KX + 1).toNat) und_9 rfl (by rw [Int.toNat_of_nonneg (by omega)]; exact rfl) (by omega)) ?_
   refine JH.p 7 rfl (q_cat rfl rfl) ?_
   refine jA 8 rfl rfl ?_
   refine yd ?_
   refine Js.blockEnd <| zS <| Qm rfl <| Qa rfl <| JL.nil ?_
   refine zrb [0] hb (Up.refl _ _) ?_
   refine ⟨((t.take X12KX.toNat) ++ (t.drop ((X12KX + 1).toNat))), (X12AT), (X12SD), rfl, ?_, by first | trivial | assumption | omega | (simp only [List.length_append, List.length_take, List.length_drop, List.length_cons, List.length_nil]; omega) | (simp only [List.length_append, List.length_take, List.length_drop]; have h9 := (by assumption : LenB _ 8).h; omega), by first | trivial | assumption | omega | (simp only [List.length_append, List.length_take, List.length_drop, List.length_cons, List.length_nil]; omega) | (simp only [List.length_append, List.length_take, List.length_drop]; have h9 := (by assumption : LenB _ 8).h; omega), by first | trivial | assumption | omega | (simp only [List.length_append, List.length_take, List.length_drop, List.length_cons, List.length_nil]; omega) | (simp only [List.length_append, List.length_take, List.length_drop]; have h9 := (by assumption : LenB _ 8).h; omega)⟩
   · rfl
  refine Js.skip <| Js.blockEnd <| zS <| Qm rfl <| Qa rfl <| JL.nil ?_
  refine zrb [0] hb (Up.refl _ _) ?_
  refine ⟨(t), (X1AT), (X1SD), rfl, ?_, by first | trivial | assumption | omega | (simp only [List.length_append, List.length_take, List.length_drop, List.length_cons, List.length_nil]; omega) | (simp only [List.length_append, List.length_take, List.length_drop]; have h9 := (by assumption : LenB _ 8).h; omega), by first | trivial | assumption | omega | (simp only [List.length_append, List.length_take, List.length_drop, List.length_cons, List.length_nil]; omega) | (simp only [List.length_append, List.length_take, List.length_drop]; have h9 := (by assumption : LenB _ 8).h; omega), by first | trivial | assumption | omega | (simp only [List.length_append, List.length_take, List.length_drop, List.length_cons, List.length_nil]; omega) | (simp only [List.length_append, List.length_take, List.length_drop]; have h9 := (by assumption : LenB _ 8).h; omega)⟩
  · rfl
 refine Js.skip <| Js.blockEnd <| zS <| Qm rfl <| Qa rfl <| JL.nil ?_
 refine zrb [0] hb (Up.refl _ _) ?_
 refine ⟨(t), (X1AT), (X1SD), rfl, ?_, by first | trivial | assumption | omega | (simp only [List.length_append, List.length_take, List.length_drop, List.length_cons, List.length_nil]; omega) | (simp only [List.length_append, List.length_take, List.length_drop]; have h9 := (by assumption : LenB _ 8).h; omega), by first | trivial | assumption | omega | (simp only [List.length_append, List.length_take, List.length_drop, List.length_cons, List.length_nil]; omega) | (simp only [List.length_append, List.length_take, List.length_drop]; have h9 := (by assumption : LenB _ 8).h; omega), by first | trivial | assumption | omega | (simp only [List.length_append, List.length_take, List.length_drop, List.length_cons, List.length_nil]; omega) | (simp only [List.length_append, List.length_take, List.length_drop]; have h9 := (by assumption : LenB _ 8).h; omega)⟩
 · rfl
theorem c_spec_DrawPuzzleText (code : Nat) {v_code : Value} {w : World} (h_code : (Ty.bytes 5 code).ok w v_code) (r0 : code ≤ 1048576 := by exact om_) : Ret Tryz.prog 6 [v_code] w (Ty.ex (fun (ZX : M.Puz) => (ZX.position.pits.length ≤ 4194304 ∧ ZX.position.stores.length ≤ 4194304)) (fun ZX => Ty.agg (cPuzzle ZX))) := by
 revert v_code; apply opn
 intro A1 c1 h1 bl1 bh1
 have h_code := h1
 refine enter @Tryz.func6 @Tryz.ntmps6 rfl rfl ?_
 refine zent ?_
 refine zS <| za zeh fun b2 => zN <| Qm rfl <| zcs rfl (fun w hw => c_spec_l00From code (ok_ hw)) ?_
 intro b3
 refine zB 1 sp_ rfl (fun w hb hw => c_spec_l21Bent code 0 0 hb (ok_ hw)) ?_
 rintro _ _ G4 ⟨X4ZX, X4AT, X4SD, A4r_9, c4r_9, g4r_9, A4r_10, c4r_10, g4r_10, rfl, rfl, bl4_0, bl4_1, bl4_2, bl4_3, hX4_0, hX4_1, hX4_2⟩
 refine znl ?_
 refine zw 4 rfl rfl rfl ?_
 refine JL.nil ?_
 exact zro (Up.refl _ _) (g := by exact (gv_ex X4ZX (by first | trivial | assumption | omega | (dsimp only; omega) | (constructor <;> first | assumption | omega) | (dsimp only; constructor <;> first | assumption | omega | (simp; done))) gv_))
theorem c_spec_DrawSolutionOf (code : Nat) {v_code : Value} {w : World} (h_code : (Ty.bytes 5 code).ok w v_code) (r0 : code ≤ 1048576 := by exact om_) : Ret Tryz.prog 17 [v_code] w (Ty.ex (fun (ZX : M.Puz) => (ZX.position.pits.length ≤ 4194304 ∧ ZX.position.stores.length ≤ 4194304)) (fun ZX => Ty.agg (cPuzzle ZX))) := by
 revert v_code; apply opn
 intro A1 c1 h1 bl1 bh1
 have h_code := h1
 refine enter @Tryz.func17 @Tryz.ntmps17 rfl rfl ?_
 refine zent ?_
 refine zS <| za zeh fun b2 => zN <| Qm rfl <| zcs rfl (fun w hw => c_spec_l00From code (ok_ hw)) ?_
 intro b3
 refine zB 1 sp_ rfl (fun w hb hw => c_spec_l21Bent code 0 0 hb (ok_ hw)) ?_
 rintro _ _ G4 ⟨X4ZX, X4AT, X4SD, A4r_9, c4r_9, g4r_9, A4r_10, c4r_10, g4r_10, rfl, rfl, bl4_0, bl4_1, bl4_2, bl4_3, hX4_0, hX4_1, hX4_2⟩
 refine znl ?_
 refine zw 4 rfl rfl rfl ?_
 refine JL.nil ?_
 exact zro (Up.refl _ _) (g := by exact (gv_ex X4ZX (by first | trivial | assumption | omega | (dsimp only; omega) | (constructor <;> first | assumption | omega) | (dsimp only; constructor <;> first | assumption | omega | (simp; done))) gv_))
theorem c_spec_DrawHintFor (code : Nat) {v_code : Value} {w : World} (h_code : (Ty.bytes 5 code).ok w v_code) (r0 : code ≤ 1048576 := by exact om_) : Ret Tryz.prog 11 [v_code] w (Ty.tup [Ty.ex (fun (ZX : M.Puz) => (ZX.position.pits.length ≤ 4194304 ∧ ZX.position.stores.length ≤ 4194304)) (fun ZX => Ty.agg (cPuzzle ZX)), Ty.ex (fun (KX : Int) => True) (fun KX => Ty.int KX)]) := by
 revert v_code; apply opn
 intro A1 c1 h1 bl1 bh1
 have h_code := h1
 refine enter @Tryz.func11 @Tryz.ntmps11 rfl rfl ?_
 refine zent ?_
 refine zS <| za zeh fun b2 => Qa rfl <| zN <| Qm rfl <| zcs rfl (fun w hw => c_spec_l00From code (ok_ hw)) ?_
 intro b3
 refine Qa rfl <| zN <| Qm rfl <| zB 1 sp_ rfl (fun w hb hw => c_spec_l21Bent code 0 0 hb (ok_ hw)) ?_
 rintro _ _ G4 ⟨X4ZX, X4AT, X4SD, A4r_9, c4r_9, g4r_9, A4r_10, c4r_10, g4r_10, rfl, rfl, bl4_0, bl4_1, bl4_2, bl4_3, hX4_0, hX4_1, hX4_2⟩
 refine znl ?_
 refine za zeh fun b5 => zw 0 rfl rfl rfl ?_
 refine zJ ?_
 refine zk [2] (fun F U l os u => ∃ (X6KX X7KX : Int) (G7 G6 : List Nat) (X7AT X7SD X6AT : Int), l = F [(3, .int .i64 (X6KX - (X7KX / 7)))] ∧ os = [anyO G7, anyO G6] ++ U [nO, some (boxO b3 [.slice A1 code c1, .int .i64 X7AT, .int .u64 X7SD] 126), nO, nO, nO, some (boxO b2 [.int .i64 X4ZX.rules.pits, .int .i64 X4ZX.rules.seeds, .bool X4ZX.rules.stores, .bool X4ZX.rules.skip, .bool X4ZX.rules.relay, .bool X4ZX.rules.feed, .bool X4ZX.rules.again, .int .i64 X4ZX.rules.capture, .int .i64 X4ZX.rules.slam, .slice A4r_9 X4ZX.position.pits.length c4r_9, .slice A4r_10 X4ZX.position.stores.length c4r_10, .int .i64 X4ZX.position.player, .int .i64 X4ZX.depth, .int .i64 X4ZX.move, .int .i64 X4ZX.value, .int .i64 X4ZX.margin] 30)] ∧ (0 ≤ X6KX) ∧ (X6KX = 0 ∨ X6KX < 6) ∧ (0 ≤ X7KX) ∧ (X7KX = 0 ∨ X7KX < 8) ∧ (X6AT ≤ X7AT) ∧ (X7AT ≤ X6AT + 2) ∧ (X4AT ≤ X6AT) ∧ (X6AT ≤ X4AT + 2)) ?_ ?_
 ·
  refine zdr [2, 4, 7] ?_
  refine jM 1 rfl rfl ?_
  refine jM 3 rfl rfl ?_
  refine y2 0 2 ?_ ?_
  ·
   refine JHo.q rfl (L9 0 rfl rfl) ?_
   refine y1 2 ?_
   refine zhh [1] ?_
   refine yB 1 sp_ rfl rfl (fun w hb hw => c_spec_l00Src_pick code X4AT X4SD 6 hb (ok_ hw)) ?_
   rintro _ _ G12 ⟨X12KX, X12AT, X12SD, rfl, rfl, hX12_0, hX12_1, hX12_2, hX12_3⟩
   refine znh ?_
   refine y1 4 ?_
   refine yB 1 sp_ rfl rfl (fun w hb hw => c_spec_l00Src_pick code X12AT X12SD 8 hb (ok_ hw)) ?_
   rintro _ _ G13 ⟨X13KX, X13AT, X13SD, rfl, rfl, hX13_0, hX13_1, hX13_2, hX13_3⟩
   refine znh ?_
   refine JH.p 5 rfl (p_quo rfl rfl (by omega) (wrap_quo (by omega) (by omega) (by omega))) ?_
   refine JH.p 6 rfl (p_sub rfl rfl (IntWalk.i64_in _ (by omega))) ?_
   refine y1 7 ?_
   refine yst rfl rfl rfl ?_
   refine jA 8 rfl rfl ?_
   refine yd ?_
   refine zh [1, 1, 1, 0, 0, 0, 0, 0] ?_
   exact zm ⟨_, _, _, _, _, _, _, rfl, rfl, zt, zt, zt, zt, zt, zt, zt, zt⟩ (Up.refl _ _) ⟨rfl, rfl, trivial⟩
  refine zhh [1] ?_
  refine yB 1 sp_ rfl rfl (fun w hb hw => c_spec_l00Src_pick code X4AT X4SD 6 hb (ok_ hw)) ?_
  rintro _ _ G14 ⟨X14KX, X14AT, X14SD, rfl, rfl, hX14_0, hX14_1, hX14_2, hX14_3⟩
  refine znh ?_
  refine y2 0 4 ?_ ?_
  ·
   refine JHo.q rfl (L9 2 rfl rfl) ?_
   refine y1 4 ?_
   refine yB 1 sp_ rfl rfl (fun w hb hw => c_spec_l00Src_pick code X14AT X14SD 8 hb (ok_ hw)) ?_
   rintro _ _ G15 ⟨X15KX, X15AT, X15SD, rfl, rfl, hX15_0, hX15_1, hX15_2, hX15_3⟩
   refine znh ?_
   refine JH.p 5 rfl (p_quo rfl rfl (by omega) (wrap_quo (by omega) (by omega) (by omega))) ?_
   refine JH.p 6 rfl (p_sub rfl rfl (IntWalk.i64_in _ (by omega))) ?_
   refine y1 7 ?_
   refine yst rfl rfl rfl ?_
   refine jA 8 rfl rfl ?_
   refine yd ?_
   refine zh [1, 1, 1, 0, 0, 0, 0, 0] ?_
   exact zm ⟨_, _, _, _, _, _, _, rfl, rfl, zt, zt, zt, zt, zt, zt, zt, zt⟩ (Up.refl _ _) ⟨rfl, rfl, trivial⟩
  refine yB 1 sp_ rfl rfl (fun w hb hw => c_spec_l00Src_pick code X14AT X14SD 8 hb (ok_ hw)) ?_
  rintro _ _ G16 ⟨X16KX, X16AT, X16SD, rfl, rfl, hX16_0, hX16_1, hX16_2, hX16_3⟩
  refine znh ?_
  refine JH.p 5 rfl (p_quo rfl rfl (by omega) (wrap_quo (by omega) (by omega) (by omega))) ?_
  refine JH.p 6 rfl (p_sub rfl rfl (IntWalk.i64_in _ (by omega))) ?_
  refine y1 0 ?_
  refine JHo.q rfl (L9 3 rfl rfl) ?_
  refine y1 7 ?_
  refine yst rfl rfl rfl ?_
  refine jA 8 rfl rfl ?_
  refine yd ?_
  refine zh [1, 1, 1, 0, 0, 0, 0, 0] ?_
  exact zm ⟨_, _, _, _, _, _, _, rfl, rfl, zt, zt, zt, zt, zt, zt, zt, zt⟩ (Up.refl _ _) ⟨rfl, rfl, trivial⟩
 rintro _ _ u11 ⟨X6KX, X7KX, G7, G6, X7AT, X7SD, X6AT, rfl, rfl, f11_0, f11_1, f11_2, f11_3, f11_4, f11_5, f11_6, f11_7⟩ x11
 refine zn ?_
 exact zro x11 (g := by exact (gv_tup (gvc (gv_ex X4ZX (by first | trivial | assumption | omega | (dsimp only; omega) | (constructor <;> first | assumption | omega) | (dsimp only; constructor <;> first | assumption | omega | (simp; done))) gv_) (gvc (gv_ex (X6KX - (X7KX / 7)) (by first | trivial | assumption | omega | (dsimp only; omega) | (constructor <;> first | assumption | omega) | (dsimp only; constructor <;> first | assumption | omega | (simp; done))) gv_) gvn))))
theorem c_spec_DrawAnswerLoss (code : Nat) {v_code : Value} {w : World} (h_code : (Ty.bytes 5 code).ok w v_code) (r0 : code ≤ 1048576 := by exact om_) : Ret Tryz.prog 14 [v_code] w (Ty.tup [Ty.ex (fun (ZX : M.Puz) => (ZX.position.pits.length ≤ 4194304 ∧ ZX.position.stores.length ≤ 4194304)) (fun ZX => Ty.agg (cPuzzle ZX)), Ty.ex (fun (KX : Int) => True) (fun KX => Ty.int KX)]) := by
 revert v_code; apply opn
 intro A1 c1 h1 bl1 bh1
 have h_code := h1
 refine enter @Tryz.func14 @Tryz.ntmps14 rfl rfl ?_
 refine zent ?_
 refine zS <| za zeh fun b2 => Qa rfl <| zN <| Qm rfl <| zcs rfl (fun w hw => c_spec_l00From code (ok_ hw)) ?_
 intro b3
 refine Qa rfl <| zN <| Qm rfl <| zB 1 sp_ rfl (fun w hb hw => c_spec_l21Bent code 0 0 hb (ok_ hw)) ?_
 rintro _ _ G4 ⟨X4ZX, X4AT, X4SD, A4r_9, c4r_9, g4r_9, A4r_10, c4r_10, g4r_10, rfl, rfl, bl4_0, bl4_1, bl4_2, bl4_3, hX4_0, hX4_1, hX4_2⟩
 refine znl ?_
 refine za zeh fun b5 => zw 0 rfl rfl rfl ?_
 refine zJ ?_
 refine zk [2] (fun F U l os u => ∃ (X6KX X7KX : Int) (G7 G6 : List Nat) (X7AT X7SD X6AT : Int), l = F [(3, .int .i64 (X6KX - (X7KX / 15)))] ∧ os = [anyO G7, anyO G6] ++ U [nO, some (boxO b3 [.slice A1 code c1, .int .i64 X7AT, .int .u64 X7SD] 126), nO, nO, nO, some (boxO b2 [.int .i64 X4ZX.rules.pits, .int .i64 X4ZX.rules.seeds, .bool X4ZX.rules.stores, .bool X4ZX.rules.skip, .bool X4ZX.rules.relay, .bool X4ZX.rules.feed, .bool X4ZX.rules.again, .int .i64 X4ZX.rules.capture, .int .i64 X4ZX.rules.slam, .slice A4r_9 X4ZX.position.pits.length c4r_9, .slice A4r_10 X4ZX.position.stores.length c4r_10, .int .i64 X4ZX.position.player, .int .i64 X4ZX.depth, .int .i64 X4ZX.move, .int .i64 X4ZX.value, .int .i64 X4ZX.margin] 30)] ∧ (0 ≤ X6KX) ∧ (X6KX = 0 ∨ X6KX < 5) ∧ (0 ≤ X7KX) ∧ (X7KX = 0 ∨ X7KX < 16) ∧ (X6AT ≤ X7AT) ∧ (X7AT ≤ X6AT + 2) ∧ (X4AT ≤ X6AT) ∧ (X6AT ≤ X4AT + 2)) ?_ ?_
 ·
  refine zdr [2, 4, 7] ?_
  refine jM 1 rfl rfl ?_
  refine jM 3 rfl rfl ?_
  refine y2 0 2 ?_ ?_
  ·
   refine JHo.q rfl (L9 0 rfl rfl) ?_
   refine y1 2 ?_
   refine zhh [1] ?_
   refine yB 1 sp_ rfl rfl (fun w hb hw => c_spec_l00Src_pick code X4AT X4SD 5 hb (ok_ hw)) ?_
   rintro _ _ G12 ⟨X12KX, X12AT, X12SD, rfl, rfl, hX12_0, hX12_1, hX12_2, hX12_3⟩
   refine znh ?_
   refine y1 4 ?_
   refine yB 1 sp_ rfl rfl (fun w hb hw => c_spec_l00Src_pick code X12AT X12SD 16 hb (ok_ hw)) ?_
   rintro _ _ G13 ⟨X13KX, X13AT, X13SD, rfl, rfl, hX13_0, hX13_1, hX13_2, hX13_3⟩
   refine znh ?_
   refine JH.p 5 rfl (p_quo rfl rfl (by omega) (wrap_quo (by omega) (by omega) (by omega))) ?_
   refine JH.p 6 rfl (p_sub rfl rfl (IntWalk.i64_in _ (by omega))) ?_
   refine y1 7 ?_
   refine yst rfl rfl rfl ?_
   refine jA 8 rfl rfl ?_
   refine yd ?_
   refine zh [1, 1, 1, 0, 0, 0, 0, 0] ?_
   exact zm ⟨_, _, _, _, _, _, _, rfl, rfl, zt, zt, zt, zt, zt, zt, zt, zt⟩ (Up.refl _ _) ⟨rfl, rfl, trivial⟩
  refine zhh [1] ?_
  refine yB 1 sp_ rfl rfl (fun w hb hw => c_spec_l00Src_pick code X4AT X4SD 5 hb (ok_ hw)) ?_
  rintro _ _ G14 ⟨X14KX, X14AT, X14SD, rfl, rfl, hX14_0, hX14_1, hX14_2, hX14_3⟩
  refine znh ?_
  refine y2 0 4 ?_ ?_
  ·
   refine JHo.q rfl (L9 2 rfl rfl) ?_
   refine y1 4 ?_
   refine yB 1 sp_ rfl rfl (fun w hb hw => c_spec_l00Src_pick code X14AT X14SD 16 hb (ok_ hw)) ?_
   rintro _ _ G15 ⟨X15KX, X15AT, X15SD, rfl, rfl, hX15_0, hX15_1, hX15_2, hX15_3⟩
   refine znh ?_
   refine JH.p 5 rfl (p_quo rfl rfl (by omega) (wrap_quo (by omega) (by omega) (by omega))) ?_
   refine JH.p 6 rfl (p_sub rfl rfl (IntWalk.i64_in _ (by omega))) ?_
   refine y1 7 ?_
   refine yst rfl rfl rfl ?_
   refine jA 8 rfl rfl ?_
   refine yd ?_
   refine zh [1, 1, 1, 0, 0, 0, 0, 0] ?_
   exact zm ⟨_, _, _, _, _, _, _, rfl, rfl, zt, zt, zt, zt, zt, zt, zt, zt⟩ (Up.refl _ _) ⟨rfl, rfl, trivial⟩
  refine yB 1 sp_ rfl rfl (fun w hb hw => c_spec_l00Src_pick code X14AT X14SD 16 hb (ok_ hw)) ?_
  rintro _ _ G16 ⟨X16KX, X16AT, X16SD, rfl, rfl, hX16_0, hX16_1, hX16_2, hX16_3⟩
  refine znh ?_
  refine JH.p 5 rfl (p_quo rfl rfl (by omega) (wrap_quo (by omega) (by omega) (by omega))) ?_
  refine JH.p 6 rfl (p_sub rfl rfl (IntWalk.i64_in _ (by omega))) ?_
  refine y1 0 ?_
  refine JHo.q rfl (L9 3 rfl rfl) ?_
  refine y1 7 ?_
  refine yst rfl rfl rfl ?_
  refine jA 8 rfl rfl ?_
  refine yd ?_
  refine zh [1, 1, 1, 0, 0, 0, 0, 0] ?_
  exact zm ⟨_, _, _, _, _, _, _, rfl, rfl, zt, zt, zt, zt, zt, zt, zt, zt⟩ (Up.refl _ _) ⟨rfl, rfl, trivial⟩
 rintro _ _ u11 ⟨X6KX, X7KX, G7, G6, X7AT, X7SD, X6AT, rfl, rfl, f11_0, f11_1, f11_2, f11_3, f11_4, f11_5, f11_6, f11_7⟩ x11
 refine zn ?_
 exact zro x11 (g := by exact (gv_tup (gvc (gv_ex X4ZX (by first | trivial | assumption | omega | (dsimp only; omega) | (constructor <;> first | assumption | omega) | (dsimp only; constructor <;> first | assumption | omega | (simp; done))) gv_) (gvc (gv_ex (X6KX - (X7KX / 15)) (by first | trivial | assumption | omega | (dsimp only; omega) | (constructor <;> first | assumption | omega) | (dsimp only; constructor <;> first | assumption | omega | (simp; done))) gv_) gvn))))
theorem c_spec_DrawReadPuzzle (code : Nat) {v_code : Value} {w : World} (h_code : (Ty.bytes 5 code).ok w v_code) (r0 : code ≤ 1048576 := by exact om_) : Ret Tryz.prog 9 [v_code] w (Ty.tup [Ty.ex (fun (RX : M.Rul) => True) (fun RX => Ty.agg (cRules RX)), Ty.ex (fun (TX : List UInt8) => (TX.length ≤ 1200)) (fun TX => Ty.str TX)]) := by
 revert v_code; apply opn
 intro A1 c1 h1 bl1 bh1
 have h_code := h1
 refine enter @Tryz.func9 @Tryz.ntmps9 rfl rfl ?_
 refine zent ?_
 refine zS <| za zeh fun b2 => Qa rfl <| zN <| Qm rfl <| zcs rfl (fun w hw => c_spec_l00From code (ok_ hw)) ?_
 intro b3
 refine Qa rfl <| zN <| Qm rfl <| zB 1 sp_ rfl (fun w hb hw => c_spec_l21Bent code 0 0 hb (ok_ hw)) ?_
 rintro _ _ G4 ⟨X4ZX, X4AT, X4SD, A4r_9, c4r_9, g4r_9, A4r_10, c4r_10, g4r_10, rfl, rfl, bl4_0, bl4_1, bl4_2, bl4_3, hX4_0, hX4_1, hX4_2⟩
 refine znl ?_
 have htl := M.puzText_len X4ZX
 refine za zeh fun b5 => zw 0 rfl rfl rfl ?_
 refine zJ <| zS <| zv rfl (fun w hw => c_spec_l21Ok X4ZX (ok_ hw)) <| Qt rfl <| JL.nil ?_
 refine zi (fun h6 h6' => ?_) fun h6 h6' => ?_
 ·
  refine zS <| Qf fh rfl <| Q9 0 rfl rfl ?_
  refine zw 5 rfl rfl rfl ?_
  refine Qa rfl <| JL.nil ?_
  exact zro (Up.refl _ _) (g := by exact (gv_tup (gvc (gv_ex X4ZX.rules (by first | trivial | assumption | omega | decide | (have h9 := M.puzText_len _; omega) | exact Nat.le_trans (M.puzText_len _) (by decide)) gv_) (gvc (gv_ex ([48, 32, 50, 44, 50, 47, 50, 44, 50, 32, 48, 44, 48, 32, 100, 101, 112, 116, 104, 32, 50] : List UInt8) (by first | trivial | assumption | omega | decide | (have h9 := M.puzText_len _; omega) | exact Nat.le_trans (M.puzText_len _) (by decide)) gv_) gvn))))
 have hok : M.okZ X4ZX = true := by simpa using h6
 refine Js.skip <| zS <| zv rfl (fun w hw => c_spec_l21Text X4ZX (ok_ hw) (r0 := hok)) <| Qa rfl <| zJ <| zS <| Qm rfl ?_
 refine zhl [1] ?_
 refine zB 1 sp_ rfl (fun w hb hw => c_spec_l00Src_one code X4AT X4SD 3 hb (ok_ hw)) ?_
 rintro _ _ G7 ⟨X7BX, X7AT, X7SD, rfl, rfl, hX7_0, hX7_1⟩
 refine znl ?_
 refine JL.nil ?_
 refine zi (fun h8 h8' => ?_) fun h8 h8' => ?_
 ·
  refine Js.region <| Qm rfl <| Qm rfl <| zB 1 sp_ rfl (fun w hb hw => c_spec_l01Spoil code X7AT X7SD (M.puzText X4ZX) hb (ok_ hw)) ?_
  rintro _ _ G9 ⟨X9TX, X9AT, X9SD, rfl, rfl, hX9_0, hX9_1, hX9_2⟩
  refine znl ?_
  refine Qa rfl <| zN <| Qf fh rfl <| Q9 3 rfl rfl ?_
  refine Qm rfl <| zw 7 rfl rfl rfl ?_
  refine Qa rfl <| JL.nil ?_
  exact zro (Up.refl _ _) (g := by exact (gv_tup (gvc (gv_ex X4ZX.rules (by first | trivial | assumption | omega | decide | (have h9 := M.puzText_len _; omega) | exact Nat.le_trans (M.puzText_len _) (by decide)) gv_) (gvc (gv_ex X9TX (by first | trivial | assumption | omega | decide | (have h9 := M.puzText_len _; omega) | exact Nat.le_trans (M.puzText_len _) (by decide)) gv_) gvn))))
 refine Js.skip <| zS <| Qf fh rfl <| Q9 2 rfl rfl ?_
 refine Qm rfl <| zw 6 rfl rfl rfl ?_
 refine Qa rfl <| JL.nil ?_
 exact zro (Up.refl _ _) (g := by exact (gv_tup (gvc (gv_ex X4ZX.rules (by first | trivial | assumption | omega | decide | (have h9 := M.puzText_len _; omega) | exact Nat.le_trans (M.puzText_len _) (by decide)) gv_) (gvc (gv_ex (M.puzText X4ZX) (by first | trivial | assumption | omega | decide | (have h9 := M.puzText_len _; omega) | exact Nat.le_trans (M.puzText_len _) (by decide)) gv_) gvn))))
theorem c_spec_SamePuzzle (a : M.Puz) {v_a : Value} (b : M.Puz) {v_b : Value} {w : World} (h_a : (Ty.agg (cPuzzle a)).ok w v_a) (h_b : (Ty.agg (cPuzzle b)).ok w v_b) (r0 : a.position.pits.length ≤ 4194304 := by exact om_) (r1 : a.position.stores.length ≤ 4194304 := by exact om_) (r2 : b.position.pits.length ≤ 4194304 := by exact om_) (r3 : b.position.stores.length ≤ 4194304 := by exact om_) : RetV Tryz.prog 21 [v_a, v_b] w (.bool (M.samez a b)) := by
 revert v_a; apply opn
 intro A1 c1 h1 bl1 bh1 A2 c2 h2 bl2 bh2
 revert v_b; apply opn
 intro A3 c3 h3 bl3 bh3 A4 c4 h4 bl4 bh4
 refine enter @Tryz.func21 @Tryz.ntmps21 rfl rfl ?_
 refine zent ?_
 refine zS <| zb rfl fun b5 => zb rfl fun b6 => Qa rfl <| zN <| zv rfl (fun w hw => c_spec_l21Same a b (ok_ hw) (ok_ hw)) <| Qa rfl <| JL.nil ?_
 exact zr (Up.refl _ _)
theorem c_impl_Decimal (n : Int) {w : World} (h_tab : tabT.ok w undef) (r0 : -9223372036854775808 ≤ n := by exact om_) (r1 : n ≤ 9223372036854775807 := by exact om_) : RetV Tryz.prog 43 [.int .i64 n] w (.string (sB (M.dec n))) := by
 refine enter @Tryz.func43 @Tryz.ntmps43 rfl rfl ?_
 refine zent ?_
 refine zS <| Qa rfl <| zN <| Qm rfl <| zv rfl (fun w hw => c_strconv_FormatInt n 10 (ok_ hw)) <| Qa rfl <| JL.nil ?_
 exact zr (Up.refl _ _)
end Go.Proofs.YtjdhgkdimanabaaGreatDoor

/- Walks: G10. -/
import Derived.Test.YtmgnckfhghibeaaGreatZyA3
import Derived.Test.YtmgnckfhghibeaaGreatZyA8
import Derived.Test.YtmgnckfhghibeaaGreatZyA5
import Derived.Test.YtmgnckfhghibeaaGreatZyA7
import Derived.Test.YtmgnckfhghibeaaGreatZyA4
import Derived.Test.YtmgnckfhghibeaaGreatZyA1
import Derived.Test.YtmgnckfhghibeaaGreatZyA0
set_option linter.unusedSimpArgs false
set_option linter.unusedVariables false
set_option maxRecDepth 100000
attribute [local irreducible] Go.Proofs.YtmgnckfhghibeaaGreat.gv
set_option maxHeartbeats 12000000
namespace Go.Proofs.YtmgnckfhghibeaaGreat
open Go.RowKit
theorem c_impl_puzzleOf (r : M.Rul) {v_r : Value} (p : M.Pos) {v_p : Value} (depth : Int) {w : World} (h_r : (Ty.agg (cRules r)).ok w v_r) (h_p : (Ty.agg (cPosition p)).ok w v_p) (r0 : p.pits.length ≤ 4194304 := by exact om_) (r1 : p.stores.length ≤ 4194304 := by exact om_) : Ret Tryz.prog 60 [v_r, v_p, .int .i64 depth] w (Ty.tup [Ty.agg (cPuzzle ((M.puz r p depth).1)), Ty.int ((M.puz r p depth).2)]) := by
 revert v_r; apply opn
 revert v_p; apply opn
 intro A1 c1 h1 bl1 bh1 A2 c2 h2 bl2 bh2
 refine enter @Tryz.func60 @Tryz.ntmps60 rfl rfl ?_
 refine zent ?_
 refine zS <| zb rfl fun b3 => zb rfl fun b4 => za zeh fun b5 => Qa rfl <| zN <| Q9 2 rfl rfl ?_
 refine Q9 1 rfl rfl ?_
 refine Qm rfl <| zp rfl (fun w hw => c_impl_SearchOptions r p depth (ok_ hw) (ok_ hw)) ?_
 intro u6 x6 A7 c7 h7 bl7 bh7
 refine Qm rfl <| Qx rfl rfl <| Qx rfl rfl <| Qa rfl <| Qa rfl <| zJ <| zS <| Qm rfl <| Qd rfl rfl <| JL.nil ?_
 refine zi (fun h8 h8' => ?_) fun h8 h8' => ?_
 ·
  have hE := M.puz_c (r := r) (p := p) (depth := depth) (by simpa using h8)
  have hq0 : 0 = (((M.puz r p depth).1).rules).pits := rp_ hE
  have hq1 : 0 = (((M.puz r p depth).1).rules).seeds := rp_ hE
  have hq2 : false = (((M.puz r p depth).1).rules).stores := rp_ hE
  have hq3 : false = (((M.puz r p depth).1).rules).skip := rp_ hE
  have hq4 : false = (((M.puz r p depth).1).rules).relay := rp_ hE
  have hq5 : false = (((M.puz r p depth).1).rules).feed := rp_ hE
  have hq6 : false = (((M.puz r p depth).1).rules).again := rp_ hE
  have hq7 : 0 = (((M.puz r p depth).1).rules).capture := rp_ hE
  have hq8 : 0 = (((M.puz r p depth).1).rules).slam := rp_ hE
  have hq9 : [] = (((M.puz r p depth).1).position).pits := rp_ hE
  have hq10 : [] = (((M.puz r p depth).1).position).stores := rp_ hE
  have hq11 : 0 = (((M.puz r p depth).1).position).player := rp_ hE
  have hq12 : 0 = ((M.puz r p depth).1).depth := rp_ hE
  have hq13 : 0 = ((M.puz r p depth).1).move := rp_ hE
  have hq14 : 0 = ((M.puz r p depth).1).value := rp_ hE
  have hq15 : 0 = ((M.puz r p depth).1).margin := rp_ hE
  have hq16 : (M.optsC r p depth) = (M.puz r p depth).2 := rp_ hE
  refine zS <| Qb ?_
  refine Qm rfl <| zw 0 rfl rfl rfl ?_
  refine Qa rfl <| JL.nil ?_
  exact zro x6
 have hz : M.optsC r p depth = 0 := by simpa using h8
 have ho := M.optsC_ok hz
 have hR := M.optsR_yes hz
 have hrl := M.optsR_len r p depth
 have hol := M.opts_len r p depth
 have g8 := M.results_8 ho.1
 have hOb : ∀ x ∈ (M.optsR r p depth), -2000 ≤ x.value ∧ x.value ≤ 2000 := by rw [hR]; exact fun x hx => M.opts_bd ho.1 (by omega) ho.2.2.1 hx
 refine Js.skip <| Js.seq <| zS <| Qm rfl <| Qz rfl <| Ql rfl rfl <| JL.nil ?_
 refine zi (fun h9 h9' => ?_) fun h9 h9' => ?_
 ·
  have hE := M.puz_2 hz (by rw [← hR]; have := h9'; omega)
  have hq0 : 0 = (((M.puz r p depth).1).rules).pits := rp_ hE
  have hq1 : 0 = (((M.puz r p depth).1).rules).seeds := rp_ hE
  have hq2 : false = (((M.puz r p depth).1).rules).stores := rp_ hE
  have hq3 : false = (((M.puz r p depth).1).rules).skip := rp_ hE
  have hq4 : false = (((M.puz r p depth).1).rules).relay := rp_ hE
  have hq5 : false = (((M.puz r p depth).1).rules).feed := rp_ hE
  have hq6 : false = (((M.puz r p depth).1).rules).again := rp_ hE
  have hq7 : 0 = (((M.puz r p depth).1).rules).capture := rp_ hE
  have hq8 : 0 = (((M.puz r p depth).1).rules).slam := rp_ hE
  have hq9 : [] = (((M.puz r p depth).1).position).pits := rp_ hE
  have hq10 : [] = (((M.puz r p depth).1).position).stores := rp_ hE
  have hq11 : 0 = (((M.puz r p depth).1).position).player := rp_ hE
  have hq12 : 0 = ((M.puz r p depth).1).depth := rp_ hE
  have hq13 : 0 = ((M.puz r p depth).1).move := rp_ hE
  have hq14 : 0 = ((M.puz r p depth).1).value := rp_ hE
  have hq15 : 0 = ((M.puz r p depth).1).margin := rp_ hE
  have hq16 : 6 = (M.puz r p depth).2 := rp_ hE
  refine zS <| Qb ?_
  refine zw 0 rfl rfl rfl ?_
  refine Qa rfl <| JL.nil ?_
  exact zro x6
 have h2 : ¬ (M.optsR r p depth).length < 2 := by have := h9'; omega
 have hbb := hOb _ (M.bOpt_mem (l := (M.optsR r p depth)) (by omega))
 refine Js.skip <| zS <| Qm rfl <| zp rfl (fun w hw => c_impl_bestOption (M.optsR r p depth) (ok_ hw)) ?_
 intro u10 x10
 refine za zeh fun b11 => zw 0 rfl rfl rfl ?_
 refine Qa rfl <| zJ <| zS <| Qm rfl <| Qz rfl <| Qm rfl <| JL.nil <| Js.block ?_
 refine zl [2, 3, 4, 6, 10, 31, 32] (fun F U l os u m => ∃ (k : Nat) (s : Int), l = F [(11, .int .i64 s), (33, .int .i64 (k : Int))] ∧ os = U [] ∧ (M.second (M.bOpt (M.optsR r p depth)).move s ((M.optsR r p depth).drop k) = M.second (M.bOpt (M.optsR r p depth)).move (-1000) (M.optsR r p depth)) ∧ (-2000 ≤ s) ∧ (s ≤ 2000) ∧ (k ≤ (M.optsR r p depth).length) ∧ m = (M.optsR r p depth).length - k) ⟨0, (-1000), rfl, rfl, by rfl, zt, zt, zt, rfl⟩ ?_
 rintro _ _ u12 _ ⟨k, s, rfl, rfl, hS, s0, s1, hk, rfl⟩ x12
 refine zn ?_
 refine zS <| Ql rfl rfl <| zJ ?_
 refine zi (fun h13 h13' => ?_) fun h13 h13' => ?_
 ·
  obtain ⟨y14, hy14⟩ : ∃ x, (M.optsR r p depth)[k]? = some x := ⟨_, List.getElem?_eq_getElem (by omega)⟩
  obtain ⟨b14, o14, he14, hr14⟩ := elem_Option (Ty.mono _ h7 (x10.vis.trans x12.vis)) hy14
  refine Js.skip <| Js.seq <| Js.block <| zS <| Qq (p_indexAddr el_164 rfl rfl (by omega) (by omega) he14) <| QS 0 hr14 rfl ?_
  refine za zeh fun b15 => zw 0 rfl rfl rfl ?_
  refine zN <| Qf fh rfl <| Q0 0 rfl rfl rfl <| Qf fh rfl <| Q0 1 rfl rfl rfl <| Qd rfl rfl <| JL.nil ?_
  refine zi (fun h16 h16' => ?_) fun h16 h16' => ?_
  ·
   have hob := hOb _ (List.mem_of_getElem? hy14)
   have hS2 := M.second_s hS hy14
   rw [if_neg (by simpa using h16)] at hS2
   refine Js.region <| Qm rfl <| Qf fh rfl <| Q0 0 rfl rfl rfl <| Qq (p_max rfl rfl) <| Qa rfl <| JL.nil <| Js.blockEnd <| Js.region <| Qp rfl rfl <| Qm rfl <| JL.nil ?_
   refine zd [1, 1, 1, 1] rfl fun u17 x17 => ?_
   exact zag ⟨k + 1, if s < y14.value then y14.value else s, rfl, rfl, by exact hS2, by first | omega | (split <;> omega), by first | omega | (split <;> omega), zt, rfl⟩ (x12.trans x17)
  have hS2 := M.second_s hS hy14
  rw [if_pos (by simpa using h16)] at hS2
  refine Js.skip <| Js.blockEnd <| Js.region <| Qp rfl rfl <| Qm rfl <| JL.nil ?_
  refine zd [1, 1, 1, 1] rfl fun u18 x18 => ?_
  exact zag ⟨k + 1, s, rfl, rfl, by exact hS2, by first | omega | (split <;> omega), by first | omega | (split <;> omega), zt, rfl⟩ (x12.trans x18)
 have hS3 := M.second_e hS (by have := h13'; omega)
 refine zx ?_
 refine Js.seq <| zS <| Qm rfl <| Qf fh rfl <| Q0 0 rfl rfl rfl <| Qe rfl rfl <| JL.nil ?_
 refine zi (fun h19 h19' => ?_) fun h19 h19' => ?_
 ·
  have hE := M.puz_6 hz (by rw [← hR]; exact h2) (by rw [← hR, ← hS3]; simpa using h19)
  have hq0 : 0 = (((M.puz r p depth).1).rules).pits := rp_ hE
  have hq1 : 0 = (((M.puz r p depth).1).rules).seeds := rp_ hE
  have hq2 : false = (((M.puz r p depth).1).rules).stores := rp_ hE
  have hq3 : false = (((M.puz r p depth).1).rules).skip := rp_ hE
  have hq4 : false = (((M.puz r p depth).1).rules).relay := rp_ hE
  have hq5 : false = (((M.puz r p depth).1).rules).feed := rp_ hE
  have hq6 : false = (((M.puz r p depth).1).rules).again := rp_ hE
  have hq7 : 0 = (((M.puz r p depth).1).rules).capture := rp_ hE
  have hq8 : 0 = (((M.puz r p depth).1).rules).slam := rp_ hE
  have hq9 : [] = (((M.puz r p depth).1).position).pits := rp_ hE
  have hq10 : [] = (((M.puz r p depth).1).position).stores := rp_ hE
  have hq11 : 0 = (((M.puz r p depth).1).position).player := rp_ hE
  have hq12 : 0 = ((M.puz r p depth).1).depth := rp_ hE
  have hq13 : 0 = ((M.puz r p depth).1).move := rp_ hE
  have hq14 : 0 = ((M.puz r p depth).1).value := rp_ hE
  have hq15 : 0 = ((M.puz r p depth).1).margin := rp_ hE
  have hq16 : 6 = (M.puz r p depth).2 := rp_ hE
  refine zS <| Qb ?_
  refine zw 1 rfl rfl rfl ?_
  refine Qa rfl <| JL.nil ?_
  exact zro ((x6.trans x10).trans x12)
 have hE := M.puz_0 hz (by rw [← hR]; exact h2) (by rw [← hR, ← hS3]; simpa using h19)
 rw [← hR, ← hS3] at hE
 refine Js.skip <| Js.seq ?_
 refine zdr [13] ?_
 refine JH.q 0 rfl (L9 3 rfl rfl) ?_
 refine JH.q 1 rfl (L9 2 rfl rfl) ?_
 refine jM 3 rfl rfl ?_
 refine jF 4 fld_168_0 rfl rfl ?_
 refine jB 5 0 ty_2 rfl rfl rfl rfl ?_
 refine jF 6 fld_168_1 rfl rfl ?_
 refine jB 7 0 ty_2 rfl rfl rfl rfl ?_
 refine jF 8 fld_168_1 rfl rfl ?_
 refine jB 9 0 ty_2 rfl rfl rfl rfl ?_
 refine jM 10 rfl rfl ?_
 refine JH.p 11 rfl (p_sub rfl rfl (IntWalk.i64_in _ (by omega))) ?_
 refine y1 2 ?_
 refine yc rfl rfl (fun w hw => c_impl_Position_copied p (ok_ hw)) ?_
 intro A21 c21 bl21 bh21 A22 c22 bl22 bh22
 refine JH.p 12 rfl (q_bld) ?_
 refine y1 13 ?_
 refine yst rfl rfl rfl ?_
 refine jA 14 rfl rfl ?_
 refine yd ?_
 have hq0 : r.pits = (((M.puz r p depth).1).rules).pits := rp_ hE
 have hq1 : r.seeds = (((M.puz r p depth).1).rules).seeds := rp_ hE
 have hq2 : r.stores = (((M.puz r p depth).1).rules).stores := rp_ hE
 have hq3 : r.skip = (((M.puz r p depth).1).rules).skip := rp_ hE
 have hq4 : r.relay = (((M.puz r p depth).1).rules).relay := rp_ hE
 have hq5 : r.feed = (((M.puz r p depth).1).rules).feed := rp_ hE
 have hq6 : r.again = (((M.puz r p depth).1).rules).again := rp_ hE
 have hq7 : r.capture = (((M.puz r p depth).1).rules).capture := rp_ hE
 have hq8 : r.slam = (((M.puz r p depth).1).rules).slam := rp_ hE
 have hq9 : p.pits = (((M.puz r p depth).1).position).pits := rp_ hE
 have hq10 : p.stores = (((M.puz r p depth).1).position).stores := rp_ hE
 have hq11 : p.player = (((M.puz r p depth).1).position).player := rp_ hE
 have hq12 : depth = ((M.puz r p depth).1).depth := rp_ hE
 have hq13 : ((M.bOpt (M.optsR r p depth)).move) = ((M.puz r p depth).1).move := rp_ hE
 have hq14 : ((M.bOpt (M.optsR r p depth)).value) = ((M.puz r p depth).1).value := rp_ hE
 have hq15 : (((M.bOpt (M.optsR r p depth)).value) - s) = ((M.puz r p depth).1).margin := rp_ hE
 have hq16 : 0 = (M.puz r p depth).2 := rp_ hE
 exact zro ((x6.trans x10).trans x12)
theorem c_impl_PuzzleOf (r : M.Rul) {v_r : Value} (p : M.Pos) {v_p : Value} (depth : Int) {w : World} (h_r : (Ty.agg (cRules r)).ok w v_r) (h_p : (Ty.agg (cPosition p)).ok w v_p) (r0 : p.pits.length ≤ 4194304 := by exact om_) (r1 : p.stores.length ≤ 4194304 := by exact om_) : Ret Tryz.prog 19 [v_r, v_p, .int .i64 depth] w (Ty.tup [Ty.agg (cPuzzle ((M.puz r p depth).1)), Ty.int ((M.puz r p depth).2)]) := by
 revert v_r; apply opn
 revert v_p; apply opn
 intro A1 c1 h1 bl1 bh1 A2 c2 h2 bl2 bh2
 refine enter @Tryz.func19 @Tryz.ntmps19 rfl rfl ?_
 refine zent ?_
 refine zS <| zb rfl fun b3 => zb rfl fun b4 => za zeh fun b5 => Qa rfl <| zN <| Q9 2 rfl rfl ?_
 refine Q9 1 rfl rfl ?_
 refine Qm rfl <| zcs rfl (fun w hw => c_impl_puzzleOf r p depth (ok_ hw) (ok_ hw)) ?_
 intro A7_9 c7_9 bl7_9 bh7_9 A7_10 c7_10 bl7_10 bh7_10 f7
 refine Qx rfl rfl <| Qx rfl rfl <| zw 1 rfl rfl rfl ?_
 refine Qa rfl <| JL.nil ?_
 exact zro (Up.refl _ _)
theorem c_impl_SamePuzzle (a : M.Puz) {v_a : Value} (b : M.Puz) {v_b : Value} {w : World} (h_a : (Ty.agg (cPuzzle a)).ok w v_a) (h_b : (Ty.agg (cPuzzle b)).ok w v_b) (r0 : a.position.pits.length ≤ 4194304 := by exact om_) (r1 : a.position.stores.length ≤ 4194304 := by exact om_) (r2 : b.position.pits.length ≤ 4194304 := by exact om_) (r3 : b.position.stores.length ≤ 4194304 := by exact om_) : RetV Tryz.prog 28 [v_a, v_b] w (.bool (M.samez a b)) := by
 revert v_a; apply opn
 intro A1 c1 h1 bl1 bh1 A2 c2 h2 bl2 bh2
 revert v_b; apply opn
 intro A3 c3 h3 bl3 bh3 A4 c4 h4 bl4 bh4
 refine enter @Tryz.func28 @Tryz.ntmps28 rfl rfl ?_
 refine zent ?_
 refine zS <| zb rfl fun b5 => zb rfl fun b6 => Qa rfl <| zN <| Qf fh rfl <| Q9 1 rfl rfl ?_
 refine Qf fh rfl <| Q9 0 rfl rfl ?_
 refine Qq (p_eqlS (by kernel_rfl) (fun w => eqs_Rules a.rules b.rules w) rfl rfl) <| Qm rfl <| zg (Gd.t1 rfl rfl rfl) (fun hc => p_fieldAddr fld_53_1.h rfl) <| zgq (Gd.t1 rfl rfl rfl) (fun hc => L9 1 (gh hc rfl) rfl) <| zg (Gd.t1 rfl rfl rfl) (fun hc => p_fieldAddr fld_53_1.h rfl) <| zgq (Gd.t1 rfl rfl rfl) (fun hc => L9 0 (gh hc rfl) rfl) <| zgv (Gd.t1 rfl rfl rfl) (fun hc => (opds_2 (gh hc rfl) (gh hc rfl))) (fun hc => (fun w hw => c_impl_SamePosition a.position b.position (ok_ hw) (ok_ hw) (r0 := (oh_ hc)) (r1 := (oh_ hc)) (r2 := (oh_ hc)) (r3 := (oh_ hc)))) ?_
 refine Qq (p_pickAnd rfl rfl rfl) <| Qm rfl <| zg (Gd.t1 rfl rfl rfl) (fun hc => p_fieldAddr fld_53_2.h rfl) <| zgq (Gd.t1 rfl rfl rfl) (fun hc => q_load1 ty_2.h (gh hc rfl) (Mem.box (i := 1) rfl rfl)) <| zg (Gd.t1 rfl rfl rfl) (fun hc => p_fieldAddr fld_53_2.h rfl) <| zgq (Gd.t1 rfl rfl rfl) (fun hc => q_load1 ty_2.h (gh hc rfl) (Mem.box (i := 0) rfl rfl)) <| zg (Gd.t1 rfl rfl rfl) (fun hc => p_eql (gh hc rfl) (gh hc rfl)) <| Qq (p_pickAnd rfl rfl rfl) <| Qm rfl <| zg (Gd.t1 rfl rfl rfl) (fun hc => p_fieldAddr fld_53_3.h rfl) <| zgq (Gd.t1 rfl rfl rfl) (fun hc => q_load1 ty_2.h (gh hc rfl) (Mem.box (i := 1) rfl rfl)) <| zg (Gd.t1 rfl rfl rfl) (fun hc => p_fieldAddr fld_53_3.h rfl) <| zgq (Gd.t1 rfl rfl rfl) (fun hc => q_load1 ty_2.h (gh hc rfl) (Mem.box (i := 0) rfl rfl)) <| zg (Gd.t1 rfl rfl rfl) (fun hc => p_eql (gh hc rfl) (gh hc rfl)) ?_
 refine Qq (p_pickAnd rfl rfl rfl) <| Qm rfl <| zg (Gd.t1 rfl rfl rfl) (fun hc => p_fieldAddr fld_53_4.h rfl) <| zgq (Gd.t1 rfl rfl rfl) (fun hc => q_load1 ty_2.h (gh hc rfl) (Mem.box (i := 1) rfl rfl)) <| zg (Gd.t1 rfl rfl rfl) (fun hc => p_fieldAddr fld_53_4.h rfl) <| zgq (Gd.t1 rfl rfl rfl) (fun hc => q_load1 ty_2.h (gh hc rfl) (Mem.box (i := 0) rfl rfl)) <| zg (Gd.t1 rfl rfl rfl) (fun hc => p_eql (gh hc rfl) (gh hc rfl)) <| Qq (p_pickAnd rfl rfl rfl) <| Qm rfl <| zg (Gd.t1 rfl rfl rfl) (fun hc => p_fieldAddr fld_53_5.h rfl) <| zgq (Gd.t1 rfl rfl rfl) (fun hc => q_load1 ty_2.h (gh hc rfl) (Mem.box (i := 1) rfl rfl)) <| zg (Gd.t1 rfl rfl rfl) (fun hc => p_fieldAddr fld_53_5.h rfl) <| zgq (Gd.t1 rfl rfl rfl) (fun hc => q_load1 ty_2.h (gh hc rfl) (Mem.box (i := 0) rfl rfl)) <| zg (Gd.t1 rfl rfl rfl) (fun hc => p_eql (gh hc rfl) (gh hc rfl)) ?_
 refine Qq (p_pickAnd rfl rfl rfl) <| Qa rfl <| JL.nil ?_
 refine zR (Up.refl _ _) ?_
 simp [outV, M.samez, Bool.and_assoc]
theorem c_impl_ValidPuzzle (z : M.Puz) {v_z : Value} {w : World} (h_z : (Ty.agg (cPuzzle z)).ok w v_z) (r0 : z.position.pits.length ≤ 4194304 := by exact om_) (r1 : z.position.stores.length ≤ 4194304 := by exact om_) : RetV Tryz.prog 26 [v_z] w (.bool (M.okZ z)) := by
 have hsm := M.puz_small z.rules z.position z.depth
 have hs1 := hsm.sp
 have hs2 := hsm.ss
 revert v_z; apply opn
 intro A1 c1 h1 bl1 bh1 A2 c2 h2 bl2 bh2
 refine enter @Tryz.func26 @Tryz.ntmps26 rfl rfl ?_
 refine zent ?_
 refine zS <| zb rfl fun b3 => Qa rfl <| zN <| Qf fh rfl <| Q9 0 rfl rfl ?_
 refine Qf fh rfl <| Q9 0 rfl rfl ?_
 refine Qf fh rfl <| Q0 0 rfl rfl rfl <| zp rfl (fun w hw => c_impl_puzzleOf z.rules z.position z.depth (ok_ hw) (ok_ hw)) ?_
 intro u4 x4 A5 c5 h5 bl5 bh5 A6 c6 h6 bl6 bh6
 refine Qm rfl <| Qx rfl rfl <| Qx rfl rfl <| za zeh fun b7 => zw 0 rfl rfl rfl ?_
 refine Qa rfl <| zN <| Qm rfl <| Qe rfl rfl <| Qm rfl <| zgq (Gd.t1 rfl rfl rfl) (fun hc => L9 0 rfl rfl) <| zgq (Gd.t1 rfl rfl rfl) (fun hc => L9 1 rfl rfl) <| zgv (Gd.t1 rfl rfl rfl) (fun hc => (opds_2 (gh hc rfl) (gh hc rfl))) (fun hc => (fun w hw => c_impl_SamePuzzle ((M.puz z.rules z.position z.depth).1) z (ok_ hw) (ok_ hw) (r0 := (oh_ hc)) (r1 := (oh_ hc)) (r2 := (oh_ hc)) (r3 := (oh_ hc)))) ?_
 refine Qq (p_pickAnd rfl rfl rfl) <| Qa rfl <| JL.nil ?_
 refine zR x4 ?_
 simp [outV, M.okZ]
theorem c_impl_AnswerLoss (z : M.Puz) {v_z : Value} (move : Int) {w : World} (h_z : (Ty.agg (cPuzzle z)).ok w v_z) (r0 : z.position.pits.length ≤ 4194304 := by exact om_) (r1 : z.position.stores.length ≤ 4194304 := by exact om_) : RetV Tryz.prog 29 [v_z, .int .i64 move] w (.tuple #[.int .i64 ((M.ans z move).1), .int .i64 ((M.ans z move).2)]) := by
 revert v_z; apply opn
 intro A1 c1 h1 bl1 bh1 A2 c2 h2 bl2 bh2
 refine enter @Tryz.func29 @Tryz.ntmps29 rfl rfl ?_
 refine zent ?_
 refine zS <| zb rfl fun b3 => Qa rfl <| Qa rfl <| zJ <| zS <| Q9 0 rfl rfl ?_
 refine zv rfl (fun w hw => c_impl_ValidPuzzle z (ok_ hw)) <| Qt rfl <| JL.nil ?_
 refine zi (fun h4 h4' => ?_) fun h4 h4' => ?_
 ·
  have hno : M.okZ z = false := by simpa using h4
  have hE := M.ans_1 (move := move) hno
  refine zS <| Qa rfl <| Qa rfl <| JL.nil ?_
  refine zR (Up.refl _ _) ?_
  rw [hE]; rfl
 have hok : M.okZ z = true := by simpa using h4
 obtain ⟨hoc, hpz⟩ := M.okZ_parts hok
 have ho := M.optsC_ok hoc
 refine Js.skip <| zS <| Qf fh rfl <| Q9 0 rfl rfl ?_
 refine Qf fh rfl <| Q9 0 rfl rfl ?_
 refine Qm rfl <| zp rfl (fun w hw => c_impl_Rules_resultOf z.rules z.position move (ok_ hw) (ok_ hw)) ?_
 intro u5 x5 A6 c6 h6 bl6 bh6 A7 c7 h7 bl7 bh7
 refine Qm rfl <| Qx rfl rfl <| Qx rfl rfl <| za zeh fun b8 => zw 0 rfl rfl rfl ?_
 refine Qa rfl <| zJ <| zS <| Qm rfl <| Qd rfl rfl <| JL.nil ?_
 refine zi (fun h9 h9' => ?_) fun h9 h9' => ?_
 ·
  have hE := M.ans_c hok (by simpa using h9)
  refine zS <| Qm rfl <| Qa rfl <| Qa rfl <| JL.nil ?_
  refine zR x5 ?_
  rw [hE]; rfl
 have hz : (M.make z.rules z.position move).2 = 0 := by simpa using h9
 have hE := M.ans_0 hok hz
 have hmo := (M.make_ok hz).2.2.2.1
 have hml := M.okP_len hmo
 have hgb9 := M.make_gain hz
 have hvb9 := M.val_bd (z.depth - 1).toNat (M.make z.rules z.position move).1.next hmo
 have hmb9 := M.moveV_bd hgb9 hvb9
 have hzv := M.okZ_val hok
 refine Js.skip <| Js.seq ?_
 refine zdr [] ?_
 refine jF 0 fld_53_4 rfl rfl ?_
 refine jB 1 1 ty_2 rfl rfl rfl rfl ?_
 refine jF 2 fld_53_0 rfl rfl ?_
 refine JH.q 3 rfl (L9 1 rfl rfl) ?_
 refine JH.q 4 rfl (L9 0 rfl rfl) ?_
 refine jF 5 fld_53_0 rfl rfl ?_
 refine JH.q 6 rfl (L9 1 rfl rfl) ?_
 refine jF 7 fld_114_3 rfl rfl ?_
 refine JH.q 8 rfl (L9 0 rfl rfl) ?_
 refine jF 9 fld_53_2 rfl rfl ?_
 refine jB 10 1 ty_2 rfl rfl rfl rfl ?_
 refine JH.p 11 rfl (p_sub rfl rfl (IntWalk.i64_in _ (by omega))) ?_
 refine y1 12 ?_
 refine yv rfl rfl (fun w hw => c_impl_Rules_value z.rules (((M.make z.rules z.position move).1).next) (z.depth - 1) (ok_ hw) (ok_ hw) (r0 := hmo)) ?_
 refine y1 13 ?_
 refine yv rfl rfl (fun w hw => c_impl_Rules_moveValue z.rules ((M.make z.rules z.position move).1) (M.val z.rules (z.depth - 1).toNat (((M.make z.rules z.position move).1).next)) (ok_ hw) (ok_ hw) (r0 := hgb9)) ?_
 refine JH.p 14 rfl (p_sub rfl rfl (IntWalk.i64_in _ (by omega))) ?_
 refine jA 15 rfl rfl ?_
 refine jA 16 rfl rfl ?_
 refine yd ?_
 refine zR x5 ?_
 rw [hE]; rfl
theorem c_impl_SolutionOf (z : M.Puz) {v_z : Value} {w : World} (h_z : (Ty.agg (cPuzzle z)).ok w v_z) (r0 : z.position.pits.length ≤ 4194304 := by exact om_) (r1 : z.position.stores.length ≤ 4194304 := by exact om_) : Ret Tryz.prog 30 [v_z] w (Ty.tup [Ty.ints 2 (M.sol z), Ty.int (M.solC z)]) := by
 revert v_z; apply opn
 intro A1 c1 h1 bl1 bh1 A2 c2 h2 bl2 bh2
 refine enter @Tryz.func30 @Tryz.ntmps30 rfl rfl ?_
 refine zent ?_
 refine zS <| zb rfl fun b3 => Qa rfl <| Qa rfl <| zJ <| zS <| Q9 0 rfl rfl ?_
 refine zv rfl (fun w hw => c_impl_ValidPuzzle z (ok_ hw)) <| Qt rfl <| JL.nil ?_
 refine zi (fun h4 h4' => ?_) fun h4 h4' => ?_
 ·
  have hno : M.okZ z = false := by simpa using h4
  have hE := M.sol_no hno
  have hC := M.solC_no hno
  have hq0 : [] = M.sol z := by first | (rw [hE]; done) | (rw [hC]; done)
  have hq1 : 1 = M.solC z := by first | (rw [hE]; done) | (rw [hC]; done)
  refine zS <| Qa rfl <| Qa rfl <| JL.nil ?_
  exact zro (Up.refl _ _)
 have hok : M.okZ z = true := by simpa using h4
 obtain ⟨hoc, hpz⟩ := M.okZ_parts hok
 have ho := M.optsC_ok hoc
 have hE := M.sol_yes hok
 have hC := M.solC_yes hok
 refine Js.skip <| zS <| Qf fh rfl <| Q9 0 rfl rfl ?_
 refine Qf fh rfl <| Q9 0 rfl rfl ?_
 refine Qf fh rfl <| Q0 0 rfl rfl rfl <| zcs rfl (fun w hw => c_impl_SearchLine z.rules z.position z.depth (ok_ hw) (ok_ hw)) ?_
 intro A6 c6 bl6 bh6
 have hq0 : (M.lineR z.rules z.position z.depth) = M.sol z := by first | (rw [hE]; done) | (rw [hC]; done)
 have hq1 : (M.srchC z.rules z.position z.depth) = M.solC z := by first | (rw [hE]; done) | (rw [hC]; done)
 refine Qx rfl rfl <| Qx rfl rfl <| Qa rfl <| Qa rfl <| JL.nil ?_
 exact zro (Up.refl _ _)
theorem c_impl_Rules_turned (r : M.Rul) {v_r : Value} (p : M.Pos) {v_p : Value} {w : World} (h_r : (Ty.agg (cRules r)).ok w v_r) (h_p : (Ty.agg (cPosition p)).ok w v_p) (r0 : M.okP r p = true := by exact om_) : Ret Tryz.prog 63 [v_r, v_p] w (Ty.agg (cPosition (M.turnP r p))) := by
 obtain ⟨g1, g2, g3, g4, g5, g6, g7⟩ := M.okP_bd r0
 revert v_r; apply opn
 revert v_p; apply opn
 intro A1 c1 h1 bl1 bh1 A2 c2 h2 bl2 bh2
 refine enter @Tryz.func63 @Tryz.ntmps63 rfl rfl ?_
 refine zent ?_
 refine zS <| zb rfl fun b3 => zb rfl fun b4 => za zeh fun b5 => zJ ?_
 refine zdr [11] ?_
 refine jF 0 fld_31_0 rfl rfl ?_
 refine jB 1 1 ty_29 rfl rfl rfl rfl ?_
 refine jF 2 fld_25_0 rfl rfl ?_
 refine jB 3 2 ty_2 rfl rfl rfl rfl ?_
 have hs6 := ints_cut (a := r.pits.toNat) (b := p.pits.length) (m := c1) h1 (by omega) (by omega) (by omega) (by omega)
 have hl6 : ((p.pits.drop r.pits.toNat).take (p.pits.length - r.pits.toNat)).length = p.pits.length - r.pits.toNat := by rw [List.length_take, List.length_drop]; omega
 refine JH.p 4 rfl (p_slice (lo' := r.pits.toNat) (hi' := p.pits.length) (mx' := c1) el_29 rfl rfl ⟨rfl, rfl⟩ ⟨_, by rw [Int.toNat_of_nonneg (by omega)]; exact rfl, by omega⟩) ?_
 refine jF 6 fld_31_0 rfl rfl ?_
 refine jB 7 1 ty_29 rfl rfl rfl rfl ?_
 refine jF 8 fld_25_0 rfl rfl ?_
 refine jB 9 2 ty_2 rfl rfl rfl rfl ?_
 have hs7 := ints_cut (a := 0) (b := r.pits.toNat) (m := c1) h1 (by omega) (by omega) (by omega) (by omega)
 have hl7 : ((p.pits.drop 0).take (r.pits.toNat - 0)).length = r.pits.toNat - 0 := by rw [List.length_take, List.length_drop]; omega
 refine JH.p 10 rfl (p_slice (lo' := 0) (hi' := r.pits.toNat) (mx' := c1) el_29 rfl rfl ⟨_, by rw [Int.toNat_of_nonneg (by omega)]; exact rfl, by omega⟩ rfl) ?_
 refine y1 5 ?_
 refine ycs rfl rfl (fun w hw => c_impl_copyNumbers ((p.pits.drop r.pits.toNat).take (p.pits.length - r.pits.toNat)) (ok_ hw)) ?_
 intro A8 c8 bl8 bh8
 refine y1 11 ?_
 refine JHo.e rfl (e_append (i := 0) (n' := (((p.pits.drop r.pits.toNat).take (p.pits.length - r.pits.toNat)) ++ ((p.pits.drop 0).take (r.pits.toNat - 0))).length) (vs' := ints_ (((p.pits.drop r.pits.toNat).take (p.pits.length - r.pits.toNat)) ++ ((p.pits.drop 0).take (r.pits.toNat - 0)))) el_29 rfl rfl rfl rfl (src_intsN und_29 hl7 hs7) (by omega) (by omega) ln2_ (by simp [ints_])) (.inr rfl) ?_
 rintro v9 _ _ ⟨⟨g10, rfl⟩, rfl⟩ _
 refine JH.fact (row_form' (i := 0) rfl) (fun hf11 => ?_)
 obtain ⟨A11, c11, rfl, bl11, bh11⟩ := hf11
 refine znh ?_
 refine jA 12 rfl rfl ?_
 refine yd ?_
 refine Js.seq ?_
 refine zdr [14] ?_
 refine jM 0 rfl rfl ?_
 refine jF 1 fld_31_1 rfl rfl ?_
 refine jB 2 2 ty_29 rfl rfl rfl rfl ?_
 obtain ⟨b12, o12, he12, hc12⟩ := ints_elem h2 (i := 1) (by omega)
 refine jI 3 el_29 rfl rfl rfl he12 ?_
 refine jW 4 ty_2 rfl rfl hc12.vis ?_
 refine jF 5 fld_31_1 rfl rfl ?_
 refine jB 6 2 ty_29 rfl rfl rfl rfl ?_
 obtain ⟨b13, o13, he13, hc13⟩ := ints_elem h2 (i := 0) (by omega)
 refine jI 7 el_29 rfl rfl rfl he13 ?_
 refine jW 8 ty_2 rfl rfl hc13.vis ?_
 refine jF 10 fld_31_2 rfl rfl ?_
 refine jB 11 2 ty_2 rfl rfl rfl rfl ?_
 refine JH.p 12 rfl (p_sub rfl rfl (IntWalk.i64_in _ (by omega))) ?_
 refine y1 9 ?_
 refine ybs rfl fun b14 => ?_
 refine JH.p 13 rfl (q_bld) ?_
 refine y1 14 ?_
 refine yst rfl rfl rfl ?_
 refine yd ?_
 have hq0 : (((p.pits.drop r.pits.toNat).take (p.pits.length - r.pits.toNat)) ++ ((p.pits.drop 0).take (r.pits.toNat - 0))) = (M.turnP r p).pits := by first | rfl | (simp [M.turnP, List.take_of_length_le]; done) | (unfold M.turnP; simp; omega)
 have hq1 : [(M.nth p.stores 1), (M.nth p.stores 0)] = (M.turnP r p).stores := by first | rfl | (simp [M.turnP, List.take_of_length_le]; done) | (unfold M.turnP; simp; omega)
 have hq2 : (1 - p.player) = (M.turnP r p).player := by first | rfl | (simp [M.turnP, List.take_of_length_le]; done) | (unfold M.turnP; simp; omega)
 exact zro (Up.refl _ _)
theorem c_impl_TurnPuzzle (z : M.Puz) {v_z : Value} {w : World} (h_z : (Ty.agg (cPuzzle z)).ok w v_z) (r0 : z.position.pits.length ≤ 4194304 := by exact om_) (r1 : z.position.stores.length ≤ 4194304 := by exact om_) : Ret Tryz.prog 22 [v_z] w (Ty.tup [Ty.agg (cPuzzle ((M.turnZ z).1)), Ty.int ((M.turnZ z).2)]) := by
 revert v_z; apply opn
 intro A1 c1 h1 bl1 bh1 A2 c2 h2 bl2 bh2
 refine enter @Tryz.func22 @Tryz.ntmps22 rfl rfl ?_
 refine zent ?_
 refine zS <| zb rfl fun b3 => za zeh fun b4 => Qa rfl <| zJ <| zS <| Q9 1 rfl rfl ?_
 refine zv rfl (fun w hw => c_impl_ValidPuzzle z (ok_ hw)) <| Qt rfl <| JL.nil ?_
 refine zi (fun h5 h5' => ?_) fun h5 h5' => ?_
 ·
  have hno : M.okZ z = false := by simpa using h5
  have hE := M.turnZ_no hno
  have hq0 : 0 = (((M.turnZ z).1).rules).pits := rp_ hE
  have hq1 : 0 = (((M.turnZ z).1).rules).seeds := rp_ hE
  have hq2 : false = (((M.turnZ z).1).rules).stores := rp_ hE
  have hq3 : false = (((M.turnZ z).1).rules).skip := rp_ hE
  have hq4 : false = (((M.turnZ z).1).rules).relay := rp_ hE
  have hq5 : false = (((M.turnZ z).1).rules).feed := rp_ hE
  have hq6 : false = (((M.turnZ z).1).rules).again := rp_ hE
  have hq7 : 0 = (((M.turnZ z).1).rules).capture := rp_ hE
  have hq8 : 0 = (((M.turnZ z).1).rules).slam := rp_ hE
  have hq9 : [] = (((M.turnZ z).1).position).pits := rp_ hE
  have hq10 : [] = (((M.turnZ z).1).position).stores := rp_ hE
  have hq11 : 0 = (((M.turnZ z).1).position).player := rp_ hE
  have hq12 : 0 = ((M.turnZ z).1).depth := rp_ hE
  have hq13 : 0 = ((M.turnZ z).1).move := rp_ hE
  have hq14 : 0 = ((M.turnZ z).1).value := rp_ hE
  have hq15 : 0 = ((M.turnZ z).1).margin := rp_ hE
  have hq16 : 1 = (M.turnZ z).2 := rp_ hE
  refine zS <| Qb ?_
  refine zw 0 rfl rfl rfl ?_
  refine Qa rfl <| JL.nil ?_
  exact zro (Up.refl _ _)
 have hok : M.okZ z = true := by simpa using h5
 obtain ⟨hoc, hpz⟩ := M.okZ_parts hok
 have ho := M.optsC_ok hoc
 have hE := M.turnZ_yes hok
 refine Js.skip <| zS <| Qf fh rfl <| Q9 1 rfl rfl ?_
 refine Qf fh rfl <| Q9 1 rfl rfl ?_
 refine zc rfl (fun w hw => c_impl_Rules_turned z.rules z.position (ok_ hw) (ok_ hw) (r0 := ho.1)) ?_
 intro A7 c7 bl7 bh7 A8 c8 bl8 bh8
 have hq0 : z.rules.pits = (((M.turnZ z).1).rules).pits := rp_ hE
 have hq1 : z.rules.seeds = (((M.turnZ z).1).rules).seeds := rp_ hE
 have hq2 : z.rules.stores = (((M.turnZ z).1).rules).stores := rp_ hE
 have hq3 : z.rules.skip = (((M.turnZ z).1).rules).skip := rp_ hE
 have hq4 : z.rules.relay = (((M.turnZ z).1).rules).relay := rp_ hE
 have hq5 : z.rules.feed = (((M.turnZ z).1).rules).feed := rp_ hE
 have hq6 : z.rules.again = (((M.turnZ z).1).rules).again := rp_ hE
 have hq7 : z.rules.capture = (((M.turnZ z).1).rules).capture := rp_ hE
 have hq8 : z.rules.slam = (((M.turnZ z).1).rules).slam := rp_ hE
 have hq9 : ((M.turnP z.rules z.position).pits) = (((M.turnZ z).1).position).pits := rp_ hE
 have hq10 : ((M.turnP z.rules z.position).stores) = (((M.turnZ z).1).position).stores := rp_ hE
 have hq11 : ((M.turnP z.rules z.position).player) = (((M.turnZ z).1).position).player := rp_ hE
 have hq12 : z.depth = ((M.turnZ z).1).depth := rp_ hE
 have hq13 : z.move = ((M.turnZ z).1).move := rp_ hE
 have hq14 : z.value = ((M.turnZ z).1).value := rp_ hE
 have hq15 : z.margin = ((M.turnZ z).1).margin := rp_ hE
 have hq16 : 0 = (M.turnZ z).2 := rp_ hE
 refine Qf fh rfl <| zw 3 rfl rfl rfl ?_
 refine zN <| Q9 3 rfl rfl ?_
 refine zw 2 rfl rfl rfl ?_
 refine Qa rfl <| JL.nil ?_
 exact zro (Up.refl _ _)
theorem c_spec_l21Of (r : M.Rul) {v_r : Value} (p : M.Pos) {v_p : Value} (depth : Int) {w : World} (h_r : (Ty.ref (cRules r)).ok w v_r) (h_p : (Ty.ref (cPosition p)).ok w v_p) (r0 : p.pits.length ≤ 4194304 := by exact om_) (r1 : p.stores.length ≤ 4194304 := by exact om_) : Ret Tryz.prog 61 [v_r, v_p, .int .i64 depth] w (Ty.tup [Ty.agg (cPuzzle ((M.puz r p depth).1)), Ty.int ((M.puz r p depth).2)]) := by
 revert v_r; apply opn
 intro b1 o1 hr1
 revert v_p; apply opn
 intro b4 o4 A2 c2 h2 bl2 bh2 A3 c3 h3 bl3 bh3 hr4
 refine enter @Tryz.func61 @Tryz.ntmps61 rfl rfl ?_
 refine zent ?_
 refine zS <| za zeh fun b5 => Qa rfl <| zN <| Qm rfl <| Qm rfl <| Qm rfl <| zp rfl (fun w hw => c_spec_l15Options r p depth (ok_ hw) (ok_ hw)) ?_
 intro u6 x6 A7 c7 h7 bl7 bh7
 refine Qm rfl <| Qx rfl rfl <| Qx rfl rfl <| Qa rfl <| Qa rfl <| zJ <| zS <| Qm rfl <| Qd rfl rfl <| JL.nil ?_
 refine zi (fun h8 h8' => ?_) fun h8 h8' => ?_
 ·
  have hE := M.puz_c (r := r) (p := p) (depth := depth) (by simpa using h8)
  have hq0 : 0 = (((M.puz r p depth).1).rules).pits := rp_ hE
  have hq1 : 0 = (((M.puz r p depth).1).rules).seeds := rp_ hE
  have hq2 : false = (((M.puz r p depth).1).rules).stores := rp_ hE
  have hq3 : false = (((M.puz r p depth).1).rules).skip := rp_ hE
  have hq4 : false = (((M.puz r p depth).1).rules).relay := rp_ hE
  have hq5 : false = (((M.puz r p depth).1).rules).feed := rp_ hE
  have hq6 : false = (((M.puz r p depth).1).rules).again := rp_ hE
  have hq7 : 0 = (((M.puz r p depth).1).rules).capture := rp_ hE
  have hq8 : 0 = (((M.puz r p depth).1).rules).slam := rp_ hE
  have hq9 : [] = (((M.puz r p depth).1).position).pits := rp_ hE
  have hq10 : [] = (((M.puz r p depth).1).position).stores := rp_ hE
  have hq11 : 0 = (((M.puz r p depth).1).position).player := rp_ hE
  have hq12 : 0 = ((M.puz r p depth).1).depth := rp_ hE
  have hq13 : 0 = ((M.puz r p depth).1).move := rp_ hE
  have hq14 : 0 = ((M.puz r p depth).1).value := rp_ hE
  have hq15 : 0 = ((M.puz r p depth).1).margin := rp_ hE
  have hq16 : (M.optsC r p depth) = (M.puz r p depth).2 := rp_ hE
  refine zS <| Qb ?_
  refine Qm rfl <| zw 0 rfl rfl rfl ?_
  refine Qa rfl <| JL.nil ?_
  exact zro x6
 have hz : M.optsC r p depth = 0 := by simpa using h8
 have ho := M.optsC_ok hz
 have hR := M.optsR_yes hz
 have hrl := M.optsR_len r p depth
 have hol := M.opts_len r p depth
 have g8 := M.results_8 ho.1
 have hOb : ∀ x ∈ (M.optsR r p depth), -2000 ≤ x.value ∧ x.value ≤ 2000 := by rw [hR]; exact fun x hx => M.opts_bd ho.1 (by omega) ho.2.2.1 hx
 refine Js.skip <| Js.seq <| zS <| Qm rfl <| Qz rfl <| Ql rfl rfl <| JL.nil ?_
 refine zi (fun h9 h9' => ?_) fun h9 h9' => ?_
 ·
  have hE := M.puz_2 hz (by rw [← hR]; have := h9'; omega)
  have hq0 : 0 = (((M.puz r p depth).1).rules).pits := rp_ hE
  have hq1 : 0 = (((M.puz r p depth).1).rules).seeds := rp_ hE
  have hq2 : false = (((M.puz r p depth).1).rules).stores := rp_ hE
  have hq3 : false = (((M.puz r p depth).1).rules).skip := rp_ hE
  have hq4 : false = (((M.puz r p depth).1).rules).relay := rp_ hE
  have hq5 : false = (((M.puz r p depth).1).rules).feed := rp_ hE
  have hq6 : false = (((M.puz r p depth).1).rules).again := rp_ hE
  have hq7 : 0 = (((M.puz r p depth).1).rules).capture := rp_ hE
  have hq8 : 0 = (((M.puz r p depth).1).rules).slam := rp_ hE
  have hq9 : [] = (((M.puz r p depth).1).position).pits := rp_ hE
  have hq10 : [] = (((M.puz r p depth).1).position).stores := rp_ hE
  have hq11 : 0 = (((M.puz r p depth).1).position).player := rp_ hE
  have hq12 : 0 = ((M.puz r p depth).1).depth := rp_ hE
  have hq13 : 0 = ((M.puz r p depth).1).move := rp_ hE
  have hq14 : 0 = ((M.puz r p depth).1).value := rp_ hE
  have hq15 : 0 = ((M.puz r p depth).1).margin := rp_ hE
  have hq16 : 6 = (M.puz r p depth).2 := rp_ hE
  refine zS <| Qb ?_
  refine zw 0 rfl rfl rfl ?_
  refine Qa rfl <| JL.nil ?_
  exact zro x6
 have h2 : ¬ (M.optsR r p depth).length < 2 := by have := h9'; omega
 have hbb := hOb _ (M.bOpt_mem (l := (M.optsR r p depth)) (by omega))
 refine Js.skip <| zS <| Qm rfl <| zp rfl (fun w hw => c_spec_l15First (M.optsR r p depth) (ok_ hw)) ?_
 intro u10 x10
 refine za zeh fun b11 => zw 0 rfl rfl rfl ?_
 refine zN <| Qa rfl <| zJ <| zS <| Qa rfl <| JL.nil <| Js.block ?_
 refine zl [0, 1, 2, 6, 8, 10] (fun F U l os u m => ∃ (k : Nat) (s : Int), l = F [(11, .int .i64 s), (12, .int .i64 (k : Int))] ∧ os = U [] ∧ (M.second (M.bOpt (M.optsR r p depth)).move s ((M.optsR r p depth).drop k) = M.second (M.bOpt (M.optsR r p depth)).move (-1000) (M.optsR r p depth)) ∧ (-2000 ≤ s) ∧ (s ≤ 2000) ∧ (k ≤ (M.optsR r p depth).length) ∧ m = (M.optsR r p depth).length - k) ⟨0, (-1000), rfl, rfl, by rfl, zt, zt, zt, rfl⟩ ?_
 rintro _ _ u12 _ ⟨k, s, rfl, rfl, hS, s0, s1, hk, rfl⟩ x12
 refine zn ?_
 refine Js.seq <| zS <| Qm rfl <| Qm rfl <| Qz rfl <| Ql rfl rfl <| JL.nil ?_
 refine zi (fun h13 h13' => ?_) fun h13 h13' => ?_
 ·
  obtain ⟨ye14, hye14⟩ : ∃ x, (M.optsR r p depth)[k]? = some x := ⟨_, List.getElem?_eq_getElem (by omega)⟩
  refine Js.skip <| Js.seq <| Js.block <| Js.seq ?_
  refine zdr [] ?_
  refine jM 0 rfl rfl ?_
  refine jM 1 rfl rfl ?_
  have hy15 := hye14
  obtain ⟨b15, o15, he15, hr15⟩ := elem_Option (Ty.mono _ h7 (x10.vis.trans x12.vis)) hy15
  refine jI 2 el_164 rfl rfl rfl he15 ?_
  refine jF 3 fld_168_0 rfl rfl ?_
  refine jW 4 ty_2 rfl rfl (fun hv => (hr15.vis hv) 0 _ rfl) ?_
  refine jF 5 fld_168_0 rfl rfl ?_
  refine jB 6 0 ty_2 rfl rfl rfl rfl ?_
  refine JH.p 7 rfl (p_neq rfl rfl) ?_
  refine yd ?_
  refine zi (fun h16 h16' => ?_) fun h16 h16' => ?_
  ·
   have hob := hOb _ (List.mem_of_getElem? hye14)
   have hS2 := M.second_s hS hye14
   rw [if_neg (by simpa using h16)] at hS2
   have hy17 := hye14
   obtain ⟨b17, o17, he17, hr17⟩ := elem_Option (Ty.mono _ h7 (x10.vis.trans x12.vis)) hy17
   refine Js.region <| Qm rfl <| Qm rfl <| Qm rfl <| Qq (p_indexAddr el_164 rfl rfl (by omega) (by omega) he17) <| Qf fh rfl <| QC (hr17 1 _ rfl) rfl <| zv rfl (fun w hw => c_spec_l00Max s ye14.value) <| Qa rfl <| JL.nil <| Js.blockEnd <| Js.region <| Qm rfl <| Qp rfl rfl ?_
   refine Qa rfl <| JL.nil ?_
   exact zag ⟨k + 1, if s < ye14.value then ye14.value else s, rfl, rfl, by exact hS2, by first | omega | (split <;> omega), by first | omega | (split <;> omega), zt, rfl⟩ x12
  have hS2 := M.second_s hS hye14
  rw [if_pos (by simpa using h16)] at hS2
  refine Js.skip <| Js.blockEnd <| Js.region <| Qm rfl <| Qp rfl rfl <| Qa rfl <| JL.nil ?_
  exact zag ⟨k + 1, s, rfl, rfl, by exact hS2, by first | omega | (split <;> omega), by first | omega | (split <;> omega), zt, rfl⟩ x12
 have hS3 := M.second_e hS (by have := h13'; omega)
 refine zx ?_
 refine Js.seq <| zS <| Qm rfl <| Qf fh rfl <| Q0 0 rfl rfl rfl <| Qe rfl rfl <| JL.nil ?_
 refine zi (fun h18 h18' => ?_) fun h18 h18' => ?_
 ·
  have hE := M.puz_6 hz (by rw [← hR]; exact h2) (by rw [← hR, ← hS3]; simpa using h18)
  have hq0 : 0 = (((M.puz r p depth).1).rules).pits := rp_ hE
  have hq1 : 0 = (((M.puz r p depth).1).rules).seeds := rp_ hE
  have hq2 : false = (((M.puz r p depth).1).rules).stores := rp_ hE
  have hq3 : false = (((M.puz r p depth).1).rules).skip := rp_ hE
  have hq4 : false = (((M.puz r p depth).1).rules).relay := rp_ hE
  have hq5 : false = (((M.puz r p depth).1).rules).feed := rp_ hE
  have hq6 : false = (((M.puz r p depth).1).rules).again := rp_ hE
  have hq7 : 0 = (((M.puz r p depth).1).rules).capture := rp_ hE
  have hq8 : 0 = (((M.puz r p depth).1).rules).slam := rp_ hE
  have hq9 : [] = (((M.puz r p depth).1).position).pits := rp_ hE
  have hq10 : [] = (((M.puz r p depth).1).position).stores := rp_ hE
  have hq11 : 0 = (((M.puz r p depth).1).position).player := rp_ hE
  have hq12 : 0 = ((M.puz r p depth).1).depth := rp_ hE
  have hq13 : 0 = ((M.puz r p depth).1).move := rp_ hE
  have hq14 : 0 = ((M.puz r p depth).1).value := rp_ hE
  have hq15 : 0 = ((M.puz r p depth).1).margin := rp_ hE
  have hq16 : 6 = (M.puz r p depth).2 := rp_ hE
  refine zS <| Qb ?_
  refine zw 1 rfl rfl rfl ?_
  refine Qa rfl <| JL.nil ?_
  exact zro ((x6.trans x10).trans x12)
 have hE := M.puz_0 hz (by rw [← hR]; exact h2) (by rw [← hR, ← hS3]; simpa using h18)
 rw [← hR, ← hS3] at hE
 refine Js.skip <| Js.seq ?_
 refine zdr [15] ?_
 refine jM 0 rfl rfl ?_
 refine jN 1 rfl rfl ?_
 refine JH.w 2 rfl (fun os' u' hv => LS 0 (hr1.vis (((x6.vis.trans x10.vis).trans x12.vis).trans hv)) rfl) ?_
 refine jM 3 rfl rfl ?_
 refine jM 5 rfl rfl ?_
 refine jF 6 fld_168_0 rfl rfl ?_
 refine jB 7 0 ty_2 rfl rfl rfl rfl ?_
 refine jF 8 fld_168_1 rfl rfl ?_
 refine jB 9 0 ty_2 rfl rfl rfl rfl ?_
 refine jF 10 fld_168_1 rfl rfl ?_
 refine jB 11 0 ty_2 rfl rfl rfl rfl ?_
 refine jM 12 rfl rfl ?_
 refine JH.p 13 rfl (p_sub rfl rfl (IntWalk.i64_in _ (by omega))) ?_
 refine y1 4 ?_
 refine yc rfl rfl (fun w hw => c_spec_l04Own p (ok_ hw)) ?_
 intro A20 c20 bl20 bh20 A21 c21 bl21 bh21
 refine JH.p 14 rfl (q_bld) ?_
 refine y1 15 ?_
 refine yst rfl rfl rfl ?_
 refine jA 16 rfl rfl ?_
 refine yd ?_
 have hq0 : r.pits = (((M.puz r p depth).1).rules).pits := rp_ hE
 have hq1 : r.seeds = (((M.puz r p depth).1).rules).seeds := rp_ hE
 have hq2 : r.stores = (((M.puz r p depth).1).rules).stores := rp_ hE
 have hq3 : r.skip = (((M.puz r p depth).1).rules).skip := rp_ hE
 have hq4 : r.relay = (((M.puz r p depth).1).rules).relay := rp_ hE
 have hq5 : r.feed = (((M.puz r p depth).1).rules).feed := rp_ hE
 have hq6 : r.again = (((M.puz r p depth).1).rules).again := rp_ hE
 have hq7 : r.capture = (((M.puz r p depth).1).rules).capture := rp_ hE
 have hq8 : r.slam = (((M.puz r p depth).1).rules).slam := rp_ hE
 have hq9 : p.pits = (((M.puz r p depth).1).position).pits := rp_ hE
 have hq10 : p.stores = (((M.puz r p depth).1).position).stores := rp_ hE
 have hq11 : p.player = (((M.puz r p depth).1).position).player := rp_ hE
 have hq12 : depth = ((M.puz r p depth).1).depth := rp_ hE
 have hq13 : ((M.bOpt (M.optsR r p depth)).move) = ((M.puz r p depth).1).move := rp_ hE
 have hq14 : ((M.bOpt (M.optsR r p depth)).value) = ((M.puz r p depth).1).value := rp_ hE
 have hq15 : (((M.bOpt (M.optsR r p depth)).value) - s) = ((M.puz r p depth).1).margin := rp_ hE
 have hq16 : 0 = (M.puz r p depth).2 := rp_ hE
 exact zro ((x6.trans x10).trans x12)
theorem c_spec_PuzzleOf (r : M.Rul) {v_r : Value} (p : M.Pos) {v_p : Value} (depth : Int) {w : World} (h_r : (Ty.agg (cRules r)).ok w v_r) (h_p : (Ty.agg (cPosition p)).ok w v_p) (r0 : p.pits.length ≤ 4194304 := by exact om_) (r1 : p.stores.length ≤ 4194304 := by exact om_) : Ret Tryz.prog 20 [v_r, v_p, .int .i64 depth] w (Ty.tup [Ty.agg (cPuzzle ((M.puz r p depth).1)), Ty.int ((M.puz r p depth).2)]) := by
 revert v_r; apply opn
 revert v_p; apply opn
 intro A1 c1 h1 bl1 bh1 A2 c2 h2 bl2 bh2
 refine enter @Tryz.func20 @Tryz.ntmps20 rfl rfl ?_
 refine zent ?_
 refine zS <| zb rfl fun b3 => zb rfl fun b4 => za zeh fun b5 => Qa rfl <| zN <| Qm rfl <| zcs rfl (fun w hw => c_spec_l21Of r p depth (ok_ hw) (ok_ hw)) ?_
 intro A7_9 c7_9 bl7_9 bh7_9 A7_10 c7_10 bl7_10 bh7_10 f7
 refine Qx rfl rfl <| Qx rfl rfl <| zw 1 rfl rfl rfl ?_
 refine Qa rfl <| JL.nil ?_
 exact zro (Up.refl _ _)
theorem c_spec_l21Same (a : M.Puz) {v_a : Value} (b : M.Puz) {v_b : Value} {w : World} (h_a : (Ty.ref (cPuzzle a)).ok w v_a) (h_b : (Ty.ref (cPuzzle b)).ok w v_b) (r0 : a.position.pits.length ≤ 4194304 := by exact om_) (r1 : a.position.stores.length ≤ 4194304 := by exact om_) (r2 : b.position.pits.length ≤ 4194304 := by exact om_) (r3 : b.position.stores.length ≤ 4194304 := by exact om_) : RetV Tryz.prog 68 [v_a, v_b] w (.bool (M.samez a b)) := by
 revert v_a; apply opn
 intro b3 o3 A1 c1 h1 bl1 bh1 A2 c2 h2 bl2 bh2 hr3
 revert v_b; apply opn
 intro b6 o6 A4 c4 h4 bl4 bh4 A5 c5 h5 bl5 bh5 hr6
 refine enter @Tryz.func68 @Tryz.ntmps68 rfl rfl ?_
 refine zent ?_
 refine zS <| Qa rfl <| zJ ?_
 refine zdr [] ?_
 refine jM 0 rfl rfl ?_
 refine jN 1 rfl rfl ?_
 refine jF 2 fld_53_0 rfl rfl ?_
 refine JH.w 3 rfl (fun os' u' hv => LS 0 (hr3.vis hv) rfl) ?_
 refine jM 4 rfl rfl ?_
 refine jN 5 rfl rfl ?_
 refine jF 6 fld_53_0 rfl rfl ?_
 refine JH.w 7 rfl (fun os' u' hv => LS 0 (hr6.vis hv) rfl) ?_
 refine JH.p 8 rfl (p_eqlS (by kernel_rfl) (fun w => eqs_Rules a.rules b.rules w) rfl rfl) ?_
 refine jM 9 rfl rfl ?_
 refine JH.pg 10 rfl (Gd.t1 rfl rfl rfl) (fun hc => p_move rfl) ?_
 refine JH.pg 11 rfl (Gd.t1 rfl rfl rfl) (fun hc => p_nilCheck (gvt rfl hc)) ?_
 refine JH.pg 12 rfl (Gd.t1 rfl rfl rfl) (fun hc => p_fieldAddr fld_53_1.h (gvt rfl hc)) ?_
 refine JH.pg 13 rfl (Gd.t1 rfl rfl rfl) (fun hc => p_move rfl) ?_
 refine JH.pg 14 rfl (Gd.t1 rfl rfl rfl) (fun hc => p_nilCheck (gvt rfl hc)) ?_
 refine JH.pg 15 rfl (Gd.t1 rfl rfl rfl) (fun hc => p_fieldAddr fld_53_1.h (gvt rfl hc)) ?_
 refine y1 16 ?_
 refine JHo.ge rfl (Gd.t1 rfl rfl rfl) (fun hc => e_callV fn_118.h (opds_2 (gvt rfl hc) (gvt rfl hc)) (fun w hw => c_spec_l04Same a.position b.position (ok_ hw) (ok_ hw) (r0 := (oh_ hc)) (r1 := (oh_ hc)) (r2 := (oh_ hc)) (r3 := (oh_ hc)))) ?_
 refine JH.p 17 rfl (p_pickAnd rfl rfl rfl) ?_
 refine jM 18 rfl rfl ?_
 refine JH.pg 19 rfl (Gd.t1 rfl rfl rfl) (fun hc => p_move rfl) ?_
 refine JH.pg 20 rfl (Gd.t1 rfl rfl rfl) (fun hc => p_nilCheck (gvt rfl hc)) ?_
 refine JH.pg 21 rfl (Gd.t1 rfl rfl rfl) (fun hc => p_fieldAddr fld_53_2.h (gvt rfl hc)) ?_
 refine JH.wg 22 rfl (Gd.t1 rfl rfl rfl) (fun hc os' u' hv => q_load1 ty_2.h (gvt rfl hc) (Mem.pub ((hr3.vis hv) 12 _ rfl))) ?_
 refine JH.pg 23 rfl (Gd.t1 rfl rfl rfl) (fun hc => p_move rfl) ?_
 refine JH.pg 24 rfl (Gd.t1 rfl rfl rfl) (fun hc => p_nilCheck (gvt rfl hc)) ?_
 refine JH.pg 25 rfl (Gd.t1 rfl rfl rfl) (fun hc => p_fieldAddr fld_53_2.h (gvt rfl hc)) ?_
 refine JH.wg 26 rfl (Gd.t1 rfl rfl rfl) (fun hc os' u' hv => q_load1 ty_2.h (gvt rfl hc) (Mem.pub ((hr6.vis hv) 12 _ rfl))) ?_
 refine JH.pg 27 rfl (Gd.t1 rfl rfl rfl) (fun hc => p_eql (gvt rfl hc) (gvt rfl hc)) ?_
 refine JH.p 28 rfl (p_pickAnd rfl rfl rfl) ?_
 refine jM 29 rfl rfl ?_
 refine JH.pg 30 rfl (Gd.t1 rfl rfl rfl) (fun hc => p_move rfl) ?_
 refine JH.pg 31 rfl (Gd.t1 rfl rfl rfl) (fun hc => p_nilCheck (gvt rfl hc)) ?_
 refine JH.pg 32 rfl (Gd.t1 rfl rfl rfl) (fun hc => p_fieldAddr fld_53_3.h (gvt rfl hc)) ?_
 refine JH.wg 33 rfl (Gd.t1 rfl rfl rfl) (fun hc os' u' hv => q_load1 ty_2.h (gvt rfl hc) (Mem.pub ((hr3.vis hv) 13 _ rfl))) ?_
 refine JH.pg 34 rfl (Gd.t1 rfl rfl rfl) (fun hc => p_move rfl) ?_
 refine JH.pg 35 rfl (Gd.t1 rfl rfl rfl) (fun hc => p_nilCheck (gvt rfl hc)) ?_
 refine JH.pg 36 rfl (Gd.t1 rfl rfl rfl) (fun hc => p_fieldAddr fld_53_3.h (gvt rfl hc)) ?_
 refine JH.wg 37 rfl (Gd.t1 rfl rfl rfl) (fun hc os' u' hv => q_load1 ty_2.h (gvt rfl hc) (Mem.pub ((hr6.vis hv) 13 _ rfl))) ?_
 refine JH.pg 38 rfl (Gd.t1 rfl rfl rfl) (fun hc => p_eql (gvt rfl hc) (gvt rfl hc)) ?_
 refine JH.p 39 rfl (p_pickAnd rfl rfl rfl) ?_
 refine jM 40 rfl rfl ?_
 refine JH.pg 41 rfl (Gd.t1 rfl rfl rfl) (fun hc => p_move rfl) ?_
 refine JH.pg 42 rfl (Gd.t1 rfl rfl rfl) (fun hc => p_nilCheck (gvt rfl hc)) ?_
 refine JH.pg 43 rfl (Gd.t1 rfl rfl rfl) (fun hc => p_fieldAddr fld_53_4.h (gvt rfl hc)) ?_
 refine JH.wg 44 rfl (Gd.t1 rfl rfl rfl) (fun hc os' u' hv => q_load1 ty_2.h (gvt rfl hc) (Mem.pub ((hr3.vis hv) 14 _ rfl))) ?_
 refine JH.pg 45 rfl (Gd.t1 rfl rfl rfl) (fun hc => p_move rfl) ?_
 refine JH.pg 46 rfl (Gd.t1 rfl rfl rfl) (fun hc => p_nilCheck (gvt rfl hc)) ?_
 refine JH.pg 47 rfl (Gd.t1 rfl rfl rfl) (fun hc => p_fieldAddr fld_53_4.h (gvt rfl hc)) ?_
 refine JH.wg 48 rfl (Gd.t1 rfl rfl rfl) (fun hc os' u' hv => q_load1 ty_2.h (gvt rfl hc) (Mem.pub ((hr6.vis hv) 14 _ rfl))) ?_
 refine JH.pg 49 rfl (Gd.t1 rfl rfl rfl) (fun hc => p_eql (gvt rfl hc) (gvt rfl hc)) ?_
 refine JH.p 50 rfl (p_pickAnd rfl rfl rfl) ?_
 refine jM 51 rfl rfl ?_
 refine JH.pg 52 rfl (Gd.t1 rfl rfl rfl) (fun hc => p_move rfl) ?_
 refine JH.pg 53 rfl (Gd.t1 rfl rfl rfl) (fun hc => p_nilCheck (gvt rfl hc)) ?_
 refine JH.pg 54 rfl (Gd.t1 rfl rfl rfl) (fun hc => p_fieldAddr fld_53_5.h (gvt rfl hc)) ?_
 refine JH.wg 55 rfl (Gd.t1 rfl rfl rfl) (fun hc os' u' hv => q_load1 ty_2.h (gvt rfl hc) (Mem.pub ((hr3.vis hv) 15 _ rfl))) ?_
 refine JH.pg 56 rfl (Gd.t1 rfl rfl rfl) (fun hc => p_move rfl) ?_
 refine JH.pg 57 rfl (Gd.t1 rfl rfl rfl) (fun hc => p_nilCheck (gvt rfl hc)) ?_
 refine JH.pg 58 rfl (Gd.t1 rfl rfl rfl) (fun hc => p_fieldAddr fld_53_5.h (gvt rfl hc)) ?_
 refine JH.wg 59 rfl (Gd.t1 rfl rfl rfl) (fun hc os' u' hv => q_load1 ty_2.h (gvt rfl hc) (Mem.pub ((hr6.vis hv) 15 _ rfl))) ?_
 refine JH.pg 60 rfl (Gd.t1 rfl rfl rfl) (fun hc => p_eql (gvt rfl hc) (gvt rfl hc)) ?_
 refine JH.p 61 rfl (p_pickAnd rfl rfl rfl) ?_
 refine jA 62 rfl rfl ?_
 refine yd ?_
 refine zR (Up.refl _ _) ?_
 simp [outV, M.samez, Bool.and_assoc]
theorem c_spec_l21Ok (z : M.Puz) {v_z : Value} {w : World} (h_z : (Ty.ref (cPuzzle z)).ok w v_z) (r0 : z.position.pits.length ≤ 4194304 := by exact om_) (r1 : z.position.stores.length ≤ 4194304 := by exact om_) : RetV Tryz.prog 64 [v_z] w (.bool (M.okZ z)) := by
 have hsm := M.puz_small z.rules z.position z.depth
 have hs1 := hsm.sp
 have hs2 := hsm.ss
 revert v_z; apply opn
 intro b3 o3 A1 c1 h1 bl1 bh1 A2 c2 h2 bl2 bh2 hr3
 refine enter @Tryz.func64 @Tryz.ntmps64 rfl rfl ?_
 refine zent ?_
 refine zS <| Qa rfl <| zJ ?_
 refine zk [0] (fun F U l os u => ∃ (b7 : Nat) (A5 : Option Addr) (c5 : Nat) (A6 : Option Addr) (c6 : Nat), l = F [(3, .pointer (some ⟨b7, 0, none⟩)), (4, .int .i64 ((M.puz z.rules z.position z.depth).2))] ∧ os = [boxO b7 [.int .i64 ((((M.puz z.rules z.position z.depth).1).rules).pits), .int .i64 ((((M.puz z.rules z.position z.depth).1).rules).seeds), .bool ((((M.puz z.rules z.position z.depth).1).rules).stores), .bool ((((M.puz z.rules z.position z.depth).1).rules).skip), .bool ((((M.puz z.rules z.position z.depth).1).rules).relay), .bool ((((M.puz z.rules z.position z.depth).1).rules).feed), .bool ((((M.puz z.rules z.position z.depth).1).rules).again), .int .i64 ((((M.puz z.rules z.position z.depth).1).rules).capture), .int .i64 ((((M.puz z.rules z.position z.depth).1).rules).slam), .slice A5 (((((M.puz z.rules z.position z.depth).1).position).pits).length) c5, .slice A6 (((((M.puz z.rules z.position z.depth).1).position).stores).length) c6, .int .i64 ((((M.puz z.rules z.position z.depth).1).position).player), .int .i64 (((M.puz z.rules z.position z.depth).1).depth), .int .i64 (((M.puz z.rules z.position z.depth).1).move), .int .i64 (((M.puz z.rules z.position z.depth).1).value), .int .i64 (((M.puz z.rules z.position z.depth).1).margin)] 53] ∧ (((((M.puz z.rules z.position z.depth).1).position).pits).length ≤ c5) ∧ (c5 ≤ 9223372036854775807) ∧ ((Ty.ints 2 ((((M.puz z.rules z.position z.depth).1).position).pits)).ok u (.slice A5 (((((M.puz z.rules z.position z.depth).1).position).pits).length) c5)) ∧ (((((M.puz z.rules z.position z.depth).1).position).stores).length ≤ c6) ∧ (c6 ≤ 9223372036854775807) ∧ ((Ty.ints 2 ((((M.puz z.rules z.position z.depth).1).position).stores)).ok u (.slice A6 (((((M.puz z.rules z.position z.depth).1).position).stores).length) c6))) ?_ ?_
 ·
  refine zdr [15] ?_
  refine jM 0 rfl rfl ?_
  refine jN 1 rfl rfl ?_
  refine jF 2 fld_53_0 rfl rfl ?_
  refine jM 3 rfl rfl ?_
  refine jN 4 rfl rfl ?_
  refine jF 5 fld_53_1 rfl rfl ?_
  refine jM 6 rfl rfl ?_
  refine jN 7 rfl rfl ?_
  refine jF 8 fld_53_2 rfl rfl ?_
  refine jW 9 ty_2 rfl rfl (fun hv => (hr3.vis hv) 12 _ rfl) ?_
  refine y2 10 14 ?_ ?_
  ·
   refine yp rfl rfl (fun w hw => c_spec_l21Of z.rules z.position z.depth (ok_ hw) (ok_ hw)) ?_
   intro u13 x13 A14 c14 h14 bl14 bh14 A15 c15 h15 bl15 bh15
   refine jM 11 rfl rfl ?_
   refine JH.p 12 rfl (p_extract rfl rfl) ?_
   refine JH.p 13 rfl (p_extract rfl rfl) ?_
   refine y1 14 ?_
   refine ya rfl fun b16 => ?_
   refine y1 15 ?_
   refine yst rfl rfl rfl ?_
   refine jA 16 rfl rfl ?_
   refine yd ?_
   exact zm ⟨_, _, _, _, _, rfl, rfl, zt, zt, h14, zt, zt, h15⟩ x13
  refine ya rfl fun b17 => ?_
  refine y1 10 ?_
  refine yp rfl rfl (fun w hw => c_spec_l21Of z.rules z.position z.depth (ok_ hw) (ok_ hw)) ?_
  intro u18 x18 A19 c19 h19 bl19 bh19 A20 c20 h20 bl20 bh20
  refine jM 11 rfl rfl ?_
  refine JH.p 12 rfl (p_extract rfl rfl) ?_
  refine JH.p 13 rfl (p_extract rfl rfl) ?_
  refine y1 15 ?_
  refine yst rfl rfl rfl ?_
  refine jA 16 rfl rfl ?_
  refine yd ?_
  exact zm ⟨_, _, _, _, _, rfl, rfl, zt, zt, h19, zt, zt, h20⟩ x18
 rintro _ _ u12 ⟨b7, A5, c5, A6, c6, rfl, rfl, f12_0, f12_1, f12_2, f12_3, f12_4, f12_5⟩ x12
 refine zn ?_
 refine zS <| Qm rfl <| Qe rfl rfl <| Qm rfl <| zg (Gd.t1 rfl rfl rfl) (fun hc => p_move rfl) <| zgv (Gd.t1 rfl rfl rfl) (fun hc => (opds_2 rfl (gh hc rfl))) (fun hc => (fun w hw => c_spec_l21Same ((M.puz z.rules z.position z.depth).1) z (ok_ hw) (ok_ hw) (r0 := (oh_ hc)) (r1 := (oh_ hc)) (r2 := (oh_ hc)) (r3 := (oh_ hc)))) ?_
 refine Qq (p_pickAnd rfl rfl rfl) <| Qa rfl <| JL.nil ?_
 refine zR x12 ?_
 simp [outV, M.okZ]
theorem c_spec_ValidPuzzle (z : M.Puz) {v_z : Value} {w : World} (h_z : (Ty.agg (cPuzzle z)).ok w v_z) (r0 : z.position.pits.length ≤ 4194304 := by exact om_) (r1 : z.position.stores.length ≤ 4194304 := by exact om_) : RetV Tryz.prog 27 [v_z] w (.bool (M.okZ z)) := by
 revert v_z; apply opn
 intro A1 c1 h1 bl1 bh1 A2 c2 h2 bl2 bh2
 refine enter @Tryz.func27 @Tryz.ntmps27 rfl rfl ?_
 refine zent ?_
 refine zS <| zb rfl fun b3 => Qa rfl <| zN <| zv rfl (fun w hw => c_spec_l21Ok z (ok_ hw)) <| Qa rfl <| JL.nil ?_
 exact zr (Up.refl _ _)
theorem c_spec_l04Turn (r : M.Rul) {v_r : Value} (p : M.Pos) {v_p : Value} {w : World} (h_r : (Ty.ref (cRules r)).ok w v_r) (h_p : (Ty.ref (cPosition p)).ok w v_p) (r0 : M.okP r p = true := by exact om_) : Ret Tryz.prog 65 [v_r, v_p] w (Ty.agg (cPosition (M.turnP r p))) := by
 obtain ⟨g1, g2, g3, g4, g5, g6, g7⟩ := M.okP_bd r0
 revert v_r; apply opn
 intro b1 o1 hr1
 revert v_p; apply opn
 intro b4 o4 A2 c2 h2 bl2 bh2 A3 c3 h3 bl3 bh3 hr4
 refine enter @Tryz.func65 @Tryz.ntmps65 rfl rfl ?_
 refine zent ?_
 refine zS <| za zeh fun b5 => zJ ?_
 refine zdr [] ?_
 refine jM 0 rfl rfl ?_
 refine jN 1 rfl rfl ?_
 refine jF 2 fld_31_0 rfl rfl ?_
 refine jW 3 ty_29 rfl rfl (fun hv => (hr4.vis hv) 0 _ rfl) ?_
 refine jM 4 rfl rfl ?_
 refine jN 5 rfl rfl ?_
 refine jF 6 fld_25_0 rfl rfl ?_
 refine jW 7 ty_2 rfl rfl (fun hv => (hr1.vis hv) 0 _ rfl) ?_
 have hs6 := ints_cut (a := r.pits.toNat) (b := p.pits.length) (m := c2) h2 (by omega) (by omega) (by omega) (by omega)
 have hl6 : ((p.pits.drop r.pits.toNat).take (p.pits.length - r.pits.toNat)).length = p.pits.length - r.pits.toNat := by rw [List.length_take, List.length_drop]; omega
 refine JH.p 8 rfl (p_slice (lo' := r.pits.toNat) (hi' := p.pits.length) (mx' := c2) el_29 rfl rfl ⟨rfl, rfl⟩ ⟨_, by rw [Int.toNat_of_nonneg (by omega)]; exact rfl, by omega⟩) ?_
 refine y1 9 ?_
 refine ycs rfl rfl (fun w hw => c_spec_l00Own ((p.pits.drop r.pits.toNat).take (p.pits.length - r.pits.toNat)) (ok_ hw)) ?_
 intro A7 c7 bl7 bh7
 refine jA 10 rfl rfl ?_
 refine yd ?_
 refine Js.seq ?_
 refine zk [4] (fun F U l os u => ∃ (b14 : Nat) (A13 : Option Addr) (c13 : Nat) (g12 : List Nat), l = F [] ∧ os = [rowO 2 1 (.slice (some ⟨b14, 0, none⟩) 2 2) 2 [.int .i64 (M.nth p.stores 1), .int .i64 (M.nth p.stores 0)] []] ++ U [some (rowO 2 1 (.slice A13 ((((p.pits.drop r.pits.toNat).take (p.pits.length - r.pits.toNat)) ++ ((p.pits.drop 0).take (r.pits.toNat - 0))).length) c13) ((((p.pits.drop r.pits.toNat).take (p.pits.length - r.pits.toNat)) ++ ((p.pits.drop 0).take (r.pits.toNat - 0))).length) (ints_ (((p.pits.drop r.pits.toNat).take (p.pits.length - r.pits.toNat)) ++ ((p.pits.drop 0).take (r.pits.toNat - 0)))) g12), some (boxO b5 [.slice A13 ((((p.pits.drop r.pits.toNat).take (p.pits.length - r.pits.toNat)) ++ ((p.pits.drop 0).take (r.pits.toNat - 0))).length) c13, .slice (some ⟨b14, 0, none⟩) 2 2, .int .i64 (1 - p.player)] 31)] ∧ ((((p.pits.drop r.pits.toNat).take (p.pits.length - r.pits.toNat)) ++ ((p.pits.drop 0).take (r.pits.toNat - 0))).length ≤ c13) ∧ (c13 ≤ 9223372036854775807)) ?_ ?_
 ·
  refine zdr [10, 30] ?_
  refine jM 0 rfl rfl ?_
  refine jM 1 rfl rfl ?_
  refine jN 2 rfl rfl ?_
  refine jF 3 fld_31_0 rfl rfl ?_
  refine jW 4 ty_29 rfl rfl (fun hv => (hr4.vis hv) 0 _ rfl) ?_
  refine jM 5 rfl rfl ?_
  refine jN 6 rfl rfl ?_
  refine jF 7 fld_25_0 rfl rfl ?_
  refine jW 8 ty_2 rfl rfl (fun hv => (hr1.vis hv) 0 _ rfl) ?_
  have hs22 := ints_cut (a := 0) (b := r.pits.toNat) (m := c2) h2 (by omega) (by omega) (by omega) (by omega)
  have hl22 : ((p.pits.drop 0).take (r.pits.toNat - 0)).length = r.pits.toNat - 0 := by rw [List.length_take, List.length_drop]; omega
  refine JH.p 9 rfl (p_slice (lo' := 0) (hi' := r.pits.toNat) (mx' := c2) el_29 rfl rfl ⟨_, by rw [Int.toNat_of_nonneg (by omega)]; exact rfl, by omega⟩ rfl) ?_
  refine jM 11 rfl rfl ?_
  refine jN 12 rfl rfl ?_
  refine jF 13 fld_31_1 rfl rfl ?_
  refine jW 14 ty_29 rfl rfl (fun hv => (hr4.vis hv) 1 _ rfl) ?_
  obtain ⟨b23, o23, he23, hc23⟩ := ints_elem h3 (i := 1) (by omega)
  refine jI 15 el_29 rfl rfl rfl he23 ?_
  refine jW 16 ty_2 rfl rfl hc23.vis ?_
  refine jM 17 rfl rfl ?_
  refine jN 18 rfl rfl ?_
  refine jF 19 fld_31_1 rfl rfl ?_
  refine jW 20 ty_29 rfl rfl (fun hv => (hr4.vis hv) 1 _ rfl) ?_
  obtain ⟨b24, o24, he24, hc24⟩ := ints_elem h3 (i := 0) (by omega)
  refine jI 21 el_29 rfl rfl rfl he24 ?_
  refine jW 22 ty_2 rfl rfl hc24.vis ?_
  refine jM 24 rfl rfl ?_
  refine jN 25 rfl rfl ?_
  refine jF 26 fld_31_2 rfl rfl ?_
  refine jW 27 ty_2 rfl rfl (fun hv => (hr4.vis hv) 2 _ rfl) ?_
  refine JH.p 28 rfl (p_sub rfl rfl (IntWalk.i64_in _ (by omega))) ?_
  refine y2 10 23 ?_ ?_
  ·
   refine JHo.e rfl (e_append (i := 0) (n' := (((p.pits.drop r.pits.toNat).take (p.pits.length - r.pits.toNat)) ++ ((p.pits.drop 0).take (r.pits.toNat - 0))).length) (vs' := ints_ (((p.pits.drop r.pits.toNat).take (p.pits.length - r.pits.toNat)) ++ ((p.pits.drop 0).take (r.pits.toNat - 0)))) el_29 rfl rfl rfl rfl (src_intsN und_29 hl22 hs22) (by omega) (by omega) ln2_ (by simp [ints_])) (.inr rfl) ?_
   rintro v25 _ _ ⟨⟨g26, rfl⟩, rfl⟩ _
   refine JH.fact (row_form' (i := 0) rfl) (fun hf27 => ?_)
   obtain ⟨A27, c27, rfl, bl27, bh27⟩ := hf27
   refine znh ?_
   refine y1 23 ?_
   refine ybs rfl fun b28 => ?_
   refine JH.p 29 rfl (q_bld) ?_
   refine y1 30 ?_
   refine yst rfl rfl rfl ?_
   refine yd ?_
   exact zm ⟨_, _, _, _, rfl, rfl, zt, zt⟩ (Up.refl _ _)
  refine ybs rfl fun b30 => ?_
  refine y1 10 ?_
  refine JHo.e rfl (e_append (i := 1) (n' := (((p.pits.drop r.pits.toNat).take (p.pits.length - r.pits.toNat)) ++ ((p.pits.drop 0).take (r.pits.toNat - 0))).length) (vs' := ints_ (((p.pits.drop r.pits.toNat).take (p.pits.length - r.pits.toNat)) ++ ((p.pits.drop 0).take (r.pits.toNat - 0)))) el_29 rfl rfl rfl rfl (src_intsN und_29 hl22 hs22) (by omega) (by omega) ln2_ (by simp [ints_])) (.inr rfl) ?_
  rintro v32 _ _ ⟨⟨g33, rfl⟩, rfl⟩ _
  refine JH.fact (row_form' (i := 1) rfl) (fun hf34 => ?_)
  obtain ⟨A34, c34, rfl, bl34, bh34⟩ := hf34
  refine znh ?_
  refine JH.p 29 rfl (q_bld) ?_
  refine y1 30 ?_
  refine yst rfl rfl rfl ?_
  refine yd ?_
  exact zm ⟨_, _, _, _, rfl, rfl, zt, zt⟩ (Up.refl _ _)
 rintro _ _ u21 ⟨b14, A13, c13, g12, rfl, rfl, f21_0, f21_1⟩ x21
 refine zn ?_
 have hq0 : (((p.pits.drop r.pits.toNat).take (p.pits.length - r.pits.toNat)) ++ ((p.pits.drop 0).take (r.pits.toNat - 0))) = (M.turnP r p).pits := by first | rfl | (simp [M.turnP, List.take_of_length_le]; done) | (unfold M.turnP; simp; omega)
 have hq1 : [(M.nth p.stores 1), (M.nth p.stores 0)] = (M.turnP r p).stores := by first | rfl | (simp [M.turnP, List.take_of_length_le]; done) | (unfold M.turnP; simp; omega)
 have hq2 : (1 - p.player) = (M.turnP r p).player := by first | rfl | (simp [M.turnP, List.take_of_length_le]; done) | (unfold M.turnP; simp; omega)
 exact zro x21
theorem c_spec_TurnPuzzle (z : M.Puz) {v_z : Value} {w : World} (h_z : (Ty.agg (cPuzzle z)).ok w v_z) (r0 : z.position.pits.length ≤ 4194304 := by exact om_) (r1 : z.position.stores.length ≤ 4194304 := by exact om_) : Ret Tryz.prog 23 [v_z] w (Ty.tup [Ty.agg (cPuzzle ((M.turnZ z).1)), Ty.int ((M.turnZ z).2)]) := by
 revert v_z; apply opn
 intro A1 c1 h1 bl1 bh1 A2 c2 h2 bl2 bh2
 refine enter @Tryz.func23 @Tryz.ntmps23 rfl rfl ?_
 refine zent ?_
 refine zS <| zb rfl fun b3 => za zeh fun b4 => Qa rfl <| zJ <| zS <| zv rfl (fun w hw => c_spec_l21Ok z (ok_ hw)) <| Qt rfl <| JL.nil ?_
 refine zi (fun h5 h5' => ?_) fun h5 h5' => ?_
 ·
  have hno : M.okZ z = false := by simpa using h5
  have hE := M.turnZ_no hno
  have hq0 : 0 = (((M.turnZ z).1).rules).pits := rp_ hE
  have hq1 : 0 = (((M.turnZ z).1).rules).seeds := rp_ hE
  have hq2 : false = (((M.turnZ z).1).rules).stores := rp_ hE
  have hq3 : false = (((M.turnZ z).1).rules).skip := rp_ hE
  have hq4 : false = (((M.turnZ z).1).rules).relay := rp_ hE
  have hq5 : false = (((M.turnZ z).1).rules).feed := rp_ hE
  have hq6 : false = (((M.turnZ z).1).rules).again := rp_ hE
  have hq7 : 0 = (((M.turnZ z).1).rules).capture := rp_ hE
  have hq8 : 0 = (((M.turnZ z).1).rules).slam := rp_ hE
  have hq9 : [] = (((M.turnZ z).1).position).pits := rp_ hE
  have hq10 : [] = (((M.turnZ z).1).position).stores := rp_ hE
  have hq11 : 0 = (((M.turnZ z).1).position).player := rp_ hE
  have hq12 : 0 = ((M.turnZ z).1).depth := rp_ hE
  have hq13 : 0 = ((M.turnZ z).1).move := rp_ hE
  have hq14 : 0 = ((M.turnZ z).1).value := rp_ hE
  have hq15 : 0 = ((M.turnZ z).1).margin := rp_ hE
  have hq16 : 1 = (M.turnZ z).2 := rp_ hE
  refine zS <| Qb ?_
  refine zw 0 rfl rfl rfl ?_
  refine Qa rfl <| JL.nil ?_
  exact zro (Up.refl _ _)
 have hok : M.okZ z = true := by simpa using h5
 obtain ⟨hoc, hpz⟩ := M.okZ_parts hok
 have ho := M.optsC_ok hoc
 have hl9 := M.okP_len ho.1
 have hE := M.turnZ_yes hok
 refine Js.skip <| zS <| Qf fh rfl <| Qf fh rfl <| zc rfl (fun w hw => c_spec_l04Turn z.rules z.position ⟨_, _, [.int .i64 z.rules.pits, .int .i64 z.rules.seeds, .bool z.rules.stores, .bool z.rules.skip, .bool z.rules.relay, .bool z.rules.feed, .bool z.rules.again, .int .i64 z.rules.capture, .int .i64 z.rules.slam], rfl, ⟨rfl, rfl, rfl, rfl, rfl, rfl, rfl, rfl, rfl, trivial⟩, Mem.boxR (i := 1) rfl 0 9 _ hw⟩ ⟨_, _, [.slice A1 z.position.pits.length c1, .slice A2 z.position.stores.length c2, .int .i64 z.position.player], rfl, ⟨(ok_ hw), (ok_ hw), rfl, trivial⟩, Mem.boxR (i := 1) rfl 9 3 _ hw⟩ (r0 := ho.1)) ?_
 intro A7 c7 bl7 bh7 A8 c8 bl8 bh8
 have hq0 : z.rules.pits = (((M.turnZ z).1).rules).pits := rp_ hE
 have hq1 : z.rules.seeds = (((M.turnZ z).1).rules).seeds := rp_ hE
 have hq2 : z.rules.stores = (((M.turnZ z).1).rules).stores := rp_ hE
 have hq3 : z.rules.skip = (((M.turnZ z).1).rules).skip := rp_ hE
 have hq4 : z.rules.relay = (((M.turnZ z).1).rules).relay := rp_ hE
 have hq5 : z.rules.feed = (((M.turnZ z).1).rules).feed := rp_ hE
 have hq6 : z.rules.again = (((M.turnZ z).1).rules).again := rp_ hE
 have hq7 : z.rules.capture = (((M.turnZ z).1).rules).capture := rp_ hE
 have hq8 : z.rules.slam = (((M.turnZ z).1).rules).slam := rp_ hE
 have hq9 : ((M.turnP z.rules z.position).pits) = (((M.turnZ z).1).position).pits := rp_ hE
 have hq10 : ((M.turnP z.rules z.position).stores) = (((M.turnZ z).1).position).stores := rp_ hE
 have hq11 : ((M.turnP z.rules z.position).player) = (((M.turnZ z).1).position).player := rp_ hE
 have hq12 : z.depth = ((M.turnZ z).1).depth := rp_ hE
 have hq13 : z.move = ((M.turnZ z).1).move := rp_ hE
 have hq14 : z.value = ((M.turnZ z).1).value := rp_ hE
 have hq15 : z.margin = ((M.turnZ z).1).margin := rp_ hE
 have hq16 : 0 = (M.turnZ z).2 := rp_ hE
 refine za zeh fun b9 => zw 0 rfl rfl rfl ?_
 refine zN <| Qf fh rfl <| Q9 4 rfl rfl ?_
 refine Q9 0 rfl rfl ?_
 refine Qf fh rfl <| Q0 4 rfl rfl rfl <| Qf fh rfl <| Q0 4 rfl rfl rfl <| Qf fh rfl <| Q0 4 rfl rfl rfl <| Qf fh rfl <| Q0 4 rfl rfl rfl <| Qb ?_
 refine zw 3 rfl rfl rfl ?_
 refine Qa rfl <| JL.nil ?_
 exact zro (Up.refl _ _)
theorem c_spec_l21Pos (s_code : Nat) (s_at s_seed : Int) {As_0 : Option Addr} {cs_0 bs : Nat} {w : World} (hb : Bw w [boxO bs [.slice As_0 s_code cs_0, .int .i64 s_at, .int .u64 s_seed] 139]) (hps_0 : (Ty.bytes 5 s_code).ok (offW w (([boxO bs [.slice As_0 s_code cs_0, .int .i64 s_at, .int .u64 s_seed] 139] : List Own).flatMap (·.fp))) (.slice As_0 s_code cs_0)) (r0 : 0 ≤ s_at := by exact om_) (r1 : s_at ≤ 999994700 := by exact om_) (r2 : s_code ≤ 1048576 := by exact om_) : RetB Tryz.prog 59 [.pointer (some ⟨bs, 0, none⟩)] w [boxO bs [.slice As_0 s_code cs_0, .int .i64 s_at, .int .u64 s_seed] 139] (fun v bs' => ∃ (RX : M.Rul) (PX : M.Pos) (KX AT SD : Int) (Axrb_0 : Option Addr) (cxrb_0 : Nat) (Axrb_1 : Option Addr) (cxrb_1 : Nat) (gxrb_1 : List Nat), v = .tuple #[.agg #[.int .i64 RX.pits, .int .i64 RX.seeds, .bool RX.stores, .bool RX.skip, .bool RX.relay, .bool RX.feed, .bool RX.again, .int .i64 RX.capture, .int .i64 RX.slam], .agg #[.slice Axrb_0 PX.pits.length cxrb_0, .slice Axrb_1 PX.stores.length cxrb_1, .int .i64 PX.player], .int .i64 KX] ∧ bs' = [boxO bs [.slice As_0 s_code cs_0, .int .i64 AT, .int .u64 SD] 139, rxO 2 (.slice Axrb_0 PX.pits.length cxrb_0) PX.pits.length (ints_ PX.pits), rowO 2 1 (.slice Axrb_1 PX.stores.length cxrb_1) PX.stores.length (ints_ PX.stores) gxrb_1] ∧ PX.pits.length ≤ cxrb_0 ∧ cxrb_0 ≤ 9223372036854775807 ∧ PX.stores.length ≤ cxrb_1 ∧ cxrb_1 ≤ 9223372036854775807 ∧ (PX.pits.length ≤ 4194304 ∧ PX.stores.length ≤ 4194304) ∧ (s_at ≤ AT) ∧ (AT ≤ s_at + 5300)) := by
 refine enterB hb @Tryz.func59 @Tryz.ntmps59 rfl rfl ?_
 refine zent ?_
 refine Js.trashE ?_
 refine zn ?_
 refine zS <| za zeh fun b1 => za zeh fun b2 => Qa rfl <| zN <| Qm rfl ?_
 refine zhl [2] ?_
 refine zBB 1 sp_ rfl (fun w hb _ hw => c_spec_l15Draw s_code s_at s_seed hb (ok_ hw)) ?_
 rintro _ _ G3 ⟨X3RX, X3PX, X3AT, X3SD, A3rb_0, c3rb_0, A3rb_1, c3rb_1, g3rb_1, rfl, rfl, bl3_0, bl3_1, bl3_2, bl3_3, hX3_0, hX3_1, hX3_2⟩
 refine znl ?_
 refine Qm rfl <| Qx rfl rfl <| Qx rfl rfl <| za zeh fun b4 => za zeh fun b5 => zw 1 rfl rfl rfl ?_
 refine zw 0 rfl rfl rfl ?_
 refine JL.nil ?_
 refine zf [0, 0, 0, 0, 0, 1, 1] fun GG6 => ?_
 refine zn ?_
 refine zS <| Qm rfl ?_
 refine zhl [2] ?_
 refine zBB 1 sp_ rfl (fun w hb _ hw => c_spec_l00Src_pick s_code X3AT X3SD 4 hb (ok_ hw)) ?_
 rintro _ _ G7 ⟨X7KX, X7AT, X7SD, rfl, rfl, hX7_0, hX7_1, hX7_2, hX7_3⟩
 refine znl ?_
 refine Qp rfl rfl <| Qa rfl <| JL.nil ?_
 refine zf [0, 1, 1, 1, 1, 1, 1] fun GG8 => ?_
 refine zn ?_
 refine Js.seq <| zS <| Qm rfl <| zBB 1 sp_ rfl (fun w hb _ hw => c_spec_l00Src_one s_code X7AT X7SD 16 hb (ok_ hw)) ?_
 rintro _ _ G9 ⟨X9BX, X9AT, X9SD, rfl, rfl, hX9_0, hX9_1⟩
 refine znl ?_
 refine JL.nil ?_
 refine zf [0, 1, 1, 1, 1, 1, 1] fun GG10 => ?_
 refine zn ?_
 refine zi (fun h11 h11' => ?_) fun h11 h11' => ?_
 ·
  refine Js.region <| Qm rfl <| zbs fun b12 => ?_
  refine zhl [1] ?_
  refine zBB 1 sp_ rfl (fun w hb _ hw => c_spec_l00Src_among s_code X9AT X9SD [(-1), 0, 8, 9] hb (ok_ hw) (ints_rowok (xs := [(-1), 0, 8, 9]) (hw.pr (i := 0) rfl)) (r3 := (by simp)) (r4 := (by simp))) ?_
  rintro _ _ G14 ⟨X14KX, X14AT, X14SD, rfl, rfl, hX14_0, hX14_1, hX14_2⟩
  refine znl ?_
  refine Qa rfl <| JL.nil ?_
  refine zf [0, 2, 2, 2, 2, 2, 2] fun GG15 => ?_
  refine zn ?_
  refine Js.seq <| zS <| Qm rfl <| zBB 1 sp_ rfl (fun w hb _ hw => c_spec_l00Src_one s_code X14AT X14SD 24 hb (ok_ hw)) ?_
  rintro _ _ G16 ⟨X16BX, X16AT, X16SD, rfl, rfl, hX16_0, hX16_1⟩
  refine znl ?_
  refine JL.nil ?_
  refine zf [0, 1, 1, 1, 1, 1, 1] fun GG17 => ?_
  refine zn ?_
  refine zi (fun h18 h18' => ?_) fun h18 h18' => ?_
  ·
   refine Js.region <| Qf fh rfl <| zw 1 rfl rfl rfl ?_
   refine zJ ?_
   refine zk [2, 3] (fun F U l os u => l = F [(4, .int .i64 X14KX)] ∧ os = U [nO, nO, nO, nO, nO, some (boxO b2 [.slice A3rb_0 X3PX.pits.length c3rb_0, .slice A3rb_1 X3PX.stores.length c3rb_1, .int .i64 2] 31), some (boxO b1 [.int .i64 X3RX.pits, .int .i64 X3RX.seeds, .bool X3RX.stores, .bool X3RX.skip, .bool X3RX.relay, .bool X3RX.feed, .bool X3RX.again, .int .i64 X3RX.capture, .int .i64 X3RX.slam] 25)]) ?_ ?_
   ·
    refine zdr [3, 4] ?_
    refine JH.q 0 rfl (L9 2 rfl rfl) ?_
    refine jM 2 rfl rfl ?_
    refine y2 1 3 ?_ ?_
    ·
     refine JHo.q rfl (L9 1 rfl rfl) ?_
     refine y1 3 ?_
     refine yst rfl rfl rfl ?_
     refine y1 4 ?_
     refine yst rfl rfl rfl ?_
     refine jA 5 rfl rfl ?_
     refine yd ?_
     exact zm ⟨rfl, rfl⟩ (Up.refl _ _)
    refine yst rfl rfl rfl ?_
    refine y1 1 ?_
    refine JHo.q rfl (L9 1 rfl rfl) ?_
    refine y1 4 ?_
    refine yst rfl rfl rfl ?_
    refine jA 5 rfl rfl ?_
    refine yd ?_
    exact zm ⟨rfl, rfl⟩ (Up.refl _ _)
   rintro _ _ u19 ⟨rfl, rfl⟩ x19
   refine zn ?_
   refine zf [0, 2, 2, 2, 2] fun GG20 => ?_
   refine zn ?_
   refine zrb [0, 0, 0] hb x19 ?_
   refine ⟨(X3RX), ((M.Pos.mk X3PX.pits X3PX.stores 2)), (X14KX), (X16AT), (X16SD), A3rb_0, c3rb_0, A3rb_1, c3rb_1, g3rb_1, rfl, ?_, ?_, ?_, ?_, ?_, by first | trivial | assumption | omega | (dsimp only; omega) | (constructor <;> first | assumption | omega) | (dsimp only; constructor <;> first | assumption | omega | (simp; done)), by first | trivial | assumption | omega | (dsimp only; omega) | (constructor <;> first | assumption | omega) | (dsimp only; constructor <;> first | assumption | omega | (simp; done)), by first | trivial | assumption | omega | (dsimp only; omega) | (constructor <;> first | assumption | omega) | (dsimp only; constructor <;> first | assumption | omega | (simp; done))⟩
   · rfl
   all_goals (try dsimp only)
   all_goals (first | (omega) | omega | (simp only [*]; omega) | (simp; done))
  refine Js.skip <| Js.seq ?_
  refine zk [2, 3] (fun F U l os u => l = F [(4, .int .i64 X14KX)] ∧ os = U [nO, nO, nO, nO, nO, some (boxO b2 [.slice A3rb_0 X3PX.pits.length c3rb_0, .slice A3rb_1 X3PX.stores.length c3rb_1, .int .i64 X3PX.player] 31), some (boxO b1 [.int .i64 X3RX.pits, .int .i64 X3RX.seeds, .bool X3RX.stores, .bool X3RX.skip, .bool X3RX.relay, .bool X3RX.feed, .bool X3RX.again, .int .i64 X3RX.capture, .int .i64 X3RX.slam] 25)]) ?_ ?_
  ·
   refine zdr [3, 4] ?_
   refine JH.q 0 rfl (L9 2 rfl rfl) ?_
   refine jM 2 rfl rfl ?_
   refine y2 1 3 ?_ ?_
   ·
    refine JHo.q rfl (L9 1 rfl rfl) ?_
    refine y1 3 ?_
    refine yst rfl rfl rfl ?_
    refine y1 4 ?_
    refine yst rfl rfl rfl ?_
    refine jA 5 rfl rfl ?_
    refine yd ?_
    exact zm ⟨rfl, rfl⟩ (Up.refl _ _)
   refine yst rfl rfl rfl ?_
   refine y1 1 ?_
   refine JHo.q rfl (L9 1 rfl rfl) ?_
   refine y1 4 ?_
   refine yst rfl rfl rfl ?_
   refine jA 5 rfl rfl ?_
   refine yd ?_
   exact zm ⟨rfl, rfl⟩ (Up.refl _ _)
  rintro _ _ u21 ⟨rfl, rfl⟩ x21
  refine zn ?_
  refine zf [0, 2, 2, 2, 2] fun GG22 => ?_
  refine zn ?_
  refine zrb [0, 0, 0] hb x21 ?_
  refine ⟨(X3RX), (X3PX), (X14KX), (X16AT), (X16SD), A3rb_0, c3rb_0, A3rb_1, c3rb_1, g3rb_1, rfl, ?_, ?_, ?_, ?_, ?_, by first | trivial | assumption | omega | (dsimp only; omega) | (constructor <;> first | assumption | omega) | (dsimp only; constructor <;> first | assumption | omega | (simp; done)), by first | trivial | assumption | omega | (dsimp only; omega) | (constructor <;> first | assumption | omega) | (dsimp only; constructor <;> first | assumption | omega | (simp; done)), by first | trivial | assumption | omega | (dsimp only; omega) | (constructor <;> first | assumption | omega) | (dsimp only; constructor <;> first | assumption | omega | (simp; done))⟩
  · rfl
  all_goals (try dsimp only)
  all_goals (first | (omega) | omega | (simp only [*]; omega) | (simp; done))
 refine Js.skip <| Js.seq <| zS <| Qm rfl <| zBB 1 sp_ rfl (fun w hb _ hw => c_spec_l00Src_one s_code X9AT X9SD 24 hb (ok_ hw)) ?_
 rintro _ _ G23 ⟨X23BX, X23AT, X23SD, rfl, rfl, hX23_0, hX23_1⟩
 refine znl ?_
 refine JL.nil ?_
 refine zf [0, 1, 1, 1, 1, 1, 1] fun GG24 => ?_
 refine zn ?_
 refine zi (fun h25 h25' => ?_) fun h25 h25' => ?_
 ·
  refine Js.region <| Qf fh rfl <| zw 1 rfl rfl rfl ?_
  refine zJ ?_
  refine zk [2, 3] (fun F U l os u => l = F [(4, .int .i64 (1 + X7KX))] ∧ os = U [nO, nO, nO, nO, nO, some (boxO b2 [.slice A3rb_0 X3PX.pits.length c3rb_0, .slice A3rb_1 X3PX.stores.length c3rb_1, .int .i64 2] 31), some (boxO b1 [.int .i64 X3RX.pits, .int .i64 X3RX.seeds, .bool X3RX.stores, .bool X3RX.skip, .bool X3RX.relay, .bool X3RX.feed, .bool X3RX.again, .int .i64 X3RX.capture, .int .i64 X3RX.slam] 25)]) ?_ ?_
  ·
   refine zdr [3, 4] ?_
   refine JH.q 0 rfl (L9 2 rfl rfl) ?_
   refine jM 2 rfl rfl ?_
   refine y2 1 3 ?_ ?_
   ·
    refine JHo.q rfl (L9 1 rfl rfl) ?_
    refine y1 3 ?_
    refine yst rfl rfl rfl ?_
    refine y1 4 ?_
    refine yst rfl rfl rfl ?_
    refine jA 5 rfl rfl ?_
    refine yd ?_
    exact zm ⟨rfl, rfl⟩ (Up.refl _ _)
   refine yst rfl rfl rfl ?_
   refine y1 1 ?_
   refine JHo.q rfl (L9 1 rfl rfl) ?_
   refine y1 4 ?_
   refine yst rfl rfl rfl ?_
   refine jA 5 rfl rfl ?_
   refine yd ?_
   exact zm ⟨rfl, rfl⟩ (Up.refl _ _)
  rintro _ _ u26 ⟨rfl, rfl⟩ x26
  refine zn ?_
  refine zf [0, 2, 2, 2, 2] fun GG27 => ?_
  refine zn ?_
  refine zrb [0, 0, 0] hb x26 ?_
  refine ⟨(X3RX), ((M.Pos.mk X3PX.pits X3PX.stores 2)), (1 + X7KX), (X23AT), (X23SD), A3rb_0, c3rb_0, A3rb_1, c3rb_1, g3rb_1, rfl, ?_, ?_, ?_, ?_, ?_, by first | trivial | assumption | omega | (dsimp only; omega) | (constructor <;> first | assumption | omega) | (dsimp only; constructor <;> first | assumption | omega | (simp; done)), by first | trivial | assumption | omega | (dsimp only; omega) | (constructor <;> first | assumption | omega) | (dsimp only; constructor <;> first | assumption | omega | (simp; done)), by first | trivial | assumption | omega | (dsimp only; omega) | (constructor <;> first | assumption | omega) | (dsimp only; constructor <;> first | assumption | omega | (simp; done))⟩
  · rfl
  all_goals (try dsimp only)
  all_goals (first | (omega) | omega | (simp only [*]; omega) | (simp; done))
 refine Js.skip <| Js.seq ?_
 refine zk [2, 3] (fun F U l os u => l = F [(4, .int .i64 (1 + X7KX))] ∧ os = U [nO, nO, nO, nO, nO, some (boxO b2 [.slice A3rb_0 X3PX.pits.length c3rb_0, .slice A3rb_1 X3PX.stores.length c3rb_1, .int .i64 X3PX.player] 31), some (boxO b1 [.int .i64 X3RX.pits, .int .i64 X3RX.seeds, .bool X3RX.stores, .bool X3RX.skip, .bool X3RX.relay, .bool X3RX.feed, .bool X3RX.again, .int .i64 X3RX.capture, .int .i64 X3RX.slam] 25)]) ?_ ?_
 ·
  refine zdr [3, 4] ?_
  refine JH.q 0 rfl (L9 2 rfl rfl) ?_
  refine jM 2 rfl rfl ?_
  refine y2 1 3 ?_ ?_
  ·
   refine JHo.q rfl (L9 1 rfl rfl) ?_
   refine y1 3 ?_
   refine yst rfl rfl rfl ?_
   refine y1 4 ?_
   refine yst rfl rfl rfl ?_
   refine jA 5 rfl rfl ?_
   refine yd ?_
   exact zm ⟨rfl, rfl⟩ (Up.refl _ _)
  refine yst rfl rfl rfl ?_
  refine y1 1 ?_
  refine JHo.q rfl (L9 1 rfl rfl) ?_
  refine y1 4 ?_
  refine yst rfl rfl rfl ?_
  refine jA 5 rfl rfl ?_
  refine yd ?_
  exact zm ⟨rfl, rfl⟩ (Up.refl _ _)
 rintro _ _ u28 ⟨rfl, rfl⟩ x28
 refine zn ?_
 refine zf [0, 2, 2, 2, 2] fun GG29 => ?_
 refine zn ?_
 refine zrb [0, 0, 0] hb x28 ?_
 refine ⟨(X3RX), (X3PX), (1 + X7KX), (X23AT), (X23SD), A3rb_0, c3rb_0, A3rb_1, c3rb_1, g3rb_1, rfl, ?_, ?_, ?_, ?_, ?_, by first | trivial | assumption | omega | (dsimp only; omega) | (constructor <;> first | assumption | omega) | (dsimp only; constructor <;> first | assumption | omega | (simp; done)), by first | trivial | assumption | omega | (dsimp only; omega) | (constructor <;> first | assumption | omega) | (dsimp only; constructor <;> first | assumption | omega | (simp; done)), by first | trivial | assumption | omega | (dsimp only; omega) | (constructor <;> first | assumption | omega) | (dsimp only; constructor <;> first | assumption | omega | (simp; done))⟩
 · rfl
 all_goals (try dsimp only)
 all_goals (first | (omega) | omega | (simp only [*]; omega) | (simp; done))
theorem c_spec_l21Bent (s_code : Nat) (s_at s_seed : Int) {As_0 : Option Addr} {cs_0 bs : Nat} {w : World} (hb : Bw w [boxO bs [.slice As_0 s_code cs_0, .int .i64 s_at, .int .u64 s_seed] 139]) (hps_0 : (Ty.bytes 5 s_code).ok (offW w (([boxO bs [.slice As_0 s_code cs_0, .int .i64 s_at, .int .u64 s_seed] 139] : List Own).flatMap (·.fp))) (.slice As_0 s_code cs_0)) (r0 : 0 ≤ s_at := by exact om_) (r1 : s_at ≤ 999960000 := by exact om_) (r2 : s_code ≤ 1048576 := by exact om_) : RetB Tryz.prog 62 [.pointer (some ⟨bs, 0, none⟩)] w [boxO bs [.slice As_0 s_code cs_0, .int .i64 s_at, .int .u64 s_seed] 139] (fun v bs' => ∃ (ZX : M.Puz) (AT SD : Int) (Axr_9 : Option Addr) (cxr_9 : Nat) (gxr_9 : List Nat) (Axr_10 : Option Addr) (cxr_10 : Nat) (gxr_10 : List Nat), v = .agg #[.int .i64 ZX.rules.pits, .int .i64 ZX.rules.seeds, .bool ZX.rules.stores, .bool ZX.rules.skip, .bool ZX.rules.relay, .bool ZX.rules.feed, .bool ZX.rules.again, .int .i64 ZX.rules.capture, .int .i64 ZX.rules.slam, .slice Axr_9 ZX.position.pits.length cxr_9, .slice Axr_10 ZX.position.stores.length cxr_10, .int .i64 ZX.position.player, .int .i64 ZX.depth, .int .i64 ZX.move, .int .i64 ZX.value, .int .i64 ZX.margin] ∧ bs' = [boxO bs [.slice As_0 s_code cs_0, .int .i64 AT, .int .u64 SD] 139, rowO 2 1 (.slice Axr_9 ZX.position.pits.length cxr_9) ZX.position.pits.length (ints_ ZX.position.pits) gxr_9, rowO 2 1 (.slice Axr_10 ZX.position.stores.length cxr_10) ZX.position.stores.length (ints_ ZX.position.stores) gxr_10] ∧ ZX.position.pits.length ≤ cxr_9 ∧ cxr_9 ≤ 9223372036854775807 ∧ ZX.position.stores.length ≤ cxr_10 ∧ cxr_10 ≤ 9223372036854775807 ∧ (ZX.position.pits.length ≤ 4194304 ∧ ZX.position.stores.length ≤ 4194304) ∧ (s_at ≤ AT) ∧ (AT ≤ s_at + 40000)) := by
 refine enterB hb @Tryz.func62 @Tryz.ntmps62 rfl rfl ?_
 refine zent ?_
 refine Js.trashE ?_
 refine zn ?_
 refine zS <| za zeh fun b1 => zN <| Qb ?_
 refine za zeh fun b2 => zw 0 rfl rfl rfl ?_
 refine zJ <| zS <| Qa rfl <| JL.nil <| Js.block ?_
 refine zl [0, 2, 3] (fun F U l os u m => ∃ (k at1 sd1 : Int) (G3_3 : List Nat), l = F [(4, .int .i64 k)] ∧ os = U [nO, nO, some (boxO bs [.slice As_0 s_code cs_0, .int .i64 at1, .int .u64 sd1] 139), some (anyO G3_3)] ∧ (0 ≤ k ∧ k ≤ 6) ∧ (s_at ≤ at1) ∧ (at1 ≤ s_at + 5500 * k) ∧ m = (6 - k).toNat) ⟨0, s_at, s_seed, _, rfl, rfl, zt, zt, zt, rfl⟩ ?_
 rintro _ _ u3 _ ⟨k, at1, sd1, G3_3, rfl, rfl, hk, ha0, ha1, rfl⟩ x3
 refine zn ?_
 refine Js.seq <| zS <| Qm rfl <| Ql rfl rfl <| JL.nil ?_
 refine zi (fun h4 h4' => ?_) fun h4 h4' => ?_
 ·
  refine Js.skip <| Js.seq <| Js.block <| zS <| Qm rfl ?_
  refine zhl [2] ?_
  refine zBB 1 sp_ rfl (fun w hb _ hw => c_spec_l15Draw s_code at1 sd1 hb (ok_ hw)) ?_
  rintro _ _ G5 ⟨X5RX, X5PX, X5AT, X5SD, A5rb_0, c5rb_0, A5rb_1, c5rb_1, g5rb_1, rfl, rfl, bl5_0, bl5_1, bl5_2, bl5_3, hX5_0, hX5_1, hX5_2⟩
  refine znl ?_
  refine Qm rfl <| Qx rfl rfl <| Qx rfl rfl <| za zeh fun b6 => za zeh fun b7 => zw 1 rfl rfl rfl ?_
  refine zw 0 rfl rfl rfl ?_
  refine JL.nil ?_
  refine zf [0, 0, 0, 0, 0, 1, 1] fun GG8 => ?_
  refine zn ?_
  refine zS <| Qm rfl ?_
  refine zhl [2] ?_
  refine zBB 1 sp_ rfl (fun w hb _ hw => c_spec_l00Src_pick s_code X5AT X5SD 3 hb (ok_ hw)) ?_
  rintro _ _ G9 ⟨X9KX, X9AT, X9SD, rfl, rfl, hX9_0, hX9_1, hX9_2, hX9_3⟩
  refine znl ?_
  refine Qp rfl rfl <| zc rfl (fun w hw => c_spec_l21Of X5RX X5PX (1 + X9KX) (okx_ hw) (okx_ hw)) ?_
  intro A12 c12 bl12 bh12 A13 c13 bl13 bh13
  refine Qm rfl <| Qx rfl rfl <| Qx rfl rfl <| za zeh fun b14 => zw 0 rfl rfl rfl ?_
  refine Qa rfl <| JL.nil ?_
  refine zf [0, 0, 0, 0, 5, 5] fun GG15 => ?_
  refine zn ?_
  have hsm : M.SmallP (((M.puz X5RX X5PX (1 + X9KX)).1)).position := M.puz_small _ _ _
  have hs1 := hsm.sp
  have hs2 := hsm.ss
  refine zS <| Qm rfl <| Qe rfl rfl <| JL.nil ?_
  refine zi (fun h16 h16' => ?_) fun h16 h16' => ?_
  ·
   refine zS <| Q9 0 rfl rfl ?_
   refine zw 4 rfl rfl rfl ?_
   refine JL.nil ?_
   refine zf [1, 1, 1, 1, 1] fun GG17 => ?_
   refine zn ?_
   refine zx ?_
   refine Js.seq <| zS <| Qm rfl ?_
   refine zhl [2] ?_
   refine zBB 1 sp_ rfl (fun w hb _ hw => c_spec_l00Src_pick s_code X9AT X9SD 24 hb (ok_ hw)) ?_
   rintro _ _ G18 ⟨X18KX, X18AT, X18SD, rfl, rfl, hX18_0, hX18_1, hX18_2, hX18_3⟩
   refine znl ?_
   refine JL.nil ?_
   refine zf [0, 1, 1, 1, 1] fun GG19 => ?_
   refine zn ?_
   refine Js.block <| zS <| Qe rfl rfl <| Qa rfl <| JL.nil ?_
   refine zi (fun h20 h20' => ?_) fun h20 h20' => ?_
   ·
    refine Js.region <| Qf fh rfl <| Q0 3 rfl rfl rfl <| Qq (p_add rfl rfl rfl) <| Qf fh rfl <| zw 3 rfl rfl rfl ?_
    refine JL.nil <| Js.blockEnd <| zS <| Q9 3 rfl rfl ?_
    refine zw 4 rfl rfl rfl ?_
    refine JL.nil ?_
    refine zf [0, 0, 0, 1] fun GG21 => ?_
    refine zn ?_
    refine zrb [0, 1, 0] hb x3 ?_
    refine ⟨((M.Puz.mk (((M.puz X5RX X5PX (1 + X9KX)).1).rules) (((M.puz X5RX X5PX (1 + X9KX)).1).position) (((M.puz X5RX X5PX (1 + X9KX)).1).depth) (IntKind.i64.wrap ((((M.puz X5RX X5PX (1 + X9KX)).1).move) + 1)) (((M.puz X5RX X5PX (1 + X9KX)).1).value) (((M.puz X5RX X5PX (1 + X9KX)).1).margin))), (X18AT), (X18SD), A12, c12, [], A13, c13, [], rfl, ?_, ?_, ?_, ?_, ?_, by first | trivial | assumption | omega | (dsimp only; omega) | (constructor <;> first | assumption | omega) | (dsimp only; constructor <;> first | assumption | omega | (simp; done)), by first | trivial | assumption | omega | (dsimp only; omega) | (constructor <;> first | assumption | omega) | (dsimp only; constructor <;> first | assumption | omega | (simp; done)), by first | trivial | assumption | omega | (dsimp only; omega) | (constructor <;> first | assumption | omega) | (dsimp only; constructor <;> first | assumption | omega | (simp; done))⟩
    · rfl
    all_goals (try dsimp only)
    all_goals (first | (omega) | omega | (simp only [*]; omega) | (simp; done))
   refine zS <| Qe rfl rfl <| Qa rfl <| JL.nil ?_
   refine zi (fun h22 h22' => ?_) fun h22 h22' => ?_
   ·
    refine Js.region <| Qf fh rfl <| Q0 3 rfl rfl rfl <| Qq (p_add rfl rfl rfl) <| Qf fh rfl <| zw 3 rfl rfl rfl ?_
    refine JL.nil <| Js.blockEnd <| zS <| Q9 3 rfl rfl ?_
    refine zw 4 rfl rfl rfl ?_
    refine JL.nil ?_
    refine zf [0, 0, 0, 1] fun GG23 => ?_
    refine zn ?_
    refine zrb [0, 1, 0] hb x3 ?_
    refine ⟨((M.Puz.mk (((M.puz X5RX X5PX (1 + X9KX)).1).rules) (((M.puz X5RX X5PX (1 + X9KX)).1).position) (((M.puz X5RX X5PX (1 + X9KX)).1).depth) (((M.puz X5RX X5PX (1 + X9KX)).1).move) (IntKind.i64.wrap ((((M.puz X5RX X5PX (1 + X9KX)).1).value) + 1)) (((M.puz X5RX X5PX (1 + X9KX)).1).margin))), (X18AT), (X18SD), A12, c12, [], A13, c13, [], rfl, ?_, ?_, ?_, ?_, ?_, by first | trivial | assumption | omega | (dsimp only; omega) | (constructor <;> first | assumption | omega) | (dsimp only; constructor <;> first | assumption | omega | (simp; done)), by first | trivial | assumption | omega | (dsimp only; omega) | (constructor <;> first | assumption | omega) | (dsimp only; constructor <;> first | assumption | omega | (simp; done)), by first | trivial | assumption | omega | (dsimp only; omega) | (constructor <;> first | assumption | omega) | (dsimp only; constructor <;> first | assumption | omega | (simp; done))⟩
    · rfl
    all_goals (try dsimp only)
    all_goals (first | (omega) | omega | (simp only [*]; omega) | (simp; done))
   refine zS <| Qe rfl rfl <| Qa rfl <| JL.nil ?_
   refine zi (fun h24 h24' => ?_) fun h24 h24' => ?_
   ·
    refine Js.region <| Qf fh rfl <| Q0 3 rfl rfl rfl <| Qq (p_add rfl rfl rfl) <| Qf fh rfl <| zw 3 rfl rfl rfl ?_
    refine JL.nil <| Js.blockEnd <| zS <| Q9 3 rfl rfl ?_
    refine zw 4 rfl rfl rfl ?_
    refine JL.nil ?_
    refine zf [0, 0, 0, 1] fun GG25 => ?_
    refine zn ?_
    refine zrb [0, 1, 0] hb x3 ?_
    refine ⟨((M.Puz.mk (((M.puz X5RX X5PX (1 + X9KX)).1).rules) (((M.puz X5RX X5PX (1 + X9KX)).1).position) (((M.puz X5RX X5PX (1 + X9KX)).1).depth) (((M.puz X5RX X5PX (1 + X9KX)).1).move) (((M.puz X5RX X5PX (1 + X9KX)).1).value) (IntKind.i64.wrap ((((M.puz X5RX X5PX (1 + X9KX)).1).margin) + 1)))), (X18AT), (X18SD), A12, c12, [], A13, c13, [], rfl, ?_, ?_, ?_, ?_, ?_, by first | trivial | assumption | omega | (dsimp only; omega) | (constructor <;> first | assumption | omega) | (dsimp only; constructor <;> first | assumption | omega | (simp; done)), by first | trivial | assumption | omega | (dsimp only; omega) | (constructor <;> first | assumption | omega) | (dsimp only; constructor <;> first | assumption | omega | (simp; done)), by first | trivial | assumption | omega | (dsimp only; omega) | (constructor <;> first | assumption | omega) | (dsimp only; constructor <;> first | assumption | omega | (simp; done))⟩
    · rfl
    all_goals (try dsimp only)
    all_goals (first | (omega) | omega | (simp only [*]; omega) | (simp; done))
   refine zS <| Qe rfl rfl <| Qa rfl <| JL.nil ?_
   refine zi (fun h26 h26' => ?_) fun h26 h26' => ?_
   ·
    refine Js.region <| Qf fh rfl <| Q0 3 rfl rfl rfl <| Qq (p_add rfl rfl rfl) <| Qf fh rfl <| zw 3 rfl rfl rfl ?_
    refine JL.nil <| Js.blockEnd <| zS <| Q9 3 rfl rfl ?_
    refine zw 4 rfl rfl rfl ?_
    refine JL.nil ?_
    refine zf [0, 0, 0, 1] fun GG27 => ?_
    refine zn ?_
    refine zrb [0, 1, 0] hb x3 ?_
    refine ⟨((M.Puz.mk (((M.puz X5RX X5PX (1 + X9KX)).1).rules) (((M.puz X5RX X5PX (1 + X9KX)).1).position) (IntKind.i64.wrap ((((M.puz X5RX X5PX (1 + X9KX)).1).depth) + 1)) (((M.puz X5RX X5PX (1 + X9KX)).1).move) (((M.puz X5RX X5PX (1 + X9KX)).1).value) (((M.puz X5RX X5PX (1 + X9KX)).1).margin))), (X18AT), (X18SD), A12, c12, [], A13, c13, [], rfl, ?_, ?_, ?_, ?_, ?_, by first | trivial | assumption | omega | (dsimp only; omega) | (constructor <;> first | assumption | omega) | (dsimp only; constructor <;> first | assumption | omega | (simp; done)), by first | trivial | assumption | omega | (dsimp only; omega) | (constructor <;> first | assumption | omega) | (dsimp only; constructor <;> first | assumption | omega | (simp; done)), by first | trivial | assumption | omega | (dsimp only; omega) | (constructor <;> first | assumption | omega) | (dsimp only; constructor <;> first | assumption | omega | (simp; done))⟩
    · rfl
    all_goals (try dsimp only)
    all_goals (first | (omega) | omega | (simp only [*]; omega) | (simp; done))
   refine zS <| Qe rfl rfl <| Qa rfl <| JL.nil ?_
   refine zi (fun h28 h28' => ?_) fun h28 h28' => ?_
   ·
    refine Js.region <| Qf fh rfl <| Qf fh rfl <| Q0 3 rfl rfl rfl <| Qq (p_sub rfl rfl rfl) <| Qf fh rfl <| Qf fh rfl <| zw 3 rfl rfl rfl ?_
    refine JL.nil <| Js.blockEnd <| zS <| Q9 3 rfl rfl ?_
    refine zw 4 rfl rfl rfl ?_
    refine JL.nil ?_
    refine zf [0, 0, 0, 1] fun GG29 => ?_
    refine zn ?_
    refine zrb [0, 1, 0] hb x3 ?_
    refine ⟨((M.Puz.mk (((M.puz X5RX X5PX (1 + X9KX)).1).rules) (M.Pos.mk ((((M.puz X5RX X5PX (1 + X9KX)).1).position).pits) ((((M.puz X5RX X5PX (1 + X9KX)).1).position).stores) (IntKind.i64.wrap (1 - ((((M.puz X5RX X5PX (1 + X9KX)).1).position).player)))) (((M.puz X5RX X5PX (1 + X9KX)).1).depth) (((M.puz X5RX X5PX (1 + X9KX)).1).move) (((M.puz X5RX X5PX (1 + X9KX)).1).value) (((M.puz X5RX X5PX (1 + X9KX)).1).margin))), (X18AT), (X18SD), A12, c12, [], A13, c13, [], rfl, ?_, ?_, ?_, ?_, ?_, by first | trivial | assumption | omega | (dsimp only; omega) | (constructor <;> first | assumption | omega) | (dsimp only; constructor <;> first | assumption | omega | (simp; done)), by first | trivial | assumption | omega | (dsimp only; omega) | (constructor <;> first | assumption | omega) | (dsimp only; constructor <;> first | assumption | omega | (simp; done)), by first | trivial | assumption | omega | (dsimp only; omega) | (constructor <;> first | assumption | omega) | (dsimp only; constructor <;> first | assumption | omega | (simp; done))⟩
    · rfl
    all_goals (try dsimp only)
    all_goals (first | (omega) | omega | (simp only [*]; omega) | (simp; done))
   refine Js.skip <| Js.blockEnd <| zS <| Q9 3 rfl rfl ?_
   refine zw 4 rfl rfl rfl ?_
   refine JL.nil ?_
   refine zf [0, 0, 0, 1] fun GG30 => ?_
   refine zn ?_
   refine zrb [0, 1, 0] hb x3 ?_
   refine ⟨(((M.puz X5RX X5PX (1 + X9KX)).1)), (X18AT), (X18SD), A12, c12, [], A13, c13, [], rfl, ?_, ?_, ?_, ?_, ?_, by first | trivial | assumption | omega | (dsimp only; omega) | (constructor <;> first | assumption | omega) | (dsimp only; constructor <;> first | assumption | omega | (simp; done)), by first | trivial | assumption | omega | (dsimp only; omega) | (constructor <;> first | assumption | omega) | (dsimp only; constructor <;> first | assumption | omega | (simp; done)), by first | trivial | assumption | omega | (dsimp only; omega) | (constructor <;> first | assumption | omega) | (dsimp only; constructor <;> first | assumption | omega | (simp; done))⟩
   · rfl
   all_goals (try dsimp only)
   all_goals (first | (omega) | omega | (simp only [*]; omega) | (simp; done))
  refine Js.skip <| Js.blockEnd <| Js.region <| Qm rfl <| Qp rfl rfl <| Qa rfl <| JL.nil ?_
  refine zf [3, 3, 3] fun GG31 => ?_
  refine zn ?_
  refine zf [1, 1, 0] fun GG32 => ?_
  refine zn ?_
  exact zag ⟨k + 1, X9AT, X9SD, _, rfl, rfl, zt, zt, zt, rfl⟩ x3
 refine zx ?_
 refine Js.seq <| zS <| Qm rfl ?_
 refine zhl [2] ?_
 refine zBB 1 sp_ rfl (fun w hb _ hw => c_spec_l00Src_pick s_code at1 sd1 24 hb (ok_ hw)) ?_
 rintro _ _ G33 ⟨X33KX, X33AT, X33SD, rfl, rfl, hX33_0, hX33_1, hX33_2, hX33_3⟩
 refine znl ?_
 refine JL.nil ?_
 refine zf [0, 1, 1] fun GG34 => ?_
 refine zn ?_
 refine Js.block <| zS <| Qe rfl rfl <| Qa rfl <| JL.nil ?_
 refine zi (fun h35 h35' => ?_) fun h35 h35' => ?_
 ·
  refine Js.region <| Qf fh rfl <| Q0 1 rfl rfl rfl <| Qq (p_add rfl rfl rfl) <| Qf fh rfl <| zw 1 rfl rfl rfl ?_
  refine JL.nil <| Js.blockEnd <| zS <| Q9 1 rfl rfl ?_
  refine zw 2 rfl rfl rfl ?_
  refine JL.nil ?_
  refine zf [0, 1] fun GG36 => ?_
  refine zn ?_
  refine Js.conv (fun w hw => St.nilRow 2 hw) ?_
  refine Js.conv (fun w hw => St.nilRow 2 hw) ?_
  refine zrb [2, 1, 0] hb x3 ?_
  refine ⟨((M.Puz.mk (M.Rul.mk 0 0 false false false false false 0 0) (M.Pos.mk ([] : List Int) ([] : List Int) 0) 0 (IntKind.i64.wrap (0 + 1)) 0 0)), (X33AT), (X33SD), none, 0, [], none, 0, [], rfl, ?_, ?_, ?_, ?_, ?_, by first | trivial | assumption | omega | (dsimp only; omega) | (constructor <;> first | assumption | omega) | (dsimp only; constructor <;> first | assumption | omega | (simp; done)), by first | trivial | assumption | omega | (dsimp only; omega) | (constructor <;> first | assumption | omega) | (dsimp only; constructor <;> first | assumption | omega | (simp; done)), by first | trivial | assumption | omega | (dsimp only; omega) | (constructor <;> first | assumption | omega) | (dsimp only; constructor <;> first | assumption | omega | (simp; done))⟩
  · rfl
  all_goals (try dsimp only)
  all_goals (first | (omega) | omega | (simp only [*]; omega) | (simp; done))
 refine zS <| Qe rfl rfl <| Qa rfl <| JL.nil ?_
 refine zi (fun h37 h37' => ?_) fun h37 h37' => ?_
 ·
  refine Js.region <| Qf fh rfl <| Q0 1 rfl rfl rfl <| Qq (p_add rfl rfl rfl) <| Qf fh rfl <| zw 1 rfl rfl rfl ?_
  refine JL.nil <| Js.blockEnd <| zS <| Q9 1 rfl rfl ?_
  refine zw 2 rfl rfl rfl ?_
  refine JL.nil ?_
  refine zf [0, 1] fun GG38 => ?_
  refine zn ?_
  refine Js.conv (fun w hw => St.nilRow 2 hw) ?_
  refine Js.conv (fun w hw => St.nilRow 2 hw) ?_
  refine zrb [2, 1, 0] hb x3 ?_
  refine ⟨((M.Puz.mk (M.Rul.mk 0 0 false false false false false 0 0) (M.Pos.mk ([] : List Int) ([] : List Int) 0) 0 0 (IntKind.i64.wrap (0 + 1)) 0)), (X33AT), (X33SD), none, 0, [], none, 0, [], rfl, ?_, ?_, ?_, ?_, ?_, by first | trivial | assumption | omega | (dsimp only; omega) | (constructor <;> first | assumption | omega) | (dsimp only; constructor <;> first | assumption | omega | (simp; done)), by first | trivial | assumption | omega | (dsimp only; omega) | (constructor <;> first | assumption | omega) | (dsimp only; constructor <;> first | assumption | omega | (simp; done)), by first | trivial | assumption | omega | (dsimp only; omega) | (constructor <;> first | assumption | omega) | (dsimp only; constructor <;> first | assumption | omega | (simp; done))⟩
  · rfl
  all_goals (try dsimp only)
  all_goals (first | (omega) | omega | (simp only [*]; omega) | (simp; done))
 refine zS <| Qe rfl rfl <| Qa rfl <| JL.nil ?_
 refine zi (fun h39 h39' => ?_) fun h39 h39' => ?_
 ·
  refine Js.region <| Qf fh rfl <| Q0 1 rfl rfl rfl <| Qq (p_add rfl rfl rfl) <| Qf fh rfl <| zw 1 rfl rfl rfl ?_
  refine JL.nil <| Js.blockEnd <| zS <| Q9 1 rfl rfl ?_
  refine zw 2 rfl rfl rfl ?_
  refine JL.nil ?_
  refine zf [0, 1] fun GG40 => ?_
  refine zn ?_
  refine Js.conv (fun w hw => St.nilRow 2 hw) ?_
  refine Js.conv (fun w hw => St.nilRow 2 hw) ?_
  refine zrb [2, 1, 0] hb x3 ?_
  refine ⟨((M.Puz.mk (M.Rul.mk 0 0 false false false false false 0 0) (M.Pos.mk ([] : List Int) ([] : List Int) 0) 0 0 0 (IntKind.i64.wrap (0 + 1)))), (X33AT), (X33SD), none, 0, [], none, 0, [], rfl, ?_, ?_, ?_, ?_, ?_, by first | trivial | assumption | omega | (dsimp only; omega) | (constructor <;> first | assumption | omega) | (dsimp only; constructor <;> first | assumption | omega | (simp; done)), by first | trivial | assumption | omega | (dsimp only; omega) | (constructor <;> first | assumption | omega) | (dsimp only; constructor <;> first | assumption | omega | (simp; done)), by first | trivial | assumption | omega | (dsimp only; omega) | (constructor <;> first | assumption | omega) | (dsimp only; constructor <;> first | assumption | omega | (simp; done))⟩
  · rfl
  all_goals (try dsimp only)
  all_goals (first | (omega) | omega | (simp only [*]; omega) | (simp; done))
 refine zS <| Qe rfl rfl <| Qa rfl <| JL.nil ?_
 refine zi (fun h41 h41' => ?_) fun h41 h41' => ?_
 ·
  refine Js.region <| Qf fh rfl <| Q0 1 rfl rfl rfl <| Qq (p_add rfl rfl rfl) <| Qf fh rfl <| zw 1 rfl rfl rfl ?_
  refine JL.nil <| Js.blockEnd <| zS <| Q9 1 rfl rfl ?_
  refine zw 2 rfl rfl rfl ?_
  refine JL.nil ?_
  refine zf [0, 1] fun GG42 => ?_
  refine zn ?_
  refine Js.conv (fun w hw => St.nilRow 2 hw) ?_
  refine Js.conv (fun w hw => St.nilRow 2 hw) ?_
  refine zrb [2, 1, 0] hb x3 ?_
  refine ⟨((M.Puz.mk (M.Rul.mk 0 0 false false false false false 0 0) (M.Pos.mk ([] : List Int) ([] : List Int) 0) (IntKind.i64.wrap (0 + 1)) 0 0 0)), (X33AT), (X33SD), none, 0, [], none, 0, [], rfl, ?_, ?_, ?_, ?_, ?_, by first | trivial | assumption | omega | (dsimp only; omega) | (constructor <;> first | assumption | omega) | (dsimp only; constructor <;> first | assumption | omega | (simp; done)), by first | trivial | assumption | omega | (dsimp only; omega) | (constructor <;> first | assumption | omega) | (dsimp only; constructor <;> first | assumption | omega | (simp; done)), by first | trivial | assumption | omega | (dsimp only; omega) | (constructor <;> first | assumption | omega) | (dsimp only; constructor <;> first | assumption | omega | (simp; done))⟩
  · rfl
  all_goals (try dsimp only)
  all_goals (first | (omega) | omega | (simp only [*]; omega) | (simp; done))
 refine zS <| Qe rfl rfl <| Qa rfl <| JL.nil ?_
 refine zi (fun h43 h43' => ?_) fun h43 h43' => ?_
 ·
  refine Js.region <| Qf fh rfl <| Qf fh rfl <| Q0 1 rfl rfl rfl <| Qq (p_sub rfl rfl rfl) <| Qf fh rfl <| Qf fh rfl <| zw 1 rfl rfl rfl ?_
  refine JL.nil <| Js.blockEnd <| zS <| Q9 1 rfl rfl ?_
  refine zw 2 rfl rfl rfl ?_
  refine JL.nil ?_
  refine zf [0, 1] fun GG44 => ?_
  refine zn ?_
  refine Js.conv (fun w hw => St.nilRow 2 hw) ?_
  refine Js.conv (fun w hw => St.nilRow 2 hw) ?_
  refine zrb [2, 1, 0] hb x3 ?_
  refine ⟨((M.Puz.mk (M.Rul.mk 0 0 false false false false false 0 0) (M.Pos.mk ([] : List Int) ([] : List Int) (IntKind.i64.wrap (1 - 0))) 0 0 0 0)), (X33AT), (X33SD), none, 0, [], none, 0, [], rfl, ?_, ?_, ?_, ?_, ?_, by first | trivial | assumption | omega | (dsimp only; omega) | (constructor <;> first | assumption | omega) | (dsimp only; constructor <;> first | assumption | omega | (simp; done)), by first | trivial | assumption | omega | (dsimp only; omega) | (constructor <;> first | assumption | omega) | (dsimp only; constructor <;> first | assumption | omega | (simp; done)), by first | trivial | assumption | omega | (dsimp only; omega) | (constructor <;> first | assumption | omega) | (dsimp only; constructor <;> first | assumption | omega | (simp; done))⟩
  · rfl
  all_goals (try dsimp only)
  all_goals (first | (omega) | omega | (simp only [*]; omega) | (simp; done))
 refine Js.skip <| Js.blockEnd <| zS <| Q9 1 rfl rfl ?_
 refine zw 2 rfl rfl rfl ?_
 refine JL.nil ?_
 refine zf [0, 1] fun GG45 => ?_
 refine zn ?_
 refine Js.conv (fun w hw => St.nilRow 2 hw) ?_
 refine Js.conv (fun w hw => St.nilRow 2 hw) ?_
 refine zrb [2, 1, 0] hb x3 ?_
 refine ⟨((M.Puz.mk (M.Rul.mk 0 0 false false false false false 0 0) (M.Pos.mk ([] : List Int) ([] : List Int) 0) 0 0 0 0)), (X33AT), (X33SD), none, 0, [], none, 0, [], rfl, ?_, ?_, ?_, ?_, ?_, by first | trivial | assumption | omega | (dsimp only; omega) | (constructor <;> first | assumption | omega) | (dsimp only; constructor <;> first | assumption | omega | (simp; done)), by first | trivial | assumption | omega | (dsimp only; omega) | (constructor <;> first | assumption | omega) | (dsimp only; constructor <;> first | assumption | omega | (simp; done)), by first | trivial | assumption | omega | (dsimp only; omega) | (constructor <;> first | assumption | omega) | (dsimp only; constructor <;> first | assumption | omega | (simp; done))⟩
 · rfl
 all_goals (try dsimp only)
 all_goals (first | (omega) | omega | (simp only [*]; omega) | (simp; done))
theorem c_spec_DrawPuzzleOf (code : Nat) {v_code : Value} {w : World} (h_code : (Ty.bytes 5 code).ok w v_code) (r0 : code ≤ 1048576 := by exact om_) : Ret Tryz.prog 18 [v_code] w (Ty.tup [Ty.ex (fun (RX : M.Rul) => True) (fun RX => Ty.agg (cRules RX)), Ty.ex (fun (PX : M.Pos) => (PX.pits.length ≤ 4194304 ∧ PX.stores.length ≤ 4194304)) (fun PX => Ty.agg (cPositionL PX)), Ty.ex (fun (KX : Int) => True) (fun KX => Ty.int KX)]) := by
 revert v_code; apply opn
 intro A1 c1 h1 bl1 bh1
 have h_code := h1
 refine enter @Tryz.func18 @Tryz.ntmps18 rfl rfl ?_
 refine zent ?_
 refine zS <| za zeh fun b2 => za zeh fun b3 => Qa rfl <| zN <| Qm rfl <| zcs rfl (fun w hw => c_spec_l00From code (ok_ hw)) ?_
 intro b4
 refine zB 1 sp_ rfl (fun w hb hw => c_spec_l21Pos code 0 0 hb (ok_ hw)) ?_
 rintro _ _ G5 ⟨X5RX, X5PX, X5KX, X5AT, X5SD, A5rb_0, c5rb_0, A5rb_1, c5rb_1, g5rb_1, rfl, rfl, bl5_0, bl5_1, bl5_2, bl5_3, hX5_0, hX5_1, hX5_2⟩
 refine znl ?_
 refine Qx rfl rfl <| Qx rfl rfl <| Qx rfl rfl <| zw 5 rfl rfl rfl ?_
 refine zw 4 rfl rfl rfl ?_
 refine Qa rfl <| JL.nil ?_
 exact zro (Up.refl _ _) (g := by exact (gv_tup (gvc (gv_ex X5RX (by first | trivial | assumption | omega | (dsimp only; omega) | (constructor <;> first | assumption | omega) | (dsimp only; constructor <;> first | assumption | omega | (simp; done))) gv_) (gvc (gv_ex X5PX (by first | trivial | assumption | omega | (dsimp only; omega) | (constructor <;> first | assumption | omega) | (dsimp only; constructor <;> first | assumption | omega | (simp; done))) (gv_agg (gvc (gv_rx po_ (by first | rfl | assumption)) (gvc gv_ (gvc gv_ gvn))))) (gvc (gv_ex X5KX (by first | trivial | assumption | omega | (dsimp only; omega) | (constructor <;> first | assumption | omega) | (dsimp only; constructor <;> first | assumption | omega | (simp; done))) gv_) gvn)))))
theorem c_spec_DrawValidPuzzle (code : Nat) {v_code : Value} {w : World} (h_code : (Ty.bytes 5 code).ok w v_code) (r0 : code ≤ 1048576 := by exact om_) : Ret Tryz.prog 21 [v_code] w (Ty.ex (fun (ZX : M.Puz) => (ZX.position.pits.length ≤ 4194304 ∧ ZX.position.stores.length ≤ 4194304)) (fun ZX => Ty.agg (cPuzzle ZX))) := by
 revert v_code; apply opn
 intro A1 c1 h1 bl1 bh1
 have h_code := h1
 refine enter @Tryz.func21 @Tryz.ntmps21 rfl rfl ?_
 refine zent ?_
 refine zS <| za zeh fun b2 => zN <| Qm rfl <| zcs rfl (fun w hw => c_spec_l00From code (ok_ hw)) ?_
 intro b3
 refine zB 1 sp_ rfl (fun w hb hw => c_spec_l21Bent code 0 0 hb (ok_ hw)) ?_
 rintro _ _ G4 ⟨X4ZX, X4AT, X4SD, A4r_9, c4r_9, g4r_9, A4r_10, c4r_10, g4r_10, rfl, rfl, bl4_0, bl4_1, bl4_2, bl4_3, hX4_0, hX4_1, hX4_2⟩
 refine znl ?_
 refine zw 4 rfl rfl rfl ?_
 refine JL.nil ?_
 exact zro (Up.refl _ _) (g := by exact (gv_ex X4ZX (by first | trivial | assumption | omega | (dsimp only; omega) | (constructor <;> first | assumption | omega) | (dsimp only; constructor <;> first | assumption | omega | (simp; done))) gv_))
theorem c_spec_DrawSamePuzzle (code : Nat) {v_code : Value} {w : World} (h_code : (Ty.bytes 5 code).ok w v_code) (r0 : code ≤ 1048576 := by exact om_) : Ret Tryz.prog 24 [v_code] w (Ty.tup [Ty.ex (fun (AX : M.Puz) => (AX.position.pits.length ≤ 4194304 ∧ AX.position.stores.length ≤ 4194304)) (fun AX => Ty.agg (cPuzzle AX)), Ty.ex (fun (BX : M.Puz) => (BX.position.pits.length ≤ 4194304 ∧ BX.position.stores.length ≤ 4194304)) (fun BX => Ty.agg (cPuzzle BX))]) := by
 revert v_code; apply opn
 intro A1 c1 h1 bl1 bh1
 have h_code := h1
 refine enter @Tryz.func24 @Tryz.ntmps24 rfl rfl ?_
 refine zent ?_
 refine zS <| za zeh fun b2 => za zeh fun b3 => zN <| Qm rfl <| zcs rfl (fun w hw => c_spec_l00From code (ok_ hw)) ?_
 intro b4
 refine Qa rfl <| zN <| Qm rfl <| zB 1 sp_ rfl (fun w hb hw => c_spec_l21Bent code 0 0 hb (ok_ hw)) ?_
 rintro _ _ G5 ⟨X5ZX, X5AT, X5SD, A5r_9, c5r_9, g5r_9, A5r_10, c5r_10, g5r_10, rfl, rfl, bl5_0, bl5_1, bl5_2, bl5_3, hX5_0, hX5_1, hX5_2⟩
 refine znl ?_
 refine za zeh fun b6 => zw 0 rfl rfl rfl ?_
 refine zN <| Q9 0 rfl rfl ?_
 refine za zeh fun b7 => zw 0 rfl rfl rfl ?_
 refine zN <| Qf fh rfl <| zc rfl (fun w hw => c_spec_l04Own X5ZX.position ⟨_, _, [.slice A5r_9 X5ZX.position.pits.length c5r_9, .slice A5r_10 X5ZX.position.stores.length c5r_10, .int .i64 X5ZX.position.player], rfl, ⟨(ok_ hw), (ok_ hw), rfl, trivial⟩, Mem.boxR (i := 1) rfl 9 3 _ hw⟩) ?_
 intro A9 c9 bl9 bh9 A10 c10 bl10 bh10
 refine Qf fh rfl <| zw 2 rfl rfl rfl ?_
 refine zJ <| zS <| Qm rfl ?_
 refine zhl [4] ?_
 refine zB 1 sp_ rfl (fun w hb hw => c_spec_l00Src_pick code X5AT X5SD 4 hb (ok_ hw)) ?_
 rintro _ _ G11 ⟨X11KX, X11AT, X11SD, rfl, rfl, hX11_0, hX11_1, hX11_2, hX11_3⟩
 refine znl ?_
 refine JL.nil <| Js.block <| zS <| Qe rfl rfl <| Qa rfl <| JL.nil ?_
 refine zi (fun h12 h12' => ?_) fun h12 h12' => ?_
 ·
  refine Js.region <| Qf fh rfl <| Q0 4 rfl rfl rfl <| Qq (p_add rfl rfl rfl) <| Qf fh rfl <| zw 4 rfl rfl rfl ?_
  refine JL.nil <| Js.blockEnd <| Js.seq ?_
  refine zk [2, 3] (fun F U l os u => l = F [] ∧ os = U [nO, nO, nO, nO, nO, nO, nO, nO, nO, some (boxO b3 [.int .i64 X5ZX.rules.pits, .int .i64 X5ZX.rules.seeds, .bool X5ZX.rules.stores, .bool X5ZX.rules.skip, .bool X5ZX.rules.relay, .bool X5ZX.rules.feed, .bool X5ZX.rules.again, .int .i64 X5ZX.rules.capture, .int .i64 X5ZX.rules.slam, .slice A9 X5ZX.position.pits.length c9, .slice A10 X5ZX.position.stores.length c10, .int .i64 X5ZX.position.player, .int .i64 X5ZX.depth, .int .i64 X5ZX.move, .int .i64 X5ZX.value, .int .i64 (IntKind.i64.wrap (X5ZX.margin + 1))] 53), some (boxO b2 [.int .i64 X5ZX.rules.pits, .int .i64 X5ZX.rules.seeds, .bool X5ZX.rules.stores, .bool X5ZX.rules.skip, .bool X5ZX.rules.relay, .bool X5ZX.rules.feed, .bool X5ZX.rules.again, .int .i64 X5ZX.rules.capture, .int .i64 X5ZX.rules.slam, .slice A5r_9 X5ZX.position.pits.length c5r_9, .slice A5r_10 X5ZX.position.stores.length c5r_10, .int .i64 X5ZX.position.player, .int .i64 X5ZX.depth, .int .i64 X5ZX.move, .int .i64 X5ZX.value, .int .i64 X5ZX.margin] 53)]) ?_ ?_
  ·
   refine zdr [2, 3] ?_
   refine JH.q 0 rfl (L9 5 rfl rfl) ?_
   refine y2 1 2 ?_ ?_
   ·
    refine JHo.q rfl (L9 4 rfl rfl) ?_
    refine y1 2 ?_
    refine yst rfl rfl rfl ?_
    refine y1 3 ?_
    refine yst rfl rfl rfl ?_
    refine yd ?_
    exact zm ⟨rfl, rfl⟩ (Up.refl _ _)
   refine yst rfl rfl rfl ?_
   refine y1 1 ?_
   refine JHo.q rfl (L9 4 rfl rfl) ?_
   refine y1 3 ?_
   refine yst rfl rfl rfl ?_
   refine yd ?_
   exact zm ⟨rfl, rfl⟩ (Up.refl _ _)
  rintro _ _ u13 ⟨rfl, rfl⟩ x13
  refine zn ?_
  exact zro x13 (g := by exact (gv_tup (gvc (gv_ex X5ZX (by first | trivial | assumption | omega | (dsimp only; omega) | (constructor <;> first | assumption | omega) | (dsimp only; constructor <;> first | assumption | omega | (simp; done))) gv_) (gvc (gv_ex (M.Puz.mk X5ZX.rules X5ZX.position X5ZX.depth X5ZX.move X5ZX.value (IntKind.i64.wrap (X5ZX.margin + 1))) (by first | trivial | assumption | omega | (dsimp only; omega) | (constructor <;> first | assumption | omega) | (dsimp only; constructor <;> first | assumption | omega | (simp; done))) gv_) gvn))))
 refine zS <| Qe rfl rfl <| Qa rfl <| JL.nil ?_
 refine zi (fun h14 h14' => ?_) fun h14 h14' => ?_
 ·
  refine Js.region <| Qf fh rfl <| Qf fh rfl <| Q0 4 rfl rfl rfl <| Qq (p_sub rfl rfl rfl) <| Qf fh rfl <| Qf fh rfl <| zw 4 rfl rfl rfl ?_
  refine JL.nil <| Js.blockEnd <| Js.seq ?_
  refine zk [2, 3] (fun F U l os u => l = F [] ∧ os = U [nO, nO, nO, nO, nO, nO, nO, nO, nO, some (boxO b3 [.int .i64 X5ZX.rules.pits, .int .i64 X5ZX.rules.seeds, .bool X5ZX.rules.stores, .bool X5ZX.rules.skip, .bool X5ZX.rules.relay, .bool X5ZX.rules.feed, .bool X5ZX.rules.again, .int .i64 X5ZX.rules.capture, .int .i64 X5ZX.rules.slam, .slice A9 X5ZX.position.pits.length c9, .slice A10 X5ZX.position.stores.length c10, .int .i64 (IntKind.i64.wrap (1 - X5ZX.position.player)), .int .i64 X5ZX.depth, .int .i64 X5ZX.move, .int .i64 X5ZX.value, .int .i64 X5ZX.margin] 53), some (boxO b2 [.int .i64 X5ZX.rules.pits, .int .i64 X5ZX.rules.seeds, .bool X5ZX.rules.stores, .bool X5ZX.rules.skip, .bool X5ZX.rules.relay, .bool X5ZX.rules.feed, .bool X5ZX.rules.again, .int .i64 X5ZX.rules.capture, .int .i64 X5ZX.rules.slam, .slice A5r_9 X5ZX.position.pits.length c5r_9, .slice A5r_10 X5ZX.position.stores.length c5r_10, .int .i64 X5ZX.position.player, .int .i64 X5ZX.depth, .int .i64 X5ZX.move, .int .i64 X5ZX.value, .int .i64 X5ZX.margin] 53)]) ?_ ?_
  ·
   refine zdr [2, 3] ?_
   refine JH.q 0 rfl (L9 5 rfl rfl) ?_
   refine y2 1 2 ?_ ?_
   ·
    refine JHo.q rfl (L9 4 rfl rfl) ?_
    refine y1 2 ?_
    refine yst rfl rfl rfl ?_
    refine y1 3 ?_
    refine yst rfl rfl rfl ?_
    refine yd ?_
    exact zm ⟨rfl, rfl⟩ (Up.refl _ _)
   refine yst rfl rfl rfl ?_
   refine y1 1 ?_
   refine JHo.q rfl (L9 4 rfl rfl) ?_
   refine y1 3 ?_
   refine yst rfl rfl rfl ?_
   refine yd ?_
   exact zm ⟨rfl, rfl⟩ (Up.refl _ _)
  rintro _ _ u15 ⟨rfl, rfl⟩ x15
  refine zn ?_
  exact zro x15 (g := by exact (gv_tup (gvc (gv_ex X5ZX (by first | trivial | assumption | omega | (dsimp only; omega) | (constructor <;> first | assumption | omega) | (dsimp only; constructor <;> first | assumption | omega | (simp; done))) gv_) (gvc (gv_ex (M.Puz.mk X5ZX.rules (M.Pos.mk X5ZX.position.pits X5ZX.position.stores (IntKind.i64.wrap (1 - X5ZX.position.player))) X5ZX.depth X5ZX.move X5ZX.value X5ZX.margin) (by first | trivial | assumption | omega | (dsimp only; omega) | (constructor <;> first | assumption | omega) | (dsimp only; constructor <;> first | assumption | omega | (simp; done))) gv_) gvn))))
 refine zS <| Qe rfl rfl <| Qa rfl <| JL.nil ?_
 refine zi (fun h16 h16' => ?_) fun h16 h16' => ?_
 ·
  refine Js.region <| Qf fh rfl <| Qf fh rfl <| Q0 4 rfl rfl rfl <| Qt rfl <| Qf fh rfl <| Qf fh rfl <| zw 4 rfl rfl rfl ?_
  refine JL.nil <| Js.blockEnd <| Js.seq ?_
  refine zk [2, 3] (fun F U l os u => l = F [] ∧ os = U [nO, nO, nO, nO, nO, nO, nO, nO, nO, some (boxO b3 [.int .i64 X5ZX.rules.pits, .int .i64 X5ZX.rules.seeds, .bool X5ZX.rules.stores, .bool X5ZX.rules.skip, .bool X5ZX.rules.relay, .bool (!X5ZX.rules.feed), .bool X5ZX.rules.again, .int .i64 X5ZX.rules.capture, .int .i64 X5ZX.rules.slam, .slice A9 X5ZX.position.pits.length c9, .slice A10 X5ZX.position.stores.length c10, .int .i64 X5ZX.position.player, .int .i64 X5ZX.depth, .int .i64 X5ZX.move, .int .i64 X5ZX.value, .int .i64 X5ZX.margin] 53), some (boxO b2 [.int .i64 X5ZX.rules.pits, .int .i64 X5ZX.rules.seeds, .bool X5ZX.rules.stores, .bool X5ZX.rules.skip, .bool X5ZX.rules.relay, .bool X5ZX.rules.feed, .bool X5ZX.rules.again, .int .i64 X5ZX.rules.capture, .int .i64 X5ZX.rules.slam, .slice A5r_9 X5ZX.position.pits.length c5r_9, .slice A5r_10 X5ZX.position.stores.length c5r_10, .int .i64 X5ZX.position.player, .int .i64 X5ZX.depth, .int .i64 X5ZX.move, .int .i64 X5ZX.value, .int .i64 X5ZX.margin] 53)]) ?_ ?_
  ·
   refine zdr [2, 3] ?_
   refine JH.q 0 rfl (L9 5 rfl rfl) ?_
   refine y2 1 2 ?_ ?_
   ·
    refine JHo.q rfl (L9 4 rfl rfl) ?_
    refine y1 2 ?_
    refine yst rfl rfl rfl ?_
    refine y1 3 ?_
    refine yst rfl rfl rfl ?_
    refine yd ?_
    exact zm ⟨rfl, rfl⟩ (Up.refl _ _)
   refine yst rfl rfl rfl ?_
   refine y1 1 ?_
   refine JHo.q rfl (L9 4 rfl rfl) ?_
   refine y1 3 ?_
   refine yst rfl rfl rfl ?_
   refine yd ?_
   exact zm ⟨rfl, rfl⟩ (Up.refl _ _)
  rintro _ _ u17 ⟨rfl, rfl⟩ x17
  refine zn ?_
  exact zro x17 (g := by exact (gv_tup (gvc (gv_ex X5ZX (by first | trivial | assumption | omega | (dsimp only; omega) | (constructor <;> first | assumption | omega) | (dsimp only; constructor <;> first | assumption | omega | (simp; done))) gv_) (gvc (gv_ex (M.Puz.mk (M.Rul.mk X5ZX.rules.pits X5ZX.rules.seeds X5ZX.rules.stores X5ZX.rules.skip X5ZX.rules.relay (!X5ZX.rules.feed) X5ZX.rules.again X5ZX.rules.capture X5ZX.rules.slam) X5ZX.position X5ZX.depth X5ZX.move X5ZX.value X5ZX.margin) (by first | trivial | assumption | omega | (dsimp only; omega) | (constructor <;> first | assumption | omega) | (dsimp only; constructor <;> first | assumption | omega | (simp; done))) gv_) gvn))))
 refine Js.skip <| Js.blockEnd <| Js.seq ?_
 refine zk [2, 3] (fun F U l os u => l = F [] ∧ os = U [nO, nO, nO, nO, nO, nO, nO, nO, nO, some (boxO b3 [.int .i64 X5ZX.rules.pits, .int .i64 X5ZX.rules.seeds, .bool X5ZX.rules.stores, .bool X5ZX.rules.skip, .bool X5ZX.rules.relay, .bool X5ZX.rules.feed, .bool X5ZX.rules.again, .int .i64 X5ZX.rules.capture, .int .i64 X5ZX.rules.slam, .slice A9 X5ZX.position.pits.length c9, .slice A10 X5ZX.position.stores.length c10, .int .i64 X5ZX.position.player, .int .i64 X5ZX.depth, .int .i64 X5ZX.move, .int .i64 X5ZX.value, .int .i64 X5ZX.margin] 53), some (boxO b2 [.int .i64 X5ZX.rules.pits, .int .i64 X5ZX.rules.seeds, .bool X5ZX.rules.stores, .bool X5ZX.rules.skip, .bool X5ZX.rules.relay, .bool X5ZX.rules.feed, .bool X5ZX.rules.again, .int .i64 X5ZX.rules.capture, .int .i64 X5ZX.rules.slam, .slice A5r_9 X5ZX.position.pits.length c5r_9, .slice A5r_10 X5ZX.position.stores.length c5r_10, .int .i64 X5ZX.position.player, .int .i64 X5ZX.depth, .int .i64 X5ZX.move, .int .i64 X5ZX.value, .int .i64 X5ZX.margin] 53)]) ?_ ?_
 ·
  refine zdr [2, 3] ?_
  refine JH.q 0 rfl (L9 5 rfl rfl) ?_
  refine y2 1 2 ?_ ?_
  ·
   refine JHo.q rfl (L9 4 rfl rfl) ?_
   refine y1 2 ?_
   refine yst rfl rfl rfl ?_
   refine y1 3 ?_
   refine yst rfl rfl rfl ?_
   refine yd ?_
   exact zm ⟨rfl, rfl⟩ (Up.refl _ _)
  refine yst rfl rfl rfl ?_
  refine y1 1 ?_
  refine JHo.q rfl (L9 4 rfl rfl) ?_
  refine y1 3 ?_
  refine yst rfl rfl rfl ?_
  refine yd ?_
  exact zm ⟨rfl, rfl⟩ (Up.refl _ _)
 rintro _ _ u18 ⟨rfl, rfl⟩ x18
 refine zn ?_
 exact zro x18 (g := by exact (gv_tup (gvc (gv_ex X5ZX (by first | trivial | assumption | omega | (dsimp only; omega) | (constructor <;> first | assumption | omega) | (dsimp only; constructor <;> first | assumption | omega | (simp; done))) gv_) (gvc (gv_ex X5ZX (by first | trivial | assumption | omega | (dsimp only; omega) | (constructor <;> first | assumption | omega) | (dsimp only; constructor <;> first | assumption | omega | (simp; done))) gv_) gvn))))
theorem c_spec_LegalMovesL (r : M.Rul) {v_r : Value} (p : M.Pos) {v_p : Value} {w : World} (h_r : (Ty.agg (cRules r)).ok w v_r) (h_p : (Ty.agg (cPosition p)).ok w v_p) (r0 : p.pits.length ≤ 4194304 := by exact om_) (r1 : p.stores.length ≤ 4194304 := by exact om_) : Ret Tryz.prog 17 [v_r, v_p] w (Ty.tup [Ty.ints 2 (M.legal r p), Ty.int (M.legC r p)]) := by
 revert v_r; apply opn
 revert v_p; apply opn
 intro A1 c1 h1 bl1 bh1 A2 c2 h2 bl2 bh2
 refine enter @Tryz.func17 @Tryz.ntmps17 rfl rfl ?_
 refine zent ?_
 refine zS <| zb rfl fun b3 => zb rfl fun b4 => Qa rfl <| Qa rfl <| zJ <| zS <| zv rfl (fun w hw => c_spec_l04Ok r p (ok_ hw) (ok_ hw)) <| Qt rfl <| JL.nil ?_
 refine zi (fun h5 h5' => ?_) fun h5 h5' => ?_
 ·
  have hE := M.legal_no (r := r) (p := p) (by simpa using h5)
  have hC := M.legC_n (r := r) (p := p) (by simpa using h5)
  have hq0 : [] = M.legal r p := by first | exact hE | (rw [hE]; done) | (rw [hC]; done) | exact hC
  have hq1 : 1 = M.legC r p := by first | exact hE | (rw [hE]; done) | (rw [hC]; done) | exact hC
  refine zS <| Qa rfl <| Qa rfl <| JL.nil ?_
  exact zro (Up.refl _ _)
 have hok : M.okP r p = true := by simpa using h5
 have hC := M.legC_y hok
 have g8 := M.results_8 hok
 refine Js.skip <| zS <| zbs fun b6 => ?_
 refine Qa rfl <| zN <| zp rfl (fun w hw => c_spec_l07All r p (ok_ hw) (ok_ hw) (r0 := hok)) ?_
 intro u8 x8 A9 c9 h9 bl9 bh9
 refine Qa rfl <| zJ <| zS <| Qa rfl <| JL.nil <| Js.block ?_
 refine zl [7] (fun F U l os u m => ∃ (k : Nat) (acc : List Int) (A10_6 : Option Addr) (c10_6 : Nat) (g10_6 : List Nat), l = F [(6, .slice A10_6 acc.length c10_6), (8, .int .i64 (k : Int))] ∧ os = U [some (rowO 2 1 (.slice A10_6 acc.length c10_6) acc.length (ints_ acc) g10_6)] ∧ (acc = ((M.results r p).map (·.move)).take k) ∧ (k ≤ (M.results r p).length) ∧ (acc.length = k) ∧ (acc.length ≤ c10_6) ∧ (c10_6 ≤ 9223372036854775807) ∧ m = (M.results r p).length - k) ⟨0, [], _, _, _, rfl, rfl, by rfl, zt, by rfl, zu, zu, rfl⟩ ?_
 rintro _ _ u10 _ ⟨k, acc, A10_6, c10_6, g10_6, rfl, rfl, hA, hk, hl, f10_3, f10_4, rfl⟩ x10
 refine zn ?_
 refine Js.seq <| zS <| Qm rfl <| Qm rfl <| Qz rfl <| Ql rfl rfl <| JL.nil ?_
 refine zi (fun h11 h11' => ?_) fun h11 h11' => ?_
 ·
  obtain ⟨y12, hy12⟩ : ∃ x, (M.results r p)[k]? = some x := ⟨_, List.getElem?_eq_getElem (by omega)⟩
  obtain ⟨b12, o12, A12_3, c12_3, A12_4, c12_4, he12, hr12, h12_3, h12_4, bl12_3, bh12_3, bl12_4, bh12_4⟩ := elem_Result (Ty.mono _ h9 x10.vis) hy12
  refine Js.skip <| Js.seq <| Js.block <| Js.region <| Qm rfl <| Qm rfl <| Qm rfl <| Qq (p_indexAddr el_111 rfl rfl (by omega) (by omega) he12) <| Qf fh rfl <| QC (hr12 0 _ rfl) rfl <| zbs fun b13 => ?_
  refine JL.e (e_append (i := 1) (n' := (acc ++ [y12.move]).length) (vs' := ints_ (acc ++ [y12.move])) el_29 rfl rfl rfl rfl (src_row (i := 0) und_29 rfl rfl) (by omega) (by omega) ln2_ (by simp [ints_])) ?_
  rintro v15 _ _ ⟨⟨g16, rfl⟩, rfl⟩ _
  refine JL.fact (row_form' (i := 1) rfl) (fun hf17 => ?_)
  obtain ⟨A17, c17, rfl, bl17, bh17⟩ := hf17
  refine znl ?_
  refine Qa rfl <| JL.nil <| Js.blockEnd <| Js.region <| Qm rfl <| Qp rfl rfl <| Qa rfl <| JL.nil ?_
  refine zd [1, 1, 1] rfl fun u18 x18 => ?_
  exact zag ⟨k + 1, acc ++ [y12.move], _, _, _, rfl, rfl, by rw [hA]; exact (M.moves_step (by assumption)).symm, zt, by simp [hl], zu, zu, rfl⟩ (x10.trans x18)
 have hE : acc = M.legal r p := by rw [hA, M.legal_yes hok, List.take_of_length_le (by rw [List.length_map]; have := h11'; omega)]
 refine zx ?_
 have hq0 : acc = M.legal r p := by first | exact hE | (rw [hE]; done) | (rw [hC]; done) | exact hC
 have hq1 : 0 = M.legC r p := by first | exact hE | (rw [hE]; done) | (rw [hC]; done) | exact hC
 refine zS <| Qm rfl <| Qa rfl <| Qa rfl <| JL.nil ?_
 exact zro (x8.trans x10)
theorem c_spec_SamePuzzle (a : M.Puz) {v_a : Value} (b : M.Puz) {v_b : Value} {w : World} (h_a : (Ty.agg (cPuzzle a)).ok w v_a) (h_b : (Ty.agg (cPuzzle b)).ok w v_b) (r0 : a.position.pits.length ≤ 4194304 := by exact om_) (r1 : a.position.stores.length ≤ 4194304 := by exact om_) (r2 : b.position.pits.length ≤ 4194304 := by exact om_) (r3 : b.position.stores.length ≤ 4194304 := by exact om_) : RetV Tryz.prog 25 [v_a, v_b] w (.bool (M.samez a b)) := by
 revert v_a; apply opn
 intro A1 c1 h1 bl1 bh1 A2 c2 h2 bl2 bh2
 revert v_b; apply opn
 intro A3 c3 h3 bl3 bh3 A4 c4 h4 bl4 bh4
 refine enter @Tryz.func25 @Tryz.ntmps25 rfl rfl ?_
 refine zent ?_
 refine zS <| zb rfl fun b5 => zb rfl fun b6 => Qa rfl <| zN <| zv rfl (fun w hw => c_spec_l21Same a b (ok_ hw) (ok_ hw)) <| Qa rfl <| JL.nil ?_
 exact zr (Up.refl _ _)
theorem c_laws_f6big (code : Nat) {v_code : Value} {w : World} (h_code : (Ty.bytes 5 code).ok w v_code) : RetV Tryz.prog 6 [v_code] w (.bool (decide (4096 < (code : Int)))) := by
 revert v_code; apply opn
 intro A1 c1 h1 bl1 bh1
 have h_code := h1
 refine enter @Tryz.func6 @Tryz.ntmps6 rfl rfl ?_
 refine zent ?_
 refine zS <| Qa rfl <| zN <| Qm rfl <| Qz rfl <| Qg rfl rfl <| Qa rfl <| JL.nil ?_
 exact zr (Up.refl _ _)
end Go.Proofs.YtmgnckfhghibeaaGreat

/- Walks: K6. -/
import Derived.Test.YtejnmechnhgmfaaZpTn
import Derived.Test.YtejnmechnhgmfaaZpNK4
set_option linter.unusedSimpArgs false
set_option linter.unusedVariables false
set_option maxRecDepth 100000
attribute [local irreducible] Go.Proofs.Ytejnmechnhgmfaa.gv
namespace Go.Proofs.Ytejnmechnhgmfaa
open Go.RowKit

set_option maxHeartbeats 1000000 in
theorem c_spec_l08Own (g : M.Gam) {v_g : Value} {w : World} (h_g : (Ty.ref (cGame g)).ok w v_g) (r0 : g.start.pits.length ≤ 4194304 := by exact om_) (r1 : g.start.stores.length ≤ 4194304 := by exact om_) (r2 : g.moves.length ≤ 4194304 := by exact om_) (r3 : g.now.pits.length ≤ 4194304 := by exact om_) (r4 : g.now.stores.length ≤ 4194304 := by exact om_) : Ret Try.prog 77 [v_g] w (Ty.agg (cGame g)) := by
 revert v_g; apply opn
 intro b6 o6 A1 c1 h1 bl1 bh1 A2 c2 h2 bl2 bh2 A3 c3 h3 bl3 bh3 A4 c4 h4 bl4 bh4 A5 c5 h5 bl5 bh5 hr6
 refine enter @Try.func77 @Try.ntmps77 rfl rfl ?_
 refine zent ?_
 refine zS <| za zeh fun b7 => zJ ?_
 refine zdr [22] ?_
 refine JH.p 0 rfl (p_move rfl) ?_
 refine JH.p 1 rfl (p_nilCheck rfl) ?_
 refine JH.p 2 rfl (p_fieldAddr fld_35_0.h rfl) ?_
 refine JH.w 3 rfl (fun os' u' hv => LS 0 (hr6.vis hv) rfl) ?_
 refine JH.p 4 rfl (p_move rfl) ?_
 refine JH.p 5 rfl (p_nilCheck rfl) ?_
 refine JH.p 6 rfl (p_fieldAddr fld_35_1.h rfl) ?_
 refine JH.p 8 rfl (p_move rfl) ?_
 refine JH.p 9 rfl (p_nilCheck rfl) ?_
 refine JH.p 10 rfl (p_fieldAddr fld_35_2.h rfl) ?_
 refine JH.w 11 rfl (fun os' u' hv => q_load1 ty_24.h rfl (Mem.pub ((hr6.vis hv) 12 _ rfl))) ?_
 refine JH.p 13 rfl (p_move rfl) ?_
 refine JH.p 14 rfl (p_nilCheck rfl) ?_
 refine JH.p 15 rfl (p_fieldAddr fld_35_3.h rfl) ?_
 refine JH.p 17 rfl (p_move rfl) ?_
 refine JH.p 18 rfl (p_nilCheck rfl) ?_
 refine JH.p 19 rfl (p_fieldAddr fld_35_4.h rfl) ?_
 refine JH.w 20 rfl (fun os' u' hv => q_load1 ty_2.h rfl (Mem.pub ((hr6.vis hv) 16 _ rfl))) ?_
 refine y1 7 ?_
 refine yc rfl rfl (fun w hw => c_spec_l04Own g.start (ok_ hw)) ?_
 intro A9 c9 bl9 bh9 A10 c10 bl10 bh10
 refine y1 12 ?_
 refine ycs rfl rfl (fun w hw => c_spec_l00Own g.moves (ok_ hw)) ?_
 intro A11 c11 bl11 bh11
 refine y1 16 ?_
 refine yc rfl rfl (fun w hw => c_spec_l04Own g.now (ok_ hw)) ?_
 intro A13 c13 bl13 bh13 A14 c14 bl14 bh14
 refine JH.p 21 rfl (q_bld) ?_
 refine y1 22 ?_
 refine yst rfl rfl rfl ?_
 refine yd ?_
 exact zro (Up.refl _ _)

set_option maxHeartbeats 1000000 in
theorem c_spec_l08Play (g : M.Gam) {v_g : Value} (move : Int) {w : World} (h_g : (Ty.ref (cGame g)).ok w v_g) (r0 : g.start.pits.length ≤ 4194304 := by exact om_) (r1 : g.start.stores.length ≤ 4194304 := by exact om_) (r2 : g.moves.length ≤ 4194304 := by exact om_) (r3 : g.now.pits.length ≤ 4194304 := by exact om_) (r4 : g.now.stores.length ≤ 4194304 := by exact om_) (r5 : g.moves.length ≤ 120 := by exact om_) : Ret Try.prog 85 [v_g, .int .i64 move] w (Ty.tup [Ty.agg (cGame ((M.play g move).1)), Ty.int ((M.play g move).2)]) := by
 revert v_g; apply opn
 intro b6 o6 A1 c1 h1 bl1 bh1 A2 c2 h2 bl2 bh2 A3 c3 h3 bl3 bh3 A4 c4 h4 bl4 bh4 A5 c5 h5 bl5 bh5 hr6
 refine enter @Try.func85 @Try.ntmps85 rfl rfl ?_
 refine zent ?_
 refine zS <| za zeh fun b7 => Qa rfl <| zJ <| zS <| Qm rfl <| Qc rfl <| Qf fh rfl <| QC (hr6 16 _ rfl) rfl <| Qh rfl rfl <| JL.nil ?_
 refine zi (fun h8 h8' => ?_) fun h8 h8' => ?_
 ·
  have hE := M.play_6 (g := g) (move := move) (by simpa using h8)
  have hq0 : 0 = (((M.play g move).1).rules).pits := by first | (rw [hE]; done) | (rw [hE]; rfl)
  have hq1 : 0 = (((M.play g move).1).rules).seeds := by first | (rw [hE]; done) | (rw [hE]; rfl)
  have hq2 : false = (((M.play g move).1).rules).stores := by first | (rw [hE]; done) | (rw [hE]; rfl)
  have hq3 : false = (((M.play g move).1).rules).skip := by first | (rw [hE]; done) | (rw [hE]; rfl)
  have hq4 : false = (((M.play g move).1).rules).relay := by first | (rw [hE]; done) | (rw [hE]; rfl)
  have hq5 : false = (((M.play g move).1).rules).feed := by first | (rw [hE]; done) | (rw [hE]; rfl)
  have hq6 : false = (((M.play g move).1).rules).again := by first | (rw [hE]; done) | (rw [hE]; rfl)
  have hq7 : 0 = (((M.play g move).1).rules).capture := by first | (rw [hE]; done) | (rw [hE]; rfl)
  have hq8 : 0 = (((M.play g move).1).rules).slam := by first | (rw [hE]; done) | (rw [hE]; rfl)
  have hq9 : [] = (((M.play g move).1).start).pits := by first | (rw [hE]; done) | (rw [hE]; rfl)
  have hq10 : [] = (((M.play g move).1).start).stores := by first | (rw [hE]; done) | (rw [hE]; rfl)
  have hq11 : 0 = (((M.play g move).1).start).player := by first | (rw [hE]; done) | (rw [hE]; rfl)
  have hq12 : [] = ((M.play g move).1).moves := by first | (rw [hE]; done) | (rw [hE]; rfl)
  have hq13 : [] = (((M.play g move).1).now).pits := by first | (rw [hE]; done) | (rw [hE]; rfl)
  have hq14 : [] = (((M.play g move).1).now).stores := by first | (rw [hE]; done) | (rw [hE]; rfl)
  have hq15 : 0 = (((M.play g move).1).now).player := by first | (rw [hE]; done) | (rw [hE]; rfl)
  have hq16 : 0 = ((M.play g move).1).resigned := by first | (rw [hE]; done) | (rw [hE]; rfl)
  have hq17 : 6 = (M.play g move).2 := by first | (rw [hE]; done) | (rw [hE]; rfl)
  refine zS <| Qb ?_
  refine zw 0 rfl rfl rfl ?_
  refine Qa rfl <| JL.nil ?_
  exact zro (Up.refl _ _)
 have q1 : ¬ 0 ≤ g.resigned := by simpa using h8
 refine Js.skip <| Js.seq <| zS <| Qm rfl <| Qc rfl <| Qf fh rfl <| QC (hr6 12 _ rfl) rfl <| Qz rfl <| Qh rfl rfl <| JL.nil ?_
 refine zi (fun h9 h9' => ?_) fun h9 h9' => ?_
 ·
  have hE := M.play_5 (move := move) q1 (by have := h9'; omega)
  have hq0 : 0 = (((M.play g move).1).rules).pits := by first | (rw [hE]; done) | (rw [hE]; rfl)
  have hq1 : 0 = (((M.play g move).1).rules).seeds := by first | (rw [hE]; done) | (rw [hE]; rfl)
  have hq2 : false = (((M.play g move).1).rules).stores := by first | (rw [hE]; done) | (rw [hE]; rfl)
  have hq3 : false = (((M.play g move).1).rules).skip := by first | (rw [hE]; done) | (rw [hE]; rfl)
  have hq4 : false = (((M.play g move).1).rules).relay := by first | (rw [hE]; done) | (rw [hE]; rfl)
  have hq5 : false = (((M.play g move).1).rules).feed := by first | (rw [hE]; done) | (rw [hE]; rfl)
  have hq6 : false = (((M.play g move).1).rules).again := by first | (rw [hE]; done) | (rw [hE]; rfl)
  have hq7 : 0 = (((M.play g move).1).rules).capture := by first | (rw [hE]; done) | (rw [hE]; rfl)
  have hq8 : 0 = (((M.play g move).1).rules).slam := by first | (rw [hE]; done) | (rw [hE]; rfl)
  have hq9 : [] = (((M.play g move).1).start).pits := by first | (rw [hE]; done) | (rw [hE]; rfl)
  have hq10 : [] = (((M.play g move).1).start).stores := by first | (rw [hE]; done) | (rw [hE]; rfl)
  have hq11 : 0 = (((M.play g move).1).start).player := by first | (rw [hE]; done) | (rw [hE]; rfl)
  have hq12 : [] = ((M.play g move).1).moves := by first | (rw [hE]; done) | (rw [hE]; rfl)
  have hq13 : [] = (((M.play g move).1).now).pits := by first | (rw [hE]; done) | (rw [hE]; rfl)
  have hq14 : [] = (((M.play g move).1).now).stores := by first | (rw [hE]; done) | (rw [hE]; rfl)
  have hq15 : 0 = (((M.play g move).1).now).player := by first | (rw [hE]; done) | (rw [hE]; rfl)
  have hq16 : 0 = ((M.play g move).1).resigned := by first | (rw [hE]; done) | (rw [hE]; rfl)
  have hq17 : 5 = (M.play g move).2 := by first | (rw [hE]; done) | (rw [hE]; rfl)
  refine zS <| Qb ?_
  refine zw 0 rfl rfl rfl ?_
  refine Qa rfl <| JL.nil ?_
  exact zro (Up.refl _ _)
 have q2 : g.moves.length ≠ 120 := by have := h9'; omega
 refine Js.skip <| Js.seq ?_
 refine zk [0, 1, 4] (fun F U l os u => ∃ (b13 : Nat) (A11 : Option Addr) (c11 : Nat) (A12 : Option Addr) (c12 : Nat), l = F [(6, .pointer (some ⟨b13, 0, none⟩)), (7, .int .i64 ((M.make g.rules g.now move).2))] ∧ os = [boxO b13 [.int .i64 (((M.make g.rules g.now move).1).move), .int .i64 (((M.make g.rules g.now move).1).gain), .bool (((M.make g.rules g.now move).1).again), .slice A11 (((((M.make g.rules g.now move).1).next).pits).length) c11, .slice A12 (((((M.make g.rules g.now move).1).next).stores).length) c12, .int .i64 ((((M.make g.rules g.now move).1).next).player)] 84] ++ U [] ∧ (((((M.make g.rules g.now move).1).next).pits).length ≤ c11) ∧ (c11 ≤ 9223372036854775807) ∧ ((Ty.ints 2 ((((M.make g.rules g.now move).1).next).pits)).ok u (.slice A11 (((((M.make g.rules g.now move).1).next).pits).length) c11)) ∧ (((((M.make g.rules g.now move).1).next).stores).length ≤ c12) ∧ (c12 ≤ 9223372036854775807) ∧ ((Ty.ints 2 ((((M.make g.rules g.now move).1).next).stores)).ok u (.slice A12 (((((M.make g.rules g.now move).1).next).stores).length) c12))) ?_ ?_
 ·
  refine zdr [12] ?_
  refine JH.p 0 rfl (p_move rfl) ?_
  refine JH.p 1 rfl (p_nilCheck rfl) ?_
  refine JH.p 2 rfl (p_fieldAddr fld_35_0.h rfl) ?_
  refine JH.p 3 rfl (p_move rfl) ?_
  refine JH.p 4 rfl (p_nilCheck rfl) ?_
  refine JH.p 5 rfl (p_fieldAddr fld_35_3.h rfl) ?_
  refine JH.p 6 rfl (p_move rfl) ?_
  refine y2 7 11 ?_ ?_
  ·
   refine yp rfl rfl (fun w hw => c_spec_l07Make g.rules g.now move (ok_ hw) (ok_ hw)) ?_
   intro u19 x19 A20 c20 h20 bl20 bh20 A21 c21 h21 bl21 bh21
   refine JH.p 8 rfl (p_move rfl) ?_
   refine JH.p 9 rfl (p_extract rfl rfl) ?_
   refine JH.p 10 rfl (p_extract rfl rfl) ?_
   refine y1 11 ?_
   refine ya rfl fun b22 => ?_
   refine y1 12 ?_
   refine yst rfl rfl rfl ?_
   refine JH.p 13 rfl (p_assign rfl) ?_
   refine yd ?_
   exact zm ⟨_, _, _, _, _, rfl, rfl, zt, zt, h20, zt, zt, h21⟩ x19
  refine ya rfl fun b23 => ?_
  refine y1 7 ?_
  refine yp rfl rfl (fun w hw => c_spec_l07Make g.rules g.now move (ok_ hw) (ok_ hw)) ?_
  intro u24 x24 A25 c25 h25 bl25 bh25 A26 c26 h26 bl26 bh26
  refine JH.p 8 rfl (p_move rfl) ?_
  refine JH.p 9 rfl (p_extract rfl rfl) ?_
  refine JH.p 10 rfl (p_extract rfl rfl) ?_
  refine y1 12 ?_
  refine yst rfl rfl rfl ?_
  refine JH.p 13 rfl (p_assign rfl) ?_
  refine yd ?_
  exact zm ⟨_, _, _, _, _, rfl, rfl, zt, zt, h25, zt, zt, h26⟩ x24
 rintro _ _ u18 ⟨b13, A11, c11, A12, c12, rfl, rfl, f18_0, f18_1, f18_2, f18_3, f18_4, f18_5⟩ x18
 refine zn ?_
 refine Js.seq <| zS <| Qm rfl <| Qd rfl rfl <| JL.nil ?_
 refine zi (fun h27 h27' => ?_) fun h27 h27' => ?_
 ·
  have hE := M.play_c q1 q2 (move := move) (by simpa using h27)
  have hq0 : 0 = (((M.play g move).1).rules).pits := by first | (rw [hE]; done) | (rw [hE]; rfl)
  have hq1 : 0 = (((M.play g move).1).rules).seeds := by first | (rw [hE]; done) | (rw [hE]; rfl)
  have hq2 : false = (((M.play g move).1).rules).stores := by first | (rw [hE]; done) | (rw [hE]; rfl)
  have hq3 : false = (((M.play g move).1).rules).skip := by first | (rw [hE]; done) | (rw [hE]; rfl)
  have hq4 : false = (((M.play g move).1).rules).relay := by first | (rw [hE]; done) | (rw [hE]; rfl)
  have hq5 : false = (((M.play g move).1).rules).feed := by first | (rw [hE]; done) | (rw [hE]; rfl)
  have hq6 : false = (((M.play g move).1).rules).again := by first | (rw [hE]; done) | (rw [hE]; rfl)
  have hq7 : 0 = (((M.play g move).1).rules).capture := by first | (rw [hE]; done) | (rw [hE]; rfl)
  have hq8 : 0 = (((M.play g move).1).rules).slam := by first | (rw [hE]; done) | (rw [hE]; rfl)
  have hq9 : [] = (((M.play g move).1).start).pits := by first | (rw [hE]; done) | (rw [hE]; rfl)
  have hq10 : [] = (((M.play g move).1).start).stores := by first | (rw [hE]; done) | (rw [hE]; rfl)
  have hq11 : 0 = (((M.play g move).1).start).player := by first | (rw [hE]; done) | (rw [hE]; rfl)
  have hq12 : [] = ((M.play g move).1).moves := by first | (rw [hE]; done) | (rw [hE]; rfl)
  have hq13 : [] = (((M.play g move).1).now).pits := by first | (rw [hE]; done) | (rw [hE]; rfl)
  have hq14 : [] = (((M.play g move).1).now).stores := by first | (rw [hE]; done) | (rw [hE]; rfl)
  have hq15 : 0 = (((M.play g move).1).now).player := by first | (rw [hE]; done) | (rw [hE]; rfl)
  have hq16 : 0 = ((M.play g move).1).resigned := by first | (rw [hE]; done) | (rw [hE]; rfl)
  have hq17 : ((M.make g.rules g.now move).2) = (M.play g move).2 := by first | (rw [hE]; done) | (rw [hE]; rfl)
  refine zS <| Qb ?_
  refine Qm rfl <| zw 1 rfl rfl rfl ?_
  refine Qa rfl <| JL.nil ?_
  exact zro x18
 have hz : (M.make g.rules g.now move).2 = 0 := by simpa using h27
 have hE := M.play_0 q1 q2 hz
 have hl2 := M.okP_len (M.make_ok hz).2.2.2.1
 refine Js.skip <| zS <| Qm rfl <| zc rfl (fun w hw => c_spec_l08Own g (ok_ hw)) ?_
 intro A29 c29 bl29 bh29 A30 c30 bl30 bh30 A31 c31 bl31 bh31 A32 c32 bl32 bh32 A33 c33 bl33 bh33
 refine za zeh fun b34 => zw 0 rfl rfl rfl ?_
 refine zN <| Qf fh rfl <| Q0 0 rfl rfl rfl <| Qm rfl <| zbs fun b35 => ?_
 refine JL.e (e_append (i := 4) (n' := (g.moves ++ [move]).length) (vs' := ints_ (g.moves ++ [move])) el_24 rfl rfl rfl rfl (src_row (i := 0) und_24 rfl rfl) (by omega) (by omega) (by first | omega | (simp only [List.length_append, List.length_cons, List.length_nil] <;> omega)) (by simp [ints_])) ?_
 rintro v37 _ _ ⟨⟨g38, rfl⟩, rfl⟩ _
 refine JL.fact (row_form' (i := 4) rfl) (fun hf39 => ?_)
 obtain ⟨A39, c39, rfl, bl39, bh39⟩ := hf39
 refine znl ?_
 refine Qf fh rfl <| zw 1 rfl rfl rfl ?_
 refine zN <| Qf fh rfl <| zc rfl (fun w hw => c_spec_l04Own (((M.make g.rules g.now move).1).next) ⟨_, _, [.slice A11 (((((M.make g.rules g.now move).1).next).pits).length) c11, .slice A12 (((((M.make g.rules g.now move).1).next).stores).length) c12, .int .i64 ((((M.make g.rules g.now move).1).next).player)], rfl, ⟨(ok_ hw), (ok_ hw), rfl, trivial⟩, Mem.boxR (i := 7) rfl 3 3 _ hw⟩) ?_
 intro A41 c41 bl41 bh41 A42 c42 bl42 bh42
 have hq0 : g.rules.pits = (((M.play g move).1).rules).pits := by first | (rw [hE]; done) | (rw [hE]; rfl)
 have hq1 : g.rules.seeds = (((M.play g move).1).rules).seeds := by first | (rw [hE]; done) | (rw [hE]; rfl)
 have hq2 : g.rules.stores = (((M.play g move).1).rules).stores := by first | (rw [hE]; done) | (rw [hE]; rfl)
 have hq3 : g.rules.skip = (((M.play g move).1).rules).skip := by first | (rw [hE]; done) | (rw [hE]; rfl)
 have hq4 : g.rules.relay = (((M.play g move).1).rules).relay := by first | (rw [hE]; done) | (rw [hE]; rfl)
 have hq5 : g.rules.feed = (((M.play g move).1).rules).feed := by first | (rw [hE]; done) | (rw [hE]; rfl)
 have hq6 : g.rules.again = (((M.play g move).1).rules).again := by first | (rw [hE]; done) | (rw [hE]; rfl)
 have hq7 : g.rules.capture = (((M.play g move).1).rules).capture := by first | (rw [hE]; done) | (rw [hE]; rfl)
 have hq8 : g.rules.slam = (((M.play g move).1).rules).slam := by first | (rw [hE]; done) | (rw [hE]; rfl)
 have hq9 : g.start.pits = (((M.play g move).1).start).pits := by first | (rw [hE]; done) | (rw [hE]; rfl)
 have hq10 : g.start.stores = (((M.play g move).1).start).stores := by first | (rw [hE]; done) | (rw [hE]; rfl)
 have hq11 : g.start.player = (((M.play g move).1).start).player := by first | (rw [hE]; done) | (rw [hE]; rfl)
 have hq12 : (g.moves ++ [move]) = ((M.play g move).1).moves := by first | (rw [hE]; done) | (rw [hE]; rfl)
 have hq13 : ((((M.make g.rules g.now move).1).next).pits) = (((M.play g move).1).now).pits := by first | (rw [hE]; done) | (rw [hE]; rfl)
 have hq14 : ((((M.make g.rules g.now move).1).next).stores) = (((M.play g move).1).now).stores := by first | (rw [hE]; done) | (rw [hE]; rfl)
 have hq15 : ((((M.make g.rules g.now move).1).next).player) = (((M.play g move).1).now).player := by first | (rw [hE]; done) | (rw [hE]; rfl)
 have hq16 : g.resigned = ((M.play g move).1).resigned := by first | (rw [hE]; done) | (rw [hE]; rfl)
 have hq17 : 0 = (M.play g move).2 := by first | (rw [hE]; done) | (rw [hE]; rfl)
 refine Qf fh rfl <| zw 3 rfl rfl rfl ?_
 refine zN <| Q9 3 rfl rfl ?_
 refine zw 10 rfl rfl rfl ?_
 refine Qa rfl <| JL.nil ?_
 exact zro x18

set_option maxHeartbeats 1000000 in
theorem c_spec_PlayMove (g : M.Gam) {v_g : Value} (move : Int) {w : World} (h_g : (Ty.agg (cGame g)).ok w v_g) (r0 : g.start.pits.length ≤ 4194304 := by exact om_) (r1 : g.start.stores.length ≤ 4194304 := by exact om_) (r2 : g.moves.length ≤ 4194304 := by exact om_) (r3 : g.now.pits.length ≤ 4194304 := by exact om_) (r4 : g.now.stores.length ≤ 4194304 := by exact om_) : Ret Try.prog 42 [v_g, .int .i64 move] w (Ty.tup [Ty.agg (cGame ((M.playR g move).1)), Ty.int ((M.playR g move).2)]) := by
 revert v_g; apply opn
 intro A1 c1 h1 bl1 bh1 A2 c2 h2 bl2 bh2 A3 c3 h3 bl3 bh3 A4 c4 h4 bl4 bh4 A5 c5 h5 bl5 bh5
 refine enter @Try.func42 @Try.ntmps42 rfl rfl ?_
 refine zent ?_
 refine zS <| zb rfl fun b6 => za zeh fun b7 => Qa rfl <| zJ <| zS <| zv rfl (fun w hw => c_spec_l08Ok g (ok_ hw)) <| Qt rfl <| JL.nil ?_
 refine zi (fun h8 h8' => ?_) fun h8 h8' => ?_
 ·
  have hno : M.okG g = false := by simpa using h8
  have hC := M.okC_no hno
  have hE := M.playR_no (move := move) hno
  have hq0 : 0 = (((M.playR g move).1).rules).pits := by first | (rw [hE]; done) | (rw [hE]; rfl)
  have hq1 : 0 = (((M.playR g move).1).rules).seeds := by first | (rw [hE]; done) | (rw [hE]; rfl)
  have hq2 : false = (((M.playR g move).1).rules).stores := by first | (rw [hE]; done) | (rw [hE]; rfl)
  have hq3 : false = (((M.playR g move).1).rules).skip := by first | (rw [hE]; done) | (rw [hE]; rfl)
  have hq4 : false = (((M.playR g move).1).rules).relay := by first | (rw [hE]; done) | (rw [hE]; rfl)
  have hq5 : false = (((M.playR g move).1).rules).feed := by first | (rw [hE]; done) | (rw [hE]; rfl)
  have hq6 : false = (((M.playR g move).1).rules).again := by first | (rw [hE]; done) | (rw [hE]; rfl)
  have hq7 : 0 = (((M.playR g move).1).rules).capture := by first | (rw [hE]; done) | (rw [hE]; rfl)
  have hq8 : 0 = (((M.playR g move).1).rules).slam := by first | (rw [hE]; done) | (rw [hE]; rfl)
  have hq9 : [] = (((M.playR g move).1).start).pits := by first | (rw [hE]; done) | (rw [hE]; rfl)
  have hq10 : [] = (((M.playR g move).1).start).stores := by first | (rw [hE]; done) | (rw [hE]; rfl)
  have hq11 : 0 = (((M.playR g move).1).start).player := by first | (rw [hE]; done) | (rw [hE]; rfl)
  have hq12 : [] = ((M.playR g move).1).moves := by first | (rw [hE]; done) | (rw [hE]; rfl)
  have hq13 : [] = (((M.playR g move).1).now).pits := by first | (rw [hE]; done) | (rw [hE]; rfl)
  have hq14 : [] = (((M.playR g move).1).now).stores := by first | (rw [hE]; done) | (rw [hE]; rfl)
  have hq15 : 0 = (((M.playR g move).1).now).player := by first | (rw [hE]; done) | (rw [hE]; rfl)
  have hq16 : 0 = ((M.playR g move).1).resigned := by first | (rw [hE]; done) | (rw [hE]; rfl)
  have hq17 : 1 = (M.playR g move).2 := by first | (rw [hE]; done) | (rw [hE]; rfl)
  refine zS <| Qb ?_
  refine zw 0 rfl rfl rfl ?_
  refine Qa rfl <| JL.nil ?_
  exact zro (Up.refl _ _)
 have hok : M.okG g = true := by simpa using h8
 obtain ⟨k1, k2, k3, k4, k5, k6, k7, k8, k9⟩ := M.okG_parts hok
 have hnow := M.okG_now hok
 have k10 := M.okP_len hnow
 have k11 := M.okP_len k1
 (have k12 : (M.playedP g).length = g.moves.length + 1 := by rw [k6, M.hist_length, k8])
 have k13 : (M.playedR g).length = g.moves.length := by rw [k7, k8]
 have hC := M.okC_yes hok
 have hE := M.playR_yes (move := move) hok
 refine Js.skip <| zS <| Qm rfl <| zcs rfl (fun w hw => c_spec_l08Play g move (ok_ hw)) ?_
 intro A10_9 c10_9 bl10_9 bh10_9 A10_10 c10_10 bl10_10 bh10_10 A10_12 c10_12 bl10_12 bh10_12 A10_13 c10_13 bl10_13 bh10_13 A10_14 c10_14 bl10_14 bh10_14 f10
 have hq0 : ((M.play g move).1) = (M.playR g move).1 := by first | (rw [hE]; done) | (rw [hE]; rfl)
 have hq1 : ((M.play g move).2) = (M.playR g move).2 := by first | (rw [hE]; done) | (rw [hE]; rfl)
 refine Qx rfl rfl <| Qx rfl rfl <| zw 1 rfl rfl rfl ?_
 refine Qa rfl <| JL.nil ?_
 exact zro (Up.refl _ _)

end Go.Proofs.Ytejnmechnhgmfaa

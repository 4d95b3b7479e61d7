/- Walks: G7. -/
import Derived.Test.YtejnmechnhgmfaaZpTn
import Derived.Test.YtejnmechnhgmfaaZpNG5
set_option linter.unusedSimpArgs false
set_option linter.unusedVariables false
set_option maxRecDepth 100000
attribute [local irreducible] Go.Proofs.Ytejnmechnhgmfaa.gv
namespace Go.Proofs.Ytejnmechnhgmfaa
open Go.RowKit

set_option maxHeartbeats 1000000 in
theorem c_impl_Game_copied (g : M.Gam) {v_g : Value} {w : World} (h_g : (Ty.agg (cGame g)).ok w v_g) (r0 : g.start.pits.length ≤ 4194304 := by exact om_) (r1 : g.start.stores.length ≤ 4194304 := by exact om_) (r2 : g.moves.length ≤ 4194304 := by exact om_) (r3 : g.now.pits.length ≤ 4194304 := by exact om_) (r4 : g.now.stores.length ≤ 4194304 := by exact om_) : Ret Try.prog 79 [v_g] w (Ty.agg (cGame g)) := by
 revert v_g; apply opn
 intro A1 c1 h1 bl1 bh1 A2 c2 h2 bl2 bh2 A3 c3 h3 bl3 bh3 A4 c4 h4 bl4 bh4 A5 c5 h5 bl5 bh5
 refine enter @Try.func79 @Try.ntmps79 rfl rfl ?_
 refine zent ?_
 refine zS <| zb rfl fun b6 => za zeh fun b7 => zJ ?_
 refine zdr [14] ?_
 refine JH.p 0 rfl (p_fieldAddr fld_35_0.h rfl) ?_
 refine JH.q 1 rfl (L9 1 rfl rfl) ?_
 refine JH.p 2 rfl (p_fieldAddr fld_35_1.h rfl) ?_
 refine JH.q 3 rfl (L9 1 rfl rfl) ?_
 refine JH.p 5 rfl (p_fieldAddr fld_35_2.h rfl) ?_
 refine JH.q 6 rfl (q_load1 ty_24.h rfl (Mem.box (i := 1) rfl rfl)) ?_
 refine JH.p 8 rfl (p_fieldAddr fld_35_3.h rfl) ?_
 refine JH.q 9 rfl (L9 1 rfl rfl) ?_
 refine JH.p 11 rfl (p_fieldAddr fld_35_4.h rfl) ?_
 refine JH.q 12 rfl (q_load1 ty_2.h rfl (Mem.box (i := 1) rfl rfl)) ?_
 refine y1 4 ?_
 refine yc rfl rfl (fun w hw => c_impl_Position_copied g.start (ok_ hw)) ?_
 intro A9 c9 bl9 bh9 A10 c10 bl10 bh10
 refine y1 7 ?_
 refine ycs rfl rfl (fun w hw => c_impl_copyNumbers g.moves (ok_ hw)) ?_
 intro A11 c11 bl11 bh11
 refine y1 10 ?_
 refine yc rfl rfl (fun w hw => c_impl_Position_copied g.now (ok_ hw)) ?_
 intro A13 c13 bl13 bh13 A14 c14 bl14 bh14
 refine JH.p 13 rfl (q_bld) ?_
 refine y1 14 ?_
 refine yst rfl rfl rfl ?_
 refine yd ?_
 exact zro (Up.refl _ _)

set_option maxHeartbeats 1000000 in
theorem c_impl_Game_play (g : M.Gam) {v_g : Value} (move : Int) {w : World} (h_g : (Ty.agg (cGame g)).ok w v_g) (r0 : g.start.pits.length ≤ 4194304 := by exact om_) (r1 : g.start.stores.length ≤ 4194304 := by exact om_) (r2 : g.moves.length ≤ 4194304 := by exact om_) (r3 : g.now.pits.length ≤ 4194304 := by exact om_) (r4 : g.now.stores.length ≤ 4194304 := by exact om_) : Ret Try.prog 86 [v_g, .int .i64 move] w (Ty.tup [Ty.agg (cGame ((M.play g move).1)), Ty.int ((M.play g move).2)]) := by
 revert v_g; apply opn
 intro A1 c1 h1 bl1 bh1 A2 c2 h2 bl2 bh2 A3 c3 h3 bl3 bh3 A4 c4 h4 bl4 bh4 A5 c5 h5 bl5 bh5
 refine enter @Try.func86 @Try.ntmps86 rfl rfl ?_
 refine zent ?_
 refine zS <| zb rfl fun b6 => za zeh fun b7 => Qa rfl <| zJ <| zS <| Qf fh rfl <| Q0 1 rfl rfl rfl <| Qh rfl rfl <| JL.nil ?_
 refine zi (fun h8 h8' => ?_) fun h8 h8' => ?_
 ·
  have hE := M.play_6 (g := g) (move := move) (by simpa using h8)
  have hq0 : 0 = (((M.play g move).1).rules).pits := by first | (rw [hE]; done) | (rw [hE]; rfl)
  have hq1 : 0 = (((M.play g move).1).rules).seeds := by first | (rw [hE]; done) | (rw [hE]; rfl)
  have hq2 : false = (((M.play g move).1).rules).stores := by first | (rw [hE]; done) | (rw [hE]; rfl)
  have hq3 : false = (((M.play g move).1).rules).skip := by first | (rw [hE]; done) | (rw [hE]; rfl)
  have hq4 : false = (((M.play g move).1).rules).relay := by first | (rw [hE]; done) | (rw [hE]; rfl)
  have hq5 : false = (((M.play g move).1).rules).feed := by first | (rw [hE]; done) | (rw [hE]; rfl)
  have hq6 : false = (((M.play g move).1).rules).again := by first | (rw [hE]; done) | (rw [hE]; rfl)
  have hq7 : 0 = (((M.play g move).1).rules).capture := by first | (rw [hE]; done) | (rw [hE]; rfl)
  have hq8 : 0 = (((M.play g move).1).rules).slam := by first | (rw [hE]; done) | (rw [hE]; rfl)
  have hq9 : [] = (((M.play g move).1).start).pits := by first | (rw [hE]; done) | (rw [hE]; rfl)
  have hq10 : [] = (((M.play g move).1).start).stores := by first | (rw [hE]; done) | (rw [hE]; rfl)
  have hq11 : 0 = (((M.play g move).1).start).player := by first | (rw [hE]; done) | (rw [hE]; rfl)
  have hq12 : [] = ((M.play g move).1).moves := by first | (rw [hE]; done) | (rw [hE]; rfl)
  have hq13 : [] = (((M.play g move).1).now).pits := by first | (rw [hE]; done) | (rw [hE]; rfl)
  have hq14 : [] = (((M.play g move).1).now).stores := by first | (rw [hE]; done) | (rw [hE]; rfl)
  have hq15 : 0 = (((M.play g move).1).now).player := by first | (rw [hE]; done) | (rw [hE]; rfl)
  have hq16 : 0 = ((M.play g move).1).resigned := by first | (rw [hE]; done) | (rw [hE]; rfl)
  have hq17 : 6 = (M.play g move).2 := by first | (rw [hE]; done) | (rw [hE]; rfl)
  refine zS <| Qb ?_
  refine zw 0 rfl rfl rfl ?_
  refine Qa rfl <| JL.nil ?_
  exact zro (Up.refl _ _)
 have q1 : ¬ 0 ≤ g.resigned := by simpa using h8
 refine Js.skip <| Js.seq <| zS <| Qf fh rfl <| Q0 1 rfl rfl rfl <| Qz rfl <| Qe rfl rfl <| JL.nil ?_
 refine zi (fun h9 h9' => ?_) fun h9 h9' => ?_
 ·
  have hE := M.play_5 (move := move) q1 (by have := h9'; omega)
  have hq0 : 0 = (((M.play g move).1).rules).pits := by first | (rw [hE]; done) | (rw [hE]; rfl)
  have hq1 : 0 = (((M.play g move).1).rules).seeds := by first | (rw [hE]; done) | (rw [hE]; rfl)
  have hq2 : false = (((M.play g move).1).rules).stores := by first | (rw [hE]; done) | (rw [hE]; rfl)
  have hq3 : false = (((M.play g move).1).rules).skip := by first | (rw [hE]; done) | (rw [hE]; rfl)
  have hq4 : false = (((M.play g move).1).rules).relay := by first | (rw [hE]; done) | (rw [hE]; rfl)
  have hq5 : false = (((M.play g move).1).rules).feed := by first | (rw [hE]; done) | (rw [hE]; rfl)
  have hq6 : false = (((M.play g move).1).rules).again := by first | (rw [hE]; done) | (rw [hE]; rfl)
  have hq7 : 0 = (((M.play g move).1).rules).capture := by first | (rw [hE]; done) | (rw [hE]; rfl)
  have hq8 : 0 = (((M.play g move).1).rules).slam := by first | (rw [hE]; done) | (rw [hE]; rfl)
  have hq9 : [] = (((M.play g move).1).start).pits := by first | (rw [hE]; done) | (rw [hE]; rfl)
  have hq10 : [] = (((M.play g move).1).start).stores := by first | (rw [hE]; done) | (rw [hE]; rfl)
  have hq11 : 0 = (((M.play g move).1).start).player := by first | (rw [hE]; done) | (rw [hE]; rfl)
  have hq12 : [] = ((M.play g move).1).moves := by first | (rw [hE]; done) | (rw [hE]; rfl)
  have hq13 : [] = (((M.play g move).1).now).pits := by first | (rw [hE]; done) | (rw [hE]; rfl)
  have hq14 : [] = (((M.play g move).1).now).stores := by first | (rw [hE]; done) | (rw [hE]; rfl)
  have hq15 : 0 = (((M.play g move).1).now).player := by first | (rw [hE]; done) | (rw [hE]; rfl)
  have hq16 : 0 = ((M.play g move).1).resigned := by first | (rw [hE]; done) | (rw [hE]; rfl)
  have hq17 : 5 = (M.play g move).2 := by first | (rw [hE]; done) | (rw [hE]; rfl)
  refine zS <| Qb ?_
  refine zw 0 rfl rfl rfl ?_
  refine Qa rfl <| JL.nil ?_
  exact zro (Up.refl _ _)
 have q2 : g.moves.length ≠ 120 := by have := h9'; omega
 refine Js.skip <| zS <| Qf fh rfl <| Q9 1 rfl rfl ?_
 refine Qf fh rfl <| Q9 1 rfl rfl ?_
 refine Qm rfl <| zc rfl (fun w hw => c_impl_Rules_resultOf g.rules g.now move (ok_ hw) (ok_ hw)) ?_
 intro A12 c12 bl12 bh12 A13 c13 bl13 bh13
 refine Qm rfl <| Qx rfl rfl <| Qx rfl rfl <| za zeh fun b14 => zw 0 rfl rfl rfl ?_
 refine Qa rfl <| zJ <| zS <| Qm rfl <| Qd rfl rfl <| JL.nil ?_
 refine zi (fun h15 h15' => ?_) fun h15 h15' => ?_
 ·
  have hE := M.play_c q1 q2 (move := move) (by simpa using h15)
  have hq0 : 0 = (((M.play g move).1).rules).pits := by first | (rw [hE]; done) | (rw [hE]; rfl)
  have hq1 : 0 = (((M.play g move).1).rules).seeds := by first | (rw [hE]; done) | (rw [hE]; rfl)
  have hq2 : false = (((M.play g move).1).rules).stores := by first | (rw [hE]; done) | (rw [hE]; rfl)
  have hq3 : false = (((M.play g move).1).rules).skip := by first | (rw [hE]; done) | (rw [hE]; rfl)
  have hq4 : false = (((M.play g move).1).rules).relay := by first | (rw [hE]; done) | (rw [hE]; rfl)
  have hq5 : false = (((M.play g move).1).rules).feed := by first | (rw [hE]; done) | (rw [hE]; rfl)
  have hq6 : false = (((M.play g move).1).rules).again := by first | (rw [hE]; done) | (rw [hE]; rfl)
  have hq7 : 0 = (((M.play g move).1).rules).capture := by first | (rw [hE]; done) | (rw [hE]; rfl)
  have hq8 : 0 = (((M.play g move).1).rules).slam := by first | (rw [hE]; done) | (rw [hE]; rfl)
  have hq9 : [] = (((M.play g move).1).start).pits := by first | (rw [hE]; done) | (rw [hE]; rfl)
  have hq10 : [] = (((M.play g move).1).start).stores := by first | (rw [hE]; done) | (rw [hE]; rfl)
  have hq11 : 0 = (((M.play g move).1).start).player := by first | (rw [hE]; done) | (rw [hE]; rfl)
  have hq12 : [] = ((M.play g move).1).moves := by first | (rw [hE]; done) | (rw [hE]; rfl)
  have hq13 : [] = (((M.play g move).1).now).pits := by first | (rw [hE]; done) | (rw [hE]; rfl)
  have hq14 : [] = (((M.play g move).1).now).stores := by first | (rw [hE]; done) | (rw [hE]; rfl)
  have hq15 : 0 = (((M.play g move).1).now).player := by first | (rw [hE]; done) | (rw [hE]; rfl)
  have hq16 : 0 = ((M.play g move).1).resigned := by first | (rw [hE]; done) | (rw [hE]; rfl)
  have hq17 : ((M.make g.rules g.now move).2) = (M.play g move).2 := by first | (rw [hE]; done) | (rw [hE]; rfl)
  refine zS <| Qb ?_
  refine Qm rfl <| zw 3 rfl rfl rfl ?_
  refine Qa rfl <| JL.nil ?_
  exact zro (Up.refl _ _)
 have hz : (M.make g.rules g.now move).2 = 0 := by simpa using h15
 have hE := M.play_0 q1 q2 hz
 refine Js.skip <| zS <| Q9 4 rfl rfl ?_
 refine zc rfl (fun w hw => c_impl_Game_copied g (ok_ hw)) ?_
 intro A17 c17 bl17 bh17 A18 c18 bl18 bh18 A19 c19 bl19 bh19 A20 c20 bl20 bh20 A21 c21 bl21 bh21
 refine za zeh fun b22 => zw 0 rfl rfl rfl ?_
 refine zJ ?_
 refine zk [4, 8] (fun F U l os u => ∃ (b23 : Nat) (A27 : Option Addr) (c27 : Nat) (g26 : List Nat), l = F [] ∧ os = [rowO 2 1 (.slice (some ⟨b23, 0, none⟩) 1 1) 1 [.int .i64 move] []] ++ U [some (boxO b22 [.int .i64 g.rules.pits, .int .i64 g.rules.seeds, .bool g.rules.stores, .bool g.rules.skip, .bool g.rules.relay, .bool g.rules.feed, .bool g.rules.again, .int .i64 g.rules.capture, .int .i64 g.rules.slam, .slice A17 g.start.pits.length c17, .slice A18 g.start.stores.length c18, .int .i64 g.start.player, .slice A27 ((g.moves ++ [move]).length) c27, .slice A12 (((((M.make g.rules g.now move).1).next).pits).length) c12, .slice A13 (((((M.make g.rules g.now move).1).next).stores).length) c13, .int .i64 ((((M.make g.rules g.now move).1).next).player), .int .i64 g.resigned] 35), nO, nO, some (rowO 2 1 (.slice A27 ((g.moves ++ [move]).length) c27) ((g.moves ++ [move]).length) (ints_ (g.moves ++ [move])) g26)] ∧ ((g.moves ++ [move]).length ≤ c27) ∧ (c27 ≤ 9223372036854775807)) ?_ ?_
 ·
  refine zdr [4, 8, 10] ?_
  refine JH.p 0 rfl (p_fieldAddr fld_35_2.h rfl) ?_
  refine JH.q 1 rfl (q_load1 ty_24.h rfl (Mem.box (i := 0) rfl rfl)) ?_
  refine JH.p 2 rfl (p_move rfl) ?_
  refine JH.p 5 rfl (p_fieldAddr fld_84_3.h rfl) ?_
  refine y2 3 6 ?_ ?_
  ·
   refine ybs rfl fun b37 => ?_
   refine y2 4 6 ?_ ?_
   ·
    refine JHo.e rfl (e_append (i := 4) (n' := (g.moves ++ [move]).length) (vs' := ints_ (g.moves ++ [move])) el_24 rfl rfl rfl rfl (src_row (i := 0) und_24 rfl rfl) (by omega) (by omega) (by first | omega | (simp only [List.length_append, List.length_cons, List.length_nil] <;> omega)) (by simp [ints_])) (.inr rfl) ?_
    rintro v39 _ _ ⟨⟨g40, rfl⟩, rfl⟩ _
    refine JH.fact (row_form' (i := 4) rfl) (fun hf41 => ?_)
    obtain ⟨A41, c41, rfl, bl41, bh41⟩ := hf41
    refine znh ?_
    refine JH.p 7 rfl (p_fieldAddr fld_35_2.h rfl) ?_
    refine y2 6 8 ?_ ?_
    ·
     refine JHo.q rfl (L9 7 rfl rfl) ?_
     refine y1 8 ?_
     refine yst rfl rfl rfl ?_
     refine JH.p 9 rfl (p_fieldAddr fld_35_3.h rfl) ?_
     refine y1 10 ?_
     refine yst rfl rfl rfl ?_
     refine yd ?_
     exact zm ⟨_, _, _, _, rfl, rfl, zt, zt⟩ (Up.refl _ _)
    refine yst rfl rfl rfl ?_
    refine y1 6 ?_
    refine JHo.q rfl (L9 7 rfl rfl) ?_
    refine JH.p 9 rfl (p_fieldAddr fld_35_3.h rfl) ?_
    refine y1 10 ?_
    refine yst rfl rfl rfl ?_
    refine yd ?_
    exact zm ⟨_, _, _, _, rfl, rfl, zt, zt⟩ (Up.refl _ _)
   refine JHo.q rfl (L9 7 rfl rfl) ?_
   refine y1 4 ?_
   refine JHo.e rfl (e_append (i := 4) (n' := (g.moves ++ [move]).length) (vs' := ints_ (g.moves ++ [move])) el_24 rfl rfl rfl rfl (src_row (i := 0) und_24 rfl rfl) (by omega) (by omega) (by first | omega | (simp only [List.length_append, List.length_cons, List.length_nil] <;> omega)) (by simp [ints_])) (.inr rfl) ?_
   rintro v42 _ _ ⟨⟨g43, rfl⟩, rfl⟩ _
   refine JH.fact (row_form' (i := 4) rfl) (fun hf44 => ?_)
   obtain ⟨A44, c44, rfl, bl44, bh44⟩ := hf44
   refine znh ?_
   refine JH.p 7 rfl (p_fieldAddr fld_35_2.h rfl) ?_
   refine y1 8 ?_
   refine yst rfl rfl rfl ?_
   refine JH.p 9 rfl (p_fieldAddr fld_35_3.h rfl) ?_
   refine y1 10 ?_
   refine yst rfl rfl rfl ?_
   refine yd ?_
   exact zm ⟨_, _, _, _, rfl, rfl, zt, zt⟩ (Up.refl _ _)
  refine JHo.q rfl (L9 6 rfl rfl) ?_
  refine y1 3 ?_
  refine ybs rfl fun b45 => ?_
  refine y1 4 ?_
  refine JHo.e rfl (e_append (i := 4) (n' := (g.moves ++ [move]).length) (vs' := ints_ (g.moves ++ [move])) el_24 rfl rfl rfl rfl (src_row (i := 0) und_24 rfl rfl) (by omega) (by omega) (by first | omega | (simp only [List.length_append, List.length_cons, List.length_nil] <;> omega)) (by simp [ints_])) (.inr rfl) ?_
  rintro v47 _ _ ⟨⟨g48, rfl⟩, rfl⟩ _
  refine JH.fact (row_form' (i := 4) rfl) (fun hf49 => ?_)
  obtain ⟨A49, c49, rfl, bl49, bh49⟩ := hf49
  refine znh ?_
  refine JH.p 7 rfl (p_fieldAddr fld_35_2.h rfl) ?_
  refine y1 8 ?_
  refine yst rfl rfl rfl ?_
  refine JH.p 9 rfl (p_fieldAddr fld_35_3.h rfl) ?_
  refine y1 10 ?_
  refine yst rfl rfl rfl ?_
  refine yd ?_
  exact zm ⟨_, _, _, _, rfl, rfl, zt, zt⟩ (Up.refl _ _)
 rintro _ _ u36 ⟨b23, A27, c27, g26, rfl, rfl, f36_0, f36_1⟩ x36
 refine zn ?_
 have hq0 : g.rules.pits = (((M.play g move).1).rules).pits := by first | (rw [hE]; done) | (rw [hE]; rfl)
 have hq1 : g.rules.seeds = (((M.play g move).1).rules).seeds := by first | (rw [hE]; done) | (rw [hE]; rfl)
 have hq2 : g.rules.stores = (((M.play g move).1).rules).stores := by first | (rw [hE]; done) | (rw [hE]; rfl)
 have hq3 : g.rules.skip = (((M.play g move).1).rules).skip := by first | (rw [hE]; done) | (rw [hE]; rfl)
 have hq4 : g.rules.relay = (((M.play g move).1).rules).relay := by first | (rw [hE]; done) | (rw [hE]; rfl)
 have hq5 : g.rules.feed = (((M.play g move).1).rules).feed := by first | (rw [hE]; done) | (rw [hE]; rfl)
 have hq6 : g.rules.again = (((M.play g move).1).rules).again := by first | (rw [hE]; done) | (rw [hE]; rfl)
 have hq7 : g.rules.capture = (((M.play g move).1).rules).capture := by first | (rw [hE]; done) | (rw [hE]; rfl)
 have hq8 : g.rules.slam = (((M.play g move).1).rules).slam := by first | (rw [hE]; done) | (rw [hE]; rfl)
 have hq9 : g.start.pits = (((M.play g move).1).start).pits := by first | (rw [hE]; done) | (rw [hE]; rfl)
 have hq10 : g.start.stores = (((M.play g move).1).start).stores := by first | (rw [hE]; done) | (rw [hE]; rfl)
 have hq11 : g.start.player = (((M.play g move).1).start).player := by first | (rw [hE]; done) | (rw [hE]; rfl)
 have hq12 : (g.moves ++ [move]) = ((M.play g move).1).moves := by first | (rw [hE]; done) | (rw [hE]; rfl)
 have hq13 : ((((M.make g.rules g.now move).1).next).pits) = (((M.play g move).1).now).pits := by first | (rw [hE]; done) | (rw [hE]; rfl)
 have hq14 : ((((M.make g.rules g.now move).1).next).stores) = (((M.play g move).1).now).stores := by first | (rw [hE]; done) | (rw [hE]; rfl)
 have hq15 : ((((M.make g.rules g.now move).1).next).player) = (((M.play g move).1).now).player := by first | (rw [hE]; done) | (rw [hE]; rfl)
 have hq16 : g.resigned = ((M.play g move).1).resigned := by first | (rw [hE]; done) | (rw [hE]; rfl)
 have hq17 : 0 = (M.play g move).2 := by first | (rw [hE]; done) | (rw [hE]; rfl)
 refine zS <| Q9 1 rfl rfl ?_
 refine zw 10 rfl rfl rfl ?_
 refine Qa rfl <| JL.nil ?_
 exact zro x36

set_option maxHeartbeats 1000000 in
theorem c_impl_PlayMove (g : M.Gam) {v_g : Value} (move : Int) {w : World} (h_g : (Ty.agg (cGame g)).ok w v_g) (r0 : g.start.pits.length ≤ 4194304 := by exact om_) (r1 : g.start.stores.length ≤ 4194304 := by exact om_) (r2 : g.moves.length ≤ 4194304 := by exact om_) (r3 : g.now.pits.length ≤ 4194304 := by exact om_) (r4 : g.now.stores.length ≤ 4194304 := by exact om_) : Ret Try.prog 43 [v_g, .int .i64 move] w (Ty.tup [Ty.agg (cGame ((M.playR g move).1)), Ty.int ((M.playR g move).2)]) := by
 revert v_g; apply opn
 intro A1 c1 h1 bl1 bh1 A2 c2 h2 bl2 bh2 A3 c3 h3 bl3 bh3 A4 c4 h4 bl4 bh4 A5 c5 h5 bl5 bh5
 refine enter @Try.func43 @Try.ntmps43 rfl rfl ?_
 refine zent ?_
 refine zS <| zb rfl fun b6 => za zeh fun b7 => Qa rfl <| zJ <| zS <| Q9 1 rfl rfl ?_
 refine zv rfl (fun w hw => c_impl_ValidGame g (ok_ hw)) <| Qt rfl <| JL.nil ?_
 refine zi (fun h8 h8' => ?_) fun h8 h8' => ?_
 ·
  have hno : M.okG g = false := by simpa using h8
  have hC := M.okC_no hno
  have hE := M.playR_no (move := move) hno
  have hq0 : 0 = (((M.playR g move).1).rules).pits := by first | (rw [hE]; done) | (rw [hE]; rfl)
  have hq1 : 0 = (((M.playR g move).1).rules).seeds := by first | (rw [hE]; done) | (rw [hE]; rfl)
  have hq2 : false = (((M.playR g move).1).rules).stores := by first | (rw [hE]; done) | (rw [hE]; rfl)
  have hq3 : false = (((M.playR g move).1).rules).skip := by first | (rw [hE]; done) | (rw [hE]; rfl)
  have hq4 : false = (((M.playR g move).1).rules).relay := by first | (rw [hE]; done) | (rw [hE]; rfl)
  have hq5 : false = (((M.playR g move).1).rules).feed := by first | (rw [hE]; done) | (rw [hE]; rfl)
  have hq6 : false = (((M.playR g move).1).rules).again := by first | (rw [hE]; done) | (rw [hE]; rfl)
  have hq7 : 0 = (((M.playR g move).1).rules).capture := by first | (rw [hE]; done) | (rw [hE]; rfl)
  have hq8 : 0 = (((M.playR g move).1).rules).slam := by first | (rw [hE]; done) | (rw [hE]; rfl)
  have hq9 : [] = (((M.playR g move).1).start).pits := by first | (rw [hE]; done) | (rw [hE]; rfl)
  have hq10 : [] = (((M.playR g move).1).start).stores := by first | (rw [hE]; done) | (rw [hE]; rfl)
  have hq11 : 0 = (((M.playR g move).1).start).player := by first | (rw [hE]; done) | (rw [hE]; rfl)
  have hq12 : [] = ((M.playR g move).1).moves := by first | (rw [hE]; done) | (rw [hE]; rfl)
  have hq13 : [] = (((M.playR g move).1).now).pits := by first | (rw [hE]; done) | (rw [hE]; rfl)
  have hq14 : [] = (((M.playR g move).1).now).stores := by first | (rw [hE]; done) | (rw [hE]; rfl)
  have hq15 : 0 = (((M.playR g move).1).now).player := by first | (rw [hE]; done) | (rw [hE]; rfl)
  have hq16 : 0 = ((M.playR g move).1).resigned := by first | (rw [hE]; done) | (rw [hE]; rfl)
  have hq17 : 1 = (M.playR g move).2 := by first | (rw [hE]; done) | (rw [hE]; rfl)
  refine zS <| Qb ?_
  refine zw 0 rfl rfl rfl ?_
  refine Qa rfl <| JL.nil ?_
  exact zro (Up.refl _ _)
 have hok : M.okG g = true := by simpa using h8
 obtain ⟨k1, k2, k3, k4, k5, k6, k7, k8, k9⟩ := M.okG_parts hok
 have hnow := M.okG_now hok
 have k10 := M.okP_len hnow
 have k11 := M.okP_len k1
 (have k12 : (M.playedP g).length = g.moves.length + 1 := by rw [k6, M.hist_length, k8])
 have k13 : (M.playedR g).length = g.moves.length := by rw [k7, k8]
 have hC := M.okC_yes hok
 have hE := M.playR_yes (move := move) hok
 refine Js.skip <| zS <| Q9 1 rfl rfl ?_
 refine Qm rfl <| zcs rfl (fun w hw => c_impl_Game_play g move (ok_ hw)) ?_
 intro A10_9 c10_9 bl10_9 bh10_9 A10_10 c10_10 bl10_10 bh10_10 A10_12 c10_12 bl10_12 bh10_12 A10_13 c10_13 bl10_13 bh10_13 A10_14 c10_14 bl10_14 bh10_14 f10
 have hq0 : ((M.play g move).1) = (M.playR g move).1 := by first | (rw [hE]; done) | (rw [hE]; rfl)
 have hq1 : ((M.play g move).2) = (M.playR g move).2 := by first | (rw [hE]; done) | (rw [hE]; rfl)
 refine Qx rfl rfl <| Qx rfl rfl <| zw 1 rfl rfl rfl ?_
 refine Qa rfl <| JL.nil ?_
 exact zro (Up.refl _ _)

end Go.Proofs.Ytejnmechnhgmfaa

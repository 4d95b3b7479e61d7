/- Walks: G21. -/
import Derived.Test.YtjgohnaobbphpaaGreatDoorZcA3
import Derived.Test.YtjgohnaobbphpaaGreatDoorZcA6
import Derived.Test.YtjgohnaobbphpaaGreatDoorZcA5
import Derived.Test.YtjgohnaobbphpaaGreatDoorZcA4
import Derived.Test.YtjgohnaobbphpaaGreatDoorZcA2
set_option linter.unusedSimpArgs false
set_option linter.unusedVariables false
set_option maxRecDepth 100000
attribute [local irreducible] Go.Proofs.YtjgohnaobbphpaaGreatDoor.gv
set_option maxHeartbeats 16000000
namespace Go.Proofs.YtjgohnaobbphpaaGreatDoor
open Go.RowKit
theorem c_impl_ReadPosition (r : M.Rul) {v_r : Value} (s : List UInt8) {w : World} (h_r : (Ty.agg (cRules r)).ok w v_r) (h_tab : tabT.ok w undef) (r0 : s.length ≤ 4000000 := by exact om_) : Ret Tryz.prog 161 [v_r, .string (sB s)] w (Ty.tup [Ty.agg (cPosition ((M.readP r s).1)), Ty.bool ((M.readP r s).2)]) := by
 revert v_r; apply opn
 refine enter @Tryz.func161 @Tryz.ntmps161 rfl rfl ?_
 refine zent ?_
 refine zS <| zb rfl fun b1 => za zeh fun b2 => Qa rfl <| zN <| Qm rfl <| zp rfl (fun w hw => c_impl_parts s) ?_
 intro u3 x3 A4 c4 h4 bl4 bh4
 refine Qa rfl <| zJ <| zS <| Qm rfl <| Qz rfl <| Qd rfl rfl <| JL.nil ?_
 refine zi (fun h5 h5' => ?_) fun h5 h5' => ?_
 ·
  have hE := M.readP_short (r := r) (s := s) (by have := h5'; omega)
  have hq0 : [] = ((M.readP r s).1).pits := rp_ hE
  have hq1 : [] = ((M.readP r s).1).stores := rp_ hE
  have hq2 : 0 = ((M.readP r s).1).player := rp_ hE
  have hq3 : false = (M.readP r s).2 := rp_ hE
  refine zS <| Qb ?_
  refine zw 0 rfl rfl rfl ?_
  refine Qa rfl <| JL.nil ?_
  exact zro x3
 have h3 : (M.split 32 s).length = 3 := by have := h5'; omega
 have hw0 : (M.split 32 s)[0]? = some (M.w3 s 0) := M.w3_get (by omega)
 have hw1 : (M.split 32 s)[1]? = some (M.w3 s 1) := M.w3_get (by omega)
 have hw2 : (M.split 32 s)[2]? = some (M.w3 s 2) := M.w3_get (by omega)
 have q0 := M.w3_len (s := s) (i := 0)
 have q1 := M.w3_len (s := s) (i := 1)
 have q2 := M.w3_len (s := s) (i := 2)
 have q3 := M.cutS_len (M.w3 s 1) [47]
 have q8 := M.cutS_len2 (M.w3 s 1) [47]
 have q4 := M.nums_len (M.cutS (M.w3 s 1) [47]).1
 have q5 := M.nums_len (M.cutS (M.w3 s 1) [47]).2.1
 have q6 := M.nums_len (M.w3 s 2)
 have q9 : ((M.nums (M.cutS (M.w3 s 1) [47]).1).1 ++ (M.nums (M.cutS (M.w3 s 1) [47]).2.1).1).length ≤ 4194304 := by rw [List.length_append]; omega
 have hy6 := hw0
 obtain ⟨b6, o6, he6, hc6⟩ := strs_elem h4 hy6
 have hy7 := hw1
 obtain ⟨b7, o7, he7, hc7⟩ := strs_elem h4 hy7
 refine Js.skip <| zS <| Qm rfl <| Qq (p_indexAddr el_31 rfl rfl (by omega) (by omega) he6) <| QC hc6 rfl <| zv rfl (fun w hw => c_impl_ReadDecimal (M.w3 s 0) (ok_ hw)) <| Qm rfl <| Qx rfl rfl <| Qx rfl rfl <| Qa rfl <| Qa rfl <| zN <| Qm rfl <| Qq (p_indexAddr el_31 rfl rfl (by omega) (by omega) he7) ?_
 refine QC hc7 rfl <| zv rfl (fun w hw => c_impl_cut (M.w3 s 1) ([47] : List UInt8)) <| Qm rfl <| Qx rfl rfl <| Qx rfl rfl <| Qx rfl rfl <| Qa rfl <| Qa rfl <| Qa rfl <| zN <| Qm rfl <| zcs rfl (fun w hw => c_impl_readNumbers ((M.cutS (M.w3 s 1) ([47] : List UInt8)).1) (ok_ hw)) ?_
 intro A9 c9 bl9 bh9
 refine Qm rfl <| Qx rfl rfl <| Qx rfl rfl <| Qa rfl <| Qa rfl <| zN <| Qm rfl <| zcs rfl (fun w hw => c_impl_readNumbers ((M.cutS (M.w3 s 1) ([47] : List UInt8)).2.1) (ok_ hw)) ?_
 intro A11 c11 bl11 bh11
 have hy12 := hw2
 obtain ⟨b12, o12, he12, hc12⟩ := strs_elem h4 hy12
 refine Qm rfl <| Qx rfl rfl <| Qx rfl rfl <| Qa rfl <| Qa rfl <| zN <| Qm rfl <| Qq (p_indexAddr el_31 rfl rfl (by omega) (by omega) he12) <| QC hc12 rfl <| zcs rfl (fun w hw => c_impl_readNumbers (M.w3 s 2) (ok_ hw)) ?_
 intro A14 c14 bl14 bh14
 refine Qm rfl <| Qx rfl rfl <| Qx rfl rfl <| Qa rfl <| Qa rfl <| zJ <| zS <| Qm rfl <| Qt rfl <| Qm rfl <| zg (Gd.f1 rfl rfl rfl) (fun hc => p_move rfl) <| zg (Gd.f1 rfl rfl rfl) (fun hc => p_not (gh hc rfl)) <| Qq (p_pickOr rfl rfl rfl) <| Qm rfl ?_
 refine zg (Gd.f1 rfl rfl rfl) (fun hc => p_move rfl) <| zg (Gd.f1 rfl rfl rfl) (fun hc => p_not (gh hc rfl)) <| Qq (p_pickOr rfl rfl rfl) <| Qm rfl <| zg (Gd.f1 rfl rfl rfl) (fun hc => p_move rfl) <| zg (Gd.f1 rfl rfl rfl) (fun hc => p_not (gh hc rfl)) <| Qq (p_pickOr rfl rfl rfl) <| Qm rfl <| zg (Gd.f1 rfl rfl rfl) (fun hc => p_move rfl) <| zg (Gd.f1 rfl rfl rfl) (fun hc => p_not (gh hc rfl)) <| Qq (p_pickOr rfl rfl rfl) <| JL.nil ?_
 refine zi (fun h15 h15' => ?_) fun h15 h15' => ?_
 ·
  have hE := M.readP_first (r := r) (s := s) (by rintro ⟨f1, f2, f3, f4, f5⟩; have h9 := h15; rw [f1, f2, f3, f4, f5] at h9; simp at h9)
  have hq0 : [] = ((M.readP r s).1).pits := rp_ hE
  have hq1 : [] = ((M.readP r s).1).stores := rp_ hE
  have hq2 : 0 = ((M.readP r s).1).player := rp_ hE
  have hq3 : false = (M.readP r s).2 := rp_ hE
  refine zS <| Qb ?_
  refine zw 3 rfl rfl rfl ?_
  refine Qa rfl <| JL.nil ?_
  exact zro x3
 have hf5 : M.first5 s := by have h9 := h15; simp only [Bool.or_eq_false_iff, Bool.not_eq_false'] at h9; exact ⟨h9.1.1.1.1, h9.1.1.1.2, h9.1.1.2, h9.1.2, h9.2⟩
 refine Js.skip <| zS <| Qm rfl <| Qm rfl ?_
 refine JL.e (e_append (i := 2) (n' := (((M.nums ((M.cutS (M.w3 s 1) ([47] : List UInt8)).1)).1) ++ ((M.nums ((M.cutS (M.w3 s 1) ([47] : List UInt8)).2.1)).1)).length) (vs' := ints_ (((M.nums ((M.cutS (M.w3 s 1) ([47] : List UInt8)).1)).1) ++ ((M.nums ((M.cutS (M.w3 s 1) ([47] : List UInt8)).2.1)).1))) el_26 rfl rfl rfl rfl (src_rowH (i := 1) und_26 rfl (ints_one _)) (by omega) (by omega) ln2_ (by simp [ints_])) ?_
 rintro v16 _ _ ⟨⟨g17, rfl⟩, rfl⟩ _
 refine JL.fact (row_form' (i := 2) rfl) (fun hf18 => ?_)
 obtain ⟨A18, c18, rfl, bl18, bh18⟩ := hf18
 refine znl ?_
 have q10 : (M.Pos.mk ((M.nums (M.cutS (M.w3 s 1) [47]).1).1 ++ (M.nums (M.cutS (M.w3 s 1) [47]).2.1).1) (M.nums (M.w3 s 2)).1 (M.num (M.w3 s 0)).1).pits.length ≤ 4194304 := q9
 have q11 : (M.Pos.mk ((M.nums (M.cutS (M.w3 s 1) [47]).1).1 ++ (M.nums (M.cutS (M.w3 s 1) [47]).2.1).1) (M.nums (M.w3 s 2)).1 (M.num (M.w3 s 0)).1).stores.length ≤ 4194304 := by show (M.nums (M.w3 s 2)).1.length ≤ 4194304; omega
 refine Qm rfl <| Qm rfl <| Qb ?_
 refine za zeh fun b19 => zw 0 rfl rfl rfl ?_
 refine zJ <| zS <| Q9 5 rfl rfl ?_
 refine Q9 0 rfl rfl ?_
 refine zv rfl (fun w hw => c_impl_ValidPosition r (M.Pos.mk (((M.nums ((M.cutS (M.w3 s 1) ([47] : List UInt8)).1)).1) ++ ((M.nums ((M.cutS (M.w3 s 1) ([47] : List UInt8)).2.1)).1)) ((M.nums (M.w3 s 2)).1) ((M.num (M.w3 s 0)).1)) (ok_ hw) (ok_ hw)) <| Qt rfl <| Qm rfl <| zgq (Gd.f1 rfl rfl rfl) (fun hc => L9 5 rfl rfl) <| zgq (Gd.f1 rfl rfl rfl) (fun hc => L9 0 rfl rfl) <| zgv (Gd.f1 rfl rfl rfl) (fun hc => (opds_2 (gh hc rfl) (gh hc rfl))) (fun hc => (fun w hw => c_impl_PositionText r (M.Pos.mk (((M.nums ((M.cutS (M.w3 s 1) ([47] : List UInt8)).1)).1) ++ ((M.nums ((M.cutS (M.w3 s 1) ([47] : List UInt8)).2.1)).1)) ((M.nums (M.w3 s 2)).1) ((M.num (M.w3 s 0)).1)) (ok_ hw) (ok_ hw) (ok_ hw) (r0 := (by have hc9 := hc; (try simp only [Bool.not_eq_true', Bool.not_eq_false'] at hc9); omega)) (r1 := (by have hc9 := hc; (try simp only [Bool.not_eq_true', Bool.not_eq_false'] at hc9); omega)))) ?_
 refine zg (Gd.f1 rfl rfl rfl) (fun hc => p_move rfl) <| zg (Gd.f1 rfl rfl rfl) (fun hc => p_neqT und_9 (gh hc rfl) (gh hc rfl)) <| Qq (p_pickOr rfl rfl rfl) <| JL.nil ?_
 refine zi (fun h20 h20' => ?_) fun h20 h20' => ?_
 ·
  have hE := M.readP_bad (r := r) h3 hf5 (by have h9 := h20; change (!M.okP r (M.readQ s) || !decide (M.posTextR r (M.readQ s) = s)) = true at h9; simpa using h9)
  have hq0 : [] = ((M.readP r s).1).pits := rp_ hE
  have hq1 : [] = ((M.readP r s).1).stores := rp_ hE
  have hq2 : 0 = ((M.readP r s).1).player := rp_ hE
  have hq3 : false = (M.readP r s).2 := rp_ hE
  refine zS <| Qb ?_
  refine zw 4 rfl rfl rfl ?_
  refine Qa rfl <| JL.nil ?_
  exact zro x3
 have h8 : M.okP r (M.readQ s) = true ∧ M.posTextR r (M.readQ s) = s := by have h9 := h20; change (!M.okP r (M.readQ s) || !decide (M.posTextR r (M.readQ s) = s)) = false at h9; simpa using h9
 have hE := M.readP_good h3 hf5 h8.1 h8.2
 have hq0 : (((M.nums ((M.cutS (M.w3 s 1) ([47] : List UInt8)).1)).1) ++ ((M.nums ((M.cutS (M.w3 s 1) ([47] : List UInt8)).2.1)).1)) = ((M.readP r s).1).pits := rp_ hE
 have hq1 : ((M.nums (M.w3 s 2)).1) = ((M.readP r s).1).stores := rp_ hE
 have hq2 : ((M.num (M.w3 s 0)).1) = ((M.readP r s).1).player := rp_ hE
 have hq3 : true = (M.readP r s).2 := rp_ hE
 refine Js.skip <| zS <| Q9 0 rfl rfl ?_
 refine zw 4 rfl rfl rfl ?_
 refine Qa rfl <| JL.nil ?_
 exact zro x3
theorem c_impl_Game_copied (g : M.Gam) {v_g : Value} {w : World} (h_g : (Ty.agg (cGame g)).ok w v_g) (r0 : g.start.pits.length ≤ 4194304 := by exact om_) (r1 : g.start.stores.length ≤ 4194304 := by exact om_) (r2 : g.moves.length ≤ 4194304 := by exact om_) (r3 : g.now.pits.length ≤ 4194304 := by exact om_) (r4 : g.now.stores.length ≤ 4194304 := by exact om_) : Ret Tryz.prog 190 [v_g] w (Ty.agg (cGame g)) := by
 revert v_g; apply opn
 intro A1 c1 h1 bl1 bh1 A2 c2 h2 bl2 bh2 A3 c3 h3 bl3 bh3 A4 c4 h4 bl4 bh4 A5 c5 h5 bl5 bh5
 refine enter @Tryz.func190 @Tryz.ntmps190 rfl rfl ?_
 refine zent ?_
 refine zS <| zb rfl fun b6 => za zeh fun b7 => zJ ?_
 refine zdr [14] ?_
 refine jF 0 fld_53_0 rfl rfl ?_
 refine JH.q 1 rfl (L9 1 rfl rfl) ?_
 refine jF 2 fld_53_1 rfl rfl ?_
 refine JH.q 3 rfl (L9 1 rfl rfl) ?_
 refine jF 5 fld_53_2 rfl rfl ?_
 refine jB 6 1 ty_26 rfl rfl rfl rfl ?_
 refine jF 8 fld_53_3 rfl rfl ?_
 refine JH.q 9 rfl (L9 1 rfl rfl) ?_
 refine jF 11 fld_53_4 rfl rfl ?_
 refine jB 12 1 ty_2 rfl rfl rfl rfl ?_
 refine y1 4 ?_
 refine yc rfl rfl (fun w hw => c_impl_Position_copied g.start (ok_ hw)) ?_
 intro A9 c9 bl9 bh9 A10 c10 bl10 bh10
 refine y1 7 ?_
 refine ycs rfl rfl (fun w hw => c_impl_copyNumbers g.moves (ok_ hw)) ?_
 intro A11 c11 bl11 bh11
 refine y1 10 ?_
 refine yc rfl rfl (fun w hw => c_impl_Position_copied g.now (ok_ hw)) ?_
 intro A13 c13 bl13 bh13 A14 c14 bl14 bh14
 refine JH.p 13 rfl (q_bld) ?_
 refine y1 14 ?_
 refine yst rfl rfl rfl ?_
 refine yd ?_
 exact zro (Up.refl _ _)
theorem c_impl_Game_play (g : M.Gam) {v_g : Value} (move : Int) {w : World} (h_g : (Ty.agg (cGame g)).ok w v_g) (r0 : g.start.pits.length ≤ 4194304 := by exact om_) (r1 : g.start.stores.length ≤ 4194304 := by exact om_) (r2 : g.moves.length ≤ 4194304 := by exact om_) (r3 : g.now.pits.length ≤ 4194304 := by exact om_) (r4 : g.now.stores.length ≤ 4194304 := by exact om_) : Ret Tryz.prog 163 [v_g, .int .i64 move] w (Ty.tup [Ty.agg (cGame ((M.play g move).1)), Ty.int ((M.play g move).2)]) := by
 revert v_g; apply opn
 intro A1 c1 h1 bl1 bh1 A2 c2 h2 bl2 bh2 A3 c3 h3 bl3 bh3 A4 c4 h4 bl4 bh4 A5 c5 h5 bl5 bh5
 refine enter @Tryz.func163 @Tryz.ntmps163 rfl rfl ?_
 refine zent ?_
 refine zS <| zb rfl fun b6 => za zeh fun b7 => Qa rfl <| zJ <| zS <| Qf fh rfl <| Q0 1 rfl rfl rfl <| Qh rfl rfl <| JL.nil ?_
 refine zi (fun h8 h8' => ?_) fun h8 h8' => ?_
 ·
  have hE := M.play_6 (g := g) (move := move) (by simpa using h8)
  have hq0 : 0 = (((M.play g move).1).rules).pits := rp_ hE
  have hq1 : 0 = (((M.play g move).1).rules).seeds := rp_ hE
  have hq2 : false = (((M.play g move).1).rules).stores := rp_ hE
  have hq3 : false = (((M.play g move).1).rules).skip := rp_ hE
  have hq4 : false = (((M.play g move).1).rules).relay := rp_ hE
  have hq5 : false = (((M.play g move).1).rules).feed := rp_ hE
  have hq6 : false = (((M.play g move).1).rules).again := rp_ hE
  have hq7 : 0 = (((M.play g move).1).rules).capture := rp_ hE
  have hq8 : 0 = (((M.play g move).1).rules).slam := rp_ hE
  have hq9 : [] = (((M.play g move).1).start).pits := rp_ hE
  have hq10 : [] = (((M.play g move).1).start).stores := rp_ hE
  have hq11 : 0 = (((M.play g move).1).start).player := rp_ hE
  have hq12 : [] = ((M.play g move).1).moves := rp_ hE
  have hq13 : [] = (((M.play g move).1).now).pits := rp_ hE
  have hq14 : [] = (((M.play g move).1).now).stores := rp_ hE
  have hq15 : 0 = (((M.play g move).1).now).player := rp_ hE
  have hq16 : 0 = ((M.play g move).1).resigned := rp_ hE
  have hq17 : 6 = (M.play g move).2 := rp_ hE
  refine zS <| Qb ?_
  refine zw 0 rfl rfl rfl ?_
  refine Qa rfl <| JL.nil ?_
  exact zro (Up.refl _ _)
 have q1 : ¬ 0 ≤ g.resigned := by simpa using h8
 refine Js.skip <| Js.seq <| zS <| Qf fh rfl <| Q0 1 rfl rfl rfl <| Qz rfl <| Qe rfl rfl <| JL.nil ?_
 refine zi (fun h9 h9' => ?_) fun h9 h9' => ?_
 ·
  have hE := M.play_5 (move := move) q1 (by have := h9'; omega)
  have hq0 : 0 = (((M.play g move).1).rules).pits := rp_ hE
  have hq1 : 0 = (((M.play g move).1).rules).seeds := rp_ hE
  have hq2 : false = (((M.play g move).1).rules).stores := rp_ hE
  have hq3 : false = (((M.play g move).1).rules).skip := rp_ hE
  have hq4 : false = (((M.play g move).1).rules).relay := rp_ hE
  have hq5 : false = (((M.play g move).1).rules).feed := rp_ hE
  have hq6 : false = (((M.play g move).1).rules).again := rp_ hE
  have hq7 : 0 = (((M.play g move).1).rules).capture := rp_ hE
  have hq8 : 0 = (((M.play g move).1).rules).slam := rp_ hE
  have hq9 : [] = (((M.play g move).1).start).pits := rp_ hE
  have hq10 : [] = (((M.play g move).1).start).stores := rp_ hE
  have hq11 : 0 = (((M.play g move).1).start).player := rp_ hE
  have hq12 : [] = ((M.play g move).1).moves := rp_ hE
  have hq13 : [] = (((M.play g move).1).now).pits := rp_ hE
  have hq14 : [] = (((M.play g move).1).now).stores := rp_ hE
  have hq15 : 0 = (((M.play g move).1).now).player := rp_ hE
  have hq16 : 0 = ((M.play g move).1).resigned := rp_ hE
  have hq17 : 5 = (M.play g move).2 := rp_ hE
  refine zS <| Qb ?_
  refine zw 0 rfl rfl rfl ?_
  refine Qa rfl <| JL.nil ?_
  exact zro (Up.refl _ _)
 have q2 : g.moves.length ≠ 120 := by have := h9'; omega
 refine Js.skip <| zS <| Qf fh rfl <| Q9 1 rfl rfl ?_
 refine Qf fh rfl <| Q9 1 rfl rfl ?_
 refine Qm rfl <| zc rfl (fun w hw => c_impl_Rules_resultOf g.rules g.now move (ok_ hw) (ok_ hw)) ?_
 intro A12 c12 bl12 bh12 A13 c13 bl13 bh13
 refine Qm rfl <| Qx rfl rfl <| Qx rfl rfl <| za zeh fun b14 => zw 0 rfl rfl rfl ?_
 refine Qa rfl <| zJ <| zS <| Qm rfl <| Qd rfl rfl <| JL.nil ?_
 refine zi (fun h15 h15' => ?_) fun h15 h15' => ?_
 ·
  have hE := M.play_c q1 q2 (move := move) (by simpa using h15)
  have hq0 : 0 = (((M.play g move).1).rules).pits := rp_ hE
  have hq1 : 0 = (((M.play g move).1).rules).seeds := rp_ hE
  have hq2 : false = (((M.play g move).1).rules).stores := rp_ hE
  have hq3 : false = (((M.play g move).1).rules).skip := rp_ hE
  have hq4 : false = (((M.play g move).1).rules).relay := rp_ hE
  have hq5 : false = (((M.play g move).1).rules).feed := rp_ hE
  have hq6 : false = (((M.play g move).1).rules).again := rp_ hE
  have hq7 : 0 = (((M.play g move).1).rules).capture := rp_ hE
  have hq8 : 0 = (((M.play g move).1).rules).slam := rp_ hE
  have hq9 : [] = (((M.play g move).1).start).pits := rp_ hE
  have hq10 : [] = (((M.play g move).1).start).stores := rp_ hE
  have hq11 : 0 = (((M.play g move).1).start).player := rp_ hE
  have hq12 : [] = ((M.play g move).1).moves := rp_ hE
  have hq13 : [] = (((M.play g move).1).now).pits := rp_ hE
  have hq14 : [] = (((M.play g move).1).now).stores := rp_ hE
  have hq15 : 0 = (((M.play g move).1).now).player := rp_ hE
  have hq16 : 0 = ((M.play g move).1).resigned := rp_ hE
  have hq17 : ((M.make g.rules g.now move).2) = (M.play g move).2 := rp_ hE
  refine zS <| Qb ?_
  refine Qm rfl <| zw 3 rfl rfl rfl ?_
  refine Qa rfl <| JL.nil ?_
  exact zro (Up.refl _ _)
 have hz : (M.make g.rules g.now move).2 = 0 := by simpa using h15
 have hE := M.play_0 q1 q2 hz
 refine Js.skip <| zS <| Q9 4 rfl rfl ?_
 refine zc rfl (fun w hw => c_impl_Game_copied g (ok_ hw)) ?_
 intro A17 c17 bl17 bh17 A18 c18 bl18 bh18 A19 c19 bl19 bh19 A20 c20 bl20 bh20 A21 c21 bl21 bh21
 refine za zeh fun b22 => zw 0 rfl rfl rfl ?_
 refine zJ ?_
 refine zk [4, 8] (fun F U l os u => ∃ (b23 : Nat) (A27 : Option Addr) (c27 : Nat) (g26 : List Nat), l = F [] ∧ os = [rowO 2 1 (.slice (some ⟨b23, 0, none⟩) 1 1) 1 [.int .i64 move] []] ++ U [some (boxO b22 [.int .i64 g.rules.pits, .int .i64 g.rules.seeds, .bool g.rules.stores, .bool g.rules.skip, .bool g.rules.relay, .bool g.rules.feed, .bool g.rules.again, .int .i64 g.rules.capture, .int .i64 g.rules.slam, .slice A17 g.start.pits.length c17, .slice A18 g.start.stores.length c18, .int .i64 g.start.player, .slice A27 ((g.moves ++ [move]).length) c27, .slice A12 (((((M.make g.rules g.now move).1).next).pits).length) c12, .slice A13 (((((M.make g.rules g.now move).1).next).stores).length) c13, .int .i64 ((((M.make g.rules g.now move).1).next).player), .int .i64 g.resigned] 53), nO, nO, some (rowO 2 1 (.slice A27 ((g.moves ++ [move]).length) c27) ((g.moves ++ [move]).length) (ints_ (g.moves ++ [move])) g26)] ∧ ((g.moves ++ [move]).length ≤ c27) ∧ (c27 ≤ 9223372036854775807)) ?_ ?_
 ·
  refine zdr [4, 8, 10] ?_
  refine jF 0 fld_53_2 rfl rfl ?_
  refine jB 1 0 ty_26 rfl rfl rfl rfl ?_
  refine jM 2 rfl rfl ?_
  refine jF 5 fld_109_3 rfl rfl ?_
  refine y2 3 6 ?_ ?_
  ·
   refine ybs rfl fun b37 => ?_
   refine y2 4 6 ?_ ?_
   ·
    refine JHo.e rfl (e_append (i := 4) (n' := (g.moves ++ [move]).length) (vs' := ints_ (g.moves ++ [move])) el_26 rfl rfl rfl rfl (src_row (i := 0) und_26 rfl rfl) (by omega) (by omega) ln2_ (by simp [ints_])) (.inr rfl) ?_
    rintro v39 _ _ ⟨⟨g40, rfl⟩, rfl⟩ _
    refine JH.fact (row_form' (i := 4) rfl) (fun hf41 => ?_)
    obtain ⟨A41, c41, rfl, bl41, bh41⟩ := hf41
    refine znh ?_
    refine jF 7 fld_53_2 rfl rfl ?_
    refine y2 6 8 ?_ ?_
    ·
     refine JHo.q rfl (L9 7 rfl rfl) ?_
     refine y1 8 ?_
     refine yst rfl rfl rfl ?_
     refine jF 9 fld_53_3 rfl rfl ?_
     refine y1 10 ?_
     refine yst rfl rfl rfl ?_
     refine yd ?_
     exact zm ⟨_, _, _, _, rfl, rfl, zt, zt⟩ (Up.refl _ _)
    refine yst rfl rfl rfl ?_
    refine y1 6 ?_
    refine JHo.q rfl (L9 7 rfl rfl) ?_
    refine jF 9 fld_53_3 rfl rfl ?_
    refine y1 10 ?_
    refine yst rfl rfl rfl ?_
    refine yd ?_
    exact zm ⟨_, _, _, _, rfl, rfl, zt, zt⟩ (Up.refl _ _)
   refine JHo.q rfl (L9 7 rfl rfl) ?_
   refine y1 4 ?_
   refine JHo.e rfl (e_append (i := 4) (n' := (g.moves ++ [move]).length) (vs' := ints_ (g.moves ++ [move])) el_26 rfl rfl rfl rfl (src_row (i := 0) und_26 rfl rfl) (by omega) (by omega) ln2_ (by simp [ints_])) (.inr rfl) ?_
   rintro v42 _ _ ⟨⟨g43, rfl⟩, rfl⟩ _
   refine JH.fact (row_form' (i := 4) rfl) (fun hf44 => ?_)
   obtain ⟨A44, c44, rfl, bl44, bh44⟩ := hf44
   refine znh ?_
   refine jF 7 fld_53_2 rfl rfl ?_
   refine y1 8 ?_
   refine yst rfl rfl rfl ?_
   refine jF 9 fld_53_3 rfl rfl ?_
   refine y1 10 ?_
   refine yst rfl rfl rfl ?_
   refine yd ?_
   exact zm ⟨_, _, _, _, rfl, rfl, zt, zt⟩ (Up.refl _ _)
  refine JHo.q rfl (L9 6 rfl rfl) ?_
  refine y1 3 ?_
  refine ybs rfl fun b45 => ?_
  refine y1 4 ?_
  refine JHo.e rfl (e_append (i := 4) (n' := (g.moves ++ [move]).length) (vs' := ints_ (g.moves ++ [move])) el_26 rfl rfl rfl rfl (src_row (i := 0) und_26 rfl rfl) (by omega) (by omega) ln2_ (by simp [ints_])) (.inr rfl) ?_
  rintro v47 _ _ ⟨⟨g48, rfl⟩, rfl⟩ _
  refine JH.fact (row_form' (i := 4) rfl) (fun hf49 => ?_)
  obtain ⟨A49, c49, rfl, bl49, bh49⟩ := hf49
  refine znh ?_
  refine jF 7 fld_53_2 rfl rfl ?_
  refine y1 8 ?_
  refine yst rfl rfl rfl ?_
  refine jF 9 fld_53_3 rfl rfl ?_
  refine y1 10 ?_
  refine yst rfl rfl rfl ?_
  refine yd ?_
  exact zm ⟨_, _, _, _, rfl, rfl, zt, zt⟩ (Up.refl _ _)
 rintro _ _ u36 ⟨b23, A27, c27, g26, rfl, rfl, f36_0, f36_1⟩ x36
 refine zn ?_
 have hq0 : g.rules.pits = (((M.play g move).1).rules).pits := rp_ hE
 have hq1 : g.rules.seeds = (((M.play g move).1).rules).seeds := rp_ hE
 have hq2 : g.rules.stores = (((M.play g move).1).rules).stores := rp_ hE
 have hq3 : g.rules.skip = (((M.play g move).1).rules).skip := rp_ hE
 have hq4 : g.rules.relay = (((M.play g move).1).rules).relay := rp_ hE
 have hq5 : g.rules.feed = (((M.play g move).1).rules).feed := rp_ hE
 have hq6 : g.rules.again = (((M.play g move).1).rules).again := rp_ hE
 have hq7 : g.rules.capture = (((M.play g move).1).rules).capture := rp_ hE
 have hq8 : g.rules.slam = (((M.play g move).1).rules).slam := rp_ hE
 have hq9 : g.start.pits = (((M.play g move).1).start).pits := rp_ hE
 have hq10 : g.start.stores = (((M.play g move).1).start).stores := rp_ hE
 have hq11 : g.start.player = (((M.play g move).1).start).player := rp_ hE
 have hq12 : (g.moves ++ [move]) = ((M.play g move).1).moves := rp_ hE
 have hq13 : ((((M.make g.rules g.now move).1).next).pits) = (((M.play g move).1).now).pits := rp_ hE
 have hq14 : ((((M.make g.rules g.now move).1).next).stores) = (((M.play g move).1).now).stores := rp_ hE
 have hq15 : ((((M.make g.rules g.now move).1).next).player) = (((M.play g move).1).now).player := rp_ hE
 have hq16 : g.resigned = ((M.play g move).1).resigned := rp_ hE
 have hq17 : 0 = (M.play g move).2 := rp_ hE
 refine zS <| Q9 1 rfl rfl ?_
 refine zw 10 rfl rfl rfl ?_
 refine Qa rfl <| JL.nil ?_
 exact zro x36
theorem c_impl_numbersOf (line : List UInt8) {w : World} (h_tab : tabT.ok w undef) (r0 : line.length ≤ 100000 := by exact om_) : Ret Tryz.prog 162 [.string (sB line)] w (Ty.tup [Ty.agg (ctri (M.Tri.mk (M.numI line).1.1 (M.numI line).1.2.1 (M.numI line).1.2.2)), Ty.bool ((M.numI line).2)]) := by
 refine enter @Tryz.func162 @Tryz.ntmps162 rfl rfl ?_
 refine zent ?_
 have l1 := M.cutS_len line [46, 32]
 have l2 := M.cutS_len (M.cutS line [46, 32]).2.1 [43]
 have hq0 : ((M.num ((M.cutS line ([46, 32] : List UInt8)).1)).1) = (M.numI line).1.1 := by first | rfl | (simp [M.numI]; done)
 have hq1 : ((M.num ((M.cutS ((M.cutS line ([46, 32] : List UInt8)).2.1) ([43] : List UInt8)).1)).1) = (M.numI line).1.2.1 := by first | rfl | (simp [M.numI]; done)
 have hq2 : ((M.num ((M.cutS ((M.cutS line ([46, 32] : List UInt8)).2.1) ([43] : List UInt8)).2.1)).1) = (M.numI line).1.2.2 := by first | rfl | (simp [M.numI]; done)
 have hq3 : ((((((M.cutS line ([46, 32] : List UInt8)).2.2) && ((M.cutS ((M.cutS line ([46, 32] : List UInt8)).2.1) ([43] : List UInt8)).2.2)) && ((M.num ((M.cutS line ([46, 32] : List UInt8)).1)).2)) && ((M.num ((M.cutS ((M.cutS line ([46, 32] : List UInt8)).2.1) ([43] : List UInt8)).1)).2)) && ((M.num ((M.cutS ((M.cutS line ([46, 32] : List UInt8)).2.1) ([43] : List UInt8)).2.1)).2)) = (M.numI line).2 := by first | rfl | (simp [M.numI]; done)
 refine zS <| za zeh fun b1 => Qa rfl <| zN <| Qm rfl <| zv rfl (fun w hw => c_impl_cut line ([46, 32] : List UInt8)) <| Qm rfl <| Qx rfl rfl <| Qx rfl rfl <| Qx rfl rfl <| Qa rfl <| Qa rfl <| Qa rfl <| zN ?_
 refine Qm rfl <| zv rfl (fun w hw => c_impl_cut ((M.cutS line ([46, 32] : List UInt8)).2.1) ([43] : List UInt8)) <| Qm rfl <| Qx rfl rfl <| Qx rfl rfl <| Qx rfl rfl <| Qa rfl <| Qa rfl <| Qa rfl <| zN <| Qm rfl <| zv rfl (fun w hw => c_impl_ReadDecimal ((M.cutS line ([46, 32] : List UInt8)).1) (ok_ hw)) <| Qm rfl <| Qx rfl rfl ?_
 refine Qx rfl rfl <| Qa rfl <| Qa rfl <| zN <| Qm rfl <| zv rfl (fun w hw => c_impl_ReadDecimal ((M.cutS ((M.cutS line ([46, 32] : List UInt8)).2.1) ([43] : List UInt8)).1) (ok_ hw)) <| Qm rfl <| Qx rfl rfl <| Qx rfl rfl <| Qa rfl <| Qa rfl <| zN <| Qm rfl <| zv rfl (fun w hw => c_impl_ReadDecimal ((M.cutS ((M.cutS line ([46, 32] : List UInt8)).2.1) ([43] : List UInt8)).2.1) (ok_ hw)) ?_
 refine Qm rfl <| Qx rfl rfl <| Qx rfl rfl <| Qa rfl <| Qa rfl <| zN <| Qm rfl <| Qm rfl <| Qm rfl <| Qq (q_bldA) <| Qm rfl <| Qm rfl <| zg (Gd.t1 rfl rfl rfl) (fun hc => p_move rfl) <| Qq (p_pickAnd rfl rfl rfl) ?_
 refine Qm rfl <| zg (Gd.t1 rfl rfl rfl) (fun hc => p_move rfl) <| Qq (p_pickAnd rfl rfl rfl) <| Qm rfl <| zg (Gd.t1 rfl rfl rfl) (fun hc => p_move rfl) <| Qq (p_pickAnd rfl rfl rfl) <| Qm rfl <| zg (Gd.t1 rfl rfl rfl) (fun hc => p_move rfl) <| Qq (p_pickAnd rfl rfl rfl) <| zw 0 rfl rfl rfl ?_
 refine Qa rfl <| JL.nil ?_
 exact zro (Up.refl _ _)
theorem c_impl_recordReader_head (x_game : M.Gam) {Ax_9 : Option Addr} {cx_9 : Nat} {gx_9 : List Nat} {Ax_10 : Option Addr} {cx_10 : Nat} {gx_10 : List Nat} {Ax_12 : Option Addr} {cx_12 : Nat} {gx_12 : List Nat} {Ax_13 : Option Addr} {cx_13 : Nat} {gx_13 : List Nat} {Ax_14 : Option Addr} {cx_14 : Nat} {gx_14 : List Nat} (at_ : Int) (line : List UInt8) {bx : Nat} {w : World} (hb : Bw w [boxO bx [.int .i64 x_game.rules.pits, .int .i64 x_game.rules.seeds, .bool x_game.rules.stores, .bool x_game.rules.skip, .bool x_game.rules.relay, .bool x_game.rules.feed, .bool x_game.rules.again, .int .i64 x_game.rules.capture, .int .i64 x_game.rules.slam, .slice Ax_9 x_game.start.pits.length cx_9, .slice Ax_10 x_game.start.stores.length cx_10, .int .i64 x_game.start.player, .slice Ax_12 x_game.moves.length cx_12, .slice Ax_13 x_game.now.pits.length cx_13, .slice Ax_14 x_game.now.stores.length cx_14, .int .i64 x_game.now.player, .int .i64 x_game.resigned] 157, rowO 2 1 (.slice Ax_9 x_game.start.pits.length cx_9) x_game.start.pits.length (ints_ x_game.start.pits) gx_9, rowO 2 1 (.slice Ax_10 x_game.start.stores.length cx_10) x_game.start.stores.length (ints_ x_game.start.stores) gx_10, rowO 2 1 (.slice Ax_12 x_game.moves.length cx_12) x_game.moves.length (ints_ x_game.moves) gx_12, rowO 2 1 (.slice Ax_13 x_game.now.pits.length cx_13) x_game.now.pits.length (ints_ x_game.now.pits) gx_13, rowO 2 1 (.slice Ax_14 x_game.now.stores.length cx_14) x_game.now.stores.length (ints_ x_game.now.stores) gx_14]) (h_tab : tabT.ok (offW w (([boxO bx [.int .i64 x_game.rules.pits, .int .i64 x_game.rules.seeds, .bool x_game.rules.stores, .bool x_game.rules.skip, .bool x_game.rules.relay, .bool x_game.rules.feed, .bool x_game.rules.again, .int .i64 x_game.rules.capture, .int .i64 x_game.rules.slam, .slice Ax_9 x_game.start.pits.length cx_9, .slice Ax_10 x_game.start.stores.length cx_10, .int .i64 x_game.start.player, .slice Ax_12 x_game.moves.length cx_12, .slice Ax_13 x_game.now.pits.length cx_13, .slice Ax_14 x_game.now.stores.length cx_14, .int .i64 x_game.now.player, .int .i64 x_game.resigned] 157, rowO 2 1 (.slice Ax_9 x_game.start.pits.length cx_9) x_game.start.pits.length (ints_ x_game.start.pits) gx_9, rowO 2 1 (.slice Ax_10 x_game.start.stores.length cx_10) x_game.start.stores.length (ints_ x_game.start.stores) gx_10, rowO 2 1 (.slice Ax_12 x_game.moves.length cx_12) x_game.moves.length (ints_ x_game.moves) gx_12, rowO 2 1 (.slice Ax_13 x_game.now.pits.length cx_13) x_game.now.pits.length (ints_ x_game.now.pits) gx_13, rowO 2 1 (.slice Ax_14 x_game.now.stores.length cx_14) x_game.now.stores.length (ints_ x_game.now.stores) gx_14] : List Own).flatMap (·.fp))) undef) (bd0 : x_game.start.pits.length ≤ cx_9 := by exact om_) (bd1 : cx_9 ≤ 9223372036854775807 := by exact om_) (bd2 : x_game.start.stores.length ≤ cx_10 := by exact om_) (bd3 : cx_10 ≤ 9223372036854775807 := by exact om_) (bd4 : x_game.moves.length ≤ cx_12 := by exact om_) (bd5 : cx_12 ≤ 9223372036854775807 := by exact om_) (bd6 : x_game.now.pits.length ≤ cx_13 := by exact om_) (bd7 : cx_13 ≤ 9223372036854775807 := by exact om_) (bd8 : x_game.now.stores.length ≤ cx_14 := by exact om_) (bd9 : cx_14 ≤ 9223372036854775807 := by exact om_) (r0 : x_game.start.pits.length ≤ 1000 := by exact om_) (r1 : x_game.start.stores.length ≤ 1000 := by exact om_) (r2 : x_game.moves.length ≤ 1000 := by exact om_) (r3 : x_game.now.pits.length ≤ 1000 := by exact om_) (r4 : x_game.now.stores.length ≤ 1000 := by exact om_) (r5 : line.length ≤ 100000 := by exact om_) : RetB Tryz.prog 119 [.pointer (some ⟨bx, 0, none⟩), .int .i64 at_, .string (sB line)] w [boxO bx [.int .i64 x_game.rules.pits, .int .i64 x_game.rules.seeds, .bool x_game.rules.stores, .bool x_game.rules.skip, .bool x_game.rules.relay, .bool x_game.rules.feed, .bool x_game.rules.again, .int .i64 x_game.rules.capture, .int .i64 x_game.rules.slam, .slice Ax_9 x_game.start.pits.length cx_9, .slice Ax_10 x_game.start.stores.length cx_10, .int .i64 x_game.start.player, .slice Ax_12 x_game.moves.length cx_12, .slice Ax_13 x_game.now.pits.length cx_13, .slice Ax_14 x_game.now.stores.length cx_14, .int .i64 x_game.now.player, .int .i64 x_game.resigned] 157, rowO 2 1 (.slice Ax_9 x_game.start.pits.length cx_9) x_game.start.pits.length (ints_ x_game.start.pits) gx_9, rowO 2 1 (.slice Ax_10 x_game.start.stores.length cx_10) x_game.start.stores.length (ints_ x_game.start.stores) gx_10, rowO 2 1 (.slice Ax_12 x_game.moves.length cx_12) x_game.moves.length (ints_ x_game.moves) gx_12, rowO 2 1 (.slice Ax_13 x_game.now.pits.length cx_13) x_game.now.pits.length (ints_ x_game.now.pits) gx_13, rowO 2 1 (.slice Ax_14 x_game.now.stores.length cx_14) x_game.now.stores.length (ints_ x_game.now.stores) gx_14] (fun v bs' => ∃ (Axx_9 : Option Addr) (cxx_9 : Nat) (gxx_9 : List Nat) (Axx_10 : Option Addr) (cxx_10 : Nat) (gxx_10 : List Nat) (Axx_12 : Option Addr) (cxx_12 : Nat) (gxx_12 : List Nat) (Axx_13 : Option Addr) (cxx_13 : Nat) (gxx_13 : List Nat) (Axx_14 : Option Addr) (cxx_14 : Nat) (gxx_14 : List Nat), v = .int .i64 ((M.headI x_game at_ line).2) ∧ bs' = [boxO bx [.int .i64 ((((M.headI x_game at_ line).1).rules).pits), .int .i64 ((((M.headI x_game at_ line).1).rules).seeds), .bool ((((M.headI x_game at_ line).1).rules).stores), .bool ((((M.headI x_game at_ line).1).rules).skip), .bool ((((M.headI x_game at_ line).1).rules).relay), .bool ((((M.headI x_game at_ line).1).rules).feed), .bool ((((M.headI x_game at_ line).1).rules).again), .int .i64 ((((M.headI x_game at_ line).1).rules).capture), .int .i64 ((((M.headI x_game at_ line).1).rules).slam), .slice Axx_9 (((((M.headI x_game at_ line).1).start).pits).length) cxx_9, .slice Axx_10 (((((M.headI x_game at_ line).1).start).stores).length) cxx_10, .int .i64 ((((M.headI x_game at_ line).1).start).player), .slice Axx_12 ((((M.headI x_game at_ line).1).moves).length) cxx_12, .slice Axx_13 (((((M.headI x_game at_ line).1).now).pits).length) cxx_13, .slice Axx_14 (((((M.headI x_game at_ line).1).now).stores).length) cxx_14, .int .i64 ((((M.headI x_game at_ line).1).now).player), .int .i64 (((M.headI x_game at_ line).1).resigned)] 157, rowO 2 1 (.slice Axx_9 (((((M.headI x_game at_ line).1).start).pits).length) cxx_9) (((((M.headI x_game at_ line).1).start).pits).length) (ints_ ((((M.headI x_game at_ line).1).start).pits)) gxx_9, rowO 2 1 (.slice Axx_10 (((((M.headI x_game at_ line).1).start).stores).length) cxx_10) (((((M.headI x_game at_ line).1).start).stores).length) (ints_ ((((M.headI x_game at_ line).1).start).stores)) gxx_10, rowO 2 1 (.slice Axx_12 ((((M.headI x_game at_ line).1).moves).length) cxx_12) ((((M.headI x_game at_ line).1).moves).length) (ints_ (((M.headI x_game at_ line).1).moves)) gxx_12, rowO 2 1 (.slice Axx_13 (((((M.headI x_game at_ line).1).now).pits).length) cxx_13) (((((M.headI x_game at_ line).1).now).pits).length) (ints_ ((((M.headI x_game at_ line).1).now).pits)) gxx_13, rowO 2 1 (.slice Axx_14 (((((M.headI x_game at_ line).1).now).stores).length) cxx_14) (((((M.headI x_game at_ line).1).now).stores).length) (ints_ ((((M.headI x_game at_ line).1).now).stores)) gxx_14] ∧ ((((M.headI x_game at_ line).1).start).pits).length ≤ cxx_9 ∧ cxx_9 ≤ 9223372036854775807 ∧ ((((M.headI x_game at_ line).1).start).stores).length ≤ cxx_10 ∧ cxx_10 ≤ 9223372036854775807 ∧ (((M.headI x_game at_ line).1).moves).length ≤ cxx_12 ∧ cxx_12 ≤ 9223372036854775807 ∧ ((((M.headI x_game at_ line).1).now).pits).length ≤ cxx_13 ∧ cxx_13 ≤ 9223372036854775807 ∧ ((((M.headI x_game at_ line).1).now).stores).length ≤ cxx_14 ∧ cxx_14 ≤ 9223372036854775807) := by
 refine enterB hb @Tryz.func119 @Tryz.ntmps119 rfl rfl ?_
 refine zent ?_
 refine Js.trashE ?_
 refine zn ?_
 have l1 := M.cutS_len line [32]
 obtain ⟨q1, q2⟩ := M.readP_bd x_game.rules (M.cutS line [32]).2.1
 refine zS <| Qa rfl <| zN <| Qm rfl <| zv rfl (fun w hw => c_impl_cut line ([32] : List UInt8)) <| Qm rfl <| Qx rfl rfl <| Qx rfl rfl <| Qx rfl rfl <| Qa rfl <| Qa rfl <| Qa rfl <| zJ <| zS ?_
 refine Qm rfl <| Qe rfl rfl <| JL.nil ?_
 refine zi (fun h1 h1' => ?_) fun h1 h1' => ?_
 ·
  have h0 : at_ = 0 := by simpa using h1
  refine zS <| Qm rfl <| zp rfl (fun w hw => c_impl_ReadRules ((M.cutS line ([32] : List UInt8)).2.1) (ok_ hw)) ?_
  intro u2 x2
  refine Qm rfl <| Qx rfl rfl <| Qx rfl rfl <| za zeh fun b3 => zw 0 rfl rfl rfl ?_
  refine Qa rfl <| zJ <| zS <| Qm rfl <| Qq (p_neqT und_9 rfl rfl) <| Qm rfl <| zg (Gd.f1 rfl rfl rfl) (fun hc => p_move rfl) <| zg (Gd.f1 rfl rfl rfl) (fun hc => p_not (gh hc rfl)) <| Qq (p_pickOr rfl rfl rfl) <| JL.nil ?_
  refine zi (fun h4 h4' => ?_) fun h4 h4' => ?_
  ·
   have hV := M.headI_0n (g := x_game) (t := line) h0 (fun ⟨d1, d2⟩ => by have h9 := h4; rw [d2] at h9; simp [d1, M.rulesW] at h9)
   refine zS <| Qa rfl <| JL.nil ?_
   refine zrb [1, 1, 1, 1, 1, 1] hb x2 ?_
   have hE : (.int .i64 1 : Value) = .int .i64 ((M.headI x_game at_ line).2) := rp_ hV
   have hE1 : (((M.headI x_game at_ line).1).rules).pits = x_game.rules.pits := rp_ hV
   have hE2 : (((M.headI x_game at_ line).1).rules).seeds = x_game.rules.seeds := rp_ hV
   have hE3 : (((M.headI x_game at_ line).1).rules).stores = x_game.rules.stores := rp_ hV
   have hE4 : (((M.headI x_game at_ line).1).rules).skip = x_game.rules.skip := rp_ hV
   have hE5 : (((M.headI x_game at_ line).1).rules).relay = x_game.rules.relay := rp_ hV
   have hE6 : (((M.headI x_game at_ line).1).rules).feed = x_game.rules.feed := rp_ hV
   have hE7 : (((M.headI x_game at_ line).1).rules).again = x_game.rules.again := rp_ hV
   have hE8 : (((M.headI x_game at_ line).1).rules).capture = x_game.rules.capture := rp_ hV
   have hE9 : (((M.headI x_game at_ line).1).rules).slam = x_game.rules.slam := rp_ hV
   have hN10 : ((((M.headI x_game at_ line).1).start).pits).length = x_game.start.pits.length := rp_ hV
   have hE10 : (((M.headI x_game at_ line).1).start).pits = x_game.start.pits := rp_ hV
   have hN11 : ((((M.headI x_game at_ line).1).start).stores).length = x_game.start.stores.length := rp_ hV
   have hE11 : (((M.headI x_game at_ line).1).start).stores = x_game.start.stores := rp_ hV
   have hE12 : (((M.headI x_game at_ line).1).start).player = x_game.start.player := rp_ hV
   have hN13 : (((M.headI x_game at_ line).1).moves).length = x_game.moves.length := rp_ hV
   have hE13 : ((M.headI x_game at_ line).1).moves = x_game.moves := rp_ hV
   have hN14 : ((((M.headI x_game at_ line).1).now).pits).length = x_game.now.pits.length := rp_ hV
   have hE14 : (((M.headI x_game at_ line).1).now).pits = x_game.now.pits := rp_ hV
   have hN15 : ((((M.headI x_game at_ line).1).now).stores).length = x_game.now.stores.length := rp_ hV
   have hE15 : (((M.headI x_game at_ line).1).now).stores = x_game.now.stores := rp_ hV
   have hE16 : (((M.headI x_game at_ line).1).now).player = x_game.now.player := rp_ hV
   have hE17 : ((M.headI x_game at_ line).1).resigned = x_game.resigned := rp_ hV
   refine ⟨Ax_9, cx_9, gx_9, Ax_10, cx_10, gx_10, Ax_12, cx_12, gx_12, Ax_13, cx_13, gx_13, Ax_14, cx_14, gx_14, hE, ?_, ?_, ?_, ?_, ?_, ?_, ?_, ?_, ?_, ?_, ?_⟩
   · rw [hE1, hE2, hE3, hE4, hE5, hE6, hE7, hE8, hE9, hN10, hE10, hN11, hE11, hE12, hN13, hE13, hN14, hE14, hN15, hE15, hE16, hE17]
   all_goals (first | (rw [hE1, hE2, hE3, hE4, hE5, hE6, hE7, hE8, hE9, hN10, hE10, hN11, hE11, hE12, hN13, hE13, hN14, hE14, hN15, hE15, hE16, hE17]; omega) | omega | (simp only [*]; omega) | (simp; done))
  have hV := M.headI_0y (g := x_game) (t := line) h0 (by have h9 := h4; simp at h9; exact h9.1) (by have h9 := h4; simp at h9; exact h9.2)
  refine Js.skip <| zS <| Qm rfl <| Q9 0 rfl rfl ?_
  refine Qc rfl <| Qf fh rfl <| Qf fh rfl <| zw 1 rfl rfl rfl ?_
  refine zN <| Qa rfl <| JL.nil ?_
  refine zrb [1, 1, 1, 1, 1, 1] hb x2 ?_
  have hE : (.int .i64 0 : Value) = .int .i64 ((M.headI x_game at_ line).2) := rp_ hV
  have hE1 : (((M.headI x_game at_ line).1).rules).pits = (((M.readR ((M.cutS line ([32] : List UInt8)).2.1)).1).pits) := rp_ hV
  have hE2 : (((M.headI x_game at_ line).1).rules).seeds = (((M.readR ((M.cutS line ([32] : List UInt8)).2.1)).1).seeds) := rp_ hV
  have hE3 : (((M.headI x_game at_ line).1).rules).stores = (((M.readR ((M.cutS line ([32] : List UInt8)).2.1)).1).stores) := rp_ hV
  have hE4 : (((M.headI x_game at_ line).1).rules).skip = (((M.readR ((M.cutS line ([32] : List UInt8)).2.1)).1).skip) := rp_ hV
  have hE5 : (((M.headI x_game at_ line).1).rules).relay = (((M.readR ((M.cutS line ([32] : List UInt8)).2.1)).1).relay) := rp_ hV
  have hE6 : (((M.headI x_game at_ line).1).rules).feed = (((M.readR ((M.cutS line ([32] : List UInt8)).2.1)).1).feed) := rp_ hV
  have hE7 : (((M.headI x_game at_ line).1).rules).again = (((M.readR ((M.cutS line ([32] : List UInt8)).2.1)).1).again) := rp_ hV
  have hE8 : (((M.headI x_game at_ line).1).rules).capture = (((M.readR ((M.cutS line ([32] : List UInt8)).2.1)).1).capture) := rp_ hV
  have hE9 : (((M.headI x_game at_ line).1).rules).slam = (((M.readR ((M.cutS line ([32] : List UInt8)).2.1)).1).slam) := rp_ hV
  have hN10 : ((((M.headI x_game at_ line).1).start).pits).length = x_game.start.pits.length := rp_ hV
  have hE10 : (((M.headI x_game at_ line).1).start).pits = x_game.start.pits := rp_ hV
  have hN11 : ((((M.headI x_game at_ line).1).start).stores).length = x_game.start.stores.length := rp_ hV
  have hE11 : (((M.headI x_game at_ line).1).start).stores = x_game.start.stores := rp_ hV
  have hE12 : (((M.headI x_game at_ line).1).start).player = x_game.start.player := rp_ hV
  have hN13 : (((M.headI x_game at_ line).1).moves).length = x_game.moves.length := rp_ hV
  have hE13 : ((M.headI x_game at_ line).1).moves = x_game.moves := rp_ hV
  have hN14 : ((((M.headI x_game at_ line).1).now).pits).length = x_game.now.pits.length := rp_ hV
  have hE14 : (((M.headI x_game at_ line).1).now).pits = x_game.now.pits := rp_ hV
  have hN15 : ((((M.headI x_game at_ line).1).now).stores).length = x_game.now.stores.length := rp_ hV
  have hE15 : (((M.headI x_game at_ line).1).now).stores = x_game.now.stores := rp_ hV
  have hE16 : (((M.headI x_game at_ line).1).now).player = x_game.now.player := rp_ hV
  have hE17 : ((M.headI x_game at_ line).1).resigned = x_game.resigned := rp_ hV
  refine ⟨Ax_9, cx_9, gx_9, Ax_10, cx_10, gx_10, Ax_12, cx_12, gx_12, Ax_13, cx_13, gx_13, Ax_14, cx_14, gx_14, hE, ?_, ?_, ?_, ?_, ?_, ?_, ?_, ?_, ?_, ?_, ?_⟩
  · rw [hE1, hE2, hE3, hE4, hE5, hE6, hE7, hE8, hE9, hN10, hE10, hN11, hE11, hE12, hN13, hE13, hN14, hE14, hN15, hE15, hE16, hE17]
  all_goals (first | (rw [hE1, hE2, hE3, hE4, hE5, hE6, hE7, hE8, hE9, hN10, hE10, hN11, hE11, hE12, hN13, hE13, hN14, hE14, hN15, hE15, hE16, hE17]; omega) | omega | (simp only [*]; omega) | (simp; done))
 have h0 : ¬ at_ = 0 := by simpa using h1
 refine Js.skip <| zS <| Qm rfl <| Qc rfl <| Qf fh rfl <| Qf fh rfl <| Q9 0 rfl rfl ?_
 refine Qm rfl <| zc rfl (fun w hw => c_impl_ReadPosition x_game.rules ((M.cutS line ([32] : List UInt8)).2.1) (ok_ hw) (ok_ hw)) ?_
 intro A7 c7 bl7 bh7 A8 c8 bl8 bh8
 refine Qm rfl <| Qx rfl rfl <| Qx rfl rfl <| za zeh fun b9 => zw 0 rfl rfl rfl ?_
 refine Qa rfl <| zJ <| zS <| Qm rfl <| Qq (p_neqT und_9 rfl rfl) <| Qm rfl <| zg (Gd.f1 rfl rfl rfl) (fun hc => p_move rfl) <| zg (Gd.f1 rfl rfl rfl) (fun hc => p_not (gh hc rfl)) <| Qq (p_pickOr rfl rfl rfl) <| JL.nil ?_
 refine zi (fun h10 h10' => ?_) fun h10 h10' => ?_
 ·
  have hV := M.headI_1n (g := x_game) (t := line) h0 (fun ⟨d1, d2⟩ => by have h9 := h10; rw [d2] at h9; simp [d1, M.startW] at h9)
  refine zS <| Qa rfl <| JL.nil ?_
  refine zrb [3, 3, 3, 3, 3, 3] hb (Up.refl _ _) ?_
  have hE : (.int .i64 2 : Value) = .int .i64 ((M.headI x_game at_ line).2) := rp_ hV
  have hE1 : (((M.headI x_game at_ line).1).rules).pits = x_game.rules.pits := rp_ hV
  have hE2 : (((M.headI x_game at_ line).1).rules).seeds = x_game.rules.seeds := rp_ hV
  have hE3 : (((M.headI x_game at_ line).1).rules).stores = x_game.rules.stores := rp_ hV
  have hE4 : (((M.headI x_game at_ line).1).rules).skip = x_game.rules.skip := rp_ hV
  have hE5 : (((M.headI x_game at_ line).1).rules).relay = x_game.rules.relay := rp_ hV
  have hE6 : (((M.headI x_game at_ line).1).rules).feed = x_game.rules.feed := rp_ hV
  have hE7 : (((M.headI x_game at_ line).1).rules).again = x_game.rules.again := rp_ hV
  have hE8 : (((M.headI x_game at_ line).1).rules).capture = x_game.rules.capture := rp_ hV
  have hE9 : (((M.headI x_game at_ line).1).rules).slam = x_game.rules.slam := rp_ hV
  have hN10 : ((((M.headI x_game at_ line).1).start).pits).length = x_game.start.pits.length := rp_ hV
  have hE10 : (((M.headI x_game at_ line).1).start).pits = x_game.start.pits := rp_ hV
  have hN11 : ((((M.headI x_game at_ line).1).start).stores).length = x_game.start.stores.length := rp_ hV
  have hE11 : (((M.headI x_game at_ line).1).start).stores = x_game.start.stores := rp_ hV
  have hE12 : (((M.headI x_game at_ line).1).start).player = x_game.start.player := rp_ hV
  have hN13 : (((M.headI x_game at_ line).1).moves).length = x_game.moves.length := rp_ hV
  have hE13 : ((M.headI x_game at_ line).1).moves = x_game.moves := rp_ hV
  have hN14 : ((((M.headI x_game at_ line).1).now).pits).length = x_game.now.pits.length := rp_ hV
  have hE14 : (((M.headI x_game at_ line).1).now).pits = x_game.now.pits := rp_ hV
  have hN15 : ((((M.headI x_game at_ line).1).now).stores).length = x_game.now.stores.length := rp_ hV
  have hE15 : (((M.headI x_game at_ line).1).now).stores = x_game.now.stores := rp_ hV
  have hE16 : (((M.headI x_game at_ line).1).now).player = x_game.now.player := rp_ hV
  have hE17 : ((M.headI x_game at_ line).1).resigned = x_game.resigned := rp_ hV
  refine ⟨Ax_9, cx_9, gx_9, Ax_10, cx_10, gx_10, Ax_12, cx_12, gx_12, Ax_13, cx_13, gx_13, Ax_14, cx_14, gx_14, hE, ?_, ?_, ?_, ?_, ?_, ?_, ?_, ?_, ?_, ?_, ?_⟩
  · rw [hE1, hE2, hE3, hE4, hE5, hE6, hE7, hE8, hE9, hN10, hE10, hN11, hE11, hE12, hN13, hE13, hN14, hE14, hN15, hE15, hE16, hE17]
  all_goals (first | (rw [hE1, hE2, hE3, hE4, hE5, hE6, hE7, hE8, hE9, hN10, hE10, hN11, hE11, hE12, hN13, hE13, hN14, hE14, hN15, hE15, hE16, hE17]; omega) | omega | (simp only [*]; omega) | (simp; done))
 have hV := M.headI_1y (g := x_game) (t := line) h0 (by have h9 := h10; simp at h9; exact h9.1) (by have h9 := h10; simp at h9; exact h9.2)
 refine Js.skip <| Js.seq ?_
 refine zdr [12] ?_
 refine jM 0 rfl rfl ?_
 refine jM 1 rfl rfl ?_
 refine jN 2 rfl rfl ?_
 refine jF 3 fld_157_0 rfl rfl ?_
 refine jF 4 fld_53_0 rfl rfl ?_
 refine JH.q 5 rfl (L9 3 rfl rfl) ?_
 refine JH.q 6 rfl (L9 0 rfl rfl) ?_
 refine JH.q 7 rfl (L9 0 rfl rfl) ?_
 refine y1 8 ?_
 refine yc rfl rfl (fun w hw => c_impl_Position_copied ((M.readP x_game.rules ((M.cutS line ([32] : List UInt8)).2.1)).1) (ok_ hw)) ?_
 intro A12 c12 bl12 bh12 A13 c13 bl13 bh13
 refine JH.p 9 rfl (q_bld) ?_
 refine jN 10 rfl rfl ?_
 refine jF 11 fld_157_0 rfl rfl ?_
 refine y1 12 ?_
 refine yst rfl rfl rfl ?_
 refine yd ?_
 refine zS <| Qa rfl <| JL.nil ?_
 refine Js.conv (fun w hw => St.nilRow 2 hw) ?_
 refine zrb [6, 5, 4, 0, 1, 0] hb (Up.refl _ _) ?_
 have hE : (.int .i64 0 : Value) = .int .i64 ((M.headI x_game at_ line).2) := rp_ hV
 have hE1 : (((M.headI x_game at_ line).1).rules).pits = x_game.rules.pits := rp_ hV
 have hE2 : (((M.headI x_game at_ line).1).rules).seeds = x_game.rules.seeds := rp_ hV
 have hE3 : (((M.headI x_game at_ line).1).rules).stores = x_game.rules.stores := rp_ hV
 have hE4 : (((M.headI x_game at_ line).1).rules).skip = x_game.rules.skip := rp_ hV
 have hE5 : (((M.headI x_game at_ line).1).rules).relay = x_game.rules.relay := rp_ hV
 have hE6 : (((M.headI x_game at_ line).1).rules).feed = x_game.rules.feed := rp_ hV
 have hE7 : (((M.headI x_game at_ line).1).rules).again = x_game.rules.again := rp_ hV
 have hE8 : (((M.headI x_game at_ line).1).rules).capture = x_game.rules.capture := rp_ hV
 have hE9 : (((M.headI x_game at_ line).1).rules).slam = x_game.rules.slam := rp_ hV
 have hN10 : ((((M.headI x_game at_ line).1).start).pits).length = (((M.readP x_game.rules ((M.cutS line ([32] : List UInt8)).2.1)).1).pits).length := rp_ hV
 have hE10 : (((M.headI x_game at_ line).1).start).pits = (((M.readP x_game.rules ((M.cutS line ([32] : List UInt8)).2.1)).1).pits) := rp_ hV
 have hN11 : ((((M.headI x_game at_ line).1).start).stores).length = (((M.readP x_game.rules ((M.cutS line ([32] : List UInt8)).2.1)).1).stores).length := rp_ hV
 have hE11 : (((M.headI x_game at_ line).1).start).stores = (((M.readP x_game.rules ((M.cutS line ([32] : List UInt8)).2.1)).1).stores) := rp_ hV
 have hE12 : (((M.headI x_game at_ line).1).start).player = (((M.readP x_game.rules ((M.cutS line ([32] : List UInt8)).2.1)).1).player) := rp_ hV
 have hN13 : (((M.headI x_game at_ line).1).moves).length = ([] : List Int).length := rp_ hV
 have hE13 : ((M.headI x_game at_ line).1).moves = ([] : List Int) := rp_ hV
 have hN14 : ((((M.headI x_game at_ line).1).now).pits).length = (((M.readP x_game.rules ((M.cutS line ([32] : List UInt8)).2.1)).1).pits).length := rp_ hV
 have hE14 : (((M.headI x_game at_ line).1).now).pits = (((M.readP x_game.rules ((M.cutS line ([32] : List UInt8)).2.1)).1).pits) := rp_ hV
 have hN15 : ((((M.headI x_game at_ line).1).now).stores).length = (((M.readP x_game.rules ((M.cutS line ([32] : List UInt8)).2.1)).1).stores).length := rp_ hV
 have hE15 : (((M.headI x_game at_ line).1).now).stores = (((M.readP x_game.rules ((M.cutS line ([32] : List UInt8)).2.1)).1).stores) := rp_ hV
 have hE16 : (((M.headI x_game at_ line).1).now).player = (((M.readP x_game.rules ((M.cutS line ([32] : List UInt8)).2.1)).1).player) := rp_ hV
 have hE17 : ((M.headI x_game at_ line).1).resigned = (-1) := rp_ hV
 refine ⟨A7, c7, [], A8, c8, [], none, 0, [], A12, c12, [], A13, c13, [], hE, ?_, ?_, ?_, ?_, ?_, ?_, ?_, ?_, ?_, ?_, ?_⟩
 · first | (rw [hE1, hE2, hE3, hE4, hE5, hE6, hE7, hE8, hE9, hN10, hE10, hN11, hE11, hE12, hN13, hE13, hN14, hE14, hN15, hE15, hE16, hE17]; done) | (rw [hE1, hE2, hE3, hE4, hE5, hE6, hE7, hE8, hE9, hN10, hE10, hN11, hE11, hE12, hN13, hE13, hN14, hE14, hN15, hE15, hE16, hE17]; rfl)
 all_goals (first | (rw [hE1, hE2, hE3, hE4, hE5, hE6, hE7, hE8, hE9, hN10, hE10, hN11, hE11, hE12, hN13, hE13, hN14, hE14, hN15, hE15, hE16, hE17]; omega) | omega | (simp only [*]; omega) | (simp; done) | (simp [hE1, hE2, hE3, hE4, hE5, hE6, hE7, hE8, hE9, hN10, hE10, hN11, hE11, hE12, hN13, hE13, hN14, hE14, hN15, hE15, hE16, hE17]; done))
theorem c_impl_recordReader_line (x_game : M.Gam) {Ax_9 : Option Addr} {cx_9 : Nat} {gx_9 : List Nat} {Ax_10 : Option Addr} {cx_10 : Nat} {gx_10 : List Nat} {Ax_12 : Option Addr} {cx_12 : Nat} {gx_12 : List Nat} {Ax_13 : Option Addr} {cx_13 : Nat} {gx_13 : List Nat} {Ax_14 : Option Addr} {cx_14 : Nat} {gx_14 : List Nat} (line : List UInt8) {bx : Nat} {w : World} (hb : Bw w [boxO bx [.int .i64 x_game.rules.pits, .int .i64 x_game.rules.seeds, .bool x_game.rules.stores, .bool x_game.rules.skip, .bool x_game.rules.relay, .bool x_game.rules.feed, .bool x_game.rules.again, .int .i64 x_game.rules.capture, .int .i64 x_game.rules.slam, .slice Ax_9 x_game.start.pits.length cx_9, .slice Ax_10 x_game.start.stores.length cx_10, .int .i64 x_game.start.player, .slice Ax_12 x_game.moves.length cx_12, .slice Ax_13 x_game.now.pits.length cx_13, .slice Ax_14 x_game.now.stores.length cx_14, .int .i64 x_game.now.player, .int .i64 x_game.resigned] 157, rowO 2 1 (.slice Ax_9 x_game.start.pits.length cx_9) x_game.start.pits.length (ints_ x_game.start.pits) gx_9, rowO 2 1 (.slice Ax_10 x_game.start.stores.length cx_10) x_game.start.stores.length (ints_ x_game.start.stores) gx_10, rowO 2 1 (.slice Ax_12 x_game.moves.length cx_12) x_game.moves.length (ints_ x_game.moves) gx_12, rowO 2 1 (.slice Ax_13 x_game.now.pits.length cx_13) x_game.now.pits.length (ints_ x_game.now.pits) gx_13, rowO 2 1 (.slice Ax_14 x_game.now.stores.length cx_14) x_game.now.stores.length (ints_ x_game.now.stores) gx_14]) (h_tab : tabT.ok (offW w (([boxO bx [.int .i64 x_game.rules.pits, .int .i64 x_game.rules.seeds, .bool x_game.rules.stores, .bool x_game.rules.skip, .bool x_game.rules.relay, .bool x_game.rules.feed, .bool x_game.rules.again, .int .i64 x_game.rules.capture, .int .i64 x_game.rules.slam, .slice Ax_9 x_game.start.pits.length cx_9, .slice Ax_10 x_game.start.stores.length cx_10, .int .i64 x_game.start.player, .slice Ax_12 x_game.moves.length cx_12, .slice Ax_13 x_game.now.pits.length cx_13, .slice Ax_14 x_game.now.stores.length cx_14, .int .i64 x_game.now.player, .int .i64 x_game.resigned] 157, rowO 2 1 (.slice Ax_9 x_game.start.pits.length cx_9) x_game.start.pits.length (ints_ x_game.start.pits) gx_9, rowO 2 1 (.slice Ax_10 x_game.start.stores.length cx_10) x_game.start.stores.length (ints_ x_game.start.stores) gx_10, rowO 2 1 (.slice Ax_12 x_game.moves.length cx_12) x_game.moves.length (ints_ x_game.moves) gx_12, rowO 2 1 (.slice Ax_13 x_game.now.pits.length cx_13) x_game.now.pits.length (ints_ x_game.now.pits) gx_13, rowO 2 1 (.slice Ax_14 x_game.now.stores.length cx_14) x_game.now.stores.length (ints_ x_game.now.stores) gx_14] : List Own).flatMap (·.fp))) undef) (bd0 : x_game.start.pits.length ≤ cx_9 := by exact om_) (bd1 : cx_9 ≤ 9223372036854775807 := by exact om_) (bd2 : x_game.start.stores.length ≤ cx_10 := by exact om_) (bd3 : cx_10 ≤ 9223372036854775807 := by exact om_) (bd4 : x_game.moves.length ≤ cx_12 := by exact om_) (bd5 : cx_12 ≤ 9223372036854775807 := by exact om_) (bd6 : x_game.now.pits.length ≤ cx_13 := by exact om_) (bd7 : cx_13 ≤ 9223372036854775807 := by exact om_) (bd8 : x_game.now.stores.length ≤ cx_14 := by exact om_) (bd9 : cx_14 ≤ 9223372036854775807 := by exact om_) (r0 : x_game.start.pits.length ≤ 1000 := by exact om_) (r1 : x_game.start.stores.length ≤ 1000 := by exact om_) (r2 : x_game.moves.length ≤ 1000 := by exact om_) (r3 : x_game.now.pits.length ≤ 1000 := by exact om_) (r4 : x_game.now.stores.length ≤ 1000 := by exact om_) (r5 : line.length ≤ 100000 := by exact om_) : RetB Tryz.prog 120 [.pointer (some ⟨bx, 0, none⟩), .string (sB line)] w [boxO bx [.int .i64 x_game.rules.pits, .int .i64 x_game.rules.seeds, .bool x_game.rules.stores, .bool x_game.rules.skip, .bool x_game.rules.relay, .bool x_game.rules.feed, .bool x_game.rules.again, .int .i64 x_game.rules.capture, .int .i64 x_game.rules.slam, .slice Ax_9 x_game.start.pits.length cx_9, .slice Ax_10 x_game.start.stores.length cx_10, .int .i64 x_game.start.player, .slice Ax_12 x_game.moves.length cx_12, .slice Ax_13 x_game.now.pits.length cx_13, .slice Ax_14 x_game.now.stores.length cx_14, .int .i64 x_game.now.player, .int .i64 x_game.resigned] 157, rowO 2 1 (.slice Ax_9 x_game.start.pits.length cx_9) x_game.start.pits.length (ints_ x_game.start.pits) gx_9, rowO 2 1 (.slice Ax_10 x_game.start.stores.length cx_10) x_game.start.stores.length (ints_ x_game.start.stores) gx_10, rowO 2 1 (.slice Ax_12 x_game.moves.length cx_12) x_game.moves.length (ints_ x_game.moves) gx_12, rowO 2 1 (.slice Ax_13 x_game.now.pits.length cx_13) x_game.now.pits.length (ints_ x_game.now.pits) gx_13, rowO 2 1 (.slice Ax_14 x_game.now.stores.length cx_14) x_game.now.stores.length (ints_ x_game.now.stores) gx_14] (fun v bs' => ∃ (Axx_9 : Option Addr) (cxx_9 : Nat) (gxx_9 : List Nat) (Axx_10 : Option Addr) (cxx_10 : Nat) (gxx_10 : List Nat) (Axx_12 : Option Addr) (cxx_12 : Nat) (gxx_12 : List Nat) (Axx_13 : Option Addr) (cxx_13 : Nat) (gxx_13 : List Nat) (Axx_14 : Option Addr) (cxx_14 : Nat) (gxx_14 : List Nat), v = .int .i64 ((M.lineI x_game line).2) ∧ bs' = [boxO bx [.int .i64 ((((M.lineI x_game line).1).rules).pits), .int .i64 ((((M.lineI x_game line).1).rules).seeds), .bool ((((M.lineI x_game line).1).rules).stores), .bool ((((M.lineI x_game line).1).rules).skip), .bool ((((M.lineI x_game line).1).rules).relay), .bool ((((M.lineI x_game line).1).rules).feed), .bool ((((M.lineI x_game line).1).rules).again), .int .i64 ((((M.lineI x_game line).1).rules).capture), .int .i64 ((((M.lineI x_game line).1).rules).slam), .slice Axx_9 (((((M.lineI x_game line).1).start).pits).length) cxx_9, .slice Axx_10 (((((M.lineI x_game line).1).start).stores).length) cxx_10, .int .i64 ((((M.lineI x_game line).1).start).player), .slice Axx_12 ((((M.lineI x_game line).1).moves).length) cxx_12, .slice Axx_13 (((((M.lineI x_game line).1).now).pits).length) cxx_13, .slice Axx_14 (((((M.lineI x_game line).1).now).stores).length) cxx_14, .int .i64 ((((M.lineI x_game line).1).now).player), .int .i64 (((M.lineI x_game line).1).resigned)] 157, rowO 2 1 (.slice Axx_9 (((((M.lineI x_game line).1).start).pits).length) cxx_9) (((((M.lineI x_game line).1).start).pits).length) (ints_ ((((M.lineI x_game line).1).start).pits)) gxx_9, rowO 2 1 (.slice Axx_10 (((((M.lineI x_game line).1).start).stores).length) cxx_10) (((((M.lineI x_game line).1).start).stores).length) (ints_ ((((M.lineI x_game line).1).start).stores)) gxx_10, rowO 2 1 (.slice Axx_12 ((((M.lineI x_game line).1).moves).length) cxx_12) ((((M.lineI x_game line).1).moves).length) (ints_ (((M.lineI x_game line).1).moves)) gxx_12, rowO 2 1 (.slice Axx_13 (((((M.lineI x_game line).1).now).pits).length) cxx_13) (((((M.lineI x_game line).1).now).pits).length) (ints_ ((((M.lineI x_game line).1).now).pits)) gxx_13, rowO 2 1 (.slice Axx_14 (((((M.lineI x_game line).1).now).stores).length) cxx_14) (((((M.lineI x_game line).1).now).stores).length) (ints_ ((((M.lineI x_game line).1).now).stores)) gxx_14] ∧ ((((M.lineI x_game line).1).start).pits).length ≤ cxx_9 ∧ cxx_9 ≤ 9223372036854775807 ∧ ((((M.lineI x_game line).1).start).stores).length ≤ cxx_10 ∧ cxx_10 ≤ 9223372036854775807 ∧ (((M.lineI x_game line).1).moves).length ≤ cxx_12 ∧ cxx_12 ≤ 9223372036854775807 ∧ ((((M.lineI x_game line).1).now).pits).length ≤ cxx_13 ∧ cxx_13 ≤ 9223372036854775807 ∧ ((((M.lineI x_game line).1).now).stores).length ≤ cxx_14 ∧ cxx_14 ≤ 9223372036854775807) := by
 refine enterB hb @Tryz.func120 @Tryz.ntmps120 rfl rfl ?_
 refine zent ?_
 refine Js.trashE ?_
 refine zn ?_
 refine zS <| Qa rfl <| zJ <| zS <| Qm rfl <| Qc rfl <| Qf fh rfl <| Qf fh rfl <| Q0 0 rfl rfl rfl <| Qh rfl rfl <| JL.nil ?_
 refine zi (fun h1 h1' => ?_) fun h1 h1' => ?_
 ·
  have hV := M.lineI_7 (t := line) (by simpa using h1)
  refine zS <| Qa rfl <| JL.nil ?_
  refine zrb [0, 0, 0, 0, 0, 0] hb (Up.refl _ _) ?_
  have hE : (.int .i64 7 : Value) = .int .i64 ((M.lineI x_game line).2) := by first | (rw [hV]; done) | (rw [hV]; rfl) | (rw [hV]; simp_all [M.res0, M.res1, M.resG]; done)
  have hE1 : (((M.lineI x_game line).1).rules).pits = x_game.rules.pits := by first | (rw [hV]; done) | (rw [hV]; rfl) | (rw [hV]; simp_all [M.res0, M.res1, M.resG]; done)
  have hE2 : (((M.lineI x_game line).1).rules).seeds = x_game.rules.seeds := by first | (rw [hV]; done) | (rw [hV]; rfl) | (rw [hV]; simp_all [M.res0, M.res1, M.resG]; done)
  have hE3 : (((M.lineI x_game line).1).rules).stores = x_game.rules.stores := by first | (rw [hV]; done) | (rw [hV]; rfl) | (rw [hV]; simp_all [M.res0, M.res1, M.resG]; done)
  have hE4 : (((M.lineI x_game line).1).rules).skip = x_game.rules.skip := by first | (rw [hV]; done) | (rw [hV]; rfl) | (rw [hV]; simp_all [M.res0, M.res1, M.resG]; done)
  have hE5 : (((M.lineI x_game line).1).rules).relay = x_game.rules.relay := by first | (rw [hV]; done) | (rw [hV]; rfl) | (rw [hV]; simp_all [M.res0, M.res1, M.resG]; done)
  have hE6 : (((M.lineI x_game line).1).rules).feed = x_game.rules.feed := by first | (rw [hV]; done) | (rw [hV]; rfl) | (rw [hV]; simp_all [M.res0, M.res1, M.resG]; done)
  have hE7 : (((M.lineI x_game line).1).rules).again = x_game.rules.again := by first | (rw [hV]; done) | (rw [hV]; rfl) | (rw [hV]; simp_all [M.res0, M.res1, M.resG]; done)
  have hE8 : (((M.lineI x_game line).1).rules).capture = x_game.rules.capture := by first | (rw [hV]; done) | (rw [hV]; rfl) | (rw [hV]; simp_all [M.res0, M.res1, M.resG]; done)
  have hE9 : (((M.lineI x_game line).1).rules).slam = x_game.rules.slam := by first | (rw [hV]; done) | (rw [hV]; rfl) | (rw [hV]; simp_all [M.res0, M.res1, M.resG]; done)
  have hN10 : ((((M.lineI x_game line).1).start).pits).length = x_game.start.pits.length := rp_ hV
  have hE10 : (((M.lineI x_game line).1).start).pits = x_game.start.pits := by first | (rw [hV]; done) | (rw [hV]; rfl) | (rw [hV]; simp_all [M.res0, M.res1, M.resG]; done)
  have hN11 : ((((M.lineI x_game line).1).start).stores).length = x_game.start.stores.length := rp_ hV
  have hE11 : (((M.lineI x_game line).1).start).stores = x_game.start.stores := by first | (rw [hV]; done) | (rw [hV]; rfl) | (rw [hV]; simp_all [M.res0, M.res1, M.resG]; done)
  have hE12 : (((M.lineI x_game line).1).start).player = x_game.start.player := by first | (rw [hV]; done) | (rw [hV]; rfl) | (rw [hV]; simp_all [M.res0, M.res1, M.resG]; done)
  have hN13 : (((M.lineI x_game line).1).moves).length = x_game.moves.length := rp_ hV
  have hE13 : ((M.lineI x_game line).1).moves = x_game.moves := by first | (rw [hV]; done) | (rw [hV]; rfl) | (rw [hV]; simp_all [M.res0, M.res1, M.resG]; done)
  have hN14 : ((((M.lineI x_game line).1).now).pits).length = x_game.now.pits.length := rp_ hV
  have hE14 : (((M.lineI x_game line).1).now).pits = x_game.now.pits := by first | (rw [hV]; done) | (rw [hV]; rfl) | (rw [hV]; simp_all [M.res0, M.res1, M.resG]; done)
  have hN15 : ((((M.lineI x_game line).1).now).stores).length = x_game.now.stores.length := rp_ hV
  have hE15 : (((M.lineI x_game line).1).now).stores = x_game.now.stores := by first | (rw [hV]; done) | (rw [hV]; rfl) | (rw [hV]; simp_all [M.res0, M.res1, M.resG]; done)
  have hE16 : (((M.lineI x_game line).1).now).player = x_game.now.player := by first | (rw [hV]; done) | (rw [hV]; rfl) | (rw [hV]; simp_all [M.res0, M.res1, M.resG]; done)
  have hE17 : ((M.lineI x_game line).1).resigned = x_game.resigned := by first | (rw [hV]; done) | (rw [hV]; rfl) | (rw [hV]; simp_all [M.res0, M.res1, M.resG]; done)
  refine ⟨Ax_9, cx_9, gx_9, Ax_10, cx_10, gx_10, Ax_12, cx_12, gx_12, Ax_13, cx_13, gx_13, Ax_14, cx_14, gx_14, hE, ?_, ?_, ?_, ?_, ?_, ?_, ?_, ?_, ?_, ?_, ?_⟩
  · rw [hE1, hE2, hE3, hE4, hE5, hE6, hE7, hE8, hE9, hN10, hE10, hN11, hE11, hE12, hN13, hE13, hN14, hE14, hN15, hE15, hE16, hE17]
  all_goals (first | (rw [hE1, hE2, hE3, hE4, hE5, hE6, hE7, hE8, hE9, hN10, hE10, hN11, hE11, hE12, hN13, hE13, hN14, hE14, hN15, hE15, hE16, hE17]; omega) | omega | (simp only [*]; omega) | (simp; done))
 have n7 : ¬ 0 ≤ x_game.resigned := by simpa using h1
 refine Js.skip <| Js.seq <| zS <| Qm rfl <| Qq (p_eqlT und_9 rfl rfl) <| Qm rfl <| zg (Gd.f1 rfl rfl rfl) (fun hc => p_move rfl) <| zg (Gd.f1 rfl rfl rfl) (fun hc => p_eqlT und_9 (gh hc rfl) rfl) <| Qq (p_pickOr rfl rfl rfl) <| JL.nil ?_
 refine zi (fun h2 h2' => ?_) fun h2 h2' => ?_
 ·
  have hr : line = M.res0 ∨ line = M.res1 := by have h9 := h2; simpa [M.res0, M.res1] using h9
  have hll : line.length = 9 := by rcases hr with h | h <;> (rw [h]; rfl)
  have hbv : IntKind.u8.wrap (M.bat line (((line.length : Int) - 1).toNat) - 48) = 0 ∨ IntKind.u8.wrap (M.bat line (((line.length : Int) - 1).toNat) - 48) = 1 := by rcases hr with h | h <;> rw [h] <;> decide
  have hV : M.lineI x_game line = (M.resG x_game (IntKind.u8.wrap (M.bat line (((line.length : Int) - 1).toNat) - 48)), 0) := by rcases hr with h | h; (rw [M.lineI_r0 n7 h, h]; rfl); (rw [M.lineI_r1 n7 h, h]; rfl)
  have hbt3 := M.bat_bd line (((line.length : Int) - 1).toNat)
  refine zS <| Qm rfl <| Qm rfl <| Qm rfl <| Qq (p_lenS und_9 rfl) <| Qs rfl rfl <| Qq (p_byteS (i := ((line.length : Int) - 1).toNat) und_9 rfl (by rw [Int.toNat_of_nonneg (by omega)]; exact rfl) (by omega)) <| Qq (p_sub rfl rfl rfl) <| Qq (p_conv @Tryz.underlying5 @Tryz.underlying2 rfl (IntWalk.i64_in _ (by omega))) <| Qc rfl <| Qf fh rfl <| Qf fh rfl <| zw 0 rfl rfl rfl ?_
  refine zN <| Qa rfl <| JL.nil ?_
  refine zrb [0, 0, 0, 0, 0, 0] hb (Up.refl _ _) ?_
  have hE : (.int .i64 0 : Value) = .int .i64 ((M.lineI x_game line).2) := by first | (rw [hV]; done) | (rw [hV]; rfl) | (rw [hV]; simp_all [M.res0, M.res1, M.resG]; done)
  have hE1 : (((M.lineI x_game line).1).rules).pits = x_game.rules.pits := by first | (rw [hV]; done) | (rw [hV]; rfl) | (rw [hV]; simp_all [M.res0, M.res1, M.resG]; done)
  have hE2 : (((M.lineI x_game line).1).rules).seeds = x_game.rules.seeds := by first | (rw [hV]; done) | (rw [hV]; rfl) | (rw [hV]; simp_all [M.res0, M.res1, M.resG]; done)
  have hE3 : (((M.lineI x_game line).1).rules).stores = x_game.rules.stores := by first | (rw [hV]; done) | (rw [hV]; rfl) | (rw [hV]; simp_all [M.res0, M.res1, M.resG]; done)
  have hE4 : (((M.lineI x_game line).1).rules).skip = x_game.rules.skip := by first | (rw [hV]; done) | (rw [hV]; rfl) | (rw [hV]; simp_all [M.res0, M.res1, M.resG]; done)
  have hE5 : (((M.lineI x_game line).1).rules).relay = x_game.rules.relay := by first | (rw [hV]; done) | (rw [hV]; rfl) | (rw [hV]; simp_all [M.res0, M.res1, M.resG]; done)
  have hE6 : (((M.lineI x_game line).1).rules).feed = x_game.rules.feed := by first | (rw [hV]; done) | (rw [hV]; rfl) | (rw [hV]; simp_all [M.res0, M.res1, M.resG]; done)
  have hE7 : (((M.lineI x_game line).1).rules).again = x_game.rules.again := by first | (rw [hV]; done) | (rw [hV]; rfl) | (rw [hV]; simp_all [M.res0, M.res1, M.resG]; done)
  have hE8 : (((M.lineI x_game line).1).rules).capture = x_game.rules.capture := by first | (rw [hV]; done) | (rw [hV]; rfl) | (rw [hV]; simp_all [M.res0, M.res1, M.resG]; done)
  have hE9 : (((M.lineI x_game line).1).rules).slam = x_game.rules.slam := by first | (rw [hV]; done) | (rw [hV]; rfl) | (rw [hV]; simp_all [M.res0, M.res1, M.resG]; done)
  have hN10 : ((((M.lineI x_game line).1).start).pits).length = x_game.start.pits.length := rp_ hV
  have hE10 : (((M.lineI x_game line).1).start).pits = x_game.start.pits := by first | (rw [hV]; done) | (rw [hV]; rfl) | (rw [hV]; simp_all [M.res0, M.res1, M.resG]; done)
  have hN11 : ((((M.lineI x_game line).1).start).stores).length = x_game.start.stores.length := rp_ hV
  have hE11 : (((M.lineI x_game line).1).start).stores = x_game.start.stores := by first | (rw [hV]; done) | (rw [hV]; rfl) | (rw [hV]; simp_all [M.res0, M.res1, M.resG]; done)
  have hE12 : (((M.lineI x_game line).1).start).player = x_game.start.player := by first | (rw [hV]; done) | (rw [hV]; rfl) | (rw [hV]; simp_all [M.res0, M.res1, M.resG]; done)
  have hN13 : (((M.lineI x_game line).1).moves).length = x_game.moves.length := rp_ hV
  have hE13 : ((M.lineI x_game line).1).moves = x_game.moves := by first | (rw [hV]; done) | (rw [hV]; rfl) | (rw [hV]; simp_all [M.res0, M.res1, M.resG]; done)
  have hN14 : ((((M.lineI x_game line).1).now).pits).length = x_game.now.pits.length := rp_ hV
  have hE14 : (((M.lineI x_game line).1).now).pits = x_game.now.pits := by first | (rw [hV]; done) | (rw [hV]; rfl) | (rw [hV]; simp_all [M.res0, M.res1, M.resG]; done)
  have hN15 : ((((M.lineI x_game line).1).now).stores).length = x_game.now.stores.length := rp_ hV
  have hE15 : (((M.lineI x_game line).1).now).stores = x_game.now.stores := by first | (rw [hV]; done) | (rw [hV]; rfl) | (rw [hV]; simp_all [M.res0, M.res1, M.resG]; done)
  have hE16 : (((M.lineI x_game line).1).now).player = x_game.now.player := by first | (rw [hV]; done) | (rw [hV]; rfl) | (rw [hV]; simp_all [M.res0, M.res1, M.resG]; done)
  have hE17 : ((M.lineI x_game line).1).resigned = (IntKind.u8.wrap ((M.bat line (((line.length : Int) - 1).toNat)) - 48)) := by first | (rw [hV]; done) | (rw [hV]; rfl) | (rw [hV]; simp_all [M.res0, M.res1, M.resG]; done)
  refine ⟨Ax_9, cx_9, gx_9, Ax_10, cx_10, gx_10, Ax_12, cx_12, gx_12, Ax_13, cx_13, gx_13, Ax_14, cx_14, gx_14, hE, ?_, ?_, ?_, ?_, ?_, ?_, ?_, ?_, ?_, ?_, ?_⟩
  · rw [hE1, hE2, hE3, hE4, hE5, hE6, hE7, hE8, hE9, hN10, hE10, hN11, hE11, hE12, hN13, hE13, hN14, hE14, hN15, hE15, hE16, hE17]
  all_goals (first | (rw [hE1, hE2, hE3, hE4, hE5, hE6, hE7, hE8, hE9, hN10, hE10, hN11, hE11, hE12, hN13, hE13, hN14, hE14, hN15, hE15, hE16, hE17]; omega) | omega | (simp only [*]; omega) | (simp; done))
 have hr : ¬ line = M.res0 ∧ ¬ line = M.res1 := by have h9 := h2; simpa [M.res0, M.res1] using h9
 obtain ⟨n0, n1⟩ := hr
 have hlw := M.nextR_law x_game line
 refine Js.skip <| zS <| Qm rfl <| zp rfl (fun w hw => c_impl_numbersOf line (ok_ hw)) ?_
 intro u4 x4
 refine Qm rfl <| Qx rfl rfl <| Qx rfl rfl <| za zeh fun b5 => zw 0 rfl rfl rfl ?_
 refine Qa rfl <| zJ <| zS <| Qm rfl <| Qt rfl <| JL.nil ?_
 refine zi (fun h6 h6' => ?_) fun h6 h6' => ?_
 ·
  have hN := M.nextR_3 (g := x_game) (x := (M.numI line)) (by simpa using h6)
  rw [hlw] at hN
  have hV : M.lineI x_game line = (x_game, 3) := by rw [M.lineI_n n7 n0 n1 (by rw [hN]; decide), hN]
  refine zS <| Qa rfl <| JL.nil ?_
  refine zf [1, 1, 1, 1, 1, 1] fun GG7 => ?_
  refine zn ?_
  refine zrb [0, 0, 0, 0, 0, 0] hb x4 ?_
  have hE : (.int .i64 3 : Value) = .int .i64 ((M.lineI x_game line).2) := by first | (rw [hV]; done) | (rw [hV]; rfl) | (rw [hV]; simp_all [M.res0, M.res1, M.resG]; done)
  have hE1 : (((M.lineI x_game line).1).rules).pits = x_game.rules.pits := by first | (rw [hV]; done) | (rw [hV]; rfl) | (rw [hV]; simp_all [M.res0, M.res1, M.resG]; done)
  have hE2 : (((M.lineI x_game line).1).rules).seeds = x_game.rules.seeds := by first | (rw [hV]; done) | (rw [hV]; rfl) | (rw [hV]; simp_all [M.res0, M.res1, M.resG]; done)
  have hE3 : (((M.lineI x_game line).1).rules).stores = x_game.rules.stores := by first | (rw [hV]; done) | (rw [hV]; rfl) | (rw [hV]; simp_all [M.res0, M.res1, M.resG]; done)
  have hE4 : (((M.lineI x_game line).1).rules).skip = x_game.rules.skip := by first | (rw [hV]; done) | (rw [hV]; rfl) | (rw [hV]; simp_all [M.res0, M.res1, M.resG]; done)
  have hE5 : (((M.lineI x_game line).1).rules).relay = x_game.rules.relay := by first | (rw [hV]; done) | (rw [hV]; rfl) | (rw [hV]; simp_all [M.res0, M.res1, M.resG]; done)
  have hE6 : (((M.lineI x_game line).1).rules).feed = x_game.rules.feed := by first | (rw [hV]; done) | (rw [hV]; rfl) | (rw [hV]; simp_all [M.res0, M.res1, M.resG]; done)
  have hE7 : (((M.lineI x_game line).1).rules).again = x_game.rules.again := by first | (rw [hV]; done) | (rw [hV]; rfl) | (rw [hV]; simp_all [M.res0, M.res1, M.resG]; done)
  have hE8 : (((M.lineI x_game line).1).rules).capture = x_game.rules.capture := by first | (rw [hV]; done) | (rw [hV]; rfl) | (rw [hV]; simp_all [M.res0, M.res1, M.resG]; done)
  have hE9 : (((M.lineI x_game line).1).rules).slam = x_game.rules.slam := by first | (rw [hV]; done) | (rw [hV]; rfl) | (rw [hV]; simp_all [M.res0, M.res1, M.resG]; done)
  have hN10 : ((((M.lineI x_game line).1).start).pits).length = x_game.start.pits.length := rp_ hV
  have hE10 : (((M.lineI x_game line).1).start).pits = x_game.start.pits := by first | (rw [hV]; done) | (rw [hV]; rfl) | (rw [hV]; simp_all [M.res0, M.res1, M.resG]; done)
  have hN11 : ((((M.lineI x_game line).1).start).stores).length = x_game.start.stores.length := rp_ hV
  have hE11 : (((M.lineI x_game line).1).start).stores = x_game.start.stores := by first | (rw [hV]; done) | (rw [hV]; rfl) | (rw [hV]; simp_all [M.res0, M.res1, M.resG]; done)
  have hE12 : (((M.lineI x_game line).1).start).player = x_game.start.player := by first | (rw [hV]; done) | (rw [hV]; rfl) | (rw [hV]; simp_all [M.res0, M.res1, M.resG]; done)
  have hN13 : (((M.lineI x_game line).1).moves).length = x_game.moves.length := rp_ hV
  have hE13 : ((M.lineI x_game line).1).moves = x_game.moves := by first | (rw [hV]; done) | (rw [hV]; rfl) | (rw [hV]; simp_all [M.res0, M.res1, M.resG]; done)
  have hN14 : ((((M.lineI x_game line).1).now).pits).length = x_game.now.pits.length := rp_ hV
  have hE14 : (((M.lineI x_game line).1).now).pits = x_game.now.pits := by first | (rw [hV]; done) | (rw [hV]; rfl) | (rw [hV]; simp_all [M.res0, M.res1, M.resG]; done)
  have hN15 : ((((M.lineI x_game line).1).now).stores).length = x_game.now.stores.length := rp_ hV
  have hE15 : (((M.lineI x_game line).1).now).stores = x_game.now.stores := by first | (rw [hV]; done) | (rw [hV]; rfl) | (rw [hV]; simp_all [M.res0, M.res1, M.resG]; done)
  have hE16 : (((M.lineI x_game line).1).now).player = x_game.now.player := by first | (rw [hV]; done) | (rw [hV]; rfl) | (rw [hV]; simp_all [M.res0, M.res1, M.resG]; done)
  have hE17 : ((M.lineI x_game line).1).resigned = x_game.resigned := by first | (rw [hV]; done) | (rw [hV]; rfl) | (rw [hV]; simp_all [M.res0, M.res1, M.resG]; done)
  refine ⟨Ax_9, cx_9, gx_9, Ax_10, cx_10, gx_10, Ax_12, cx_12, gx_12, Ax_13, cx_13, gx_13, Ax_14, cx_14, gx_14, hE, ?_, ?_, ?_, ?_, ?_, ?_, ?_, ?_, ?_, ?_, ?_⟩
  · rw [hE1, hE2, hE3, hE4, hE5, hE6, hE7, hE8, hE9, hN10, hE10, hN11, hE11, hE12, hN13, hE13, hN14, hE14, hN15, hE15, hE16, hE17]
  all_goals (first | (rw [hE1, hE2, hE3, hE4, hE5, hE6, hE7, hE8, hE9, hN10, hE10, hN11, hE11, hE12, hN13, hE13, hN14, hE14, hN15, hE15, hE16, hE17]; omega) | omega | (simp only [*]; omega) | (simp; done))
 have c1 : (M.numI line).2 = true := by simpa using h6
 refine Js.skip <| Js.seq <| Js.seq ?_
 refine zdr [] ?_
 refine JH.p 0 rfl (p_indexAddrA (kk := 0) ArrI.h rfl rfl rfl (by decide) rfl) ?_
 refine jB 1 0 ty_2 rfl rfl rfl rfl ?_
 refine jM 2 rfl rfl ?_
 refine jN 3 rfl rfl ?_
 refine jF 4 fld_157_0 rfl rfl ?_
 refine jF 5 fld_53_2 rfl rfl ?_
 refine jB 6 1 ty_26 rfl rfl rfl rfl ?_
 refine JH.p 7 rfl (p_len el_26 rfl) ?_
 refine JH.p 8 rfl (p_add rfl rfl (IntWalk.i64_in _ (by omega))) ?_
 refine JH.p 9 rfl (p_neq rfl rfl) ?_
 refine yd ?_
 refine zi (fun h8 h8' => ?_) fun h8 h8' => ?_
 ·
  have hN := M.nextR_4 (g := x_game) c1 (by simpa using h8)
  rw [hlw] at hN
  have hV : M.lineI x_game line = (x_game, 4) := by rw [M.lineI_n n7 n0 n1 (by rw [hN]; decide), hN]
  refine zS <| Qa rfl <| JL.nil ?_
  refine zf [1, 1, 1, 1, 1, 1] fun GG9 => ?_
  refine zn ?_
  refine zrb [0, 0, 0, 0, 0, 0] hb x4 ?_
  have hE : (.int .i64 4 : Value) = .int .i64 ((M.lineI x_game line).2) := by first | (rw [hV]; done) | (rw [hV]; rfl) | (rw [hV]; simp_all [M.res0, M.res1, M.resG]; done)
  have hE1 : (((M.lineI x_game line).1).rules).pits = x_game.rules.pits := by first | (rw [hV]; done) | (rw [hV]; rfl) | (rw [hV]; simp_all [M.res0, M.res1, M.resG]; done)
  have hE2 : (((M.lineI x_game line).1).rules).seeds = x_game.rules.seeds := by first | (rw [hV]; done) | (rw [hV]; rfl) | (rw [hV]; simp_all [M.res0, M.res1, M.resG]; done)
  have hE3 : (((M.lineI x_game line).1).rules).stores = x_game.rules.stores := by first | (rw [hV]; done) | (rw [hV]; rfl) | (rw [hV]; simp_all [M.res0, M.res1, M.resG]; done)
  have hE4 : (((M.lineI x_game line).1).rules).skip = x_game.rules.skip := by first | (rw [hV]; done) | (rw [hV]; rfl) | (rw [hV]; simp_all [M.res0, M.res1, M.resG]; done)
  have hE5 : (((M.lineI x_game line).1).rules).relay = x_game.rules.relay := by first | (rw [hV]; done) | (rw [hV]; rfl) | (rw [hV]; simp_all [M.res0, M.res1, M.resG]; done)
  have hE6 : (((M.lineI x_game line).1).rules).feed = x_game.rules.feed := by first | (rw [hV]; done) | (rw [hV]; rfl) | (rw [hV]; simp_all [M.res0, M.res1, M.resG]; done)
  have hE7 : (((M.lineI x_game line).1).rules).again = x_game.rules.again := by first | (rw [hV]; done) | (rw [hV]; rfl) | (rw [hV]; simp_all [M.res0, M.res1, M.resG]; done)
  have hE8 : (((M.lineI x_game line).1).rules).capture = x_game.rules.capture := by first | (rw [hV]; done) | (rw [hV]; rfl) | (rw [hV]; simp_all [M.res0, M.res1, M.resG]; done)
  have hE9 : (((M.lineI x_game line).1).rules).slam = x_game.rules.slam := by first | (rw [hV]; done) | (rw [hV]; rfl) | (rw [hV]; simp_all [M.res0, M.res1, M.resG]; done)
  have hN10 : ((((M.lineI x_game line).1).start).pits).length = x_game.start.pits.length := rp_ hV
  have hE10 : (((M.lineI x_game line).1).start).pits = x_game.start.pits := by first | (rw [hV]; done) | (rw [hV]; rfl) | (rw [hV]; simp_all [M.res0, M.res1, M.resG]; done)
  have hN11 : ((((M.lineI x_game line).1).start).stores).length = x_game.start.stores.length := rp_ hV
  have hE11 : (((M.lineI x_game line).1).start).stores = x_game.start.stores := by first | (rw [hV]; done) | (rw [hV]; rfl) | (rw [hV]; simp_all [M.res0, M.res1, M.resG]; done)
  have hE12 : (((M.lineI x_game line).1).start).player = x_game.start.player := by first | (rw [hV]; done) | (rw [hV]; rfl) | (rw [hV]; simp_all [M.res0, M.res1, M.resG]; done)
  have hN13 : (((M.lineI x_game line).1).moves).length = x_game.moves.length := rp_ hV
  have hE13 : ((M.lineI x_game line).1).moves = x_game.moves := by first | (rw [hV]; done) | (rw [hV]; rfl) | (rw [hV]; simp_all [M.res0, M.res1, M.resG]; done)
  have hN14 : ((((M.lineI x_game line).1).now).pits).length = x_game.now.pits.length := rp_ hV
  have hE14 : (((M.lineI x_game line).1).now).pits = x_game.now.pits := by first | (rw [hV]; done) | (rw [hV]; rfl) | (rw [hV]; simp_all [M.res0, M.res1, M.resG]; done)
  have hN15 : ((((M.lineI x_game line).1).now).stores).length = x_game.now.stores.length := rp_ hV
  have hE15 : (((M.lineI x_game line).1).now).stores = x_game.now.stores := by first | (rw [hV]; done) | (rw [hV]; rfl) | (rw [hV]; simp_all [M.res0, M.res1, M.resG]; done)
  have hE16 : (((M.lineI x_game line).1).now).player = x_game.now.player := by first | (rw [hV]; done) | (rw [hV]; rfl) | (rw [hV]; simp_all [M.res0, M.res1, M.resG]; done)
  have hE17 : ((M.lineI x_game line).1).resigned = x_game.resigned := by first | (rw [hV]; done) | (rw [hV]; rfl) | (rw [hV]; simp_all [M.res0, M.res1, M.resG]; done)
  refine ⟨Ax_9, cx_9, gx_9, Ax_10, cx_10, gx_10, Ax_12, cx_12, gx_12, Ax_13, cx_13, gx_13, Ax_14, cx_14, gx_14, hE, ?_, ?_, ?_, ?_, ?_, ?_, ?_, ?_, ?_, ?_, ?_⟩
  · rw [hE1, hE2, hE3, hE4, hE5, hE6, hE7, hE8, hE9, hN10, hE10, hN11, hE11, hE12, hN13, hE13, hN14, hE14, hN15, hE15, hE16, hE17]
  all_goals (first | (rw [hE1, hE2, hE3, hE4, hE5, hE6, hE7, hE8, hE9, hN10, hE10, hN11, hE11, hE12, hN13, hE13, hN14, hE14, hN15, hE15, hE16, hE17]; omega) | omega | (simp only [*]; omega) | (simp; done))
 have c2 : (M.numI line).1.1 = (x_game.moves.length : Int) + 1 := by simpa using h8
 refine Js.skip <| Js.seq ?_
 refine zk [0, 5] (fun F U l os u => ∃ (b17 : Nat) (A12 : Option Addr) (c12 : Nat) (A13 : Option Addr) (c13 : Nat) (A14 : Option Addr) (c14 : Nat) (A15 : Option Addr) (c15 : Nat) (A16 : Option Addr) (c16 : Nat), l = F [(7, .pointer (some ⟨b17, 0, none⟩)), (8, .int .i64 ((M.play x_game ((M.numI line).1.2.1)).2))] ∧ os = [boxO b17 [.int .i64 ((((M.play x_game ((M.numI line).1.2.1)).1).rules).pits), .int .i64 ((((M.play x_game ((M.numI line).1.2.1)).1).rules).seeds), .bool ((((M.play x_game ((M.numI line).1.2.1)).1).rules).stores), .bool ((((M.play x_game ((M.numI line).1.2.1)).1).rules).skip), .bool ((((M.play x_game ((M.numI line).1.2.1)).1).rules).relay), .bool ((((M.play x_game ((M.numI line).1.2.1)).1).rules).feed), .bool ((((M.play x_game ((M.numI line).1.2.1)).1).rules).again), .int .i64 ((((M.play x_game ((M.numI line).1.2.1)).1).rules).capture), .int .i64 ((((M.play x_game ((M.numI line).1.2.1)).1).rules).slam), .slice A12 (((((M.play x_game ((M.numI line).1.2.1)).1).start).pits).length) c12, .slice A13 (((((M.play x_game ((M.numI line).1.2.1)).1).start).stores).length) c13, .int .i64 ((((M.play x_game ((M.numI line).1.2.1)).1).start).player), .slice A14 ((((M.play x_game ((M.numI line).1.2.1)).1).moves).length) c14, .slice A15 (((((M.play x_game ((M.numI line).1.2.1)).1).now).pits).length) c15, .slice A16 (((((M.play x_game ((M.numI line).1.2.1)).1).now).stores).length) c16, .int .i64 ((((M.play x_game ((M.numI line).1.2.1)).1).now).player), .int .i64 (((M.play x_game ((M.numI line).1.2.1)).1).resigned)] 53, rowO 2 1 (.slice A16 (((((M.play x_game ((M.numI line).1.2.1)).1).now).stores).length) c16) (((((M.play x_game ((M.numI line).1.2.1)).1).now).stores).length) (ints_ ((((M.play x_game ((M.numI line).1.2.1)).1).now).stores)) [], rowO 2 1 (.slice A15 (((((M.play x_game ((M.numI line).1.2.1)).1).now).pits).length) c15) (((((M.play x_game ((M.numI line).1.2.1)).1).now).pits).length) (ints_ ((((M.play x_game ((M.numI line).1.2.1)).1).now).pits)) [], rowO 2 1 (.slice A14 ((((M.play x_game ((M.numI line).1.2.1)).1).moves).length) c14) ((((M.play x_game ((M.numI line).1.2.1)).1).moves).length) (ints_ (((M.play x_game ((M.numI line).1.2.1)).1).moves)) [], rowO 2 1 (.slice A13 (((((M.play x_game ((M.numI line).1.2.1)).1).start).stores).length) c13) (((((M.play x_game ((M.numI line).1.2.1)).1).start).stores).length) (ints_ ((((M.play x_game ((M.numI line).1.2.1)).1).start).stores)) [], rowO 2 1 (.slice A12 (((((M.play x_game ((M.numI line).1.2.1)).1).start).pits).length) c12) (((((M.play x_game ((M.numI line).1.2.1)).1).start).pits).length) (ints_ ((((M.play x_game ((M.numI line).1.2.1)).1).start).pits)) []] ++ U [] ∧ (((((M.play x_game ((M.numI line).1.2.1)).1).start).pits).length ≤ c12) ∧ (c12 ≤ 9223372036854775807) ∧ (((((M.play x_game ((M.numI line).1.2.1)).1).start).stores).length ≤ c13) ∧ (c13 ≤ 9223372036854775807) ∧ ((((M.play x_game ((M.numI line).1.2.1)).1).moves).length ≤ c14) ∧ (c14 ≤ 9223372036854775807) ∧ (((((M.play x_game ((M.numI line).1.2.1)).1).now).pits).length ≤ c15) ∧ (c15 ≤ 9223372036854775807) ∧ (((((M.play x_game ((M.numI line).1.2.1)).1).now).stores).length ≤ c16) ∧ (c16 ≤ 9223372036854775807)) ?_ ?_
 ·
  refine zdr [11] ?_
  refine jM 0 rfl rfl ?_
  refine jN 1 rfl rfl ?_
  refine jF 2 fld_157_0 rfl rfl ?_
  refine JH.q 3 rfl (L9 1 rfl rfl) ?_
  refine JH.p 4 rfl (p_indexAddrA (kk := 1) ArrI.h rfl rfl rfl (by decide) rfl) ?_
  refine jB 5 0 ty_2 rfl rfl rfl rfl ?_
  refine y2 6 10 ?_ ?_
  ·
   refine yc rfl rfl (fun w hw => c_impl_Game_play x_game ((M.numI line).1.2.1) (ok_ hw)) ?_
   intro A29 c29 bl29 bh29 A30 c30 bl30 bh30 A31 c31 bl31 bh31 A32 c32 bl32 bh32 A33 c33 bl33 bh33
   refine jM 7 rfl rfl ?_
   refine JH.p 8 rfl (p_extract rfl rfl) ?_
   refine JH.p 9 rfl (p_extract rfl rfl) ?_
   refine y1 10 ?_
   refine ya rfl fun b34 => ?_
   refine y1 11 ?_
   refine yst rfl rfl rfl ?_
   refine jA 12 rfl rfl ?_
   refine yd ?_
   exact zm ⟨_, _, _, _, _, _, _, _, _, _, _, rfl, rfl, zt, zt, zt, zt, zt, zt, zt, zt, zt, zt⟩ (Up.refl _ _)
  refine ya rfl fun b35 => ?_
  refine y1 6 ?_
  refine yc rfl rfl (fun w hw => c_impl_Game_play x_game ((M.numI line).1.2.1) (ok_ hw)) ?_
  intro A38 c38 bl38 bh38 A39 c39 bl39 bh39 A40 c40 bl40 bh40 A41 c41 bl41 bh41 A42 c42 bl42 bh42
  refine jM 7 rfl rfl ?_
  refine JH.p 8 rfl (p_extract rfl rfl) ?_
  refine JH.p 9 rfl (p_extract rfl rfl) ?_
  refine y1 11 ?_
  refine yst rfl rfl rfl ?_
  refine jA 12 rfl rfl ?_
  refine yd ?_
  refine zh [5, 0, 0, 0, 0, 0, 0, 0, 0, 0, 0, 0, 0, 0] ?_
  exact zm ⟨_, _, _, _, _, _, _, _, _, _, _, rfl, rfl, zt, zt, zt, zt, zt, zt, zt, zt, zt, zt⟩ (Up.refl _ _)
 rintro _ _ u26 ⟨b17, A12, c12, A13, c13, A14, c14, A15, c15, A16, c16, rfl, rfl, f26_0, f26_1, f26_2, f26_3, f26_4, f26_5, f26_6, f26_7, f26_8, f26_9⟩ x26
 refine zn ?_
 refine Js.seq <| zS <| Qm rfl <| Qd rfl rfl <| JL.nil ?_
 refine zi (fun h43 h43' => ?_) fun h43 h43' => ?_
 ·
  have hN := M.nextR_5 (g := x_game) c1 c2 (by simpa using h43)
  rw [hlw] at hN
  have hV : M.lineI x_game line = (x_game, 5) := by rw [M.lineI_n n7 n0 n1 (by rw [hN]; decide), hN]
  refine zS <| Qa rfl <| JL.nil ?_
  refine zf [7, 7, 7, 7, 7, 7] fun GG44 => ?_
  refine zn ?_
  refine zrb [0, 0, 0, 0, 0, 0] hb (x4.trans x26) ?_
  have hE : (.int .i64 5 : Value) = .int .i64 ((M.lineI x_game line).2) := by first | (rw [hV]; done) | (rw [hV]; rfl) | (rw [hV]; simp_all [M.res0, M.res1, M.resG]; done)
  have hE1 : (((M.lineI x_game line).1).rules).pits = x_game.rules.pits := by first | (rw [hV]; done) | (rw [hV]; rfl) | (rw [hV]; simp_all [M.res0, M.res1, M.resG]; done)
  have hE2 : (((M.lineI x_game line).1).rules).seeds = x_game.rules.seeds := by first | (rw [hV]; done) | (rw [hV]; rfl) | (rw [hV]; simp_all [M.res0, M.res1, M.resG]; done)
  have hE3 : (((M.lineI x_game line).1).rules).stores = x_game.rules.stores := by first | (rw [hV]; done) | (rw [hV]; rfl) | (rw [hV]; simp_all [M.res0, M.res1, M.resG]; done)
  have hE4 : (((M.lineI x_game line).1).rules).skip = x_game.rules.skip := by first | (rw [hV]; done) | (rw [hV]; rfl) | (rw [hV]; simp_all [M.res0, M.res1, M.resG]; done)
  have hE5 : (((M.lineI x_game line).1).rules).relay = x_game.rules.relay := by first | (rw [hV]; done) | (rw [hV]; rfl) | (rw [hV]; simp_all [M.res0, M.res1, M.resG]; done)
  have hE6 : (((M.lineI x_game line).1).rules).feed = x_game.rules.feed := by first | (rw [hV]; done) | (rw [hV]; rfl) | (rw [hV]; simp_all [M.res0, M.res1, M.resG]; done)
  have hE7 : (((M.lineI x_game line).1).rules).again = x_game.rules.again := by first | (rw [hV]; done) | (rw [hV]; rfl) | (rw [hV]; simp_all [M.res0, M.res1, M.resG]; done)
  have hE8 : (((M.lineI x_game line).1).rules).capture = x_game.rules.capture := by first | (rw [hV]; done) | (rw [hV]; rfl) | (rw [hV]; simp_all [M.res0, M.res1, M.resG]; done)
  have hE9 : (((M.lineI x_game line).1).rules).slam = x_game.rules.slam := by first | (rw [hV]; done) | (rw [hV]; rfl) | (rw [hV]; simp_all [M.res0, M.res1, M.resG]; done)
  have hN10 : ((((M.lineI x_game line).1).start).pits).length = x_game.start.pits.length := rp_ hV
  have hE10 : (((M.lineI x_game line).1).start).pits = x_game.start.pits := by first | (rw [hV]; done) | (rw [hV]; rfl) | (rw [hV]; simp_all [M.res0, M.res1, M.resG]; done)
  have hN11 : ((((M.lineI x_game line).1).start).stores).length = x_game.start.stores.length := rp_ hV
  have hE11 : (((M.lineI x_game line).1).start).stores = x_game.start.stores := by first | (rw [hV]; done) | (rw [hV]; rfl) | (rw [hV]; simp_all [M.res0, M.res1, M.resG]; done)
  have hE12 : (((M.lineI x_game line).1).start).player = x_game.start.player := by first | (rw [hV]; done) | (rw [hV]; rfl) | (rw [hV]; simp_all [M.res0, M.res1, M.resG]; done)
  have hN13 : (((M.lineI x_game line).1).moves).length = x_game.moves.length := rp_ hV
  have hE13 : ((M.lineI x_game line).1).moves = x_game.moves := by first | (rw [hV]; done) | (rw [hV]; rfl) | (rw [hV]; simp_all [M.res0, M.res1, M.resG]; done)
  have hN14 : ((((M.lineI x_game line).1).now).pits).length = x_game.now.pits.length := rp_ hV
  have hE14 : (((M.lineI x_game line).1).now).pits = x_game.now.pits := by first | (rw [hV]; done) | (rw [hV]; rfl) | (rw [hV]; simp_all [M.res0, M.res1, M.resG]; done)
  have hN15 : ((((M.lineI x_game line).1).now).stores).length = x_game.now.stores.length := rp_ hV
  have hE15 : (((M.lineI x_game line).1).now).stores = x_game.now.stores := by first | (rw [hV]; done) | (rw [hV]; rfl) | (rw [hV]; simp_all [M.res0, M.res1, M.resG]; done)
  have hE16 : (((M.lineI x_game line).1).now).player = x_game.now.player := by first | (rw [hV]; done) | (rw [hV]; rfl) | (rw [hV]; simp_all [M.res0, M.res1, M.resG]; done)
  have hE17 : ((M.lineI x_game line).1).resigned = x_game.resigned := by first | (rw [hV]; done) | (rw [hV]; rfl) | (rw [hV]; simp_all [M.res0, M.res1, M.resG]; done)
  refine ⟨Ax_9, cx_9, gx_9, Ax_10, cx_10, gx_10, Ax_12, cx_12, gx_12, Ax_13, cx_13, gx_13, Ax_14, cx_14, gx_14, hE, ?_, ?_, ?_, ?_, ?_, ?_, ?_, ?_, ?_, ?_, ?_⟩
  · rw [hE1, hE2, hE3, hE4, hE5, hE6, hE7, hE8, hE9, hN10, hE10, hN11, hE11, hE12, hN13, hE13, hN14, hE14, hN15, hE15, hE16, hE17]
  all_goals (first | (rw [hE1, hE2, hE3, hE4, hE5, hE6, hE7, hE8, hE9, hN10, hE10, hN11, hE11, hE12, hN13, hE13, hN14, hE14, hN15, hE15, hE16, hE17]; omega) | omega | (simp only [*]; omega) | (simp; done))
 have c3 : (M.play x_game (M.numI line).1.2.1).2 = 0 := by simpa using h43
 refine Js.skip <| Js.seq ?_
 refine zk [0, 5, 7] (fun F U l os u => ∃ (b48 : Nat) (A46 : Option Addr) (c46 : Nat) (A47 : Option Addr) (c47 : Nat), l = F [(9, .pointer (some ⟨b48, 0, none⟩))] ∧ os = [boxO b48 [.int .i64 (((M.make x_game.rules x_game.now ((M.numI line).1.2.1)).1).move), .int .i64 (((M.make x_game.rules x_game.now ((M.numI line).1.2.1)).1).gain), .bool (((M.make x_game.rules x_game.now ((M.numI line).1.2.1)).1).again), .slice A46 (((((M.make x_game.rules x_game.now ((M.numI line).1.2.1)).1).next).pits).length) c46, .slice A47 (((((M.make x_game.rules x_game.now ((M.numI line).1.2.1)).1).next).stores).length) c47, .int .i64 ((((M.make x_game.rules x_game.now ((M.numI line).1.2.1)).1).next).player)] 109] ++ U [] ∧ (((((M.make x_game.rules x_game.now ((M.numI line).1.2.1)).1).next).pits).length ≤ c46) ∧ (c46 ≤ 9223372036854775807) ∧ ((Ty.ints 2 ((((M.make x_game.rules x_game.now ((M.numI line).1.2.1)).1).next).pits)).ok u (.slice A46 (((((M.make x_game.rules x_game.now ((M.numI line).1.2.1)).1).next).pits).length) c46)) ∧ (((((M.make x_game.rules x_game.now ((M.numI line).1.2.1)).1).next).stores).length ≤ c47) ∧ (c47 ≤ 9223372036854775807) ∧ ((Ty.ints 2 ((((M.make x_game.rules x_game.now ((M.numI line).1.2.1)).1).next).stores)).ok u (.slice A47 (((((M.make x_game.rules x_game.now ((M.numI line).1.2.1)).1).next).stores).length) c47))) ?_ ?_
 ·
  refine zdr [17] ?_
  refine jM 0 rfl rfl ?_
  refine jN 1 rfl rfl ?_
  refine jF 2 fld_157_0 rfl rfl ?_
  refine jF 3 fld_53_0 rfl rfl ?_
  refine JH.q 4 rfl (L9 7 rfl rfl) ?_
  refine jM 5 rfl rfl ?_
  refine jN 6 rfl rfl ?_
  refine jF 7 fld_157_0 rfl rfl ?_
  refine jF 8 fld_53_3 rfl rfl ?_
  refine JH.q 9 rfl (L9 7 rfl rfl) ?_
  refine JH.p 10 rfl (p_indexAddrA (kk := 1) ArrI.h rfl rfl rfl (by decide) rfl) ?_
  refine jB 11 6 ty_2 rfl rfl rfl rfl ?_
  refine y2 12 16 ?_ ?_
  ·
   refine yp rfl rfl (fun w hw => c_impl_Rules_resultOf x_game.rules x_game.now ((M.numI line).1.2.1) (ok_ hw) (ok_ hw)) ?_
   intro u54 x54 A55 c55 h55 bl55 bh55 A56 c56 h56 bl56 bh56
   refine jM 13 rfl rfl ?_
   refine JH.p 14 rfl (p_extract rfl rfl) ?_
   refine JH.p 15 rfl (p_extract rfl rfl) ?_
   refine y1 16 ?_
   refine ya rfl fun b57 => ?_
   refine y1 17 ?_
   refine yst rfl rfl rfl ?_
   refine jA 18 rfl rfl ?_
   refine yd ?_
   exact zm ⟨_, _, _, _, _, rfl, rfl, zt, zt, h55, zt, zt, h56⟩ x54
  refine ya rfl fun b58 => ?_
  refine y1 12 ?_
  refine yp rfl rfl (fun w hw => c_impl_Rules_resultOf x_game.rules x_game.now ((M.numI line).1.2.1) (ok_ hw) (ok_ hw)) ?_
  intro u59 x59 A60 c60 h60 bl60 bh60 A61 c61 h61 bl61 bh61
  refine jM 13 rfl rfl ?_
  refine JH.p 14 rfl (p_extract rfl rfl) ?_
  refine JH.p 15 rfl (p_extract rfl rfl) ?_
  refine y1 17 ?_
  refine yst rfl rfl rfl ?_
  refine jA 18 rfl rfl ?_
  refine yd ?_
  exact zm ⟨_, _, _, _, _, rfl, rfl, zt, zt, h60, zt, zt, h61⟩ x59
 rintro _ _ u53 ⟨b48, A46, c46, A47, c47, rfl, rfl, f53_0, f53_1, f53_2, f53_3, f53_4, f53_5⟩ x53
 refine zn ?_
 refine Js.seq <| zS <| Qf fh rfl <| Q0 0 rfl rfl rfl <| Qq (p_indexAddrA (kk := 2) ArrI.h rfl rfl rfl (by decide) rfl) <| Q0 7 rfl rfl rfl <| Qd rfl rfl <| JL.nil ?_
 refine zf [1, 1, 1, 1, 1, 1, 2, 2, 2, 2, 2, 2] fun GG62 => ?_
 refine zn ?_
 refine zi (fun h63 h63' => ?_) fun h63 h63' => ?_
 ·
  have hN := M.nextR_6 (g := x_game) c1 c2 c3 (by simpa using h63)
  rw [hlw] at hN
  have hV : M.lineI x_game line = (x_game, 6) := by rw [M.lineI_n n7 n0 n1 (by rw [hN]; decide), hN]
  refine zS <| Qa rfl <| JL.nil ?_
  refine zf [6, 6, 6, 6, 6, 6] fun GG64 => ?_
  refine zn ?_
  refine zrb [0, 0, 0, 0, 0, 0] hb ((x4.trans x26).trans x53) ?_
  have hE : (.int .i64 6 : Value) = .int .i64 ((M.lineI x_game line).2) := by first | (rw [hV]; done) | (rw [hV]; rfl) | (rw [hV]; simp_all [M.res0, M.res1, M.resG]; done)
  have hE1 : (((M.lineI x_game line).1).rules).pits = x_game.rules.pits := by first | (rw [hV]; done) | (rw [hV]; rfl) | (rw [hV]; simp_all [M.res0, M.res1, M.resG]; done)
  have hE2 : (((M.lineI x_game line).1).rules).seeds = x_game.rules.seeds := by first | (rw [hV]; done) | (rw [hV]; rfl) | (rw [hV]; simp_all [M.res0, M.res1, M.resG]; done)
  have hE3 : (((M.lineI x_game line).1).rules).stores = x_game.rules.stores := by first | (rw [hV]; done) | (rw [hV]; rfl) | (rw [hV]; simp_all [M.res0, M.res1, M.resG]; done)
  have hE4 : (((M.lineI x_game line).1).rules).skip = x_game.rules.skip := by first | (rw [hV]; done) | (rw [hV]; rfl) | (rw [hV]; simp_all [M.res0, M.res1, M.resG]; done)
  have hE5 : (((M.lineI x_game line).1).rules).relay = x_game.rules.relay := by first | (rw [hV]; done) | (rw [hV]; rfl) | (rw [hV]; simp_all [M.res0, M.res1, M.resG]; done)
  have hE6 : (((M.lineI x_game line).1).rules).feed = x_game.rules.feed := by first | (rw [hV]; done) | (rw [hV]; rfl) | (rw [hV]; simp_all [M.res0, M.res1, M.resG]; done)
  have hE7 : (((M.lineI x_game line).1).rules).again = x_game.rules.again := by first | (rw [hV]; done) | (rw [hV]; rfl) | (rw [hV]; simp_all [M.res0, M.res1, M.resG]; done)
  have hE8 : (((M.lineI x_game line).1).rules).capture = x_game.rules.capture := by first | (rw [hV]; done) | (rw [hV]; rfl) | (rw [hV]; simp_all [M.res0, M.res1, M.resG]; done)
  have hE9 : (((M.lineI x_game line).1).rules).slam = x_game.rules.slam := by first | (rw [hV]; done) | (rw [hV]; rfl) | (rw [hV]; simp_all [M.res0, M.res1, M.resG]; done)
  have hN10 : ((((M.lineI x_game line).1).start).pits).length = x_game.start.pits.length := rp_ hV
  have hE10 : (((M.lineI x_game line).1).start).pits = x_game.start.pits := by first | (rw [hV]; done) | (rw [hV]; rfl) | (rw [hV]; simp_all [M.res0, M.res1, M.resG]; done)
  have hN11 : ((((M.lineI x_game line).1).start).stores).length = x_game.start.stores.length := rp_ hV
  have hE11 : (((M.lineI x_game line).1).start).stores = x_game.start.stores := by first | (rw [hV]; done) | (rw [hV]; rfl) | (rw [hV]; simp_all [M.res0, M.res1, M.resG]; done)
  have hE12 : (((M.lineI x_game line).1).start).player = x_game.start.player := by first | (rw [hV]; done) | (rw [hV]; rfl) | (rw [hV]; simp_all [M.res0, M.res1, M.resG]; done)
  have hN13 : (((M.lineI x_game line).1).moves).length = x_game.moves.length := rp_ hV
  have hE13 : ((M.lineI x_game line).1).moves = x_game.moves := by first | (rw [hV]; done) | (rw [hV]; rfl) | (rw [hV]; simp_all [M.res0, M.res1, M.resG]; done)
  have hN14 : ((((M.lineI x_game line).1).now).pits).length = x_game.now.pits.length := rp_ hV
  have hE14 : (((M.lineI x_game line).1).now).pits = x_game.now.pits := by first | (rw [hV]; done) | (rw [hV]; rfl) | (rw [hV]; simp_all [M.res0, M.res1, M.resG]; done)
  have hN15 : ((((M.lineI x_game line).1).now).stores).length = x_game.now.stores.length := rp_ hV
  have hE15 : (((M.lineI x_game line).1).now).stores = x_game.now.stores := by first | (rw [hV]; done) | (rw [hV]; rfl) | (rw [hV]; simp_all [M.res0, M.res1, M.resG]; done)
  have hE16 : (((M.lineI x_game line).1).now).player = x_game.now.player := by first | (rw [hV]; done) | (rw [hV]; rfl) | (rw [hV]; simp_all [M.res0, M.res1, M.resG]; done)
  have hE17 : ((M.lineI x_game line).1).resigned = x_game.resigned := by first | (rw [hV]; done) | (rw [hV]; rfl) | (rw [hV]; simp_all [M.res0, M.res1, M.resG]; done)
  refine ⟨Ax_9, cx_9, gx_9, Ax_10, cx_10, gx_10, Ax_12, cx_12, gx_12, Ax_13, cx_13, gx_13, Ax_14, cx_14, gx_14, hE, ?_, ?_, ?_, ?_, ?_, ?_, ?_, ?_, ?_, ?_, ?_⟩
  · rw [hE1, hE2, hE3, hE4, hE5, hE6, hE7, hE8, hE9, hN10, hE10, hN11, hE11, hE12, hN13, hE13, hN14, hE14, hN15, hE15, hE16, hE17]
  all_goals (first | (rw [hE1, hE2, hE3, hE4, hE5, hE6, hE7, hE8, hE9, hN10, hE10, hN11, hE11, hE12, hN13, hE13, hN14, hE14, hN15, hE15, hE16, hE17]; omega) | omega | (simp only [*]; omega) | (simp; done))
 have hN := M.nextR_0 (g := x_game) c1 c2 c3 (by simpa using h63)
 rw [hlw] at hN
 have hV : M.lineI x_game line = ((M.play x_game (M.numI line).1.2.1).1, 0) := by rw [M.lineI_y n7 n0 n1 (by rw [hN]), hN]
 refine Js.skip <| zS <| Qm rfl <| Q9 0 rfl rfl ?_
 refine Qc rfl <| Qf fh rfl <| zw 6 rfl rfl rfl ?_
 refine JL.nil ?_
 refine zf [1, 1, 1, 1, 1, 1] fun GG65 => ?_
 refine zn ?_
 refine zS <| Qa rfl <| JL.nil ?_
 refine zrb [5, 4, 3, 2, 1, 0] hb ((x4.trans x26).trans x53) ?_
 have hE : (.int .i64 0 : Value) = .int .i64 ((M.lineI x_game line).2) := by first | (rw [hV]; done) | (rw [hV]; rfl) | (rw [hV]; simp_all [M.res0, M.res1, M.resG]; done)
 have hE1 : (((M.lineI x_game line).1).rules).pits = ((((M.play x_game ((M.numI line).1.2.1)).1).rules).pits) := by first | (rw [hV]; done) | (rw [hV]; rfl) | (rw [hV]; simp_all [M.res0, M.res1, M.resG]; done)
 have hE2 : (((M.lineI x_game line).1).rules).seeds = ((((M.play x_game ((M.numI line).1.2.1)).1).rules).seeds) := by first | (rw [hV]; done) | (rw [hV]; rfl) | (rw [hV]; simp_all [M.res0, M.res1, M.resG]; done)
 have hE3 : (((M.lineI x_game line).1).rules).stores = ((((M.play x_game ((M.numI line).1.2.1)).1).rules).stores) := by first | (rw [hV]; done) | (rw [hV]; rfl) | (rw [hV]; simp_all [M.res0, M.res1, M.resG]; done)
 have hE4 : (((M.lineI x_game line).1).rules).skip = ((((M.play x_game ((M.numI line).1.2.1)).1).rules).skip) := by first | (rw [hV]; done) | (rw [hV]; rfl) | (rw [hV]; simp_all [M.res0, M.res1, M.resG]; done)
 have hE5 : (((M.lineI x_game line).1).rules).relay = ((((M.play x_game ((M.numI line).1.2.1)).1).rules).relay) := by first | (rw [hV]; done) | (rw [hV]; rfl) | (rw [hV]; simp_all [M.res0, M.res1, M.resG]; done)
 have hE6 : (((M.lineI x_game line).1).rules).feed = ((((M.play x_game ((M.numI line).1.2.1)).1).rules).feed) := by first | (rw [hV]; done) | (rw [hV]; rfl) | (rw [hV]; simp_all [M.res0, M.res1, M.resG]; done)
 have hE7 : (((M.lineI x_game line).1).rules).again = ((((M.play x_game ((M.numI line).1.2.1)).1).rules).again) := by first | (rw [hV]; done) | (rw [hV]; rfl) | (rw [hV]; simp_all [M.res0, M.res1, M.resG]; done)
 have hE8 : (((M.lineI x_game line).1).rules).capture = ((((M.play x_game ((M.numI line).1.2.1)).1).rules).capture) := by first | (rw [hV]; done) | (rw [hV]; rfl) | (rw [hV]; simp_all [M.res0, M.res1, M.resG]; done)
 have hE9 : (((M.lineI x_game line).1).rules).slam = ((((M.play x_game ((M.numI line).1.2.1)).1).rules).slam) := by first | (rw [hV]; done) | (rw [hV]; rfl) | (rw [hV]; simp_all [M.res0, M.res1, M.resG]; done)
 have hN10 : ((((M.lineI x_game line).1).start).pits).length = ((((M.play x_game ((M.numI line).1.2.1)).1).start).pits).length := rp_ hV
 have hE10 : (((M.lineI x_game line).1).start).pits = ((((M.play x_game ((M.numI line).1.2.1)).1).start).pits) := by first | (rw [hV]; done) | (rw [hV]; rfl) | (rw [hV]; simp_all [M.res0, M.res1, M.resG]; done)
 have hN11 : ((((M.lineI x_game line).1).start).stores).length = ((((M.play x_game ((M.numI line).1.2.1)).1).start).stores).length := rp_ hV
 have hE11 : (((M.lineI x_game line).1).start).stores = ((((M.play x_game ((M.numI line).1.2.1)).1).start).stores) := by first | (rw [hV]; done) | (rw [hV]; rfl) | (rw [hV]; simp_all [M.res0, M.res1, M.resG]; done)
 have hE12 : (((M.lineI x_game line).1).start).player = ((((M.play x_game ((M.numI line).1.2.1)).1).start).player) := by first | (rw [hV]; done) | (rw [hV]; rfl) | (rw [hV]; simp_all [M.res0, M.res1, M.resG]; done)
 have hN13 : (((M.lineI x_game line).1).moves).length = (((M.play x_game ((M.numI line).1.2.1)).1).moves).length := rp_ hV
 have hE13 : ((M.lineI x_game line).1).moves = (((M.play x_game ((M.numI line).1.2.1)).1).moves) := by first | (rw [hV]; done) | (rw [hV]; rfl) | (rw [hV]; simp_all [M.res0, M.res1, M.resG]; done)
 have hN14 : ((((M.lineI x_game line).1).now).pits).length = ((((M.play x_game ((M.numI line).1.2.1)).1).now).pits).length := rp_ hV
 have hE14 : (((M.lineI x_game line).1).now).pits = ((((M.play x_game ((M.numI line).1.2.1)).1).now).pits) := by first | (rw [hV]; done) | (rw [hV]; rfl) | (rw [hV]; simp_all [M.res0, M.res1, M.resG]; done)
 have hN15 : ((((M.lineI x_game line).1).now).stores).length = ((((M.play x_game ((M.numI line).1.2.1)).1).now).stores).length := rp_ hV
 have hE15 : (((M.lineI x_game line).1).now).stores = ((((M.play x_game ((M.numI line).1.2.1)).1).now).stores) := by first | (rw [hV]; done) | (rw [hV]; rfl) | (rw [hV]; simp_all [M.res0, M.res1, M.resG]; done)
 have hE16 : (((M.lineI x_game line).1).now).player = ((((M.play x_game ((M.numI line).1.2.1)).1).now).player) := by first | (rw [hV]; done) | (rw [hV]; rfl) | (rw [hV]; simp_all [M.res0, M.res1, M.resG]; done)
 have hE17 : ((M.lineI x_game line).1).resigned = (((M.play x_game ((M.numI line).1.2.1)).1).resigned) := by first | (rw [hV]; done) | (rw [hV]; rfl) | (rw [hV]; simp_all [M.res0, M.res1, M.resG]; done)
 refine ⟨A12, c12, [], A13, c13, [], A14, c14, [], A15, c15, [], A16, c16, [], hE, ?_, ?_, ?_, ?_, ?_, ?_, ?_, ?_, ?_, ?_, ?_⟩
 · rw [hE1, hE2, hE3, hE4, hE5, hE6, hE7, hE8, hE9, hN10, hE10, hN11, hE11, hE12, hN13, hE13, hN14, hE14, hN15, hE15, hE16, hE17]
 all_goals (first | (rw [hE1, hE2, hE3, hE4, hE5, hE6, hE7, hE8, hE9, hN10, hE10, hN11, hE11, hE12, hN13, hE13, hN14, hE14, hN15, hE15, hE16, hE17]; omega) | omega | (simp only [*]; omega) | (simp; done))
theorem c_impl_checkRecord (s : List UInt8) {w : World} (h_tab : tabT.ok w undef) (r0 : s.length ≤ 90000 := by exact om_) : Ret Tryz.prog 61 [.string (sB s)] w (Ty.tup [Ty.agg (cGame ((M.chkW s).1)), Ty.int ((M.chkW s).2.1), Ty.int ((M.chkW s).2.2)]) := by
 refine enter @Tryz.func61 @Tryz.ntmps61 rfl rfl ?_
 refine zent ?_
 refine zS <| za zeh fun b1 => Qa rfl <| Qa rfl <| zN <| Qb ?_
 refine zb rfl fun b2 => Qa rfl <| zN <| zbs fun b3 => ?_
 refine Qa rfl <| Qa rfl <| zJ <| Js.block ?_
 refine zl [2, 5] (fun F U l os u m => ∃ (cur : List UInt8) (ee : Bool) (out : List (List UInt8)) (A5_6 : Option Addr) (c5_6 : Nat) (g5_6 : List Nat), l = F [(0, .string (sB cur)), (6, .slice A5_6 out.length c5_6), (7, .bool ee)] ∧ os = U [some (rowO 9 1 (.slice A5_6 out.length c5_6) out.length (txs_ out) g5_6)] ∧ (M.LinI s cur out ee) ∧ (cur.length ≤ s.length) ∧ (out.length ≤ c5_6) ∧ (c5_6 ≤ 9223372036854775807) ∧ m = cur.length) ⟨s, true, [], _, _, _, rfl, rfl, by exact M.LinI.zero s, by exact Nat.le_refl _, zu, zu, rfl⟩ ?_
 rintro _ _ u5 _ ⟨cur, ee, out, A5_6, c5_6, g5_6, rfl, rfl, hL, hl, f5_2, f5_3, rfl⟩ x5
 refine zn ?_
 have hol := hL.len
 have hcl := M.cutS_len cur [10]
 refine Js.seq <| zS <| Qm rfl <| Qq (p_neqT und_9 rfl rfl) <| JL.nil ?_
 refine zi (fun h6 h6' => ?_) fun h6 h6' => ?_
 ·
  have hne : cur ≠ [] := by simpa using h6
  have hcp := List.length_pos_iff.2 hne
  refine Js.skip <| Js.block <| zS <| Qm rfl <| zv rfl (fun w hw => c_impl_cut cur ([10] : List UInt8)) <| Qm rfl <| Qx rfl rfl <| Qx rfl rfl <| Qx rfl rfl <| Qa rfl <| Qa rfl <| Qa rfl <| zJ <| zS ?_
  refine Qm rfl <| Qt rfl <| JL.nil ?_
  refine zi (fun h7 h7' => ?_) fun h7 h7' => ?_
  ·
   have hL2 := hL.last (by simpa using h7) hne
   refine zS <| Qa rfl <| zG <| Qa rfl <| zN <| Qm rfl <| Qm rfl <| zbs fun b8 => ?_
   refine JL.e (e_append (i := 1) (n' := (out ++ ([(M.cutS cur ([10] : List UInt8)).1])).length) (vs' := txs_ (out ++ ([(M.cutS cur ([10] : List UInt8)).1]))) el_31 rfl rfl rfl rfl (src_row (i := 0) und_31 rfl rfl) (by omega) (by omega) ln2_ (by first | rfl | (simp [txs_]; done))) ?_
   rintro v10 _ _ ⟨⟨g11, rfl⟩, rfl⟩ _
   refine JL.fact (row_form' (i := 1) rfl) (fun hf12 => ?_)
   obtain ⟨A12, c12, rfl, bl12, bh12⟩ := hf12
   refine znl ?_
   refine Qa rfl <| zG <| Qm rfl <| Qa rfl <| JL.nil <| Js.blockEnd ?_
   refine zd [1, 1, 1] rfl fun u13 x13 => ?_
   exact zag ⟨([] : List UInt8), false, out ++ ([(M.cutS cur ([10] : List UInt8)).1]), _, _, _, rfl, rfl, by exact hL2, by first | omega | exact Nat.zero_le _, zu, zu, rfl⟩ (x5.trans x13) (by omega)
  have hc9 : (M.cutS cur [10]).2.2 = true := by simpa using h7
  have hL2 := hL.more hc9
  have hc8 := (M.recL_more hc9).2.2
  refine Js.skip <| zS <| Qm rfl <| Qm rfl <| zbs fun b14 => ?_
  refine JL.e (e_append (i := 1) (n' := (out ++ ([(M.cutS cur ([10] : List UInt8)).1])).length) (vs' := txs_ (out ++ ([(M.cutS cur ([10] : List UInt8)).1]))) el_31 rfl rfl rfl rfl (src_row (i := 0) und_31 rfl rfl) (by omega) (by omega) ln2_ (by first | rfl | (simp [txs_]; done))) ?_
  rintro v16 _ _ ⟨⟨g17, rfl⟩, rfl⟩ _
  refine JL.fact (row_form' (i := 1) rfl) (fun hf18 => ?_)
  obtain ⟨A18, c18, rfl, bl18, bh18⟩ := hf18
  refine znl ?_
  refine Qa rfl <| zG <| Qm rfl <| Qa rfl <| JL.nil <| Js.blockEnd ?_
  refine zd [1, 1, 1] rfl fun u19 x19 => ?_
  exact zag ⟨(M.cutS cur ([10] : List UInt8)).2.1, ee, out ++ ([(M.cutS cur ([10] : List UInt8)).1]), _, _, _, rfl, rfl, by exact hL2, by first | omega | exact Nat.zero_le _, zu, zu, rfl⟩ (x5.trans x19) (by omega)
 have hcur : cur = [] := by simpa using h6
 rw [hcur] at hL
 obtain ⟨hout, hee⟩ := hL.done
 have hol : out.length ≤ s.length + 1 := by rw [hout]; exact M.recL_len s
 have hmem := hL.mem
 refine zx ?_
 refine Js.seq <| zS <| Qa rfl <| JL.nil <| Js.block ?_
 refine Js.conv (fun w hw => St.nilRow 2 hw) ?_
 refine Js.conv (fun w hw => St.nilRow 2 hw) ?_
 refine Js.conv (fun w hw => St.nilRow 2 hw) ?_
 refine Js.conv (fun w hw => St.nilRow 2 hw) ?_
 refine Js.conv (fun w hw => St.nilRow 2 hw) ?_
 refine zl [2, 5, 6, 7] (fun F U l os u m => ∃ (k : Nat) (gk : M.Gam) (A20_5_9 : Option Addr) (c20_5_9 : Nat) (g20_5_9 : List Nat) (A20_5_10 : Option Addr) (c20_5_10 : Nat) (g20_5_10 : List Nat) (A20_5_12 : Option Addr) (c20_5_12 : Nat) (g20_5_12 : List Nat) (A20_5_13 : Option Addr) (c20_5_13 : Nat) (g20_5_13 : List Nat) (A20_5_14 : Option Addr) (c20_5_14 : Nat) (g20_5_14 : List Nat), l = F [(11, .int .i64 (k : Int))] ∧ os = U [some (rowO 2 1 (.slice A20_5_14 gk.now.stores.length c20_5_14) gk.now.stores.length (ints_ gk.now.stores) g20_5_14), some (rowO 2 1 (.slice A20_5_13 gk.now.pits.length c20_5_13) gk.now.pits.length (ints_ gk.now.pits) g20_5_13), some (rowO 2 1 (.slice A20_5_12 gk.moves.length c20_5_12) gk.moves.length (ints_ gk.moves) g20_5_12), some (rowO 2 1 (.slice A20_5_10 gk.start.stores.length c20_5_10) gk.start.stores.length (ints_ gk.start.stores) g20_5_10), some (rowO 2 1 (.slice A20_5_9 gk.start.pits.length c20_5_9) gk.start.pits.length (ints_ gk.start.pits) g20_5_9), nO, some (boxO b2 [.int .i64 gk.rules.pits, .int .i64 gk.rules.seeds, .bool gk.rules.stores, .bool gk.rules.skip, .bool gk.rules.relay, .bool gk.rules.feed, .bool gk.rules.again, .int .i64 gk.rules.capture, .int .i64 gk.rules.slam, .slice A20_5_9 gk.start.pits.length c20_5_9, .slice A20_5_10 gk.start.stores.length c20_5_10, .int .i64 gk.start.player, .slice A20_5_12 gk.moves.length c20_5_12, .slice A20_5_13 gk.now.pits.length c20_5_13, .slice A20_5_14 gk.now.stores.length c20_5_14, .int .i64 gk.now.player, .int .i64 gk.resigned] 157)] ∧ (M.RecI s k gk) ∧ (k ≤ (max (M.recL s).length 2)) ∧ (gk.start.pits.length ≤ c20_5_9) ∧ (c20_5_9 ≤ 9223372036854775807) ∧ (gk.start.stores.length ≤ c20_5_10) ∧ (c20_5_10 ≤ 9223372036854775807) ∧ (gk.moves.length ≤ c20_5_12) ∧ (c20_5_12 ≤ 9223372036854775807) ∧ (gk.now.pits.length ≤ c20_5_13) ∧ (c20_5_13 ≤ 9223372036854775807) ∧ (gk.now.stores.length ≤ c20_5_14) ∧ (c20_5_14 ≤ 9223372036854775807) ∧ m = (max (M.recL s).length 2) - k) ⟨0, M.Gam.zero, _, _, _, _, _, _, _, _, _, _, _, _, _, _, _, rfl, rfl, by exact M.RecI.zero s, by exact Nat.zero_le _, by first | omega | decide, by first | omega | decide, by first | omega | decide, by first | omega | decide, by first | omega | decide, by first | omega | decide, by first | omega | decide, by first | omega | decide, by first | omega | decide, by first | omega | decide, rfl⟩ ?_
 rintro _ _ u20 _ ⟨k, gk, A20_5_9, c20_5_9, g20_5_9, A20_5_10, c20_5_10, g20_5_10, A20_5_12, c20_5_12, g20_5_12, A20_5_13, c20_5_13, g20_5_13, A20_5_14, c20_5_14, g20_5_14, rfl, rfl, hR, hk, f20_2, f20_3, f20_4, f20_5, f20_6, f20_7, f20_8, f20_9, f20_10, f20_11, rfl⟩ x20
 refine zn ?_
 obtain ⟨gb1, gb2, gb3, gb4, gb5⟩ := hR.bd
 refine Js.seq <| zS <| Qm rfl <| Qm rfl <| Qz rfl <| Qq (p_max rfl rfl) <| Ql rfl rfl <| JL.nil ?_
 refine zi (fun h21 h21' => ?_) fun h21 h21' => ?_
 ·
  have hk2 : k < (max (M.recL s).length 2) := by have := h21'; rw [← hout]; omega
  refine Js.skip <| Js.seq <| Js.block <| zS <| Qa rfl <| zJ <| Js.block <| zS <| Qm rfl <| Qm rfl <| Qz rfl <| Qh rfl rfl <| Qa rfl <| JL.nil ?_
  refine zi (fun h22 h22' => ?_) fun h22 h22' => ?_
  ·
   have hb : M.base (M.recL s) gk k = (gk, 1 + (k : Int)) := M.base_no (by rw [← hout]; omega)
   refine Js.region <| Qm rfl <| Qp rfl rfl <| Qa rfl <| JL.nil <| Js.blockEnd <| Js.seq <| zS <| Qm rfl <| Qe rfl rfl <| Qm rfl <| zg (Gd.t1 rfl rfl rfl) (fun hc => p_move rfl) <| zg (Gd.t1 rfl rfl rfl) (fun hc => p_move rfl) <| zg (Gd.t1 rfl rfl rfl) (fun hc => p_len el_31 (gh hc rfl)) ?_
   refine zg (Gd.t1 rfl rfl rfl) (fun hc => p_sub (gh hc rfl) rfl (IntWalk.i64_in _ (oh_ hc))) ?_
   refine zg (Gd.t1 rfl rfl rfl) (fun hc => p_eql (gh hc rfl) (gh hc rfl)) <| Qq (p_pickAnd rfl rfl rfl) <| Qm rfl <| zg (Gd.t1 rfl rfl rfl) (fun hc => p_move rfl) <| zg (Gd.t1 rfl rfl rfl) (fun hc => p_not (gh hc rfl)) <| Qq (p_pickAnd rfl rfl rfl) <| JL.nil ?_
   refine zi (fun h23 h23' => ?_) fun h23 h23' => ?_
   · exact absurd h23 (by simp; omega)
   have hf := M.flt_b (e := M.whole s) hb (fun ⟨d1, d2, d3⟩ => by have h9 := h23; rw [← hee] at d3; rw [← hout] at d2; simp [d1, d3] at h9; omega)
   refine Js.skip <| zS <| Qm rfl <| Qd rfl rfl <| JL.nil ?_
   refine zi (fun h24 h24' => ?_) fun h24 h24' => ?_
   ·
    have hE := hR.bad hk2 hf (by simpa using h24)
    have hq0 : 0 = (((M.chkW s).1).rules).pits := rp_ hE
    have hq1 : 0 = (((M.chkW s).1).rules).seeds := rp_ hE
    have hq2 : false = (((M.chkW s).1).rules).stores := rp_ hE
    have hq3 : false = (((M.chkW s).1).rules).skip := rp_ hE
    have hq4 : false = (((M.chkW s).1).rules).relay := rp_ hE
    have hq5 : false = (((M.chkW s).1).rules).feed := rp_ hE
    have hq6 : false = (((M.chkW s).1).rules).again := rp_ hE
    have hq7 : 0 = (((M.chkW s).1).rules).capture := rp_ hE
    have hq8 : 0 = (((M.chkW s).1).rules).slam := rp_ hE
    have hq9 : [] = (((M.chkW s).1).start).pits := rp_ hE
    have hq10 : [] = (((M.chkW s).1).start).stores := rp_ hE
    have hq11 : 0 = (((M.chkW s).1).start).player := rp_ hE
    have hq12 : [] = ((M.chkW s).1).moves := rp_ hE
    have hq13 : [] = (((M.chkW s).1).now).pits := rp_ hE
    have hq14 : [] = (((M.chkW s).1).now).stores := rp_ hE
    have hq15 : 0 = (((M.chkW s).1).now).player := rp_ hE
    have hq16 : 0 = ((M.chkW s).1).resigned := rp_ hE
    have hq17 : (k : Int) = (M.chkW s).2.1 := rp_ hE
    have hq18 : (1 + (k : Int)) = (M.chkW s).2.2 := rp_ hE
    refine zS <| Qb ?_
    refine Qm rfl <| Qm rfl <| zw 7 rfl rfl rfl ?_
    refine Qa rfl <| Qa rfl <| JL.nil ?_
    exact zro (x5.trans x20)
   have hR2 := hR.step hk2 hf (by simpa using h24)
   refine Js.skip <| Js.blockEnd <| Js.region <| Qm rfl <| Qp rfl rfl <| Qa rfl <| JL.nil ?_
   exact zag ⟨k + 1, gk, _, _, _, _, _, _, _, _, _, _, _, _, _, _, _, rfl, rfl, by exact hR2, zt, zu, zu, zu, zu, zu, zu, zu, zu, zu, zu, rfl⟩ x20
  refine zS <| Qm rfl <| Ql rfl rfl <| Qa rfl <| JL.nil ?_
  refine zi (fun h25 h25' => ?_) fun h25 h25' => ?_
  ·
   have hk9 : k < 2 := by have := h25'; omega
   obtain ⟨ye26, hye26⟩ : ∃ x, out[k]? = some x := ⟨_, List.getElem?_eq_getElem (by omega)⟩
   have hm9 := hmem _ (List.mem_of_getElem? hye26)
   have hb : M.base (M.recL s) gk k = M.headI gk (k : Int) ye26 := M.base_h (by rw [← hout]; exact hye26) hk9
   refine Js.region <| Qm rfl <| Qm rfl <| Qm rfl <| Qm rfl ?_
   refine JL.fact (row_some (i := 5) rfl (by omega)) (fun hf28 => ?_)
   obtain ⟨b28, rfl⟩ := hf28
   have hye26 : (out : List (List UInt8))[k]? = some ye26 := hye26
   refine Qq (p_indexAddr el_31 rfl rfl (by omega) (by omega) rfl) <| Qw (q_load1 ty_9.h rfl (Mem.row (i := 5) rfl (txs_get' (xs := out) hye26))) ?_
   refine zhl [6, 4, 3, 2, 1, 0] ?_
   refine zB 6 sp_ rfl (fun w hb hw => c_impl_recordReader_head gk (k : Int) ye26 hb (ok_ hw)) ?_
   rintro _ _ G30 ⟨A30x_9, c30x_9, g30x_9, A30x_10, c30x_10, g30x_10, A30x_12, c30x_12, g30x_12, A30x_13, c30x_13, g30x_13, A30x_14, c30x_14, g30x_14, rfl, rfl, bl30_0, bl30_1, bl30_2, bl30_3, bl30_4, bl30_5, bl30_6, bl30_7, bl30_8, bl30_9⟩
   refine znl ?_
   refine Qa rfl <| JL.nil <| Js.blockEnd <| Js.seq <| zS <| Qm rfl <| Qe rfl rfl <| Qm rfl <| zg (Gd.t1 rfl rfl rfl) (fun hc => p_move rfl) <| zg (Gd.t1 rfl rfl rfl) (fun hc => p_move rfl) <| zg (Gd.t1 rfl rfl rfl) (fun hc => p_len el_31 (gh hc rfl)) <| zg (Gd.t1 rfl rfl rfl) (fun hc => p_sub (gh hc rfl) rfl (IntWalk.i64_in _ (oh_ hc))) ?_
   refine zg (Gd.t1 rfl rfl rfl) (fun hc => p_eql (gh hc rfl) (gh hc rfl)) <| Qq (p_pickAnd rfl rfl rfl) <| Qm rfl <| zg (Gd.t1 rfl rfl rfl) (fun hc => p_move rfl) <| zg (Gd.t1 rfl rfl rfl) (fun hc => p_not (gh hc rfl)) <| Qq (p_pickAnd rfl rfl rfl) <| JL.nil ?_
   refine zi (fun h31 h31' => ?_) fun h31 h31' => ?_
   ·
    have hf := M.flt_7 (e := M.whole s) hb (by have h9 := h31; rw [← hout, ← hee]; simp at h9; exact ⟨by first | exact h9.1.1 | omega, by omega, h9.2⟩)
    have hE := hR.bad hk2 hf (show ¬ (7 : Int) = 0 by decide)
    refine Js.region <| Qa rfl <| zN <| Qm rfl <| Qd rfl rfl <| JL.nil ?_
    refine Js.condT rfl (by decide) ?_
    have hq0 : 0 = (((M.chkW s).1).rules).pits := rp_ hE
    have hq1 : 0 = (((M.chkW s).1).rules).seeds := rp_ hE
    have hq2 : false = (((M.chkW s).1).rules).stores := rp_ hE
    have hq3 : false = (((M.chkW s).1).rules).skip := rp_ hE
    have hq4 : false = (((M.chkW s).1).rules).relay := rp_ hE
    have hq5 : false = (((M.chkW s).1).rules).feed := rp_ hE
    have hq6 : false = (((M.chkW s).1).rules).again := rp_ hE
    have hq7 : 0 = (((M.chkW s).1).rules).capture := rp_ hE
    have hq8 : 0 = (((M.chkW s).1).rules).slam := rp_ hE
    have hq9 : [] = (((M.chkW s).1).start).pits := rp_ hE
    have hq10 : [] = (((M.chkW s).1).start).stores := rp_ hE
    have hq11 : 0 = (((M.chkW s).1).start).player := rp_ hE
    have hq12 : [] = ((M.chkW s).1).moves := rp_ hE
    have hq13 : [] = (((M.chkW s).1).now).pits := rp_ hE
    have hq14 : [] = (((M.chkW s).1).now).stores := rp_ hE
    have hq15 : 0 = (((M.chkW s).1).now).player := rp_ hE
    have hq16 : 0 = ((M.chkW s).1).resigned := rp_ hE
    have hq17 : (k : Int) = (M.chkW s).2.1 := rp_ hE
    have hq18 : 7 = (M.chkW s).2.2 := rp_ hE
    refine zS <| Qb ?_
    refine Qm rfl <| Qm rfl <| zw 8 rfl rfl rfl ?_
    refine Qa rfl <| Qa rfl <| JL.nil ?_
    exact zro (x5.trans x20)
   have hf := M.flt_b (e := M.whole s) hb (fun ⟨d1, d2, d3⟩ => by have h9 := h31; rw [← hee] at d3; rw [← hout] at d2; simp [d1, d3] at h9; omega)
   refine Js.skip <| zS <| Qm rfl <| Qd rfl rfl <| JL.nil ?_
   refine zi (fun h32 h32' => ?_) fun h32 h32' => ?_
   ·
    have hE := hR.bad hk2 hf (by simpa using h32)
    have hq0 : 0 = (((M.chkW s).1).rules).pits := rp_ hE
    have hq1 : 0 = (((M.chkW s).1).rules).seeds := rp_ hE
    have hq2 : false = (((M.chkW s).1).rules).stores := rp_ hE
    have hq3 : false = (((M.chkW s).1).rules).skip := rp_ hE
    have hq4 : false = (((M.chkW s).1).rules).relay := rp_ hE
    have hq5 : false = (((M.chkW s).1).rules).feed := rp_ hE
    have hq6 : false = (((M.chkW s).1).rules).again := rp_ hE
    have hq7 : 0 = (((M.chkW s).1).rules).capture := rp_ hE
    have hq8 : 0 = (((M.chkW s).1).rules).slam := rp_ hE
    have hq9 : [] = (((M.chkW s).1).start).pits := rp_ hE
    have hq10 : [] = (((M.chkW s).1).start).stores := rp_ hE
    have hq11 : 0 = (((M.chkW s).1).start).player := rp_ hE
    have hq12 : [] = ((M.chkW s).1).moves := rp_ hE
    have hq13 : [] = (((M.chkW s).1).now).pits := rp_ hE
    have hq14 : [] = (((M.chkW s).1).now).stores := rp_ hE
    have hq15 : 0 = (((M.chkW s).1).now).player := rp_ hE
    have hq16 : 0 = ((M.chkW s).1).resigned := rp_ hE
    have hq17 : (k : Int) = (M.chkW s).2.1 := rp_ hE
    have hq18 : ((M.headI gk (k : Int) ye26).2) = (M.chkW s).2.2 := rp_ hE
    refine zS <| Qb ?_
    refine Qm rfl <| Qm rfl <| zw 8 rfl rfl rfl ?_
    refine Qa rfl <| Qa rfl <| JL.nil ?_
    exact zro (x5.trans x20)
   have hR2 := hR.step hk2 hf (by simpa using h32)
   refine Js.skip <| Js.blockEnd <| Js.region <| Qm rfl <| Qp rfl rfl <| Qa rfl <| JL.nil ?_
   refine zd [5, 4, 3, 2, 1, 2, 0, 1] rfl fun u33 x33 => ?_
   exact zag ⟨k + 1, (M.headI gk (k : Int) ye26).1, _, _, _, _, _, _, _, _, _, _, _, _, _, _, _, rfl, rfl, by exact hR2, zt, zu, zu, zu, zu, zu, zu, zu, zu, zu, zu, rfl⟩ (x20.trans x33)
  have hk9 : ¬ k < 2 := by have := h25'; omega
  obtain ⟨ye34, hye34⟩ : ∃ x, out[k]? = some x := ⟨_, List.getElem?_eq_getElem (by omega)⟩
  have hm9 := hmem _ (List.mem_of_getElem? hye34)
  have hb : M.base (M.recL s) gk k = M.lineI gk ye34 := M.base_l (by rw [← hout]; exact hye34) hk9
  refine Js.region <| Qm rfl <| Qm rfl <| Qm rfl ?_
  refine JL.fact (row_some (i := 5) rfl (by omega)) (fun hf36 => ?_)
  obtain ⟨b36, rfl⟩ := hf36
  have hye34 : (out : List (List UInt8))[k]? = some ye34 := hye34
  refine Qq (p_indexAddr el_31 rfl rfl (by omega) (by omega) rfl) <| Qw (q_load1 ty_9.h rfl (Mem.row (i := 5) rfl (txs_get' (xs := out) hye34))) ?_
  refine zhl [6, 4, 3, 2, 1, 0] ?_
  refine zB 6 sp_ rfl (fun w hb hw => c_impl_recordReader_line gk ye34 hb (ok_ hw)) ?_
  rintro _ _ G38 ⟨A38x_9, c38x_9, g38x_9, A38x_10, c38x_10, g38x_10, A38x_12, c38x_12, g38x_12, A38x_13, c38x_13, g38x_13, A38x_14, c38x_14, g38x_14, rfl, rfl, bl38_0, bl38_1, bl38_2, bl38_3, bl38_4, bl38_5, bl38_6, bl38_7, bl38_8, bl38_9⟩
  refine znl ?_
  refine Qa rfl <| JL.nil <| Js.blockEnd <| Js.seq <| zS <| Qm rfl <| Qe rfl rfl <| Qm rfl <| zg (Gd.t1 rfl rfl rfl) (fun hc => p_move rfl) <| zg (Gd.t1 rfl rfl rfl) (fun hc => p_move rfl) <| zg (Gd.t1 rfl rfl rfl) (fun hc => p_len el_31 (gh hc rfl)) <| zg (Gd.t1 rfl rfl rfl) (fun hc => p_sub (gh hc rfl) rfl (IntWalk.i64_in _ (oh_ hc))) ?_
  refine zg (Gd.t1 rfl rfl rfl) (fun hc => p_eql (gh hc rfl) (gh hc rfl)) <| Qq (p_pickAnd rfl rfl rfl) <| Qm rfl <| zg (Gd.t1 rfl rfl rfl) (fun hc => p_move rfl) <| zg (Gd.t1 rfl rfl rfl) (fun hc => p_not (gh hc rfl)) <| Qq (p_pickAnd rfl rfl rfl) <| JL.nil ?_
  refine zi (fun h39 h39' => ?_) fun h39 h39' => ?_
  ·
   have hf := M.flt_7 (e := M.whole s) hb (by have h9 := h39; rw [← hout, ← hee]; simp at h9; exact ⟨by first | exact h9.1.1 | omega, by omega, h9.2⟩)
   have hE := hR.bad hk2 hf (show ¬ (7 : Int) = 0 by decide)
   refine Js.region <| Qa rfl <| zN <| Qm rfl <| Qd rfl rfl <| JL.nil ?_
   refine Js.condT rfl (by decide) ?_
   have hq0 : 0 = (((M.chkW s).1).rules).pits := rp_ hE
   have hq1 : 0 = (((M.chkW s).1).rules).seeds := rp_ hE
   have hq2 : false = (((M.chkW s).1).rules).stores := rp_ hE
   have hq3 : false = (((M.chkW s).1).rules).skip := rp_ hE
   have hq4 : false = (((M.chkW s).1).rules).relay := rp_ hE
   have hq5 : false = (((M.chkW s).1).rules).feed := rp_ hE
   have hq6 : false = (((M.chkW s).1).rules).again := rp_ hE
   have hq7 : 0 = (((M.chkW s).1).rules).capture := rp_ hE
   have hq8 : 0 = (((M.chkW s).1).rules).slam := rp_ hE
   have hq9 : [] = (((M.chkW s).1).start).pits := rp_ hE
   have hq10 : [] = (((M.chkW s).1).start).stores := rp_ hE
   have hq11 : 0 = (((M.chkW s).1).start).player := rp_ hE
   have hq12 : [] = ((M.chkW s).1).moves := rp_ hE
   have hq13 : [] = (((M.chkW s).1).now).pits := rp_ hE
   have hq14 : [] = (((M.chkW s).1).now).stores := rp_ hE
   have hq15 : 0 = (((M.chkW s).1).now).player := rp_ hE
   have hq16 : 0 = ((M.chkW s).1).resigned := rp_ hE
   have hq17 : (k : Int) = (M.chkW s).2.1 := rp_ hE
   have hq18 : 7 = (M.chkW s).2.2 := rp_ hE
   refine zS <| Qb ?_
   refine Qm rfl <| Qm rfl <| zw 8 rfl rfl rfl ?_
   refine Qa rfl <| Qa rfl <| JL.nil ?_
   exact zro (x5.trans x20)
  have hf := M.flt_b (e := M.whole s) hb (fun ⟨d1, d2, d3⟩ => by have h9 := h39; rw [← hee] at d3; rw [← hout] at d2; simp [d1, d3] at h9; omega)
  refine Js.skip <| zS <| Qm rfl <| Qd rfl rfl <| JL.nil ?_
  refine zi (fun h40 h40' => ?_) fun h40 h40' => ?_
  ·
   have hE := hR.bad hk2 hf (by simpa using h40)
   have hq0 : 0 = (((M.chkW s).1).rules).pits := rp_ hE
   have hq1 : 0 = (((M.chkW s).1).rules).seeds := rp_ hE
   have hq2 : false = (((M.chkW s).1).rules).stores := rp_ hE
   have hq3 : false = (((M.chkW s).1).rules).skip := rp_ hE
   have hq4 : false = (((M.chkW s).1).rules).relay := rp_ hE
   have hq5 : false = (((M.chkW s).1).rules).feed := rp_ hE
   have hq6 : false = (((M.chkW s).1).rules).again := rp_ hE
   have hq7 : 0 = (((M.chkW s).1).rules).capture := rp_ hE
   have hq8 : 0 = (((M.chkW s).1).rules).slam := rp_ hE
   have hq9 : [] = (((M.chkW s).1).start).pits := rp_ hE
   have hq10 : [] = (((M.chkW s).1).start).stores := rp_ hE
   have hq11 : 0 = (((M.chkW s).1).start).player := rp_ hE
   have hq12 : [] = ((M.chkW s).1).moves := rp_ hE
   have hq13 : [] = (((M.chkW s).1).now).pits := rp_ hE
   have hq14 : [] = (((M.chkW s).1).now).stores := rp_ hE
   have hq15 : 0 = (((M.chkW s).1).now).player := rp_ hE
   have hq16 : 0 = ((M.chkW s).1).resigned := rp_ hE
   have hq17 : (k : Int) = (M.chkW s).2.1 := rp_ hE
   have hq18 : ((M.lineI gk ye34).2) = (M.chkW s).2.2 := rp_ hE
   refine zS <| Qb ?_
   refine Qm rfl <| Qm rfl <| zw 8 rfl rfl rfl ?_
   refine Qa rfl <| Qa rfl <| JL.nil ?_
   exact zro (x5.trans x20)
  have hR2 := hR.step hk2 hf (by simpa using h40)
  refine Js.skip <| Js.blockEnd <| Js.region <| Qm rfl <| Qp rfl rfl <| Qa rfl <| JL.nil ?_
  refine zd [5, 4, 3, 2, 1, 2, 0, 1] rfl fun u41 x41 => ?_
  exact zag ⟨k + 1, (M.lineI gk ye34).1, _, _, _, _, _, _, _, _, _, _, _, _, _, _, _, rfl, rfl, by exact hR2, zt, zu, zu, zu, zu, zu, zu, zu, zu, zu, zu, rfl⟩ (x20.trans x41)
 have hE := hR.done (by have := h21'; rw [← hout]; omega)
 refine zx ?_
 have hq0 : gk.rules.pits = (((M.chkW s).1).rules).pits := rp_ hE
 have hq1 : gk.rules.seeds = (((M.chkW s).1).rules).seeds := rp_ hE
 have hq2 : gk.rules.stores = (((M.chkW s).1).rules).stores := rp_ hE
 have hq3 : gk.rules.skip = (((M.chkW s).1).rules).skip := rp_ hE
 have hq4 : gk.rules.relay = (((M.chkW s).1).rules).relay := rp_ hE
 have hq5 : gk.rules.feed = (((M.chkW s).1).rules).feed := rp_ hE
 have hq6 : gk.rules.again = (((M.chkW s).1).rules).again := rp_ hE
 have hq7 : gk.rules.capture = (((M.chkW s).1).rules).capture := rp_ hE
 have hq8 : gk.rules.slam = (((M.chkW s).1).rules).slam := rp_ hE
 have hq9 : gk.start.pits = (((M.chkW s).1).start).pits := rp_ hE
 have hq10 : gk.start.stores = (((M.chkW s).1).start).stores := rp_ hE
 have hq11 : gk.start.player = (((M.chkW s).1).start).player := rp_ hE
 have hq12 : gk.moves = ((M.chkW s).1).moves := rp_ hE
 have hq13 : gk.now.pits = (((M.chkW s).1).now).pits := rp_ hE
 have hq14 : gk.now.stores = (((M.chkW s).1).now).stores := rp_ hE
 have hq15 : gk.now.player = (((M.chkW s).1).now).player := rp_ hE
 have hq16 : gk.resigned = ((M.chkW s).1).resigned := rp_ hE
 have hq17 : (-1) = (M.chkW s).2.1 := rp_ hE
 have hq18 : 0 = (M.chkW s).2.2 := rp_ hE
 refine zS <| Qm rfl <| Qc rfl <| Qf fh rfl <| Q9 6 rfl rfl ?_
 refine zw 7 rfl rfl rfl ?_
 refine Qa rfl <| Qa rfl <| JL.nil ?_
 exact zro (x5.trans x20)
theorem c_impl_ReadRecord (s : List UInt8) {w : World} (h_tab : tabT.ok w undef) (r0 : s.length ≤ 1048576 := by exact om_) : Ret Tryz.prog 27 [.string (sB s)] w (Ty.tup [Ty.agg (cGame ((M.readG s).1)), Ty.bool ((M.readG s).2)]) := by
 refine enter @Tryz.func27 @Tryz.ntmps27 rfl rfl ?_
 refine zent ?_
 refine zS <| za zeh fun b1 => Qa rfl <| zJ <| zS <| Qm rfl <| Qq (p_lenS und_9 rfl) <| Qg rfl rfl <| JL.nil ?_
 refine zi (fun h2 h2' => ?_) fun h2 h2' => ?_
 ·
  have hE := M.readG_5 (s := s) (by have := h2'; omega)
  have hq0 : 0 = (((M.readG s).1).rules).pits := rp_ hE
  have hq1 : 0 = (((M.readG s).1).rules).seeds := rp_ hE
  have hq2 : false = (((M.readG s).1).rules).stores := rp_ hE
  have hq3 : false = (((M.readG s).1).rules).skip := rp_ hE
  have hq4 : false = (((M.readG s).1).rules).relay := rp_ hE
  have hq5 : false = (((M.readG s).1).rules).feed := rp_ hE
  have hq6 : false = (((M.readG s).1).rules).again := rp_ hE
  have hq7 : 0 = (((M.readG s).1).rules).capture := rp_ hE
  have hq8 : 0 = (((M.readG s).1).rules).slam := rp_ hE
  have hq9 : [] = (((M.readG s).1).start).pits := rp_ hE
  have hq10 : [] = (((M.readG s).1).start).stores := rp_ hE
  have hq11 : 0 = (((M.readG s).1).start).player := rp_ hE
  have hq12 : [] = ((M.readG s).1).moves := rp_ hE
  have hq13 : [] = (((M.readG s).1).now).pits := rp_ hE
  have hq14 : [] = (((M.readG s).1).now).stores := rp_ hE
  have hq15 : 0 = (((M.readG s).1).now).player := rp_ hE
  have hq16 : 0 = ((M.readG s).1).resigned := rp_ hE
  have hq17 : false = (M.readG s).2 := rp_ hE
  refine zS <| Qb ?_
  refine zw 0 rfl rfl rfl ?_
  refine Qa rfl <| JL.nil ?_
  exact zro (Up.refl _ _)
 have hs9 : ¬ 4000 < s.length := by have := h2'; omega
 have hco := M.chkW_one s
 refine Js.skip <| zS <| Qm rfl <| zc rfl (fun w hw => c_impl_checkRecord s (ok_ hw)) ?_
 intro A5 c5 bl5 bh5 A6 c6 bl6 bh6 A7 c7 bl7 bh7 A8 c8 bl8 bh8 A9 c9 bl9 bh9
 refine Qm rfl <| Qx rfl rfl <| Qx rfl rfl <| Qx rfl rfl <| za zeh fun b10 => zw 0 rfl rfl rfl ?_
 refine Qa rfl <| Qa rfl <| zJ <| zS <| Qm rfl <| Qh rfl rfl <| JL.nil ?_
 refine zi (fun h11 h11' => ?_) fun h11 h11' => ?_
 ·
  have hE := M.readG_n hs9 (by have h8 := h11'; rcases hco with h9 | h9; omega; exact h9.2.1)
  have hq0 : 0 = (((M.readG s).1).rules).pits := rp_ hE
  have hq1 : 0 = (((M.readG s).1).rules).seeds := rp_ hE
  have hq2 : false = (((M.readG s).1).rules).stores := rp_ hE
  have hq3 : false = (((M.readG s).1).rules).skip := rp_ hE
  have hq4 : false = (((M.readG s).1).rules).relay := rp_ hE
  have hq5 : false = (((M.readG s).1).rules).feed := rp_ hE
  have hq6 : false = (((M.readG s).1).rules).again := rp_ hE
  have hq7 : 0 = (((M.readG s).1).rules).capture := rp_ hE
  have hq8 : 0 = (((M.readG s).1).rules).slam := rp_ hE
  have hq9 : [] = (((M.readG s).1).start).pits := rp_ hE
  have hq10 : [] = (((M.readG s).1).start).stores := rp_ hE
  have hq11 : 0 = (((M.readG s).1).start).player := rp_ hE
  have hq12 : [] = ((M.readG s).1).moves := rp_ hE
  have hq13 : [] = (((M.readG s).1).now).pits := rp_ hE
  have hq14 : [] = (((M.readG s).1).now).stores := rp_ hE
  have hq15 : 0 = (((M.readG s).1).now).player := rp_ hE
  have hq16 : 0 = ((M.readG s).1).resigned := rp_ hE
  have hq17 : false = (M.readG s).2 := rp_ hE
  refine zS <| Qb ?_
  refine zw 6 rfl rfl rfl ?_
  refine Qa rfl <| JL.nil ?_
  exact zro (Up.refl _ _)
 have hE := M.readG_y hs9 (by have h8 := h11'; rcases hco with h9 | h9; exact h9.2; omega)
 have hq0 : ((((M.chkW s).1).rules).pits) = (((M.readG s).1).rules).pits := rp_ hE
 have hq1 : ((((M.chkW s).1).rules).seeds) = (((M.readG s).1).rules).seeds := rp_ hE
 have hq2 : ((((M.chkW s).1).rules).stores) = (((M.readG s).1).rules).stores := rp_ hE
 have hq3 : ((((M.chkW s).1).rules).skip) = (((M.readG s).1).rules).skip := rp_ hE
 have hq4 : ((((M.chkW s).1).rules).relay) = (((M.readG s).1).rules).relay := rp_ hE
 have hq5 : ((((M.chkW s).1).rules).feed) = (((M.readG s).1).rules).feed := rp_ hE
 have hq6 : ((((M.chkW s).1).rules).again) = (((M.readG s).1).rules).again := rp_ hE
 have hq7 : ((((M.chkW s).1).rules).capture) = (((M.readG s).1).rules).capture := rp_ hE
 have hq8 : ((((M.chkW s).1).rules).slam) = (((M.readG s).1).rules).slam := rp_ hE
 have hq9 : ((((M.chkW s).1).start).pits) = (((M.readG s).1).start).pits := rp_ hE
 have hq10 : ((((M.chkW s).1).start).stores) = (((M.readG s).1).start).stores := rp_ hE
 have hq11 : ((((M.chkW s).1).start).player) = (((M.readG s).1).start).player := rp_ hE
 have hq12 : (((M.chkW s).1).moves) = ((M.readG s).1).moves := rp_ hE
 have hq13 : ((((M.chkW s).1).now).pits) = (((M.readG s).1).now).pits := rp_ hE
 have hq14 : ((((M.chkW s).1).now).stores) = (((M.readG s).1).now).stores := rp_ hE
 have hq15 : ((((M.chkW s).1).now).player) = (((M.readG s).1).now).player := rp_ hE
 have hq16 : (((M.chkW s).1).resigned) = ((M.readG s).1).resigned := rp_ hE
 have hq17 : true = (M.readG s).2 := rp_ hE
 refine Js.skip <| zS <| Q9 0 rfl rfl ?_
 refine zw 6 rfl rfl rfl ?_
 refine Qa rfl <| JL.nil ?_
 exact zro (Up.refl _ _)
theorem c_spec_l01Dec (n : Int) {w : World} (r0 : -9223372036854775808 ≤ n := by exact om_) (r1 : n ≤ 9223372036854775807 := by exact om_) : RetV Tryz.prog 100 [.int .i64 n] w (.string (sB (M.dec n))) := by
 refine enter @Tryz.func100 @Tryz.ntmps100 rfl rfl ?_
 refine zent ?_
 refine zS <| Qa rfl <| zN <| zbs fun b1 => ?_
 refine Qa rfl <| zJ <| zS <| Qm rfl <| Qa rfl <| JL.nil <| Js.block ?_
 refine zl [0] (fun F U l os u m => ∃ (k : Int) (out : List UInt8) (A3_3 : Option Addr) (c3_3 : Nat) (g3_3 : List Nat), l = F [(3, .slice A3_3 out.length c3_3), (4, .int .i64 k)] ∧ os = U [some (rowO 5 1 (.slice A3_3 out.length c3_3) out.length (byt_ out) g3_3)] ∧ (M.DecI n k out) ∧ (-9223372036854775808 ≤ k) ∧ (k ≤ 9223372036854775807) ∧ (out.length ≤ c3_3) ∧ (c3_3 ≤ 9223372036854775807) ∧ m = k.natAbs) ⟨n, ([] : List UInt8), _, _, _, rfl, rfl, by exact M.DecI.zero n, zt, zt, zu, zu, rfl⟩ ?_
 rintro _ _ u3 _ ⟨k, out, A3_3, c3_3, g3_3, rfl, rfl, hD, hk0, hk1, f3_3, f3_4, rfl⟩ x3
 refine zn ?_
 obtain ⟨t1, t2, t3, t4⟩ := M.tdiv10_bd hk0 hk1
 have hol := hD.len r0 r1
 obtain ⟨t5, t6⟩ := M.tdiv10 k
 refine Js.seq <| zS <| Qm rfl <| Qd rfl rfl <| JL.nil ?_
 refine zi (fun h4 h4' => ?_) fun h4 h4' => ?_
 ·
  have hkn : k ≠ 0 := by simpa using h4
  refine Js.skip <| Js.seq <| Js.block <| zS <| Qm rfl <| Qq (p_rem rfl rfl (by omega) rfl) <| Qa rfl <| zJ <| zS <| Qm rfl <| Ql rfl rfl <| JL.nil ?_
  refine zi (fun h5 h5' => ?_) fun h5 h5' => ?_
  ·
   have hd9 := h5'
   have hD2 := hD.step (d := -k.tmod 10) hkn (by omega)
   have hu8 : ((M.u8 (48 + (-(k.tmod 10)))).toNat : Int) = 48 + (-(k.tmod 10)) := M.u8_val (by omega) (by omega)
   refine Js.region <| Qm rfl <| Qq (p_neg (r := -(k.tmod 10)) rfl (by rw [Int.zero_sub]; exact IntWalk.i64_in _ (by omega))) <| Qa rfl <| zG <| Qm rfl <| Qp rfl rfl <| Qq (p_conv @Tryz.underlying2 @Tryz.underlying5 rfl (IntWalk.u8_in _ (by omega))) <| zbs fun b6 => ?_
   refine Qm rfl ?_
   refine JL.e (e_append (i := 0) (n' := (([M.u8 (48 + (-(k.tmod 10)))] : List UInt8) ++ out).length) (vs' := byt_ (([M.u8 (48 + (-(k.tmod 10)))] : List UInt8) ++ out)) el_22 rfl rfl rfl rfl (src_rowG (i := 1) und_22 rfl (byt_one _)) (by omega) (by omega) ln2_ (by first | rfl | (simp [byt_, hu8]; done))) ?_
   rintro v9 _ _ ⟨⟨g10, rfl⟩, rfl⟩ _
   refine JL.fact (row_form' (i := 0) rfl) (fun hf11 => ?_)
   obtain ⟨A11, c11, rfl, bl11, bh11⟩ := hf11
   refine znl ?_
   refine Qa rfl <| JL.nil <| Js.blockEnd <| Js.region <| Qm rfl <| Qq (p_quo rfl rfl (by omega) (IntWalk.i64_in _ (by omega))) <| Qa rfl <| JL.nil ?_
   refine zd [0] rfl fun u12 x12 => ?_
   exact zag ⟨k.tdiv 10, ([M.u8 (48 + (-(k.tmod 10)))] : List UInt8) ++ out, _, _, _, rfl, rfl, by exact hD2, zt, zt, zu, zu, rfl⟩ (x3.trans x12)
  have hd9 := h5'
  have hD2 := hD.step (d := k.tmod 10) hkn (by omega)
  have hu15 : ((M.u8 (48 + (k.tmod 10))).toNat : Int) = 48 + (k.tmod 10) := M.u8_val (by omega) (by omega)
  refine Js.skip <| Js.region <| Qm rfl <| Qp rfl rfl <| Qq (p_conv @Tryz.underlying2 @Tryz.underlying5 rfl (IntWalk.u8_in _ (by omega))) <| zbs fun b13 => ?_
  refine Qm rfl ?_
  refine JL.e (e_append (i := 0) (n' := (([M.u8 (48 + (k.tmod 10))] : List UInt8) ++ out).length) (vs' := byt_ (([M.u8 (48 + (k.tmod 10))] : List UInt8) ++ out)) el_22 rfl rfl rfl rfl (src_rowG (i := 1) und_22 rfl (byt_one _)) (by omega) (by omega) ln2_ (by first | rfl | (simp [byt_, hu15]; done))) ?_
  rintro v16 _ _ ⟨⟨g17, rfl⟩, rfl⟩ _
  refine JL.fact (row_form' (i := 0) rfl) (fun hf18 => ?_)
  obtain ⟨A18, c18, rfl, bl18, bh18⟩ := hf18
  refine znl ?_
  refine Qa rfl <| JL.nil <| Js.blockEnd <| Js.region <| Qm rfl <| Qq (p_quo rfl rfl (by omega) (IntWalk.i64_in _ (by omega))) <| Qa rfl <| JL.nil ?_
  refine zd [0] rfl fun u19 x19 => ?_
  exact zag ⟨k.tdiv 10, ([M.u8 (48 + (k.tmod 10))] : List UInt8) ++ out, _, _, _, rfl, rfl, by exact hD2, zt, zt, zu, zu, rfl⟩ (x3.trans x19)
 have hk9 : k = 0 := by simpa using h4
 subst hk9
 refine zx ?_
 refine Js.seq <| zS <| Qm rfl <| Qz rfl <| Qe rfl rfl <| JL.nil ?_
 refine zi (fun h20 h20' => ?_) fun h20 h20' => ?_
 ·
  have hE := hD.done0 (by have := h20'; omega) r0 r1
  refine zS <| Qa rfl <| JL.nil ?_
  refine zR x3 ?_
  rw [hE]; rfl
 have hl9 : out.length ≠ 0 := by have := h20'; omega
 have lb9 : LenB out 20 := ⟨hol⟩
 refine Js.skip <| Js.seq <| zS <| Qm rfl <| Ql rfl rfl <| JL.nil ?_
 refine zi (fun h21 h21' => ?_) fun h21 h21' => ?_
 ·
  have hE := hD.neg hl9 (by simpa using h21) r0 r1
  refine zS <| Qm rfl <| Qw (q_toStr (i := 0) und_22 @Tryz.underlying5 und_9 rfl rfl) <| Qq (q_cat rfl rfl) <| Qa rfl <| JL.nil ?_
  refine zR x3 ?_
  rw [hE]; rfl
 have hE := hD.pos hl9 (by simpa using h21) r0 r1
 refine Js.skip <| zS <| Qm rfl <| Qw (q_toStr (i := 0) und_22 @Tryz.underlying5 und_9 rfl rfl) <| Qa rfl <| JL.nil ?_
 refine zR x3 ?_
 rw [hE]; rfl
end Go.Proofs.YtjgohnaobbphpaaGreatDoor

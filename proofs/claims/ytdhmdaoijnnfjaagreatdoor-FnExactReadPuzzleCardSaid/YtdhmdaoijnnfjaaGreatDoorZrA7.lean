/- Walks: K21. -/
import Derived.Test.YtdhmdaoijnnfjaaGreatDoorZrA3
import Derived.Test.YtdhmdaoijnnfjaaGreatDoorZrA5
import Derived.Test.YtdhmdaoijnnfjaaGreatDoorZrA6
import Derived.Test.YtdhmdaoijnnfjaaGreatDoorZrA4
set_option linter.unusedSimpArgs false
set_option linter.unusedVariables false
set_option maxRecDepth 100000
attribute [local irreducible] Go.Proofs.YtdhmdaoijnnfjaaGreatDoor.gv
namespace Go.Proofs.YtdhmdaoijnnfjaaGreatDoor
open Go.RowKit

set_option maxHeartbeats 4000000 in
theorem c_spec_l04Read (s : List UInt8) {w : World} (r0 : s.length ≤ 4000000 := by exact om_) : Ret Tryz.prog 113 [.string (sB s)] w (Ty.tup [Ty.agg (cPosition ((M.readP0 s).1)), Ty.bool ((M.readP0 s).2)]) := by
 refine enter @Tryz.func113 @Tryz.ntmps113 rfl rfl ?_
 refine zent ?_
 refine zS <| za zeh fun b1 => Qa rfl <| zN <| Qm rfl <| zp rfl (fun w hw => c_spec_l01Split s 32) ?_
 intro u2 x2 A3 c3 h3 bl3 bh3
 refine Qa rfl <| zJ <| zS <| Qm rfl <| Qz rfl <| Qd rfl rfl <| JL.nil ?_
 refine zi (fun h4 h4' => ?_) fun h4 h4' => ?_
 ·
  have hE := M.readP0_no (s := s) (fun h => by have h9 := h4'; have h8 : (M.split (M.u8 32) s).length = 3 := h.1; omega)
  have hq0 : [] = ((M.readP0 s).1).pits := by first | (rw [hE]; done) | (rw [hE]; rfl)
  have hq1 : [] = ((M.readP0 s).1).stores := by first | (rw [hE]; done) | (rw [hE]; rfl)
  have hq2 : 0 = ((M.readP0 s).1).player := by first | (rw [hE]; done) | (rw [hE]; rfl)
  have hq3 : false = (M.readP0 s).2 := by first | (rw [hE]; done) | (rw [hE]; rfl)
  refine zS <| Qb ?_
  refine zw 0 rfl rfl rfl ?_
  refine Qa rfl <| JL.nil ?_
  exact zro x2
 have hl3 : (M.split (M.u8 32) s).length = 3 := by have := h4'; omega
 have hw0 : (M.split (M.u8 32) s)[0]? = some (M.w3 s 0) := M.w3_get (s := s) (by exact (by omega : 0 < (M.split (M.u8 32) s).length))
 have hw1 : (M.split (M.u8 32) s)[1]? = some (M.w3 s 1) := M.w3_get (s := s) (by exact (by omega : 1 < (M.split (M.u8 32) s).length))
 have hw2 : (M.split (M.u8 32) s)[2]? = some (M.w3 s 2) := M.w3_get (s := s) (by exact (by omega : 2 < (M.split (M.u8 32) s).length))
 have q0 := M.w3_len (s := s) (i := 0)
 have q1 := M.w3_len (s := s) (i := 1)
 have q2 := M.w3_len (s := s) (i := 2)
 have hy5 := hw1
 obtain ⟨b5, o5, he5, hc5⟩ := strs_elem h3 hy5
 refine Js.skip <| zS <| Qm rfl <| Qq (p_indexAddr el_87 rfl rfl (by omega) (by omega) he5) <| QC hc5 rfl <| zp rfl (fun w hw => c_spec_l01Split (M.w3 s 1) 47) ?_
 intro u6 x6 A7 c7 h7 bl7 bh7
 refine Qa rfl <| zJ <| zS <| Qm rfl <| Qz rfl <| Qd rfl rfl <| JL.nil ?_
 refine zi (fun h8 h8' => ?_) fun h8 h8' => ?_
 ·
  have hE := M.readP0_no (s := s) (fun h => by have h9 := h8'; have h8 : (M.split (M.u8 47) (M.w3 s 1)).length = 2 := h.2.1; omega)
  have hq0 : [] = ((M.readP0 s).1).pits := by first | (rw [hE]; done) | (rw [hE]; rfl)
  have hq1 : [] = ((M.readP0 s).1).stores := by first | (rw [hE]; done) | (rw [hE]; rfl)
  have hq2 : 0 = ((M.readP0 s).1).player := by first | (rw [hE]; done) | (rw [hE]; rfl)
  have hq3 : false = (M.readP0 s).2 := by first | (rw [hE]; done) | (rw [hE]; rfl)
  refine zS <| Qb ?_
  refine zw 0 rfl rfl rfl ?_
  refine Qa rfl <| JL.nil ?_
  exact zro (x2.trans x6)
 have hl2 : (M.split (M.u8 47) (M.w3 s 1)).length = 2 := by have := h8'; omega
 have q10 := M.x2_sum (s := s) hl2
 have hx0 : (M.split (M.u8 47) (M.w3 s 1))[0]? = some (M.x2 s 0) := M.x2_get (s := s) (by exact (by omega : 0 < (M.split (M.u8 47) (M.w3 s 1)).length))
 have hx1 : (M.split (M.u8 47) (M.w3 s 1))[1]? = some (M.x2 s 1) := M.x2_get (s := s) (by exact (by omega : 1 < (M.split (M.u8 47) (M.w3 s 1)).length))
 have q3 := M.x2_len (s := s) (i := 0)
 have q4 := M.x2_len (s := s) (i := 1)
 have q5 := M.nums_len (M.x2 s 0)
 have q6 := M.nums_len (M.x2 s 1)
 have q7 := M.nums_len (M.w3 s 2)
 have q9 : ((M.nums (M.x2 s 0)).1 ++ (M.nums (M.x2 s 1)).1).length ≤ 4194304 := by rw [List.length_append]; omega
 have hy9 := hw0
 obtain ⟨b9, o9, he9, hc9⟩ := strs_elem (Ty.mono _ h3 x6.vis) hy9
 have hy10 := hx0
 obtain ⟨b10, o10, he10, hc10⟩ := strs_elem h7 hy10
 refine Js.skip <| zS <| Qm rfl <| Qq (p_indexAddr el_87 rfl rfl (by omega) (by omega) he9) <| QC hc9 rfl <| zv rfl (fun w hw => c_spec_l01Number (M.w3 s 0)) <| Qm rfl <| Qx rfl rfl <| Qx rfl rfl <| Qa rfl <| Qa rfl <| zN <| Qm rfl <| Qq (p_indexAddr el_87 rfl rfl (by omega) (by omega) he10) ?_
 refine QC hc10 rfl <| zcs rfl (fun w hw => c_spec_l04Numbers (M.x2 s 0)) ?_
 intro A12 c12 bl12 bh12
 have hy13 := hx1
 obtain ⟨b13, o13, he13, hc13⟩ := strs_elem h7 hy13
 refine Qm rfl <| Qx rfl rfl <| Qx rfl rfl <| Qa rfl <| Qa rfl <| zN <| Qm rfl <| Qq (p_indexAddr el_87 rfl rfl (by omega) (by omega) he13) <| QC hc13 rfl <| zcs rfl (fun w hw => c_spec_l04Numbers (M.x2 s 1)) ?_
 intro A15 c15 bl15 bh15
 have hy16 := hw2
 obtain ⟨b16, o16, he16, hc16⟩ := strs_elem (Ty.mono _ h3 x6.vis) hy16
 refine Qm rfl <| Qx rfl rfl <| Qx rfl rfl <| Qa rfl <| Qa rfl <| zN <| Qm rfl <| Qq (p_indexAddr el_87 rfl rfl (by omega) (by omega) he16) <| QC hc16 rfl <| zcs rfl (fun w hw => c_spec_l04Numbers (M.w3 s 2)) ?_
 intro A18 c18 bl18 bh18
 refine Qm rfl <| Qx rfl rfl <| Qx rfl rfl <| Qa rfl <| Qa rfl <| zJ <| zS <| Qm rfl <| Qt rfl <| Qm rfl <| zg (Gd.f1 rfl rfl rfl) (fun hc => p_move rfl) <| zg (Gd.f1 rfl rfl rfl) (fun hc => p_not (gh hc rfl)) <| Qq (p_pickOr rfl rfl rfl) <| Qm rfl ?_
 refine zg (Gd.f1 rfl rfl rfl) (fun hc => p_move rfl) <| zg (Gd.f1 rfl rfl rfl) (fun hc => p_not (gh hc rfl)) <| Qq (p_pickOr rfl rfl rfl) <| Qm rfl <| zg (Gd.f1 rfl rfl rfl) (fun hc => p_move rfl) <| zg (Gd.f1 rfl rfl rfl) (fun hc => p_not (gh hc rfl)) <| Qq (p_pickOr rfl rfl rfl) <| Qm rfl <| zg (Gd.f1 rfl rfl rfl) (fun hc => p_move rfl) <| zg (Gd.f1 rfl rfl rfl) (fun hc => p_len el_24 (gh hc rfl)) <| zg (Gd.f1 rfl rfl rfl) (fun hc => p_move rfl) <| zg (Gd.f1 rfl rfl rfl) (fun hc => p_len el_24 (gh hc rfl)) <| zg (Gd.f1 rfl rfl rfl) (fun hc => p_neq (gh hc rfl) (gh hc rfl)) <| Qq (p_pickOr rfl rfl rfl) ?_
 refine JL.nil ?_
 refine zi (fun h19 h19' => ?_) fun h19 h19' => ?_
 ·
  have hE := M.readP0_no (s := s) (by rintro ⟨_, _, f1, f2, f3, f4, f5⟩; have h9 := h19; rw [f1, f2, f3, f4] at h9; simp at h9; omega)
  have hq0 : [] = ((M.readP0 s).1).pits := by first | (rw [hE]; done) | (rw [hE]; rfl)
  have hq1 : [] = ((M.readP0 s).1).stores := by first | (rw [hE]; done) | (rw [hE]; rfl)
  have hq2 : 0 = ((M.readP0 s).1).player := by first | (rw [hE]; done) | (rw [hE]; rfl)
  have hq3 : false = (M.readP0 s).2 := by first | (rw [hE]; done) | (rw [hE]; rfl)
  refine zS <| Qb ?_
  refine zw 3 rfl rfl rfl ?_
  refine Qa rfl <| JL.nil ?_
  exact zro (x2.trans x6)
 have hE := M.readP0_yes (s := s) (by have h9 := h19; simp only [Bool.or_eq_false_iff, Bool.not_eq_false', decide_eq_true_eq] at h9; exact ⟨hl3, hl2, h9.1.1.1.1, h9.1.1.1.2, h9.1.1.2, h9.1.2, by have := h9.2; omega⟩)
 refine Js.skip <| zS <| Qm rfl <| Qm rfl ?_
 refine JL.e (e_append (i := 2) (n' := (((M.nums (M.x2 s 0)).1) ++ ((M.nums (M.x2 s 1)).1)).length) (vs' := ints_ (((M.nums (M.x2 s 0)).1) ++ ((M.nums (M.x2 s 1)).1))) el_24 rfl rfl rfl rfl (src_rowG (i := 1) und_24 rfl (ints_one _)) (by omega) (by omega) (by first | omega | (simp only [List.length_append, List.length_cons, List.length_nil] <;> omega)) (by simp [ints_])) ?_
 rintro v20 _ _ ⟨⟨g21, rfl⟩, rfl⟩ _
 refine JL.fact (row_form' (i := 2) rfl) (fun hf22 => ?_)
 obtain ⟨A22, c22, rfl, bl22, bh22⟩ := hf22
 refine znl ?_
 have hq0 : (((M.nums (M.x2 s 0)).1) ++ ((M.nums (M.x2 s 1)).1)) = ((M.readP0 s).1).pits := by first | (rw [hE]; done) | (rw [hE]; rfl)
 have hq1 : ((M.nums (M.w3 s 2)).1) = ((M.readP0 s).1).stores := by first | (rw [hE]; done) | (rw [hE]; rfl)
 have hq2 : ((M.num (M.w3 s 0)).1) = ((M.readP0 s).1).player := by first | (rw [hE]; done) | (rw [hE]; rfl)
 have hq3 : true = (M.readP0 s).2 := by first | (rw [hE]; done) | (rw [hE]; rfl)
 refine Qm rfl <| Qm rfl <| Qb ?_
 refine zw 3 rfl rfl rfl ?_
 refine Qa rfl <| JL.nil ?_
 exact zro (x2.trans x6)

set_option maxHeartbeats 1000000 in
theorem c_spec_ReadPosition (r : M.Rul) {v_r : Value} (s : List UInt8) {w : World} (h_r : (Ty.agg (cRules r)).ok w v_r) (r0 : s.length ≤ 4000000 := by exact om_) : Ret Tryz.prog 64 [v_r, .string (sB s)] w (Ty.tup [Ty.agg (cPosition ((M.readP r s).1)), Ty.bool ((M.readP r s).2)]) := by
 have q1 := M.readP0_len s
 revert v_r; apply opn
 refine enter @Tryz.func64 @Tryz.ntmps64 rfl rfl ?_
 refine zent ?_
 refine zS <| zb rfl fun b1 => za zeh fun b2 => Qa rfl <| zN <| Qm rfl <| zc rfl (fun w hw => c_spec_l04Read s) ?_
 intro A5 c5 bl5 bh5 A6 c6 bl6 bh6
 refine Qm rfl <| Qx rfl rfl <| Qx rfl rfl <| za zeh fun b7 => zw 0 rfl rfl rfl ?_
 refine Qa rfl <| zJ <| zS <| Qm rfl <| Qt rfl <| Qm rfl <| zgv (Gd.f1 rfl rfl rfl) (fun hc => rfl) (fun hc => (fun w hw => c_spec_l04Ok r ((M.readP0 s).1) (ok_ hw) (ok_ hw) (r0 := (by have hc9 := hc; (try simp only [Bool.not_eq_true', Bool.not_eq_false'] at hc9); omega)) (r1 := (by have hc9 := hc; (try simp only [Bool.not_eq_true', Bool.not_eq_false'] at hc9); omega)))) ?_
 refine zg (Gd.f1 rfl rfl rfl) (fun hc => p_not (gh hc rfl)) <| Qq (p_pickOr rfl rfl rfl) <| JL.nil ?_
 refine zi (fun h8 h8' => ?_) fun h8 h8' => ?_
 ·
  have hE := M.readP_n (r := r) (s := s) (by rintro ⟨f1, f2⟩; have h9 := h8; rw [f1, f2] at h9; simp at h9)
  have hq0 : [] = ((M.readP r s).1).pits := by first | (rw [hE]; done) | (rw [hE]; rfl)
  have hq1 : [] = ((M.readP r s).1).stores := by first | (rw [hE]; done) | (rw [hE]; rfl)
  have hq2 : 0 = ((M.readP r s).1).player := by first | (rw [hE]; done) | (rw [hE]; rfl)
  have hq3 : false = (M.readP r s).2 := by first | (rw [hE]; done) | (rw [hE]; rfl)
  refine zS <| Qb ?_
  refine zw 3 rfl rfl rfl ?_
  refine Qa rfl <| JL.nil ?_
  exact zro (Up.refl _ _)
 have h8 : (M.readP0 s).2 = true ∧ M.okP r (M.readP0 s).1 = true := by have h9 := h8; simpa using h9
 have hE := M.readP_y h8.1 h8.2
 have hq0 : (((M.readP0 s).1).pits) = ((M.readP r s).1).pits := by first | (rw [hE]; done) | (rw [hE]; rfl)
 have hq1 : (((M.readP0 s).1).stores) = ((M.readP r s).1).stores := by first | (rw [hE]; done) | (rw [hE]; rfl)
 have hq2 : (((M.readP0 s).1).player) = ((M.readP r s).1).player := by first | (rw [hE]; done) | (rw [hE]; rfl)
 have hq3 : true = (M.readP r s).2 := by first | (rw [hE]; done) | (rw [hE]; rfl)
 refine Js.skip <| zS <| Q9 0 rfl rfl ?_
 refine zw 3 rfl rfl rfl ?_
 refine Qa rfl <| JL.nil ?_
 exact zro (Up.refl _ _)

set_option maxHeartbeats 4000000 in
theorem c_spec_ReadPuzzle (r : M.Rul) {v_r : Value} (s : List UInt8) {w : World} (h_r : (Ty.agg (cRules r)).ok w v_r) (r0 : s.length ≤ 1048576 := by exact om_) : Ret Tryz.prog 24 [v_r, .string (sB s)] w (Ty.tup [Ty.agg (cPuzzle ((M.readZ r s).1)), Ty.bool ((M.readZ r s).2)]) := by
 revert v_r; apply opn
 refine enter @Tryz.func24 @Tryz.ntmps24 rfl rfl ?_
 refine zent ?_
 refine zS <| zb rfl fun b1 => za zeh fun b2 => Qa rfl <| zN <| Qm rfl <| zp rfl (fun w hw => c_spec_l01Split s 32) ?_
 intro u3 x3 A4 c4 h4 bl4 bh4
 refine Qa rfl <| zJ <| Js.seq ?_
 rcases Bool.eq_false_or_eq_true (!decide ((((M.split (M.u8 32) s).length) : Int) = 5)) with h5 | h5
 ·
  refine Js.region <| Qm rfl <| Qz rfl <| Qd rfl rfl <| Qm rfl ?_
  refine JL.g (v := undef) (Gd.f1 rfl rfl rfl) (fun hc => absurd hc (by simp [h5])) ?_
  refine JL.g (v := undef) (Gd.f1 rfl rfl rfl) (fun hc => absurd hc (by simp [h5])) ?_
  refine JL.g (v := undef) (Gd.f1 rfl rfl rfl) (fun hc => absurd hc (by simp [h5])) ?_
  refine JL.g (v := .bool false) (Gd.f1 rfl rfl rfl) (fun hc => absurd hc (by simp [h5])) ?_
  refine Qq (p_pickOr rfl rfl rfl) <| JL.nil ?_
  refine zi (fun h6 h6' => ?_) fun h6 h6' => ?_
  ·
   have hE := M.readZ_no (r := r) (s := s) (M.zIn2_no (M.zIn2_bad (by rintro ⟨z1, z2⟩; have h9 := h6; have z3 : (M.split (M.u8 32) s).length = 5 := z1; simp [z3, z2] at h9)))
   have hq0 : 0 = (((M.readZ r s).1).rules).pits := by first | (rw [hE9]; done) | (rw [hE9]; rfl) | (rw [hE]; done) | (rw [hE]; rfl)
   have hq1 : 0 = (((M.readZ r s).1).rules).seeds := by first | (rw [hE9]; done) | (rw [hE9]; rfl) | (rw [hE]; done) | (rw [hE]; rfl)
   have hq2 : false = (((M.readZ r s).1).rules).stores := by first | (rw [hE9]; done) | (rw [hE9]; rfl) | (rw [hE]; done) | (rw [hE]; rfl)
   have hq3 : false = (((M.readZ r s).1).rules).skip := by first | (rw [hE9]; done) | (rw [hE9]; rfl) | (rw [hE]; done) | (rw [hE]; rfl)
   have hq4 : false = (((M.readZ r s).1).rules).relay := by first | (rw [hE9]; done) | (rw [hE9]; rfl) | (rw [hE]; done) | (rw [hE]; rfl)
   have hq5 : false = (((M.readZ r s).1).rules).feed := by first | (rw [hE9]; done) | (rw [hE9]; rfl) | (rw [hE]; done) | (rw [hE]; rfl)
   have hq6 : false = (((M.readZ r s).1).rules).again := by first | (rw [hE9]; done) | (rw [hE9]; rfl) | (rw [hE]; done) | (rw [hE]; rfl)
   have hq7 : 0 = (((M.readZ r s).1).rules).capture := by first | (rw [hE9]; done) | (rw [hE9]; rfl) | (rw [hE]; done) | (rw [hE]; rfl)
   have hq8 : 0 = (((M.readZ r s).1).rules).slam := by first | (rw [hE9]; done) | (rw [hE9]; rfl) | (rw [hE]; done) | (rw [hE]; rfl)
   have hq9 : [] = (((M.readZ r s).1).position).pits := by first | (rw [hE9]; done) | (rw [hE9]; rfl) | (rw [hE]; done) | (rw [hE]; rfl)
   have hq10 : [] = (((M.readZ r s).1).position).stores := by first | (rw [hE9]; done) | (rw [hE9]; rfl) | (rw [hE]; done) | (rw [hE]; rfl)
   have hq11 : 0 = (((M.readZ r s).1).position).player := by first | (rw [hE9]; done) | (rw [hE9]; rfl) | (rw [hE]; done) | (rw [hE]; rfl)
   have hq12 : 0 = ((M.readZ r s).1).depth := by first | (rw [hE9]; done) | (rw [hE9]; rfl) | (rw [hE]; done) | (rw [hE]; rfl)
   have hq13 : 0 = ((M.readZ r s).1).move := by first | (rw [hE9]; done) | (rw [hE9]; rfl) | (rw [hE]; done) | (rw [hE]; rfl)
   have hq14 : 0 = ((M.readZ r s).1).value := by first | (rw [hE9]; done) | (rw [hE9]; rfl) | (rw [hE]; done) | (rw [hE]; rfl)
   have hq15 : 0 = ((M.readZ r s).1).margin := by first | (rw [hE9]; done) | (rw [hE9]; rfl) | (rw [hE]; done) | (rw [hE]; rfl)
   have hq16 : false = (M.readZ r s).2 := by first | (rw [hE9]; done) | (rw [hE9]; rfl) | (rw [hE]; done) | (rw [hE]; rfl)
   refine zS <| Qb ?_
   refine zw 0 rfl rfl rfl ?_
   refine Qa rfl <| JL.nil ?_
   exact zro x3
  exact absurd (show (true || false) = false from by have h9 := h6; rw [h5] at h9; simp at h9) (by decide)
 have hl5 : (M.split (M.u8 32) s).length = 5 := by have h9 := h5; simp at h9; omega
 have hw0 : (M.split (M.u8 32) s)[0]? = some (M.w3 s 0) := M.w3_get (s := s) (by exact (by omega : 0 < (M.split (M.u8 32) s).length))
 have hw1 : (M.split (M.u8 32) s)[1]? = some (M.w3 s 1) := M.w3_get (s := s) (by exact (by omega : 1 < (M.split (M.u8 32) s).length))
 have hw2 : (M.split (M.u8 32) s)[2]? = some (M.w3 s 2) := M.w3_get (s := s) (by exact (by omega : 2 < (M.split (M.u8 32) s).length))
 have hw3 : (M.split (M.u8 32) s)[3]? = some (M.w3 s 3) := M.w3_get (s := s) (by exact (by omega : 3 < (M.split (M.u8 32) s).length))
 have hw4 : (M.split (M.u8 32) s)[4]? = some (M.w3 s 4) := M.w3_get (s := s) (by exact (by omega : 4 < (M.split (M.u8 32) s).length))
 have q0 := M.w3_len (s := s) (i := 0)
 have q1 := M.w3_len (s := s) (i := 1)
 have q2 := M.w3_len (s := s) (i := 2)
 have q3 := M.w3_len (s := s) (i := 3)
 have q4 := M.w3_len (s := s) (i := 4)
 have lb0 : LenB (M.w3 s 0) 1048576 := ⟨by omega⟩
 have lb1 : LenB (M.w3 s 1) 1048576 := ⟨by omega⟩
 have lb2 : LenB (M.w3 s 2) 1048576 := ⟨by omega⟩
 have hy7 := hw3
 obtain ⟨b7, o7, he7, hc7⟩ := strs_elem h4 hy7
 refine Js.region <| Qm rfl <| Qz rfl <| Qd rfl rfl <| Qm rfl <| zT (Gd.f1 rfl rfl rfl) (show (!(!decide ((((M.split (M.u8 32) s).length) : Int) = 5))) = true by simp [h5]) <| Qm rfl <| zT (Gd.f1 rfl rfl rfl) (show (!(!decide ((((M.split (M.u8 32) s).length) : Int) = 5))) = true by simp [h5]) <| Qq (p_indexAddr el_87 rfl rfl (by omega) (by omega) he7) <| zT (Gd.f1 rfl rfl rfl) (show (!(!decide ((((M.split (M.u8 32) s).length) : Int) = 5))) = true by simp [h5]) <| QC hc7 rfl <| zT (Gd.f1 rfl rfl rfl) (show (!(!decide ((((M.split (M.u8 32) s).length) : Int) = 5))) = true by simp [h5]) <| Qq (p_neqT und_9 rfl rfl) <| Qq (p_pickOr2 rfl rfl rfl) ?_
 refine JL.nil ?_
 refine zi (fun h8 h8' => ?_) fun h8 h8' => ?_
 ·
  have hE := M.readZ_no (r := r) (s := s) (M.zIn2_no (M.zIn2_bad (by rintro ⟨z1, z2⟩; have h9 := h8; have z3 : (M.split (M.u8 32) s).length = 5 := z1; simp [z3, z2] at h9)))
  have hq0 : 0 = (((M.readZ r s).1).rules).pits := by first | (rw [hE9]; done) | (rw [hE9]; rfl) | (rw [hE]; done) | (rw [hE]; rfl)
  have hq1 : 0 = (((M.readZ r s).1).rules).seeds := by first | (rw [hE9]; done) | (rw [hE9]; rfl) | (rw [hE]; done) | (rw [hE]; rfl)
  have hq2 : false = (((M.readZ r s).1).rules).stores := by first | (rw [hE9]; done) | (rw [hE9]; rfl) | (rw [hE]; done) | (rw [hE]; rfl)
  have hq3 : false = (((M.readZ r s).1).rules).skip := by first | (rw [hE9]; done) | (rw [hE9]; rfl) | (rw [hE]; done) | (rw [hE]; rfl)
  have hq4 : false = (((M.readZ r s).1).rules).relay := by first | (rw [hE9]; done) | (rw [hE9]; rfl) | (rw [hE]; done) | (rw [hE]; rfl)
  have hq5 : false = (((M.readZ r s).1).rules).feed := by first | (rw [hE9]; done) | (rw [hE9]; rfl) | (rw [hE]; done) | (rw [hE]; rfl)
  have hq6 : false = (((M.readZ r s).1).rules).again := by first | (rw [hE9]; done) | (rw [hE9]; rfl) | (rw [hE]; done) | (rw [hE]; rfl)
  have hq7 : 0 = (((M.readZ r s).1).rules).capture := by first | (rw [hE9]; done) | (rw [hE9]; rfl) | (rw [hE]; done) | (rw [hE]; rfl)
  have hq8 : 0 = (((M.readZ r s).1).rules).slam := by first | (rw [hE9]; done) | (rw [hE9]; rfl) | (rw [hE]; done) | (rw [hE]; rfl)
  have hq9 : [] = (((M.readZ r s).1).position).pits := by first | (rw [hE9]; done) | (rw [hE9]; rfl) | (rw [hE]; done) | (rw [hE]; rfl)
  have hq10 : [] = (((M.readZ r s).1).position).stores := by first | (rw [hE9]; done) | (rw [hE9]; rfl) | (rw [hE]; done) | (rw [hE]; rfl)
  have hq11 : 0 = (((M.readZ r s).1).position).player := by first | (rw [hE9]; done) | (rw [hE9]; rfl) | (rw [hE]; done) | (rw [hE]; rfl)
  have hq12 : 0 = ((M.readZ r s).1).depth := by first | (rw [hE9]; done) | (rw [hE9]; rfl) | (rw [hE]; done) | (rw [hE]; rfl)
  have hq13 : 0 = ((M.readZ r s).1).move := by first | (rw [hE9]; done) | (rw [hE9]; rfl) | (rw [hE]; done) | (rw [hE]; rfl)
  have hq14 : 0 = ((M.readZ r s).1).value := by first | (rw [hE9]; done) | (rw [hE9]; rfl) | (rw [hE]; done) | (rw [hE]; rfl)
  have hq15 : 0 = ((M.readZ r s).1).margin := by first | (rw [hE9]; done) | (rw [hE9]; rfl) | (rw [hE]; done) | (rw [hE]; rfl)
  have hq16 : false = (M.readZ r s).2 := by first | (rw [hE9]; done) | (rw [hE9]; rfl) | (rw [hE]; done) | (rw [hE]; rfl)
  refine zS <| Qb ?_
  refine zw 0 rfl rfl rfl ?_
  refine Qa rfl <| JL.nil ?_
  exact zro x3
 have hd3 : M.w3 s 3 = [100, 101, 112, 116, 104] := by have h9 := h8; simp at h9; exact h9.2
 refine Js.skip <| Js.seq ?_
 refine zk [2, 4, 6] (fun F U l os u => ∃ (b16 : Nat) (A14 : Option Addr) (c14 : Nat) (A15 : Option Addr) (c15 : Nat), l = F [(7, .pointer (some ⟨b16, 0, none⟩)), (8, .bool ((M.readP r (((((M.w3 s 0) ++ ([32] : List UInt8)) ++ (M.w3 s 1)) ++ ([32] : List UInt8)) ++ (M.w3 s 2))).2))] ∧ os = [boxO b16 [.slice A14 ((((M.readP r (((((M.w3 s 0) ++ ([32] : List UInt8)) ++ (M.w3 s 1)) ++ ([32] : List UInt8)) ++ (M.w3 s 2))).1).pits).length) c14, .slice A15 ((((M.readP r (((((M.w3 s 0) ++ ([32] : List UInt8)) ++ (M.w3 s 1)) ++ ([32] : List UInt8)) ++ (M.w3 s 2))).1).stores).length) c15, .int .i64 (((M.readP r (((((M.w3 s 0) ++ ([32] : List UInt8)) ++ (M.w3 s 1)) ++ ([32] : List UInt8)) ++ (M.w3 s 2))).1).player)] 33, rowO 2 1 (.slice A15 ((((M.readP r (((((M.w3 s 0) ++ ([32] : List UInt8)) ++ (M.w3 s 1)) ++ ([32] : List UInt8)) ++ (M.w3 s 2))).1).stores).length) c15) ((((M.readP r (((((M.w3 s 0) ++ ([32] : List UInt8)) ++ (M.w3 s 1)) ++ ([32] : List UInt8)) ++ (M.w3 s 2))).1).stores).length) (ints_ (((M.readP r (((((M.w3 s 0) ++ ([32] : List UInt8)) ++ (M.w3 s 1)) ++ ([32] : List UInt8)) ++ (M.w3 s 2))).1).stores)) [], rowO 2 1 (.slice A14 ((((M.readP r (((((M.w3 s 0) ++ ([32] : List UInt8)) ++ (M.w3 s 1)) ++ ([32] : List UInt8)) ++ (M.w3 s 2))).1).pits).length) c14) ((((M.readP r (((((M.w3 s 0) ++ ([32] : List UInt8)) ++ (M.w3 s 1)) ++ ([32] : List UInt8)) ++ (M.w3 s 2))).1).pits).length) (ints_ (((M.readP r (((((M.w3 s 0) ++ ([32] : List UInt8)) ++ (M.w3 s 1)) ++ ([32] : List UInt8)) ++ (M.w3 s 2))).1).pits)) []] ++ U [] ∧ ((((M.readP r (((((M.w3 s 0) ++ ([32] : List UInt8)) ++ (M.w3 s 1)) ++ ([32] : List UInt8)) ++ (M.w3 s 2))).1).pits).length ≤ c14) ∧ (c14 ≤ 9223372036854775807) ∧ ((((M.readP r (((((M.w3 s 0) ++ ([32] : List UInt8)) ++ (M.w3 s 1)) ++ ([32] : List UInt8)) ++ (M.w3 s 2))).1).stores).length ≤ c15) ∧ (c15 ≤ 9223372036854775807)) ?_ ?_
 ·
  refine zdr [19] ?_
  refine JH.q 0 rfl (L9 1 rfl rfl) ?_
  refine JH.p 1 rfl (p_move rfl) ?_
  have hy23 := hw0
  obtain ⟨b23, o23, he23, hc23⟩ := strs_elem h4 hy23
  refine JH.p 2 rfl (p_indexAddr el_87 rfl rfl (by omega) (by omega) he23) ?_
  refine JH.w 3 rfl (fun os' u' hv => q_load1 ty_9.h rfl (Mem.pub (hc23.vis hv))) ?_
  refine JH.p 4 rfl (q_cat rfl rfl) ?_
  refine JH.p 5 rfl (p_move rfl) ?_
  have hy24 := hw1
  obtain ⟨b24, o24, he24, hc24⟩ := strs_elem h4 hy24
  refine JH.p 6 rfl (p_indexAddr el_87 rfl rfl (by omega) (by omega) he24) ?_
  refine JH.w 7 rfl (fun os' u' hv => q_load1 ty_9.h rfl (Mem.pub (hc24.vis hv))) ?_
  refine JH.p 8 rfl (q_cat rfl rfl) ?_
  refine JH.p 9 rfl (q_cat rfl rfl) ?_
  refine JH.p 10 rfl (p_move rfl) ?_
  have hy25 := hw2
  obtain ⟨b25, o25, he25, hc25⟩ := strs_elem h4 hy25
  refine JH.p 11 rfl (p_indexAddr el_87 rfl rfl (by omega) (by omega) he25) ?_
  refine JH.w 12 rfl (fun os' u' hv => q_load1 ty_9.h rfl (Mem.pub (hc25.vis hv))) ?_
  refine JH.p 13 rfl (q_cat rfl rfl) ?_
  refine y2 14 18 ?_ ?_
  ·
   refine yc rfl rfl (fun w hw => c_spec_ReadPosition r (((((M.w3 s 0) ++ ([32] : List UInt8)) ++ (M.w3 s 1)) ++ ([32] : List UInt8)) ++ (M.w3 s 2)) (ok_ hw)) ?_
   intro A28 c28 bl28 bh28 A29 c29 bl29 bh29
   refine JH.p 15 rfl (p_move rfl) ?_
   refine JH.p 16 rfl (p_extract rfl rfl) ?_
   refine JH.p 17 rfl (p_extract rfl rfl) ?_
   refine y1 18 ?_
   refine ya rfl fun b30 => ?_
   refine y1 19 ?_
   refine yst rfl rfl rfl ?_
   refine JH.p 20 rfl (p_assign rfl) ?_
   refine yd ?_
   exact zm ⟨_, _, _, _, _, rfl, rfl, zt, zt, zt, zt⟩ (Up.refl _ _)
  refine ya rfl fun b31 => ?_
  refine y1 14 ?_
  refine yc rfl rfl (fun w hw => c_spec_ReadPosition r (((((M.w3 s 0) ++ ([32] : List UInt8)) ++ (M.w3 s 1)) ++ ([32] : List UInt8)) ++ (M.w3 s 2)) (ok_ hw)) ?_
  intro A34 c34 bl34 bh34 A35 c35 bl35 bh35
  refine JH.p 15 rfl (p_move rfl) ?_
  refine JH.p 16 rfl (p_extract rfl rfl) ?_
  refine JH.p 17 rfl (p_extract rfl rfl) ?_
  refine y1 19 ?_
  refine yst rfl rfl rfl ?_
  refine JH.p 20 rfl (p_assign rfl) ?_
  refine yd ?_
  refine zh [2, 0, 0, 0, 0] ?_
  exact zm ⟨_, _, _, _, _, rfl, rfl, zt, zt, zt, zt⟩ (Up.refl _ _)
 rintro _ _ u22 ⟨b16, A14, c14, A15, c15, rfl, rfl, f22_0, f22_1, f22_2, f22_3⟩ x22
 refine zn ?_
 have hy36 := hw4
 obtain ⟨b36, o36, he36, hc36⟩ := strs_elem (Ty.mono _ h4 x22.vis) hy36
 refine zS <| Qm rfl <| Qq (p_indexAddr el_87 rfl rfl (by omega) (by omega) he36) <| QC hc36 rfl <| zv rfl (fun w hw => c_spec_l01Number (M.w3 s 4)) <| Qm rfl <| Qx rfl rfl <| Qx rfl rfl <| Qa rfl <| Qa rfl <| zJ <| zS <| Qm rfl <| Qt rfl ?_
 refine Qm rfl <| zg (Gd.f1 rfl rfl rfl) (fun hc => p_move rfl) <| zg (Gd.f1 rfl rfl rfl) (fun hc => p_not (gh hc rfl)) <| Qq (p_pickOr rfl rfl rfl) <| JL.nil ?_
 refine zi (fun h37 h37' => ?_) fun h37 h37' => ?_
 ·
  have hE := M.readZ_no (r := r) (s := s) (M.zIn2_no (M.zIn2_not (by rintro ⟨z1, z2⟩; have h9 := h37; have z3 : (M.readP r ((((M.w3 s 0 ++ ([32] : List UInt8)) ++ M.w3 s 1) ++ ([32] : List UInt8)) ++ M.w3 s 2)).2 = true := z1; rw [z3, z2] at h9; simp at h9)))
  have hq0 : 0 = (((M.readZ r s).1).rules).pits := by first | (rw [hE9]; done) | (rw [hE9]; rfl) | (rw [hE]; done) | (rw [hE]; rfl)
  have hq1 : 0 = (((M.readZ r s).1).rules).seeds := by first | (rw [hE9]; done) | (rw [hE9]; rfl) | (rw [hE]; done) | (rw [hE]; rfl)
  have hq2 : false = (((M.readZ r s).1).rules).stores := by first | (rw [hE9]; done) | (rw [hE9]; rfl) | (rw [hE]; done) | (rw [hE]; rfl)
  have hq3 : false = (((M.readZ r s).1).rules).skip := by first | (rw [hE9]; done) | (rw [hE9]; rfl) | (rw [hE]; done) | (rw [hE]; rfl)
  have hq4 : false = (((M.readZ r s).1).rules).relay := by first | (rw [hE9]; done) | (rw [hE9]; rfl) | (rw [hE]; done) | (rw [hE]; rfl)
  have hq5 : false = (((M.readZ r s).1).rules).feed := by first | (rw [hE9]; done) | (rw [hE9]; rfl) | (rw [hE]; done) | (rw [hE]; rfl)
  have hq6 : false = (((M.readZ r s).1).rules).again := by first | (rw [hE9]; done) | (rw [hE9]; rfl) | (rw [hE]; done) | (rw [hE]; rfl)
  have hq7 : 0 = (((M.readZ r s).1).rules).capture := by first | (rw [hE9]; done) | (rw [hE9]; rfl) | (rw [hE]; done) | (rw [hE]; rfl)
  have hq8 : 0 = (((M.readZ r s).1).rules).slam := by first | (rw [hE9]; done) | (rw [hE9]; rfl) | (rw [hE]; done) | (rw [hE]; rfl)
  have hq9 : [] = (((M.readZ r s).1).position).pits := by first | (rw [hE9]; done) | (rw [hE9]; rfl) | (rw [hE]; done) | (rw [hE]; rfl)
  have hq10 : [] = (((M.readZ r s).1).position).stores := by first | (rw [hE9]; done) | (rw [hE9]; rfl) | (rw [hE]; done) | (rw [hE]; rfl)
  have hq11 : 0 = (((M.readZ r s).1).position).player := by first | (rw [hE9]; done) | (rw [hE9]; rfl) | (rw [hE]; done) | (rw [hE]; rfl)
  have hq12 : 0 = ((M.readZ r s).1).depth := by first | (rw [hE9]; done) | (rw [hE9]; rfl) | (rw [hE]; done) | (rw [hE]; rfl)
  have hq13 : 0 = ((M.readZ r s).1).move := by first | (rw [hE9]; done) | (rw [hE9]; rfl) | (rw [hE]; done) | (rw [hE]; rfl)
  have hq14 : 0 = ((M.readZ r s).1).value := by first | (rw [hE9]; done) | (rw [hE9]; rfl) | (rw [hE]; done) | (rw [hE]; rfl)
  have hq15 : 0 = ((M.readZ r s).1).margin := by first | (rw [hE9]; done) | (rw [hE9]; rfl) | (rw [hE]; done) | (rw [hE]; rfl)
  have hq16 : false = (M.readZ r s).2 := by first | (rw [hE9]; done) | (rw [hE9]; rfl) | (rw [hE]; done) | (rw [hE]; rfl)
  refine zS <| Qb ?_
  refine zw 3 rfl rfl rfl ?_
  refine Qa rfl <| JL.nil ?_
  exact zro (x3.trans x22)
 have hz2 : M.zIn2 r s = true := by have h9 := h37; simp only [Bool.or_eq_false_iff, Bool.not_eq_false'] at h9; exact M.zIn2_all hl5 hd3 h9.1 h9.2
 have hz := M.zIn2_yes hz2
 obtain ⟨_, hz5, hz4⟩ := M.zIn_yes hz
 have hE := M.readZ_yes hz
 have hok := M.readP_ok (M.zIn_p hz)
 rw [← hz5] at hok
 have hlo : (M.readP r ((((M.w3 s 0 ++ ([32] : List UInt8)) ++ M.w3 s 1) ++ ([32] : List UInt8)) ++ M.w3 s 2)).1.pits.length ≤ 4194304 ∧ (M.readP r ((((M.w3 s 0 ++ ([32] : List UInt8)) ++ M.w3 s 1) ++ ([32] : List UInt8)) ++ M.w3 s 2)).1.stores.length ≤ 4194304 := M.okP_len hok.1
 unfold M.zPuz at hE
 rw [← hz5, ← hz4] at hE
 refine Js.skip <| zS <| Qm rfl <| zc rfl (fun w hw => c_spec_l21Of r ((M.readP r (((((M.w3 s 0) ++ ([32] : List UInt8)) ++ (M.w3 s 1)) ++ ([32] : List UInt8)) ++ (M.w3 s 2))).1) ((M.num (M.w3 s 4)).1) (ok_ hw) (ok_ hw)) ?_
 intro A40 c40 bl40 bh40 A41 c41 bl41 bh41
 refine Qm rfl <| Qx rfl rfl <| Qx rfl rfl <| za zeh fun b42 => zw 0 rfl rfl rfl ?_
 refine Qa rfl <| zJ <| zS <| Qm rfl <| Qd rfl rfl <| JL.nil ?_
 refine zi (fun h43 h43' => ?_) fun h43 h43' => ?_
 ·
  have hc9 : ¬ (M.puz r (M.readP r ((((M.w3 s 0 ++ ([32] : List UInt8)) ++ M.w3 s 1) ++ ([32] : List UInt8)) ++ M.w3 s 2)).1 (M.num (M.w3 s 4)).1).2 = 0 := by simpa using h43
  have hE9 : M.readZ r s = (M.Puz.zero, false) := by rw [hE]; show ((M.puz r (M.readP r ((((M.w3 s 0 ++ ([32] : List UInt8)) ++ M.w3 s 1) ++ ([32] : List UInt8)) ++ M.w3 s 2)).1 (M.num (M.w3 s 4)).1).1, decide ((M.puz r (M.readP r ((((M.w3 s 0 ++ ([32] : List UInt8)) ++ M.w3 s 1) ++ ([32] : List UInt8)) ++ M.w3 s 2)).1 (M.num (M.w3 s 4)).1).2 = 0)) = _; rw [M.puz_zero hc9, decide_eq_false hc9]
  have hq0 : 0 = (((M.readZ r s).1).rules).pits := by first | (rw [hE9]; done) | (rw [hE9]; rfl) | (rw [hE]; done) | (rw [hE]; rfl)
  have hq1 : 0 = (((M.readZ r s).1).rules).seeds := by first | (rw [hE9]; done) | (rw [hE9]; rfl) | (rw [hE]; done) | (rw [hE]; rfl)
  have hq2 : false = (((M.readZ r s).1).rules).stores := by first | (rw [hE9]; done) | (rw [hE9]; rfl) | (rw [hE]; done) | (rw [hE]; rfl)
  have hq3 : false = (((M.readZ r s).1).rules).skip := by first | (rw [hE9]; done) | (rw [hE9]; rfl) | (rw [hE]; done) | (rw [hE]; rfl)
  have hq4 : false = (((M.readZ r s).1).rules).relay := by first | (rw [hE9]; done) | (rw [hE9]; rfl) | (rw [hE]; done) | (rw [hE]; rfl)
  have hq5 : false = (((M.readZ r s).1).rules).feed := by first | (rw [hE9]; done) | (rw [hE9]; rfl) | (rw [hE]; done) | (rw [hE]; rfl)
  have hq6 : false = (((M.readZ r s).1).rules).again := by first | (rw [hE9]; done) | (rw [hE9]; rfl) | (rw [hE]; done) | (rw [hE]; rfl)
  have hq7 : 0 = (((M.readZ r s).1).rules).capture := by first | (rw [hE9]; done) | (rw [hE9]; rfl) | (rw [hE]; done) | (rw [hE]; rfl)
  have hq8 : 0 = (((M.readZ r s).1).rules).slam := by first | (rw [hE9]; done) | (rw [hE9]; rfl) | (rw [hE]; done) | (rw [hE]; rfl)
  have hq9 : [] = (((M.readZ r s).1).position).pits := by first | (rw [hE9]; done) | (rw [hE9]; rfl) | (rw [hE]; done) | (rw [hE]; rfl)
  have hq10 : [] = (((M.readZ r s).1).position).stores := by first | (rw [hE9]; done) | (rw [hE9]; rfl) | (rw [hE]; done) | (rw [hE]; rfl)
  have hq11 : 0 = (((M.readZ r s).1).position).player := by first | (rw [hE9]; done) | (rw [hE9]; rfl) | (rw [hE]; done) | (rw [hE]; rfl)
  have hq12 : 0 = ((M.readZ r s).1).depth := by first | (rw [hE9]; done) | (rw [hE9]; rfl) | (rw [hE]; done) | (rw [hE]; rfl)
  have hq13 : 0 = ((M.readZ r s).1).move := by first | (rw [hE9]; done) | (rw [hE9]; rfl) | (rw [hE]; done) | (rw [hE]; rfl)
  have hq14 : 0 = ((M.readZ r s).1).value := by first | (rw [hE9]; done) | (rw [hE9]; rfl) | (rw [hE]; done) | (rw [hE]; rfl)
  have hq15 : 0 = ((M.readZ r s).1).margin := by first | (rw [hE9]; done) | (rw [hE9]; rfl) | (rw [hE]; done) | (rw [hE]; rfl)
  have hq16 : false = (M.readZ r s).2 := by first | (rw [hE9]; done) | (rw [hE9]; rfl) | (rw [hE]; done) | (rw [hE]; rfl)
  refine zS <| Qb ?_
  refine zw 6 rfl rfl rfl ?_
  refine Qa rfl <| JL.nil ?_
  exact zro (x3.trans x22)
 have hc9 : (M.puz r (M.readP r ((((M.w3 s 0 ++ ([32] : List UInt8)) ++ M.w3 s 1) ++ ([32] : List UInt8)) ++ M.w3 s 2)).1 (M.num (M.w3 s 4)).1).2 = 0 := by simpa using h43
 have hE9 : M.readZ r s = ((M.puz r (M.readP r ((((M.w3 s 0 ++ ([32] : List UInt8)) ++ M.w3 s 1) ++ ([32] : List UInt8)) ++ M.w3 s 2)).1 (M.num (M.w3 s 4)).1).1, true) := by rw [hE]; show ((M.puz r (M.readP r ((((M.w3 s 0 ++ ([32] : List UInt8)) ++ M.w3 s 1) ++ ([32] : List UInt8)) ++ M.w3 s 2)).1 (M.num (M.w3 s 4)).1).1, decide ((M.puz r (M.readP r ((((M.w3 s 0 ++ ([32] : List UInt8)) ++ M.w3 s 1) ++ ([32] : List UInt8)) ++ M.w3 s 2)).1 (M.num (M.w3 s 4)).1).2 = 0)) = _; rw [decide_eq_true hc9]
 have hq0 : ((((M.puz r ((M.readP r (((((M.w3 s 0) ++ ([32] : List UInt8)) ++ (M.w3 s 1)) ++ ([32] : List UInt8)) ++ (M.w3 s 2))).1) ((M.num (M.w3 s 4)).1)).1).rules).pits) = (((M.readZ r s).1).rules).pits := by first | (rw [hE9]; done) | (rw [hE9]; rfl) | (rw [hE]; done) | (rw [hE]; rfl)
 have hq1 : ((((M.puz r ((M.readP r (((((M.w3 s 0) ++ ([32] : List UInt8)) ++ (M.w3 s 1)) ++ ([32] : List UInt8)) ++ (M.w3 s 2))).1) ((M.num (M.w3 s 4)).1)).1).rules).seeds) = (((M.readZ r s).1).rules).seeds := by first | (rw [hE9]; done) | (rw [hE9]; rfl) | (rw [hE]; done) | (rw [hE]; rfl)
 have hq2 : ((((M.puz r ((M.readP r (((((M.w3 s 0) ++ ([32] : List UInt8)) ++ (M.w3 s 1)) ++ ([32] : List UInt8)) ++ (M.w3 s 2))).1) ((M.num (M.w3 s 4)).1)).1).rules).stores) = (((M.readZ r s).1).rules).stores := by first | (rw [hE9]; done) | (rw [hE9]; rfl) | (rw [hE]; done) | (rw [hE]; rfl)
 have hq3 : ((((M.puz r ((M.readP r (((((M.w3 s 0) ++ ([32] : List UInt8)) ++ (M.w3 s 1)) ++ ([32] : List UInt8)) ++ (M.w3 s 2))).1) ((M.num (M.w3 s 4)).1)).1).rules).skip) = (((M.readZ r s).1).rules).skip := by first | (rw [hE9]; done) | (rw [hE9]; rfl) | (rw [hE]; done) | (rw [hE]; rfl)
 have hq4 : ((((M.puz r ((M.readP r (((((M.w3 s 0) ++ ([32] : List UInt8)) ++ (M.w3 s 1)) ++ ([32] : List UInt8)) ++ (M.w3 s 2))).1) ((M.num (M.w3 s 4)).1)).1).rules).relay) = (((M.readZ r s).1).rules).relay := by first | (rw [hE9]; done) | (rw [hE9]; rfl) | (rw [hE]; done) | (rw [hE]; rfl)
 have hq5 : ((((M.puz r ((M.readP r (((((M.w3 s 0) ++ ([32] : List UInt8)) ++ (M.w3 s 1)) ++ ([32] : List UInt8)) ++ (M.w3 s 2))).1) ((M.num (M.w3 s 4)).1)).1).rules).feed) = (((M.readZ r s).1).rules).feed := by first | (rw [hE9]; done) | (rw [hE9]; rfl) | (rw [hE]; done) | (rw [hE]; rfl)
 have hq6 : ((((M.puz r ((M.readP r (((((M.w3 s 0) ++ ([32] : List UInt8)) ++ (M.w3 s 1)) ++ ([32] : List UInt8)) ++ (M.w3 s 2))).1) ((M.num (M.w3 s 4)).1)).1).rules).again) = (((M.readZ r s).1).rules).again := by first | (rw [hE9]; done) | (rw [hE9]; rfl) | (rw [hE]; done) | (rw [hE]; rfl)
 have hq7 : ((((M.puz r ((M.readP r (((((M.w3 s 0) ++ ([32] : List UInt8)) ++ (M.w3 s 1)) ++ ([32] : List UInt8)) ++ (M.w3 s 2))).1) ((M.num (M.w3 s 4)).1)).1).rules).capture) = (((M.readZ r s).1).rules).capture := by first | (rw [hE9]; done) | (rw [hE9]; rfl) | (rw [hE]; done) | (rw [hE]; rfl)
 have hq8 : ((((M.puz r ((M.readP r (((((M.w3 s 0) ++ ([32] : List UInt8)) ++ (M.w3 s 1)) ++ ([32] : List UInt8)) ++ (M.w3 s 2))).1) ((M.num (M.w3 s 4)).1)).1).rules).slam) = (((M.readZ r s).1).rules).slam := by first | (rw [hE9]; done) | (rw [hE9]; rfl) | (rw [hE]; done) | (rw [hE]; rfl)
 have hq9 : ((((M.puz r ((M.readP r (((((M.w3 s 0) ++ ([32] : List UInt8)) ++ (M.w3 s 1)) ++ ([32] : List UInt8)) ++ (M.w3 s 2))).1) ((M.num (M.w3 s 4)).1)).1).position).pits) = (((M.readZ r s).1).position).pits := by first | (rw [hE9]; done) | (rw [hE9]; rfl) | (rw [hE]; done) | (rw [hE]; rfl)
 have hq10 : ((((M.puz r ((M.readP r (((((M.w3 s 0) ++ ([32] : List UInt8)) ++ (M.w3 s 1)) ++ ([32] : List UInt8)) ++ (M.w3 s 2))).1) ((M.num (M.w3 s 4)).1)).1).position).stores) = (((M.readZ r s).1).position).stores := by first | (rw [hE9]; done) | (rw [hE9]; rfl) | (rw [hE]; done) | (rw [hE]; rfl)
 have hq11 : ((((M.puz r ((M.readP r (((((M.w3 s 0) ++ ([32] : List UInt8)) ++ (M.w3 s 1)) ++ ([32] : List UInt8)) ++ (M.w3 s 2))).1) ((M.num (M.w3 s 4)).1)).1).position).player) = (((M.readZ r s).1).position).player := by first | (rw [hE9]; done) | (rw [hE9]; rfl) | (rw [hE]; done) | (rw [hE]; rfl)
 have hq12 : (((M.puz r ((M.readP r (((((M.w3 s 0) ++ ([32] : List UInt8)) ++ (M.w3 s 1)) ++ ([32] : List UInt8)) ++ (M.w3 s 2))).1) ((M.num (M.w3 s 4)).1)).1).depth) = ((M.readZ r s).1).depth := by first | (rw [hE9]; done) | (rw [hE9]; rfl) | (rw [hE]; done) | (rw [hE]; rfl)
 have hq13 : (((M.puz r ((M.readP r (((((M.w3 s 0) ++ ([32] : List UInt8)) ++ (M.w3 s 1)) ++ ([32] : List UInt8)) ++ (M.w3 s 2))).1) ((M.num (M.w3 s 4)).1)).1).move) = ((M.readZ r s).1).move := by first | (rw [hE9]; done) | (rw [hE9]; rfl) | (rw [hE]; done) | (rw [hE]; rfl)
 have hq14 : (((M.puz r ((M.readP r (((((M.w3 s 0) ++ ([32] : List UInt8)) ++ (M.w3 s 1)) ++ ([32] : List UInt8)) ++ (M.w3 s 2))).1) ((M.num (M.w3 s 4)).1)).1).value) = ((M.readZ r s).1).value := by first | (rw [hE9]; done) | (rw [hE9]; rfl) | (rw [hE]; done) | (rw [hE]; rfl)
 have hq15 : (((M.puz r ((M.readP r (((((M.w3 s 0) ++ ([32] : List UInt8)) ++ (M.w3 s 1)) ++ ([32] : List UInt8)) ++ (M.w3 s 2))).1) ((M.num (M.w3 s 4)).1)).1).margin) = ((M.readZ r s).1).margin := by first | (rw [hE9]; done) | (rw [hE9]; rfl) | (rw [hE]; done) | (rw [hE]; rfl)
 have hq16 : true = (M.readZ r s).2 := by first | (rw [hE9]; done) | (rw [hE9]; rfl) | (rw [hE]; done) | (rw [hE]; rfl)
 refine Js.skip <| zS <| Q9 0 rfl rfl ?_
 refine zw 6 rfl rfl rfl ?_
 refine Qa rfl <| JL.nil ?_
 exact zro (x3.trans x22)

end Go.Proofs.YtdhmdaoijnnfjaaGreatDoor

namespace Go.Proofs.YtdhmdaoijnnfjaaGreatDoor
open Go.RowKit

set_option maxHeartbeats 8000000 in
theorem c_laws_toRules (a : M.Rul) {v_a : Value} {w : World} (h_a : (Ty.agg (cRules a)).ok w v_a) : Ret Tryz.prog 25 [v_a] w (Ty.agg (cRules a)) := by
 revert v_a; apply opn
 refine enter @Tryz.func25 @Tryz.ntmps25 rfl rfl ?_
 refine zent ?_
 refine zS <| zb rfl fun b1 => za zeh fun b2 => zN <| za zeh fun b3 => zN <| Qf fh rfl <| Q0 2 rfl rfl rfl <| Qf fh rfl <| zw 0 rfl rfl rfl ?_
 refine zN <| Qf fh rfl <| Q0 2 rfl rfl rfl <| Qf fh rfl <| zw 0 rfl rfl rfl ?_
 refine zN <| Qf fh rfl <| Q0 2 rfl rfl rfl <| Qf fh rfl <| zw 0 rfl rfl rfl ?_
 refine zN <| Qf fh rfl <| Q0 2 rfl rfl rfl <| Qf fh rfl <| zw 0 rfl rfl rfl ?_
 refine zN <| Qf fh rfl <| Q0 2 rfl rfl rfl <| Qf fh rfl <| zw 0 rfl rfl rfl ?_
 refine zN <| Qf fh rfl <| Q0 2 rfl rfl rfl <| Qf fh rfl <| zw 0 rfl rfl rfl ?_
 refine zN <| Qf fh rfl <| Q0 2 rfl rfl rfl <| Qf fh rfl <| zw 0 rfl rfl rfl ?_
 refine zN <| Qf fh rfl <| Q0 2 rfl rfl rfl <| Qf fh rfl <| zw 0 rfl rfl rfl ?_
 refine zN <| Qf fh rfl <| Q0 2 rfl rfl rfl <| Qf fh rfl <| zw 0 rfl rfl rfl ?_
 refine zN <| Q9 0 rfl rfl ?_
 refine zw 1 rfl rfl rfl ?_
 refine JL.nil ?_
 exact zro (Up.refl _ _)

set_option maxHeartbeats 1000000 in
theorem c_laws_eqInt64S (a : List Int) {v_a : Value} (b : List Int) {v_b : Value} {w : World} (h_a : (Ty.ints 2 a).ok w v_a) (h_b : (Ty.ints 2 b).ok w v_b) (r0 : a.length ≤ 4194304 := by exact om_) (r1 : b.length ≤ 4194304 := by exact om_) : RetV Tryz.prog 59 [v_a, v_b] w (.bool (decide (a = b))) := by
 revert v_a; apply opn
 intro A1 c1 h1 bl1 bh1
 have h_a := h1
 revert v_b; apply opn
 intro A2 c2 h2 bl2 bh2
 have h_b := h2
 refine enter @Tryz.func59 @Tryz.ntmps59 rfl rfl ?_
 refine zent ?_
 refine zS <| Qa rfl <| zJ <| zS <| Qm rfl <| Qz rfl <| Qm rfl <| Qz rfl <| Qd rfl rfl <| JL.nil ?_
 refine zi (fun h3 h3' => ?_) fun h3 h3' => ?_
 ·
  have e1 : decide (a = b) = false := by simp; rintro rfl; simp at h3
  refine zS <| Qa rfl <| JL.nil ?_
  refine zR (Up.refl _ _) ?_
  simp [outV, e1]
 have hlen : a.length = b.length := by have := h3'; omega
 refine Js.skip <| Js.seq <| zS <| Qa rfl <| JL.nil <| Js.block ?_
 refine zl [0, 1] (fun F U l os u m => ∃ (k : Nat), l = F [(5, .int .i64 (k : Int))] ∧ os = U [] ∧ (k ≤ a.length) ∧ (M.Upto a b k) ∧ m = a.length - k) ⟨0, rfl, rfl, zt, by exact M.Upto.zero _ _, rfl⟩ ?_
 rintro _ _ u4 _ ⟨k, rfl, rfl, hk, hU, rfl⟩ x4
 refine zn ?_
 refine Js.seq <| zS <| Qm rfl <| Qm rfl <| Qz rfl <| Ql rfl rfl <| JL.nil ?_
 refine zi (fun h5 h5' => ?_) fun h5 h5' => ?_
 ·
  refine Js.skip <| Js.seq <| Js.block <| Js.seq ?_
  refine zdr [] ?_
  refine JH.p 0 rfl (p_move rfl) ?_
  refine JH.p 1 rfl (p_move rfl) ?_
  obtain ⟨b6, o6, he6, hc6⟩ := ints_elem (Ty.mono _ h1 x4.vis) (i := k) (by omega)
  refine JH.p 2 rfl (p_indexAddr el_24 rfl rfl (by omega) (by omega) he6) ?_
  refine JH.w 3 rfl (fun os' u' hv => q_load1 ty_2.h rfl (Mem.pub (hc6.vis hv))) ?_
  refine JH.p 4 rfl (p_move rfl) ?_
  refine JH.p 5 rfl (p_move rfl) ?_
  obtain ⟨b7, o7, he7, hc7⟩ := ints_elem (Ty.mono _ h2 x4.vis) (i := k) (by omega)
  refine JH.p 6 rfl (p_indexAddr el_24 rfl rfl (by omega) (by omega) he7) ?_
  refine JH.w 7 rfl (fun os' u' hv => q_load1 ty_2.h rfl (Mem.pub (hc7.vis hv))) ?_
  refine JH.p 8 rfl (p_neq rfl rfl) ?_
  refine yd ?_
  refine zi (fun h8 h8' => ?_) fun h8 h8' => ?_
  ·
   have e1 : decide (a = b) = false := by simpa using M.ne_of_nth (a := a) (b := b) (k := k) (by simpa using h8)
   refine zS <| Qa rfl <| JL.nil ?_
   refine zR x4 ?_
   simp [outV, e1]
  have hab : M.nth a k = M.nth b k := by simpa using h8
  refine Js.skip <| Js.blockEnd <| Js.region <| Qm rfl <| Qp rfl rfl <| Qa rfl <| JL.nil ?_
  exact zag ⟨k + 1, rfl, rfl, zt, by exact hU.step (by omega) (by omega) hab, rfl⟩ x4
 have e1 : a = b := hU.done (by omega) (by omega)
 refine zx ?_
 refine zS <| Qa rfl <| JL.nil ?_
 refine zR x4 ?_
 simp [outV, e1]

set_option maxHeartbeats 1000000 in
theorem c_laws_eqPosition (a : M.Pos) {v_a : Value} (b : M.Pos) {v_b : Value} {w : World} (h_a : (Ty.agg (cPosition a)).ok w v_a) (h_b : (Ty.agg (cPosition b)).ok w v_b) (r0 : a.pits.length ≤ 4194304 := by exact om_) (r1 : a.stores.length ≤ 4194304 := by exact om_) (r2 : b.pits.length ≤ 4194304 := by exact om_) (r3 : b.stores.length ≤ 4194304 := by exact om_) : RetV Tryz.prog 46 [v_a, v_b] w (.bool (decide (a = b))) := by
 revert v_a; apply opn
 intro A1 c1 h1 bl1 bh1 A2 c2 h2 bl2 bh2
 revert v_b; apply opn
 intro A3 c3 h3 bl3 bh3 A4 c4 h4 bl4 bh4
 refine enter @Tryz.func46 @Tryz.ntmps46 rfl rfl ?_
 refine zent ?_
 refine zS <| zb rfl fun b5 => zb rfl fun b6 => Qa rfl <| zJ <| zS <| Qf fh rfl <| Q0 1 rfl rfl rfl <| Qf fh rfl <| Q0 0 rfl rfl rfl <| zv rfl (fun w hw => c_laws_eqInt64S a.pits b.pits (ok_ hw) (ok_ hw)) <| Qt rfl <| JL.nil ?_
 refine zi (fun h7 h7' => ?_) fun h7 h7' => ?_
 ·
  have hne : a ≠ b := by rintro rfl; simp at h7
  refine zS <| Qa rfl <| JL.nil ?_
  refine zR (Up.refl _ _) ?_
  first | (rw [decide_eq_false hne]; rfl) | (rw [decide_eq_true (M.pos_ext q0 q1 q2)]; rfl)
 have q0 : a.pits = b.pits := by simpa using h7
 refine Js.skip <| Js.seq <| zS <| Qf fh rfl <| Q0 1 rfl rfl rfl <| Qf fh rfl <| Q0 0 rfl rfl rfl <| zv rfl (fun w hw => c_laws_eqInt64S a.stores b.stores (ok_ hw) (ok_ hw)) <| Qt rfl <| JL.nil ?_
 refine zi (fun h8 h8' => ?_) fun h8 h8' => ?_
 ·
  have hne : a ≠ b := by rintro rfl; simp at h8
  refine zS <| Qa rfl <| JL.nil ?_
  refine zR (Up.refl _ _) ?_
  first | (rw [decide_eq_false hne]; rfl) | (rw [decide_eq_true (M.pos_ext q0 q1 q2)]; rfl)
 have q1 : a.stores = b.stores := by simpa using h8
 refine Js.skip <| Js.seq <| zS <| Qf fh rfl <| Q0 1 rfl rfl rfl <| Qf fh rfl <| Q0 0 rfl rfl rfl <| Qd rfl rfl <| JL.nil ?_
 refine zi (fun h9 h9' => ?_) fun h9 h9' => ?_
 ·
  have hne : a ≠ b := by rintro rfl; simp at h9
  refine zS <| Qa rfl <| JL.nil ?_
  refine zR (Up.refl _ _) ?_
  first | (rw [decide_eq_false hne]; rfl) | (rw [decide_eq_true (M.pos_ext q0 q1 q2)]; rfl)
 have q2 : a.player = b.player := by simpa using h9
 refine Js.skip <| zS <| Qa rfl <| JL.nil ?_
 refine zR (Up.refl _ _) ?_
 first | (rw [decide_eq_false hne]; rfl) | (rw [decide_eq_true (M.pos_ext q0 q1 q2)]; rfl)

set_option maxHeartbeats 1000000 in
theorem c_laws_eqRules (a : M.Rul) {v_a : Value} (b : M.Rul) {v_b : Value} {w : World} (h_a : (Ty.agg (cRules a)).ok w v_a) (h_b : (Ty.agg (cRules b)).ok w v_b) : RetV Tryz.prog 45 [v_a, v_b] w (.bool (decide (a = b))) := by
 revert v_a; apply opn
 revert v_b; apply opn
 refine enter @Tryz.func45 @Tryz.ntmps45 rfl rfl ?_
 refine zent ?_
 refine zS <| zb rfl fun b1 => zb rfl fun b2 => Qa rfl <| zJ <| zS <| Qf fh rfl <| Q0 1 rfl rfl rfl <| Qf fh rfl <| Q0 0 rfl rfl rfl <| Qd rfl rfl <| JL.nil ?_
 refine zi (fun h3 h3' => ?_) fun h3 h3' => ?_
 ·
  have hne : a ≠ b := by rintro rfl; simp at h3
  refine zS <| Qa rfl <| JL.nil ?_
  refine zR (Up.refl _ _) ?_
  first | (rw [decide_eq_false hne]; rfl) | (rw [decide_eq_true (M.rul_ext q0 q1 q2 q3 q4 q5 q6 q7 q8)]; rfl)
 have q0 : a.pits = b.pits := by simpa using h3
 refine Js.skip <| Js.seq <| zS <| Qf fh rfl <| Q0 1 rfl rfl rfl <| Qf fh rfl <| Q0 0 rfl rfl rfl <| Qd rfl rfl <| JL.nil ?_
 refine zi (fun h4 h4' => ?_) fun h4 h4' => ?_
 ·
  have hne : a ≠ b := by rintro rfl; simp at h4
  refine zS <| Qa rfl <| JL.nil ?_
  refine zR (Up.refl _ _) ?_
  first | (rw [decide_eq_false hne]; rfl) | (rw [decide_eq_true (M.rul_ext q0 q1 q2 q3 q4 q5 q6 q7 q8)]; rfl)
 have q1 : a.seeds = b.seeds := by simpa using h4
 refine Js.skip <| Js.seq <| zS <| Qf fh rfl <| Q0 1 rfl rfl rfl <| Qf fh rfl <| Q0 0 rfl rfl rfl <| Qq (p_neqB und_4 rfl rfl) <| JL.nil ?_
 refine zi (fun h5 h5' => ?_) fun h5 h5' => ?_
 ·
  have hne : a ≠ b := by rintro rfl; simp at h5
  refine zS <| Qa rfl <| JL.nil ?_
  refine zR (Up.refl _ _) ?_
  first | (rw [decide_eq_false hne]; rfl) | (rw [decide_eq_true (M.rul_ext q0 q1 q2 q3 q4 q5 q6 q7 q8)]; rfl)
 have q2 : a.stores = b.stores := by simpa using h5
 refine Js.skip <| Js.seq <| zS <| Qf fh rfl <| Q0 1 rfl rfl rfl <| Qf fh rfl <| Q0 0 rfl rfl rfl <| Qq (p_neqB und_4 rfl rfl) <| JL.nil ?_
 refine zi (fun h6 h6' => ?_) fun h6 h6' => ?_
 ·
  have hne : a ≠ b := by rintro rfl; simp at h6
  refine zS <| Qa rfl <| JL.nil ?_
  refine zR (Up.refl _ _) ?_
  first | (rw [decide_eq_false hne]; rfl) | (rw [decide_eq_true (M.rul_ext q0 q1 q2 q3 q4 q5 q6 q7 q8)]; rfl)
 have q3 : a.skip = b.skip := by simpa using h6
 refine Js.skip <| Js.seq <| zS <| Qf fh rfl <| Q0 1 rfl rfl rfl <| Qf fh rfl <| Q0 0 rfl rfl rfl <| Qq (p_neqB und_4 rfl rfl) <| JL.nil ?_
 refine zi (fun h7 h7' => ?_) fun h7 h7' => ?_
 ·
  have hne : a ≠ b := by rintro rfl; simp at h7
  refine zS <| Qa rfl <| JL.nil ?_
  refine zR (Up.refl _ _) ?_
  first | (rw [decide_eq_false hne]; rfl) | (rw [decide_eq_true (M.rul_ext q0 q1 q2 q3 q4 q5 q6 q7 q8)]; rfl)
 have q4 : a.relay = b.relay := by simpa using h7
 refine Js.skip <| Js.seq <| zS <| Qf fh rfl <| Q0 1 rfl rfl rfl <| Qf fh rfl <| Q0 0 rfl rfl rfl <| Qq (p_neqB und_4 rfl rfl) <| JL.nil ?_
 refine zi (fun h8 h8' => ?_) fun h8 h8' => ?_
 ·
  have hne : a ≠ b := by rintro rfl; simp at h8
  refine zS <| Qa rfl <| JL.nil ?_
  refine zR (Up.refl _ _) ?_
  first | (rw [decide_eq_false hne]; rfl) | (rw [decide_eq_true (M.rul_ext q0 q1 q2 q3 q4 q5 q6 q7 q8)]; rfl)
 have q5 : a.feed = b.feed := by simpa using h8
 refine Js.skip <| Js.seq <| zS <| Qf fh rfl <| Q0 1 rfl rfl rfl <| Qf fh rfl <| Q0 0 rfl rfl rfl <| Qq (p_neqB und_4 rfl rfl) <| JL.nil ?_
 refine zi (fun h9 h9' => ?_) fun h9 h9' => ?_
 ·
  have hne : a ≠ b := by rintro rfl; simp at h9
  refine zS <| Qa rfl <| JL.nil ?_
  refine zR (Up.refl _ _) ?_
  first | (rw [decide_eq_false hne]; rfl) | (rw [decide_eq_true (M.rul_ext q0 q1 q2 q3 q4 q5 q6 q7 q8)]; rfl)
 have q6 : a.again = b.again := by simpa using h9
 refine Js.skip <| Js.seq <| zS <| Qf fh rfl <| Q0 1 rfl rfl rfl <| Qf fh rfl <| Q0 0 rfl rfl rfl <| Qd rfl rfl <| JL.nil ?_
 refine zi (fun h10 h10' => ?_) fun h10 h10' => ?_
 ·
  have hne : a ≠ b := by rintro rfl; simp at h10
  refine zS <| Qa rfl <| JL.nil ?_
  refine zR (Up.refl _ _) ?_
  first | (rw [decide_eq_false hne]; rfl) | (rw [decide_eq_true (M.rul_ext q0 q1 q2 q3 q4 q5 q6 q7 q8)]; rfl)
 have q7 : a.capture = b.capture := by simpa using h10
 refine Js.skip <| Js.seq <| zS <| Qf fh rfl <| Q0 1 rfl rfl rfl <| Qf fh rfl <| Q0 0 rfl rfl rfl <| Qd rfl rfl <| JL.nil ?_
 refine zi (fun h11 h11' => ?_) fun h11 h11' => ?_
 ·
  have hne : a ≠ b := by rintro rfl; simp at h11
  refine zS <| Qa rfl <| JL.nil ?_
  refine zR (Up.refl _ _) ?_
  first | (rw [decide_eq_false hne]; rfl) | (rw [decide_eq_true (M.rul_ext q0 q1 q2 q3 q4 q5 q6 q7 q8)]; rfl)
 have q8 : a.slam = b.slam := by simpa using h11
 refine Js.skip <| zS <| Qa rfl <| JL.nil ?_
 refine zR (Up.refl _ _) ?_
 first | (rw [decide_eq_false hne]; rfl) | (rw [decide_eq_true (M.rul_ext q0 q1 q2 q3 q4 q5 q6 q7 q8)]; rfl)

end Go.Proofs.YtdhmdaoijnnfjaaGreatDoor

namespace Go.Proofs.YtdhmdaoijnnfjaaGreatDoor
open Go.RowKit

set_option maxHeartbeats 1000000 in
theorem c_laws_markInt64S (a : List Int) {Aa_0 : Option Addr} {ca_0 : Nat} {ga_0 : List Nat} (k : Int) {w : World} (hb : Bw w [rowO 2 1 (.slice Aa_0 a.length ca_0) a.length (ints_ a) ga_0]) (bd0 : a.length ≤ ca_0 := by exact om_) (bd1 : ca_0 ≤ 9223372036854775807 := by exact om_) (r0 : a.length ≤ 4194304 := by exact om_) (r1 : 0 ≤ k := by exact om_) (r2 : k ≤ 100000000 := by exact om_) : RetB Tryz.prog 75 [.slice Aa_0 a.length ca_0, .int .i64 k] w [rowO 2 1 (.slice Aa_0 a.length ca_0) a.length (ints_ a) ga_0] (fun v bs' => v = .int .i64 (k + (a.length : Int)) ∧ bs' = [rowO 2 1 (.slice Aa_0 a.length ca_0) a.length (ints_ (M.up k a.length)) ga_0]) := by
 refine enterB hb @Tryz.func75 @Tryz.ntmps75 rfl rfl ?_
 refine zent ?_
 refine Js.trashE ?_
 refine zn ?_
 refine zS <| Qa rfl <| zJ <| zS <| Qa rfl <| JL.nil <| Js.block ?_
 refine zl [0] (fun F U l os u m => ∃ (i : Nat) (kk : Int) (xs : List Int) (G1_1 : List Nat), l = F [(1, .int .i64 kk), (5, .int .i64 (i : Int))] ∧ os = U [some (rowO 2 1 (.slice Aa_0 a.length ca_0) a.length (ints_ xs) ga_0), some (anyO G1_1)] ∧ (xs = M.mkd a k i) ∧ (i ≤ a.length) ∧ (xs.length = a.length) ∧ (kk = k + (i : Int)) ∧ m = a.length - i) ⟨0, k, a, _, rfl, rfl, by exact M.mkd_zero a k, zt, by rfl, by simp, rfl⟩ ?_
 rintro _ _ u1 _ ⟨i, kk, xs, G1_1, rfl, rfl, hX, hi, hl, hkk, rfl⟩ x1
 refine zn ?_
 refine Js.seq <| zS <| Qm rfl <| Qm rfl <| Qz rfl <| Ql rfl rfl <| JL.nil ?_
 refine zi (fun h2 h2' => ?_) fun h2 h2' => ?_
 ·
  refine Js.skip <| Js.seq <| Js.block <| zS <| Qm rfl <| Qm rfl <| Qm rfl ?_
  refine JL.fact (row_some (i := 0) rfl (by omega)) (fun hf4 => ?_)
  obtain ⟨b4, rfl⟩ := hf4
  refine Qq (p_indexAddr el_24 rfl rfl (by omega) (by omega) rfl) ?_
  refine JL.s (e_storeRow (i := 0) (xs' := ints_ (xs.set i kk)) ty_2.h rfl rfl rfl rfl rfl rfl (ints_lt (i := i) (by omega)) (ints_setL (i := i) (by omega))) ?_
  rintro _ _ _ ⟨rfl, rfl⟩ _
  refine znl ?_
  refine zG <| Qm rfl <| Qp rfl rfl <| Qa rfl <| JL.nil <| Js.blockEnd <| Js.region <| Qm rfl <| Qp rfl rfl <| Qa rfl <| JL.nil ?_
  exact zag ⟨i + 1, kk + 1, xs.set i kk, _, rfl, rfl, by rw [hX, hkk]; exact M.mkd_step (by omega), zt, by rw [List.length_set]; exact hl, zt, rfl⟩ x1
 have hi2 : i = a.length := by have := h2'; omega
 have hM : M.up k a.length = xs := by rw [hX]; exact (M.mkd_end hi2).symm
 refine zx ?_
 refine zS <| Qm rfl <| Qa rfl <| JL.nil ?_
 refine zrb [0] hb x1 ?_
 have hE : (.int .i64 kk : Value) = .int .i64 (k + (a.length : Int)) := by first | exact hM | (refine congrArg (Value.int .i64) ?_; omega)
 have hE1 : M.up k a.length = xs := by first | exact hM | (refine congrArg (Value.int .i64) ?_; omega)
 refine ⟨hE, ?_⟩
 · rw [hE1]

set_option maxHeartbeats 1000000 in
theorem c_laws_heldInt64S (a : List Int) {v_a : Value} (k : Int) {w : World} (h_a : (Ty.ints 2 a).ok w v_a) (r0 : a.length ≤ 4194304 := by exact om_) (r1 : 0 ≤ k := by exact om_) (r2 : k ≤ 100000000 := by exact om_) : RetV Tryz.prog 76 [v_a, .int .i64 k] w (.int .i64 (M.held a k)) := by
 revert v_a; apply opn
 intro A1 c1 h1 bl1 bh1
 have h_a := h1
 refine enter @Tryz.func76 @Tryz.ntmps76 rfl rfl ?_
 refine zent ?_
 refine zS <| Qa rfl <| zJ <| zS <| Qa rfl <| JL.nil <| Js.block ?_
 refine zl [0] (fun F U l os u m => ∃ (i : Nat) (kk : Int), l = F [(1, .int .i64 kk), (5, .int .i64 (i : Int))] ∧ os = U [] ∧ (a.take i = M.up k i) ∧ (i ≤ a.length) ∧ (kk = k + (i : Int)) ∧ m = a.length - i) ⟨0, k, rfl, rfl, by rfl, zt, by simp, rfl⟩ ?_
 rintro _ _ u2 _ ⟨i, kk, rfl, rfl, hU, hi, hkk, rfl⟩ x2
 refine zn ?_
 refine Js.seq <| zS <| Qm rfl <| Qm rfl <| Qz rfl <| Ql rfl rfl <| JL.nil ?_
 refine zi (fun h3 h3' => ?_) fun h3 h3' => ?_
 ·
  obtain ⟨b4, o4, he4, hc4⟩ := ints_elem (Ty.mono _ h1 x2.vis) (i := i) (by omega)
  refine Js.skip <| Js.seq <| Js.block <| Js.seq <| zS <| Qm rfl <| Qm rfl <| Qq (p_indexAddr el_24 rfl rfl (by omega) (by omega) he4) <| QC hc4 rfl <| Qm rfl <| Qd rfl rfl <| JL.nil ?_
  refine zi (fun h5 h5' => ?_) fun h5 h5' => ?_
  ·
   have hE := M.held_no (a := a) (k := k) (i := i) (by omega) (by rw [← hkk]; simpa using h5)
   refine zS <| Qa rfl <| JL.nil ?_
   refine zR x2 ?_
   first | (rw [hE]; rfl) | (rw [hE, hkk]; rfl)
  have he : M.nth a i = k + (i : Int) := by rw [← hkk]; simpa using h5
  refine Js.skip <| Js.region <| Qm rfl <| Qp rfl rfl <| Qa rfl <| JL.nil <| Js.blockEnd <| Js.region <| Qm rfl <| Qp rfl rfl <| Qa rfl <| JL.nil ?_
  exact zag ⟨i + 1, kk + 1, rfl, rfl, by exact M.held_step (by omega) hU he, zt, zt, rfl⟩ x2
 have hE := M.held_yes (a := a) (k := k) (i := i) (by have := h3'; omega) hU
 refine zx ?_
 refine zS <| Qm rfl <| Qa rfl <| JL.nil ?_
 refine zR x2 ?_
 first | (rw [hE]; rfl) | (rw [hE, hkk]; rfl)

set_option maxHeartbeats 1000000 in
theorem c_laws_markPosition (a_pits a_stores : List Int) (a_player : Int) {Aa_0 : Option Addr} {ca_0 : Nat} {ga_0 : List Nat} {Aa_1 : Option Addr} {ca_1 : Nat} {ga_1 : List Nat} (k : Int) {w : World} (hb : Bw w [rowO 2 1 (.slice Aa_0 a_pits.length ca_0) a_pits.length (ints_ a_pits) ga_0, rowO 2 1 (.slice Aa_1 a_stores.length ca_1) a_stores.length (ints_ a_stores) ga_1]) (bd0 : a_pits.length ≤ ca_0 := by exact om_) (bd1 : ca_0 ≤ 9223372036854775807 := by exact om_) (bd2 : a_stores.length ≤ ca_1 := by exact om_) (bd3 : ca_1 ≤ 9223372036854775807 := by exact om_) (r0 : a_pits.length ≤ 4194304 := by exact om_) (r1 : a_stores.length ≤ 4194304 := by exact om_) (r2 : 0 ≤ k := by exact om_) (r3 : k ≤ 50000000 := by exact om_) : RetB Tryz.prog 71 [.agg #[.slice Aa_0 a_pits.length ca_0, .slice Aa_1 a_stores.length ca_1, .int .i64 a_player], .int .i64 k] w [rowO 2 1 (.slice Aa_0 a_pits.length ca_0) a_pits.length (ints_ a_pits) ga_0, rowO 2 1 (.slice Aa_1 a_stores.length ca_1) a_stores.length (ints_ a_stores) ga_1] (fun v bs' => v = .int .i64 (k + (a_pits.length : Int) + (a_stores.length : Int)) ∧ bs' = [rowO 2 1 (.slice Aa_0 a_pits.length ca_0) a_pits.length (ints_ (M.up k a_pits.length)) ga_0, rowO 2 1 (.slice Aa_1 a_stores.length ca_1) a_stores.length (ints_ (M.up (k + (a_pits.length : Int)) a_stores.length)) ga_1]) := by
 refine enterB hb @Tryz.func71 @Tryz.ntmps71 rfl rfl ?_
 refine zent ?_
 refine Js.trashE ?_
 refine zn ?_
 refine zS <| zb rfl fun b1 => Qa rfl <| zN <| Qf fh rfl <| Q0 0 rfl rfl rfl <| Qm rfl ?_
 refine zhl [1] ?_
 refine zBB 1 sp_ rfl (fun w hb _ hw => c_laws_markInt64S a_pits k hb) ?_
 rintro _ _ G2 ⟨rfl, rfl⟩
 refine znl ?_
 refine Qa rfl <| zN <| Qf fh rfl <| Q0 2 rfl rfl rfl <| Qm rfl ?_
 refine zhl [3] ?_
 refine zBB 1 sp_ rfl (fun w hb _ hw => c_laws_markInt64S a_stores (k + (a_pits.length : Int)) hb) ?_
 rintro _ _ G3 ⟨rfl, rfl⟩
 refine znl ?_
 refine Qa rfl <| zN <| Qm rfl <| Qa rfl <| JL.nil ?_
 refine zrb [2, 0] hb (Up.refl _ _) ?_
 have hE : (.int .i64 ((k + (a_pits.length : Int)) + (a_stores.length : Int)) : Value) = .int .i64 (k + (a_pits.length : Int) + (a_stores.length : Int)) := by rfl
 exact ⟨hE, rfl⟩

set_option maxHeartbeats 1000000 in
theorem c_laws_heldPosition (a : M.Pos) {v_a : Value} (k : Int) {w : World} (h_a : (Ty.agg (cPosition a)).ok w v_a) (r0 : a.pits.length ≤ 4194304 := by exact om_) (r1 : a.stores.length ≤ 4194304 := by exact om_) (r2 : 0 ≤ k := by exact om_) (r3 : k ≤ 50000000 := by exact om_) : RetV Tryz.prog 72 [v_a, .int .i64 k] w (.int .i64 (M.heldP a k)) := by
 have b1 := M.held_bd a.pits r2
 revert v_a; apply opn
 intro A1 c1 h1 bl1 bh1 A2 c2 h2 bl2 bh2
 refine enter @Tryz.func72 @Tryz.ntmps72 rfl rfl ?_
 refine zent ?_
 refine zS <| zb rfl fun b3 => Qa rfl <| zN <| Qf fh rfl <| Q0 0 rfl rfl rfl <| Qm rfl <| zv rfl (fun w hw => c_laws_heldInt64S a.pits k (ok_ hw)) <| Qa rfl <| zJ <| zS <| Qm rfl <| Ql rfl rfl <| JL.nil ?_
 refine zi (fun h4 h4' => ?_) fun h4 h4' => ?_
 ·
  have hE := M.heldP_1 (p := a) (k := k) (by simpa using h4)
  refine zS <| Qa rfl <| JL.nil ?_
  refine zR (Up.refl _ _) ?_
  rw [hE]; rfl
 have q1 : ¬ M.held a.pits k < 0 := by simpa using h4
 refine Js.skip <| zS <| Qf fh rfl <| Q0 0 rfl rfl rfl <| Qm rfl <| zv rfl (fun w hw => c_laws_heldInt64S a.stores (M.held a.pits k) (ok_ hw)) <| Qa rfl <| zJ <| zS <| Qm rfl <| Ql rfl rfl <| JL.nil ?_
 refine zi (fun h5 h5' => ?_) fun h5 h5' => ?_
 ·
  have hE := M.heldP_2 q1 (by simpa using h5)
  refine zS <| Qa rfl <| JL.nil ?_
  refine zR (Up.refl _ _) ?_
  rw [hE]; rfl
 have hE := M.heldP_3 q1 (by simpa using h5)
 refine Js.skip <| zS <| Qm rfl <| Qa rfl <| JL.nil ?_
 refine zR (Up.refl _ _) ?_
 rw [hE]; rfl

end Go.Proofs.YtdhmdaoijnnfjaaGreatDoor

namespace Go.Proofs.YtdhmdaoijnnfjaaGreatDoor
open Go.RowKit

set_option maxHeartbeats 1000000 in
theorem c_laws_eqPuzzle (a : M.Puz) {v_a : Value} (b : M.Puz) {v_b : Value} {w : World} (h_a : (Ty.agg (cPuzzle a)).ok w v_a) (h_b : (Ty.agg (cPuzzle b)).ok w v_b) (r0 : a.position.pits.length ≤ 4194304 := by exact om_) (r1 : a.position.stores.length ≤ 4194304 := by exact om_) (r2 : b.position.pits.length ≤ 4194304 := by exact om_) (r3 : b.position.stores.length ≤ 4194304 := by exact om_) : RetV Tryz.prog 14 [v_a, v_b] w (.bool (decide (a = b))) := by
 revert v_a; apply opn
 intro A1 c1 h1 bl1 bh1 A2 c2 h2 bl2 bh2
 revert v_b; apply opn
 intro A3 c3 h3 bl3 bh3 A4 c4 h4 bl4 bh4
 refine enter @Tryz.func14 @Tryz.ntmps14 rfl rfl ?_
 refine zent ?_
 refine zS <| zb rfl fun b5 => zb rfl fun b6 => Qa rfl <| zJ <| zS <| Qf fh rfl <| Q9 1 rfl rfl ?_
 refine Qf fh rfl <| Q9 0 rfl rfl ?_
 refine zv rfl (fun w hw => c_laws_eqRules a.rules b.rules (ok_ hw) (ok_ hw)) <| Qt rfl <| JL.nil ?_
 refine zi (fun h7 h7' => ?_) fun h7 h7' => ?_
 ·
  have hne : a ≠ b := by rintro rfl; simp at h7
  refine zS <| Qa rfl <| JL.nil ?_
  refine zR (Up.refl _ _) ?_
  first | (rw [decide_eq_false hne]; rfl) | (rw [decide_eq_true (M.puz_ext q0 q1 q2 q3 q4 q5)]; rfl)
 have q0 : a.rules = b.rules := by simpa using h7
 refine Js.skip <| Js.seq <| zS <| Qf fh rfl <| Q9 1 rfl rfl ?_
 refine Qf fh rfl <| Q9 0 rfl rfl ?_
 refine zv rfl (fun w hw => c_laws_eqPosition a.position b.position (ok_ hw) (ok_ hw)) <| Qt rfl <| JL.nil ?_
 refine zi (fun h8 h8' => ?_) fun h8 h8' => ?_
 ·
  have hne : a ≠ b := by rintro rfl; simp at h8
  refine zS <| Qa rfl <| JL.nil ?_
  refine zR (Up.refl _ _) ?_
  first | (rw [decide_eq_false hne]; rfl) | (rw [decide_eq_true (M.puz_ext q0 q1 q2 q3 q4 q5)]; rfl)
 have q1 : a.position = b.position := by simpa using h8
 refine Js.skip <| Js.seq <| zS <| Qf fh rfl <| Q0 1 rfl rfl rfl <| Qf fh rfl <| Q0 0 rfl rfl rfl <| Qd rfl rfl <| JL.nil ?_
 refine zi (fun h9 h9' => ?_) fun h9 h9' => ?_
 ·
  have hne : a ≠ b := by rintro rfl; simp at h9
  refine zS <| Qa rfl <| JL.nil ?_
  refine zR (Up.refl _ _) ?_
  first | (rw [decide_eq_false hne]; rfl) | (rw [decide_eq_true (M.puz_ext q0 q1 q2 q3 q4 q5)]; rfl)
 have q2 : a.depth = b.depth := by simpa using h9
 refine Js.skip <| Js.seq <| zS <| Qf fh rfl <| Q0 1 rfl rfl rfl <| Qf fh rfl <| Q0 0 rfl rfl rfl <| Qd rfl rfl <| JL.nil ?_
 refine zi (fun h10 h10' => ?_) fun h10 h10' => ?_
 ·
  have hne : a ≠ b := by rintro rfl; simp at h10
  refine zS <| Qa rfl <| JL.nil ?_
  refine zR (Up.refl _ _) ?_
  first | (rw [decide_eq_false hne]; rfl) | (rw [decide_eq_true (M.puz_ext q0 q1 q2 q3 q4 q5)]; rfl)
 have q3 : a.move = b.move := by simpa using h10
 refine Js.skip <| Js.seq <| zS <| Qf fh rfl <| Q0 1 rfl rfl rfl <| Qf fh rfl <| Q0 0 rfl rfl rfl <| Qd rfl rfl <| JL.nil ?_
 refine zi (fun h11 h11' => ?_) fun h11 h11' => ?_
 ·
  have hne : a ≠ b := by rintro rfl; simp at h11
  refine zS <| Qa rfl <| JL.nil ?_
  refine zR (Up.refl _ _) ?_
  first | (rw [decide_eq_false hne]; rfl) | (rw [decide_eq_true (M.puz_ext q0 q1 q2 q3 q4 q5)]; rfl)
 have q4 : a.value = b.value := by simpa using h11
 refine Js.skip <| Js.seq <| zS <| Qf fh rfl <| Q0 1 rfl rfl rfl <| Qf fh rfl <| Q0 0 rfl rfl rfl <| Qd rfl rfl <| JL.nil ?_
 refine zi (fun h12 h12' => ?_) fun h12 h12' => ?_
 ·
  have hne : a ≠ b := by rintro rfl; simp at h12
  refine zS <| Qa rfl <| JL.nil ?_
  refine zR (Up.refl _ _) ?_
  first | (rw [decide_eq_false hne]; rfl) | (rw [decide_eq_true (M.puz_ext q0 q1 q2 q3 q4 q5)]; rfl)
 have q5 : a.margin = b.margin := by simpa using h12
 refine Js.skip <| zS <| Qa rfl <| JL.nil ?_
 refine zR (Up.refl _ _) ?_
 first | (rw [decide_eq_false hne]; rfl) | (rw [decide_eq_true (M.puz_ext q0 q1 q2 q3 q4 q5)]; rfl)

set_option maxHeartbeats 1000000 in
theorem c_laws_markPuzzle (a_rules : M.Rul) (a_position : M.Pos) (a_depth a_move a_value a_margin : Int) {Aa_9 : Option Addr} {ca_9 : Nat} {ga_9 : List Nat} {Aa_10 : Option Addr} {ca_10 : Nat} {ga_10 : List Nat} (k : Int) {w : World} (hb : Bw w [rowO 2 1 (.slice Aa_9 a_position.pits.length ca_9) a_position.pits.length (ints_ a_position.pits) ga_9, rowO 2 1 (.slice Aa_10 a_position.stores.length ca_10) a_position.stores.length (ints_ a_position.stores) ga_10]) (bd0 : a_position.pits.length ≤ ca_9 := by exact om_) (bd1 : ca_9 ≤ 9223372036854775807 := by exact om_) (bd2 : a_position.stores.length ≤ ca_10 := by exact om_) (bd3 : ca_10 ≤ 9223372036854775807 := by exact om_) (r0 : a_position.pits.length ≤ 4194304 := by exact om_) (r1 : a_position.stores.length ≤ 4194304 := by exact om_) (r2 : 0 ≤ k := by exact om_) (r3 : k ≤ 10000000 := by exact om_) : RetB Tryz.prog 27 [.agg #[.int .i64 a_rules.pits, .int .i64 a_rules.seeds, .bool a_rules.stores, .bool a_rules.skip, .bool a_rules.relay, .bool a_rules.feed, .bool a_rules.again, .int .i64 a_rules.capture, .int .i64 a_rules.slam, .slice Aa_9 a_position.pits.length ca_9, .slice Aa_10 a_position.stores.length ca_10, .int .i64 a_position.player, .int .i64 a_depth, .int .i64 a_move, .int .i64 a_value, .int .i64 a_margin], .int .i64 k] w [rowO 2 1 (.slice Aa_9 a_position.pits.length ca_9) a_position.pits.length (ints_ a_position.pits) ga_9, rowO 2 1 (.slice Aa_10 a_position.stores.length ca_10) a_position.stores.length (ints_ a_position.stores) ga_10] (fun v bs' => v = .int .i64 (k + (a_position.pits.length : Int) + (a_position.stores.length : Int)) ∧ bs' = [rowO 2 1 (.slice Aa_9 a_position.pits.length ca_9) a_position.pits.length (ints_ ((M.markP a_position k).pits)) ga_9, rowO 2 1 (.slice Aa_10 a_position.stores.length ca_10) a_position.stores.length (ints_ ((M.markP a_position k).stores)) ga_10]) := by
 refine enterB hb @Tryz.func27 @Tryz.ntmps27 rfl rfl ?_
 refine zent ?_
 refine Js.trashE ?_
 refine zn ?_
 refine zS <| zb rfl fun b1 => Qa rfl <| zN <| Qf fh rfl <| Q9 0 rfl rfl ?_
 refine Qm rfl ?_
 refine zhl [1, 1] ?_
 refine zBB 2 sp_ rfl (fun w hb _ hw => c_laws_markPosition a_position.pits a_position.stores a_position.player k hb) ?_
 rintro _ _ G2 ⟨rfl, rfl⟩
 refine znl ?_
 refine Qa rfl <| zN <| Qm rfl <| Qa rfl <| JL.nil ?_
 refine zrb [0, 0] hb (Up.refl _ _) ?_
 have hE1 : (M.markP a_position k).pits = M.up k a_position.pits.length := by first | rfl | (simp only [M.markP]; done) | (simp only [M.markP]; rfl)
 have hE2 : (M.markP a_position k).stores = M.up (k + (a_position.pits.length : Int)) a_position.stores.length := by first | rfl | (simp only [M.markP]; done) | (simp only [M.markP]; rfl)
 refine ⟨rfl, ?_⟩
 · rw [hE1, hE2]

set_option maxHeartbeats 1000000 in
theorem c_laws_heldPuzzle (a : M.Puz) {v_a : Value} (k : Int) {w : World} (h_a : (Ty.agg (cPuzzle a)).ok w v_a) (r0 : a.position.pits.length ≤ 4194304 := by exact om_) (r1 : a.position.stores.length ≤ 4194304 := by exact om_) (r2 : 0 ≤ k := by exact om_) (r3 : k ≤ 10000000 := by exact om_) : RetV Tryz.prog 28 [v_a, .int .i64 k] w (.int .i64 (M.heldP a.position k)) := by
 have b1 := M.heldP_bd a.position r2
 have b3 : M.szp a.position = a.position.pits.length + a.position.stores.length := rfl
 revert v_a; apply opn
 intro A1 c1 h1 bl1 bh1 A2 c2 h2 bl2 bh2
 refine enter @Tryz.func28 @Tryz.ntmps28 rfl rfl ?_
 refine zent ?_
 refine zS <| zb rfl fun b3 => Qa rfl <| zN <| Qf fh rfl <| Q9 0 rfl rfl ?_
 refine Qm rfl <| zv rfl (fun w hw => c_laws_heldPosition a.position k (ok_ hw)) <| Qa rfl <| zJ <| zS <| Qm rfl <| Ql rfl rfl <| JL.nil ?_
 refine zi (fun h4 h4' => ?_) fun h4 h4' => ?_
 ·
  have hE : M.heldP a.position k = -1 := by have := h4'; omega
  refine zS <| Qa rfl <| JL.nil ?_
  refine zR (Up.refl _ _) ?_
  first | (rw [hE]; rfl) | rfl
 refine Js.skip <| zS <| Qm rfl <| Qa rfl <| JL.nil ?_
 refine zR (Up.refl _ _) ?_
 first | (rw [hE]; rfl) | rfl

end Go.Proofs.YtdhmdaoijnnfjaaGreatDoor

namespace Go.Proofs.YtdhmdaoijnnfjaaGreatDoor
open Go.RowKit

set_option maxHeartbeats 4000000 in
theorem c_laws_FnExactReadPuzzle (aR : M.Rul) {v_aR : Value} (aS : List UInt8) {w : World} (h_aR : (Ty.agg (cRules aR)).ok w v_aR) (h_tab : tabT.ok w undef) : RetV Tryz.prog 7 [v_aR, .string (sB aS)] w (.bool true) := by
 obtain ⟨w1_, w2_⟩ := M.readZ_small aR aS
 have z3 := M.szp_nn (M.readZ aR aS).1.position
 revert v_aR; apply opn
 refine enter @Tryz.func7 @Tryz.ntmps7 rfl rfl ?_
 refine zent ?_
 refine zS <| zb rfl fun b1 => Qa rfl <| zJ <| zS <| Qm rfl <| Qq (p_lenS und_9 rfl) <| Qg rfl rfl <| JL.nil ?_
 refine zi (fun h2 h2' => ?_) fun h2 h2' => ?_
 ·
  refine zS <| Qa rfl <| JL.nil ?_
  exact zr (Up.refl _ _)
 refine Js.skip <| zS <| Q9 0 rfl rfl ?_
 refine zp rfl (fun w hw => c_laws_toRules aR (ok_ hw)) ?_
 intro u3 x3
 refine Qm rfl <| zp rfl (fun w hw => c_spec_ReadPuzzle aR aS (ok_ hw)) ?_
 intro u4 x4 A5 c5 h5 bl5 bh5 A6 c6 h6 bl6 bh6
 refine Qm rfl <| Qx rfl rfl <| Qx rfl rfl <| za zeh fun b7 => zw 0 rfl rfl rfl ?_
 refine Qa rfl <| zN <| Q9 1 rfl rfl ?_
 refine zp rfl (fun w hw => c_laws_toRules aR (ok_ hw)) ?_
 intro u8 x8
 refine Qm rfl <| zc rfl (fun w hw => c_impl_ReadPuzzle aR aS (ok_ hw) (ok_ hw)) ?_
 intro A11 c11 bl11 bh11 A12 c12 bl12 bh12
 refine Qm rfl <| Qx rfl rfl <| Qx rfl rfl <| za zeh fun b13 => zw 0 rfl rfl rfl ?_
 refine Qa rfl <| zJ <| zS <| Q9 0 rfl rfl ?_
 refine Q9 3 rfl rfl ?_
 refine zv rfl (fun w hw => c_laws_eqPuzzle ((M.readZ aR aS).1) ((M.readZ aR aS).1) (ok_ hw) (ok_ hw)) <| Qt rfl <| Qm rfl <| zg (Gd.f1 rfl rfl rfl) (fun hc => p_move rfl) <| zg (Gd.f1 rfl rfl rfl) (fun hc => p_move rfl) <| zg (Gd.f1 rfl rfl rfl) (fun hc => p_neqB und_4 (gh hc rfl) (gh hc rfl)) <| Qq (p_pickOr rfl rfl rfl) <| JL.nil ?_
 refine zi (fun h14 h14' => ?_) fun h14 h14' => ?_
 · exact absurd h14 (by simp)
 refine Js.skip <| zS <| Qa rfl <| zN <| Q9 0 rfl rfl ?_
 refine Qm rfl ?_
 refine zhl [2, 1] ?_
 refine zB 2 sp_ rfl (fun w hb hw => c_laws_markPuzzle (((M.readZ aR aS).1).rules) (((M.readZ aR aS).1).position) (((M.readZ aR aS).1).depth) (((M.readZ aR aS).1).move) (((M.readZ aR aS).1).value) (((M.readZ aR aS).1).margin) 1 hb) ?_
 rintro _ _ G15 ⟨rfl, rfl⟩
 refine znl ?_
 refine Qa rfl <| zN <| Qa rfl <| zN <| Q9 3 rfl rfl ?_
 refine Qm rfl <| zv rfl (fun w hw => c_laws_heldPuzzle (M.Puz.mk (((M.readZ aR aS).1).rules) (M.Pos.mk ((M.markP (((M.readZ aR aS).1).position) 1).pits) ((M.markP (((M.readZ aR aS).1).position) 1).stores) ((((M.readZ aR aS).1).position).player)) (((M.readZ aR aS).1).depth) (((M.readZ aR aS).1).move) (((M.readZ aR aS).1).value) (((M.readZ aR aS).1).margin)) 1 (ok_ hw) (r0 := (by simp only [M.markP, M.up_length]; omega)) (r1 := (by simp only [M.markP, M.up_length]; omega))) <| Qa rfl <| zJ <| zS <| Qm rfl <| Ql rfl rfl <| JL.nil ?_
 refine zi (fun h16 h16' => ?_) fun h16 h16' => ?_
 · have h9 : decide (M.heldP (M.markP (M.readZ aR aS).1.position 1) 1 < 0) = true := h16; rw [M.heldP_mark (M.readZ aR aS).1.position (k := 1) (by decide)] at h9; simp only [decide_eq_true_eq] at h9; have h8 := M.szp_nn (M.readZ aR aS).1.position; omega
 refine Js.skip <| Js.seq <| zS <| Qm rfl <| Qm rfl <| Qd rfl rfl <| JL.nil ?_
 refine zi (fun h17 h17' => ?_) fun h17 h17' => ?_
 · have h9 : (!decide (M.heldP (M.markP (M.readZ aR aS).1.position 1) 1 = 1 + ((M.readZ aR aS).1.position.pits.length : Int) + ((M.readZ aR aS).1.position.stores.length : Int))) = true := h17; rw [M.heldP_mark (M.readZ aR aS).1.position (k := 1) (by decide)] at h9; simp [M.szp, Int.add_assoc] at h9
 refine Js.skip <| zS <| Q9 5 rfl rfl ?_
 refine zp rfl (fun w hw => c_laws_toRules aR (ok_ hw)) ?_
 intro u18 x18
 refine Qm rfl <| zp rfl (fun w hw => c_impl_ReadPuzzle aR aS (ok_ hw) (ok_ hw)) ?_
 intro u19 x19 A20 c20 h20 bl20 bh20 A21 c21 h21 bl21 bh21
 refine Qm rfl <| Qx rfl rfl <| Qx rfl rfl <| za zeh fun b22 => zw 0 rfl rfl rfl ?_
 refine Qa rfl <| zJ <| zS <| Q9 0 rfl rfl ?_
 refine Q9 5 rfl rfl ?_
 refine zv rfl (fun w hw => c_laws_eqPuzzle ((M.readZ aR aS).1) ((M.readZ aR aS).1) (ok_ hw) (ok_ hw)) <| Qt rfl <| Qm rfl <| zg (Gd.f1 rfl rfl rfl) (fun hc => p_move rfl) <| zg (Gd.f1 rfl rfl rfl) (fun hc => p_move rfl) <| zg (Gd.f1 rfl rfl rfl) (fun hc => p_neqB und_4 (gh hc rfl) (gh hc rfl)) <| Qq (p_pickOr rfl rfl rfl) <| JL.nil ?_
 refine Js.condF rfl h14 ?_
 refine Js.skip <| zS <| Qa rfl <| zN <| Q9 4 rfl rfl ?_
 refine Qm rfl <| zv rfl (fun w hw => c_laws_heldPuzzle (M.Puz.mk (((M.readZ aR aS).1).rules) (M.Pos.mk ((M.markP (((M.readZ aR aS).1).position) 1).pits) ((M.markP (((M.readZ aR aS).1).position) 1).stores) ((((M.readZ aR aS).1).position).player)) (((M.readZ aR aS).1).depth) (((M.readZ aR aS).1).move) (((M.readZ aR aS).1).value) (((M.readZ aR aS).1).margin)) 1 (ok_ hw) (r0 := (by simp only [M.markP, M.up_length]; omega)) (r1 := (by simp only [M.markP, M.up_length]; omega))) <| Qa rfl <| zJ <| zS <| Qm rfl <| Ql rfl rfl <| JL.nil ?_
 refine Js.condF rfl h16 ?_
 refine Js.skip <| Js.seq <| zS <| Qm rfl <| Qm rfl <| Qd rfl rfl <| JL.nil ?_
 refine Js.condF rfl h17 ?_
 refine Js.skip <| zS <| Qa rfl <| JL.nil ?_
 exact zr ((((x3.trans x4).trans x8).trans x18).trans x19)

end Go.Proofs.YtdhmdaoijnnfjaaGreatDoor


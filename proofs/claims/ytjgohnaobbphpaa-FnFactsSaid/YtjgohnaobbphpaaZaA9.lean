/- Walks: D34. -/
import Derived.Test.YtjgohnaobbphpaaZaA3
import Derived.Test.YtjgohnaobbphpaaZaA7
import Derived.Test.YtjgohnaobbphpaaZaA8
import Derived.Test.YtjgohnaobbphpaaZaA4
set_option linter.unusedSimpArgs false
set_option linter.unusedVariables false
set_option maxRecDepth 100000
attribute [local irreducible] Go.Proofs.Ytjgohnaobbphpaa.gv
set_option maxHeartbeats 16000000
namespace Go.Proofs.Ytjgohnaobbphpaa
open Go.RowKit
theorem c_spec_l11Ask (code : Nat) {v_code : Value} {w : World} (h_code : (Ty.bytes 5 code).ok w v_code) (r0 : code ≤ 1048576 := by exact om_) : Ret Try.prog 19 [v_code] w (Ty.tup [Ty.ex (fun (RX : M.Rul) => True) (fun RX => Ty.agg (cRules RX)), Ty.ex (fun (PX : M.Pos) => (PX.pits.length ≤ 4194304 ∧ PX.stores.length ≤ 4194304)) (fun PX => Ty.agg (cPositionL PX)), Ty.ex (fun (KX : Int) => True) (fun KX => Ty.int KX)]) := by
 revert v_code; apply opn
 intro A1 c1 h1 bl1 bh1
 have h_code := h1
 refine enter @Try.func19 @Try.ntmps19 rfl rfl ?_
 refine zent ?_
 refine zS <| za zeh fun b2 => za zeh fun b3 => Qa rfl <| zN <| Qm rfl <| zcs rfl (fun w hw => c_spec_l00From code (ok_ hw)) ?_
 intro b4
 refine Qa rfl <| zJ <| zS <| Qm rfl <| zB 1 sp_ rfl (fun w hb hw => c_spec_l00Src_one code 0 0 16 hb (ok_ hw)) ?_
 rintro _ _ G5 ⟨X5BX, X5AT, X5SD, rfl, rfl, hX5_0, hX5_1⟩
 refine znl ?_
 refine JL.nil ?_
 refine zi (fun h6 h6' => ?_) fun h6 h6' => ?_
 ·
  refine zS <| Qm rfl <| zB 1 sp_ rfl (fun w hb hw => c_spec_l05Endless code X5AT X5SD hb (ok_ hw)) ?_
  rintro _ _ G7 ⟨X7RX, X7PX, X7KX, X7AT, X7SD, A7rb_0, c7rb_0, g7rb_0, A7rb_1, c7rb_1, g7rb_1, rfl, rfl, bl7_0, bl7_1, bl7_2, bl7_3, hX7_0, hX7_1, hX7_2, hX7_3⟩
  refine znl ?_
  refine Qx rfl rfl <| Qx rfl rfl <| Qx rfl rfl <| zw 6 rfl rfl rfl ?_
  refine zw 5 rfl rfl rfl ?_
  refine Qa rfl <| JL.nil ?_
  exact zro (Up.refl _ _) (g := by exact (gv_tup (gvc (gv_ex X7RX (by first | trivial | assumption | omega | (dsimp only; omega) | (constructor <;> omega)) gv_) (gvc (gv_ex X7PX (by first | trivial | assumption | omega | (dsimp only; omega) | (constructor <;> omega)) (gv_agg (gvc (gv_rxR po_ (by first | rfl | assumption)) (gvc gv_ (gvc gv_ gvn))))) (gvc (gv_ex X7KX (by first | trivial | assumption | omega | (dsimp only; omega) | (constructor <;> omega)) gv_) gvn)))))
 refine Js.skip <| zS <| Qm rfl <| zB 1 sp_ rfl (fun w hb hw => c_spec_l07Draw code X5AT X5SD hb (ok_ hw)) ?_
 rintro _ _ G8 ⟨X8RX, X8PX, X8KX, X8AT, X8SD, A8rb_0, c8rb_0, A8rb_1, c8rb_1, g8rb_1, rfl, rfl, bl8_0, bl8_1, bl8_2, bl8_3, hX8_0, hX8_1, hX8_2, hX8_3⟩
 refine znl ?_
 refine Qx rfl rfl <| Qx rfl rfl <| Qx rfl rfl <| zw 6 rfl rfl rfl ?_
 refine zw 5 rfl rfl rfl ?_
 refine Qa rfl <| JL.nil ?_
 exact zro (Up.refl _ _) (g := by exact (gv_tup (gvc (gv_ex X8RX (by first | trivial | assumption | omega | (dsimp only; omega) | (constructor <;> omega)) gv_) (gvc (gv_ex X8PX (by first | trivial | assumption | omega | (dsimp only; omega) | (constructor <;> omega)) (gv_agg (gvc (gv_rx po_ (by first | rfl | assumption)) (gvc gv_ (gvc gv_ gvn))))) (gvc (gv_ex X8KX (by first | trivial | assumption | omega | (dsimp only; omega) | (constructor <;> omega)) gv_) gvn)))))
theorem c_spec_DrawFactsOf (code : Nat) {v_code : Value} {w : World} (h_code : (Ty.bytes 5 code).ok w v_code) (r0 : code ≤ 1048576 := by exact om_) : Ret Try.prog 5 [v_code] w (Ty.tup [Ty.ex (fun (RX : M.Rul) => True) (fun RX => Ty.agg (cRules RX)), Ty.ex (fun (PX : M.Pos) => (PX.pits.length ≤ 4194304 ∧ PX.stores.length ≤ 4194304)) (fun PX => Ty.agg (cPositionL PX)), Ty.ex (fun (KX : Int) => True) (fun KX => Ty.int KX)]) := by
 revert v_code; apply opn
 intro A1 c1 h1 bl1 bh1
 have h_code := h1
 refine enter @Try.func5 @Try.ntmps5 rfl rfl ?_
 refine zent ?_
 refine zS <| za zeh fun b2 => za zeh fun b3 => Qa rfl <| zN <| Qm rfl <| zc rfl (fun w hw => c_spec_l11Ask code (ok_ hw)) ?_
 intro X5 hX5 X7 hX7 A9 c9 bl9 bh9 A10 c10 bl10 bh10 X11 hX11
 refine Qx rfl rfl <| Qx rfl rfl <| Qx rfl rfl <| zw 3 rfl rfl rfl ?_
 refine zw 2 rfl rfl rfl ?_
 refine Qa rfl <| JL.nil ?_
 exact zro (Up.refl _ _) (g := by exact (gv_tup (gvc (gv_ex X5 (by first | trivial | assumption | omega) gv_) (gvc (gv_ex X7 (by first | trivial | assumption | omega) (gv_agg (gvc (gv_rx po_ (by first | rfl | assumption)) (gvc gv_ (gvc gv_ gvn))))) (gvc (gv_ex X11 (by first | trivial | assumption | omega) gv_) gvn)))))
theorem c_spec_l11One (s_code : Nat) (s_at s_seed : Int) {As_0 : Option Addr} {cs_0 bs : Nat} {w : World} (hb : Bw w [boxO bs [.slice As_0 s_code cs_0, .int .i64 s_at, .int .u64 s_seed] 105]) (hps_0 : (Ty.bytes 5 s_code).ok (offW w (([boxO bs [.slice As_0 s_code cs_0, .int .i64 s_at, .int .u64 s_seed] 105] : List Own).flatMap (·.fp))) (.slice As_0 s_code cs_0)) (r0 : 0 ≤ s_at := by exact om_) (r1 : s_at ≤ 999999980 := by exact om_) (r2 : s_code ≤ 1048576 := by exact om_) : RetB Try.prog 31 [.pointer (some ⟨bs, 0, none⟩)] w [boxO bs [.slice As_0 s_code cs_0, .int .i64 s_at, .int .u64 s_seed] 105] (fun v bs' => ∃ (FX : M.Fct) (AT SD : Int), v = .agg #[.int .i64 FX.kind, .int .i64 FX.place, .int .i64 FX.count] ∧ bs' = [boxO bs [.slice As_0 s_code cs_0, .int .i64 AT, .int .u64 SD] 105] ∧ (-2 ≤ FX.place ∧ FX.place ≤ 1000000 ∧ 0 ≤ FX.count ∧ FX.count ≤ 1000000) ∧ (s_at ≤ AT) ∧ (AT ≤ s_at + 20)) := by
 refine enterB hb @Try.func31 @Try.ntmps31 rfl rfl ?_
 refine zent ?_
 refine Js.trashE ?_
 refine zn ?_
 refine zS <| za zeh fun b1 => zN <| Qm rfl ?_
 refine zhl [1] ?_
 refine zBB 1 sp_ rfl (fun w hb _ hw => c_spec_l00Src_pick s_code s_at s_seed 4 hb (ok_ hw)) ?_
 rintro _ _ G2 ⟨X2KX, X2AT, X2SD, rfl, rfl, hX2_0, hX2_1, hX2_2, hX2_3⟩
 refine znl ?_
 refine Qp rfl rfl <| Qm rfl <| zBB 1 sp_ rfl (fun w hb _ hw => c_spec_l00Src_pick s_code X2AT X2SD 12 hb (ok_ hw)) ?_
 rintro _ _ G3 ⟨X3KX, X3AT, X3SD, rfl, rfl, hX3_0, hX3_1, hX3_2, hX3_3⟩
 refine znl ?_
 refine Qs rfl rfl <| Qm rfl <| zBB 1 sp_ rfl (fun w hb _ hw => c_spec_l00Src_pick s_code X3AT X3SD 12 hb (ok_ hw)) ?_
 rintro _ _ G4 ⟨X4KX, X4AT, X4SD, rfl, rfl, hX4_0, hX4_1, hX4_2, hX4_3⟩
 refine znl ?_
 refine Qp rfl rfl <| Qb ?_
 refine za zeh fun b5 => zw 0 rfl rfl rfl ?_
 refine JL.nil ?_
 refine zf [0, 0, 3] fun GG6 => ?_
 refine zn ?_
 refine Js.seq <| zS <| Qm rfl ?_
 refine zhl [1] ?_
 refine zBB 1 sp_ rfl (fun w hb _ hw => c_spec_l00Src_one s_code X4AT X4SD 4 hb (ok_ hw)) ?_
 rintro _ _ G7 ⟨X7BX, X7AT, X7SD, rfl, rfl, hX7_0, hX7_1⟩
 refine znl ?_
 refine JL.nil ?_
 refine zf [0, 1, 1] fun GG8 => ?_
 refine zn ?_
 refine zi (fun h9 h9' => ?_) fun h9 h9' => ?_
 ·
  refine Js.region <| Qm rfl <| zBB 1 sp_ rfl (fun w hb _ hw => c_spec_l00Src_pick s_code X7AT X7SD 2 hb (ok_ hw)) ?_
  rintro _ _ G10 ⟨X10KX, X10AT, X10SD, rfl, rfl, hX10_0, hX10_1, hX10_2, hX10_3⟩
  refine znl ?_
  refine Qp rfl rfl <| Qb ?_
  refine zw 2 rfl rfl rfl ?_
  refine JL.nil ?_
  refine zf [0, 1, 1] fun GG11 => ?_
  refine zn ?_
  refine Js.seq <| zS <| Qm rfl <| zBB 1 sp_ rfl (fun w hb _ hw => c_spec_l00Src_pick s_code X10AT X10SD 16 hb (ok_ hw)) ?_
  rintro _ _ G12 ⟨X12KX, X12AT, X12SD, rfl, rfl, hX12_0, hX12_1, hX12_2, hX12_3⟩
  refine znl ?_
  refine JL.nil ?_
  refine zf [0, 1, 1] fun GG13 => ?_
  refine zn ?_
  refine Js.block <| zS <| Qe rfl rfl <| Qa rfl <| JL.nil ?_
  refine zi (fun h14 h14' => ?_) fun h14 h14' => ?_
  ·
   refine Js.region <| Qm rfl <| zbs fun b15 => ?_
   refine zhl [1] ?_
   refine zBB 1 sp_ rfl (fun w hb _ hw => c_spec_l00Src_among s_code X12AT X12SD [0, 7, 5] hb (ok_ hw) (ints_rowok (xs := [0, 7, 5]) (hw.pr (i := 0) rfl)) (r3 := (by simp)) (r4 := (by simp))) ?_
   rintro _ _ G17 ⟨X17KX, X17AT, X17SD, rfl, rfl, hX17_0, hX17_1, hX17_2⟩
   refine znl ?_
   refine Qf fh rfl <| zw 3 rfl rfl rfl ?_
   refine JL.nil ?_
   refine zf [0, 2, 2] fun GG18 => ?_
   refine zn ?_
   refine Js.blockEnd <| zS <| Q9 1 rfl rfl ?_
   refine zw 2 rfl rfl rfl ?_
   refine JL.nil ?_
   refine zf [0, 1] fun GG19 => ?_
   refine zn ?_
   refine zrb [0] hb (Up.refl _ _) ?_
   refine ⟨((M.Fct.mk X17KX 0 0)), (X17AT), (X17SD), rfl, ?_, by first | trivial | omega | (have h9 := (by assumption : _ ∈ ([0, 7, 5] : List Int)); simp at h9; refine ⟨?_, ?_, ?_, ?_⟩ <;> dsimp only <;> omega) | (have h9 := (by assumption : _ ∈ ([-2, -1, 15, 16] : List Int)); simp at h9; refine ⟨?_, ?_, ?_, ?_⟩ <;> dsimp only <;> omega) | (have h9 := (by assumption : _ ∈ ([0, 96, 97] : List Int)); simp at h9; refine ⟨?_, ?_, ?_, ?_⟩ <;> dsimp only <;> omega) | (refine ⟨?_, ?_, ?_, ?_⟩ <;> dsimp only <;> omega), by first | trivial | omega | (have h9 := (by assumption : _ ∈ ([0, 7, 5] : List Int)); simp at h9; refine ⟨?_, ?_, ?_, ?_⟩ <;> dsimp only <;> omega) | (have h9 := (by assumption : _ ∈ ([-2, -1, 15, 16] : List Int)); simp at h9; refine ⟨?_, ?_, ?_, ?_⟩ <;> dsimp only <;> omega) | (have h9 := (by assumption : _ ∈ ([0, 96, 97] : List Int)); simp at h9; refine ⟨?_, ?_, ?_, ?_⟩ <;> dsimp only <;> omega) | (refine ⟨?_, ?_, ?_, ?_⟩ <;> dsimp only <;> omega), by first | trivial | omega | (have h9 := (by assumption : _ ∈ ([0, 7, 5] : List Int)); simp at h9; refine ⟨?_, ?_, ?_, ?_⟩ <;> dsimp only <;> omega) | (have h9 := (by assumption : _ ∈ ([-2, -1, 15, 16] : List Int)); simp at h9; refine ⟨?_, ?_, ?_, ?_⟩ <;> dsimp only <;> omega) | (have h9 := (by assumption : _ ∈ ([0, 96, 97] : List Int)); simp at h9; refine ⟨?_, ?_, ?_, ?_⟩ <;> dsimp only <;> omega) | (refine ⟨?_, ?_, ?_, ?_⟩ <;> dsimp only <;> omega)⟩
   · rfl
  refine zS <| Qe rfl rfl <| Qa rfl <| JL.nil ?_
  refine zi (fun h20 h20' => ?_) fun h20 h20' => ?_
  ·
   refine Js.region <| Qm rfl <| zbs fun b21 => ?_
   refine zhl [1] ?_
   refine zBB 1 sp_ rfl (fun w hb _ hw => c_spec_l00Src_among s_code X12AT X12SD [(-2), (-1), 15, 16] hb (ok_ hw) (ints_rowok (xs := [(-2), (-1), 15, 16]) (hw.pr (i := 0) rfl)) (r3 := (by simp)) (r4 := (by simp))) ?_
   rintro _ _ G23 ⟨X23KX, X23AT, X23SD, rfl, rfl, hX23_0, hX23_1, hX23_2⟩
   refine znl ?_
   refine Qf fh rfl <| zw 3 rfl rfl rfl ?_
   refine JL.nil ?_
   refine zf [0, 2, 2] fun GG24 => ?_
   refine zn ?_
   refine Js.blockEnd <| zS <| Q9 1 rfl rfl ?_
   refine zw 2 rfl rfl rfl ?_
   refine JL.nil ?_
   refine zf [0, 1] fun GG25 => ?_
   refine zn ?_
   refine zrb [0] hb (Up.refl _ _) ?_
   refine ⟨((M.Fct.mk (5 + X10KX) X23KX 0)), (X23AT), (X23SD), rfl, ?_, by first | trivial | omega | (have h9 := (by assumption : _ ∈ ([0, 7, 5] : List Int)); simp at h9; refine ⟨?_, ?_, ?_, ?_⟩ <;> dsimp only <;> omega) | (have h9 := (by assumption : _ ∈ ([-2, -1, 15, 16] : List Int)); simp at h9; refine ⟨?_, ?_, ?_, ?_⟩ <;> dsimp only <;> omega) | (have h9 := (by assumption : _ ∈ ([0, 96, 97] : List Int)); simp at h9; refine ⟨?_, ?_, ?_, ?_⟩ <;> dsimp only <;> omega) | (refine ⟨?_, ?_, ?_, ?_⟩ <;> dsimp only <;> omega), by first | trivial | omega | (have h9 := (by assumption : _ ∈ ([0, 7, 5] : List Int)); simp at h9; refine ⟨?_, ?_, ?_, ?_⟩ <;> dsimp only <;> omega) | (have h9 := (by assumption : _ ∈ ([-2, -1, 15, 16] : List Int)); simp at h9; refine ⟨?_, ?_, ?_, ?_⟩ <;> dsimp only <;> omega) | (have h9 := (by assumption : _ ∈ ([0, 96, 97] : List Int)); simp at h9; refine ⟨?_, ?_, ?_, ?_⟩ <;> dsimp only <;> omega) | (refine ⟨?_, ?_, ?_, ?_⟩ <;> dsimp only <;> omega), by first | trivial | omega | (have h9 := (by assumption : _ ∈ ([0, 7, 5] : List Int)); simp at h9; refine ⟨?_, ?_, ?_, ?_⟩ <;> dsimp only <;> omega) | (have h9 := (by assumption : _ ∈ ([-2, -1, 15, 16] : List Int)); simp at h9; refine ⟨?_, ?_, ?_, ?_⟩ <;> dsimp only <;> omega) | (have h9 := (by assumption : _ ∈ ([0, 96, 97] : List Int)); simp at h9; refine ⟨?_, ?_, ?_, ?_⟩ <;> dsimp only <;> omega) | (refine ⟨?_, ?_, ?_, ?_⟩ <;> dsimp only <;> omega)⟩
   · rfl
  refine zS <| Qe rfl rfl <| Qa rfl <| JL.nil ?_
  refine zi (fun h26 h26' => ?_) fun h26 h26' => ?_
  ·
   refine Js.region <| Qm rfl <| zbs fun b27 => ?_
   refine zhl [1] ?_
   refine zBB 1 sp_ rfl (fun w hb _ hw => c_spec_l00Src_among s_code X12AT X12SD [0, 96, 97] hb (ok_ hw) (ints_rowok (xs := [0, 96, 97]) (hw.pr (i := 0) rfl)) (r3 := (by simp)) (r4 := (by simp))) ?_
   rintro _ _ G29 ⟨X29KX, X29AT, X29SD, rfl, rfl, hX29_0, hX29_1, hX29_2⟩
   refine znl ?_
   refine Qf fh rfl <| zw 3 rfl rfl rfl ?_
   refine JL.nil ?_
   refine zf [0, 2, 2] fun GG30 => ?_
   refine zn ?_
   refine Js.blockEnd <| zS <| Q9 1 rfl rfl ?_
   refine zw 2 rfl rfl rfl ?_
   refine JL.nil ?_
   refine zf [0, 1] fun GG31 => ?_
   refine zn ?_
   refine zrb [0] hb (Up.refl _ _) ?_
   refine ⟨((M.Fct.mk (5 + X10KX) 0 X29KX)), (X29AT), (X29SD), rfl, ?_, by first | trivial | omega | (have h9 := (by assumption : _ ∈ ([0, 7, 5] : List Int)); simp at h9; refine ⟨?_, ?_, ?_, ?_⟩ <;> dsimp only <;> omega) | (have h9 := (by assumption : _ ∈ ([-2, -1, 15, 16] : List Int)); simp at h9; refine ⟨?_, ?_, ?_, ?_⟩ <;> dsimp only <;> omega) | (have h9 := (by assumption : _ ∈ ([0, 96, 97] : List Int)); simp at h9; refine ⟨?_, ?_, ?_, ?_⟩ <;> dsimp only <;> omega) | (refine ⟨?_, ?_, ?_, ?_⟩ <;> dsimp only <;> omega), by first | trivial | omega | (have h9 := (by assumption : _ ∈ ([0, 7, 5] : List Int)); simp at h9; refine ⟨?_, ?_, ?_, ?_⟩ <;> dsimp only <;> omega) | (have h9 := (by assumption : _ ∈ ([-2, -1, 15, 16] : List Int)); simp at h9; refine ⟨?_, ?_, ?_, ?_⟩ <;> dsimp only <;> omega) | (have h9 := (by assumption : _ ∈ ([0, 96, 97] : List Int)); simp at h9; refine ⟨?_, ?_, ?_, ?_⟩ <;> dsimp only <;> omega) | (refine ⟨?_, ?_, ?_, ?_⟩ <;> dsimp only <;> omega), by first | trivial | omega | (have h9 := (by assumption : _ ∈ ([0, 7, 5] : List Int)); simp at h9; refine ⟨?_, ?_, ?_, ?_⟩ <;> dsimp only <;> omega) | (have h9 := (by assumption : _ ∈ ([-2, -1, 15, 16] : List Int)); simp at h9; refine ⟨?_, ?_, ?_, ?_⟩ <;> dsimp only <;> omega) | (have h9 := (by assumption : _ ∈ ([0, 96, 97] : List Int)); simp at h9; refine ⟨?_, ?_, ?_, ?_⟩ <;> dsimp only <;> omega) | (refine ⟨?_, ?_, ?_, ?_⟩ <;> dsimp only <;> omega)⟩
   · rfl
  refine Js.skip <| Js.blockEnd <| zS <| Q9 1 rfl rfl ?_
  refine zw 2 rfl rfl rfl ?_
  refine JL.nil ?_
  refine zf [0, 1] fun GG32 => ?_
  refine zn ?_
  refine zrb [0] hb (Up.refl _ _) ?_
  refine ⟨((M.Fct.mk (5 + X10KX) 0 0)), (X12AT), (X12SD), rfl, ?_, by first | trivial | omega | (have h9 := (by assumption : _ ∈ ([0, 7, 5] : List Int)); simp at h9; refine ⟨?_, ?_, ?_, ?_⟩ <;> dsimp only <;> omega) | (have h9 := (by assumption : _ ∈ ([-2, -1, 15, 16] : List Int)); simp at h9; refine ⟨?_, ?_, ?_, ?_⟩ <;> dsimp only <;> omega) | (have h9 := (by assumption : _ ∈ ([0, 96, 97] : List Int)); simp at h9; refine ⟨?_, ?_, ?_, ?_⟩ <;> dsimp only <;> omega) | (refine ⟨?_, ?_, ?_, ?_⟩ <;> dsimp only <;> omega), by first | trivial | omega | (have h9 := (by assumption : _ ∈ ([0, 7, 5] : List Int)); simp at h9; refine ⟨?_, ?_, ?_, ?_⟩ <;> dsimp only <;> omega) | (have h9 := (by assumption : _ ∈ ([-2, -1, 15, 16] : List Int)); simp at h9; refine ⟨?_, ?_, ?_, ?_⟩ <;> dsimp only <;> omega) | (have h9 := (by assumption : _ ∈ ([0, 96, 97] : List Int)); simp at h9; refine ⟨?_, ?_, ?_, ?_⟩ <;> dsimp only <;> omega) | (refine ⟨?_, ?_, ?_, ?_⟩ <;> dsimp only <;> omega), by first | trivial | omega | (have h9 := (by assumption : _ ∈ ([0, 7, 5] : List Int)); simp at h9; refine ⟨?_, ?_, ?_, ?_⟩ <;> dsimp only <;> omega) | (have h9 := (by assumption : _ ∈ ([-2, -1, 15, 16] : List Int)); simp at h9; refine ⟨?_, ?_, ?_, ?_⟩ <;> dsimp only <;> omega) | (have h9 := (by assumption : _ ∈ ([0, 96, 97] : List Int)); simp at h9; refine ⟨?_, ?_, ?_, ?_⟩ <;> dsimp only <;> omega) | (refine ⟨?_, ?_, ?_, ?_⟩ <;> dsimp only <;> omega)⟩
  · rfl
 refine Js.skip <| Js.seq <| zS <| Qm rfl <| zBB 1 sp_ rfl (fun w hb _ hw => c_spec_l00Src_pick s_code X7AT X7SD 16 hb (ok_ hw)) ?_
 rintro _ _ G33 ⟨X33KX, X33AT, X33SD, rfl, rfl, hX33_0, hX33_1, hX33_2, hX33_3⟩
 refine znl ?_
 refine JL.nil ?_
 refine zf [0, 1, 1] fun GG34 => ?_
 refine zn ?_
 refine Js.block <| zS <| Qe rfl rfl <| Qa rfl <| JL.nil ?_
 refine zi (fun h35 h35' => ?_) fun h35 h35' => ?_
 ·
  refine Js.region <| Qm rfl <| zbs fun b36 => ?_
  refine zhl [1] ?_
  refine zBB 1 sp_ rfl (fun w hb _ hw => c_spec_l00Src_among s_code X33AT X33SD [0, 7, 5] hb (ok_ hw) (ints_rowok (xs := [0, 7, 5]) (hw.pr (i := 0) rfl)) (r3 := (by simp)) (r4 := (by simp))) ?_
  rintro _ _ G38 ⟨X38KX, X38AT, X38SD, rfl, rfl, hX38_0, hX38_1, hX38_2⟩
  refine znl ?_
  refine Qf fh rfl <| zw 3 rfl rfl rfl ?_
  refine JL.nil ?_
  refine zf [0, 2, 2] fun GG39 => ?_
  refine zn ?_
  refine Js.blockEnd <| zS <| Q9 1 rfl rfl ?_
  refine zw 2 rfl rfl rfl ?_
  refine JL.nil ?_
  refine zf [0, 1] fun GG40 => ?_
  refine zn ?_
  refine zrb [0] hb (Up.refl _ _) ?_
  refine ⟨((M.Fct.mk X38KX (X3KX - 1) (1 + X4KX))), (X38AT), (X38SD), rfl, ?_, by first | trivial | omega | (have h9 := (by assumption : _ ∈ ([0, 7, 5] : List Int)); simp at h9; refine ⟨?_, ?_, ?_, ?_⟩ <;> dsimp only <;> omega) | (have h9 := (by assumption : _ ∈ ([-2, -1, 15, 16] : List Int)); simp at h9; refine ⟨?_, ?_, ?_, ?_⟩ <;> dsimp only <;> omega) | (have h9 := (by assumption : _ ∈ ([0, 96, 97] : List Int)); simp at h9; refine ⟨?_, ?_, ?_, ?_⟩ <;> dsimp only <;> omega) | (refine ⟨?_, ?_, ?_, ?_⟩ <;> dsimp only <;> omega), by first | trivial | omega | (have h9 := (by assumption : _ ∈ ([0, 7, 5] : List Int)); simp at h9; refine ⟨?_, ?_, ?_, ?_⟩ <;> dsimp only <;> omega) | (have h9 := (by assumption : _ ∈ ([-2, -1, 15, 16] : List Int)); simp at h9; refine ⟨?_, ?_, ?_, ?_⟩ <;> dsimp only <;> omega) | (have h9 := (by assumption : _ ∈ ([0, 96, 97] : List Int)); simp at h9; refine ⟨?_, ?_, ?_, ?_⟩ <;> dsimp only <;> omega) | (refine ⟨?_, ?_, ?_, ?_⟩ <;> dsimp only <;> omega), by first | trivial | omega | (have h9 := (by assumption : _ ∈ ([0, 7, 5] : List Int)); simp at h9; refine ⟨?_, ?_, ?_, ?_⟩ <;> dsimp only <;> omega) | (have h9 := (by assumption : _ ∈ ([-2, -1, 15, 16] : List Int)); simp at h9; refine ⟨?_, ?_, ?_, ?_⟩ <;> dsimp only <;> omega) | (have h9 := (by assumption : _ ∈ ([0, 96, 97] : List Int)); simp at h9; refine ⟨?_, ?_, ?_, ?_⟩ <;> dsimp only <;> omega) | (refine ⟨?_, ?_, ?_, ?_⟩ <;> dsimp only <;> omega)⟩
  · rfl
 refine zS <| Qe rfl rfl <| Qa rfl <| JL.nil ?_
 refine zi (fun h41 h41' => ?_) fun h41 h41' => ?_
 ·
  refine Js.region <| Qm rfl <| zbs fun b42 => ?_
  refine zhl [1] ?_
  refine zBB 1 sp_ rfl (fun w hb _ hw => c_spec_l00Src_among s_code X33AT X33SD [(-2), (-1), 15, 16] hb (ok_ hw) (ints_rowok (xs := [(-2), (-1), 15, 16]) (hw.pr (i := 0) rfl)) (r3 := (by simp)) (r4 := (by simp))) ?_
  rintro _ _ G44 ⟨X44KX, X44AT, X44SD, rfl, rfl, hX44_0, hX44_1, hX44_2⟩
  refine znl ?_
  refine Qf fh rfl <| zw 3 rfl rfl rfl ?_
  refine JL.nil ?_
  refine zf [0, 2, 2] fun GG45 => ?_
  refine zn ?_
  refine Js.blockEnd <| zS <| Q9 1 rfl rfl ?_
  refine zw 2 rfl rfl rfl ?_
  refine JL.nil ?_
  refine zf [0, 1] fun GG46 => ?_
  refine zn ?_
  refine zrb [0] hb (Up.refl _ _) ?_
  refine ⟨((M.Fct.mk (1 + X2KX) X44KX (1 + X4KX))), (X44AT), (X44SD), rfl, ?_, by first | trivial | omega | (have h9 := (by assumption : _ ∈ ([0, 7, 5] : List Int)); simp at h9; refine ⟨?_, ?_, ?_, ?_⟩ <;> dsimp only <;> omega) | (have h9 := (by assumption : _ ∈ ([-2, -1, 15, 16] : List Int)); simp at h9; refine ⟨?_, ?_, ?_, ?_⟩ <;> dsimp only <;> omega) | (have h9 := (by assumption : _ ∈ ([0, 96, 97] : List Int)); simp at h9; refine ⟨?_, ?_, ?_, ?_⟩ <;> dsimp only <;> omega) | (refine ⟨?_, ?_, ?_, ?_⟩ <;> dsimp only <;> omega), by first | trivial | omega | (have h9 := (by assumption : _ ∈ ([0, 7, 5] : List Int)); simp at h9; refine ⟨?_, ?_, ?_, ?_⟩ <;> dsimp only <;> omega) | (have h9 := (by assumption : _ ∈ ([-2, -1, 15, 16] : List Int)); simp at h9; refine ⟨?_, ?_, ?_, ?_⟩ <;> dsimp only <;> omega) | (have h9 := (by assumption : _ ∈ ([0, 96, 97] : List Int)); simp at h9; refine ⟨?_, ?_, ?_, ?_⟩ <;> dsimp only <;> omega) | (refine ⟨?_, ?_, ?_, ?_⟩ <;> dsimp only <;> omega), by first | trivial | omega | (have h9 := (by assumption : _ ∈ ([0, 7, 5] : List Int)); simp at h9; refine ⟨?_, ?_, ?_, ?_⟩ <;> dsimp only <;> omega) | (have h9 := (by assumption : _ ∈ ([-2, -1, 15, 16] : List Int)); simp at h9; refine ⟨?_, ?_, ?_, ?_⟩ <;> dsimp only <;> omega) | (have h9 := (by assumption : _ ∈ ([0, 96, 97] : List Int)); simp at h9; refine ⟨?_, ?_, ?_, ?_⟩ <;> dsimp only <;> omega) | (refine ⟨?_, ?_, ?_, ?_⟩ <;> dsimp only <;> omega)⟩
  · rfl
 refine zS <| Qe rfl rfl <| Qa rfl <| JL.nil ?_
 refine zi (fun h47 h47' => ?_) fun h47 h47' => ?_
 ·
  refine Js.region <| Qm rfl <| zbs fun b48 => ?_
  refine zhl [1] ?_
  refine zBB 1 sp_ rfl (fun w hb _ hw => c_spec_l00Src_among s_code X33AT X33SD [0, 96, 97] hb (ok_ hw) (ints_rowok (xs := [0, 96, 97]) (hw.pr (i := 0) rfl)) (r3 := (by simp)) (r4 := (by simp))) ?_
  rintro _ _ G50 ⟨X50KX, X50AT, X50SD, rfl, rfl, hX50_0, hX50_1, hX50_2⟩
  refine znl ?_
  refine Qf fh rfl <| zw 3 rfl rfl rfl ?_
  refine JL.nil ?_
  refine zf [0, 2, 2] fun GG51 => ?_
  refine zn ?_
  refine Js.blockEnd <| zS <| Q9 1 rfl rfl ?_
  refine zw 2 rfl rfl rfl ?_
  refine JL.nil ?_
  refine zf [0, 1] fun GG52 => ?_
  refine zn ?_
  refine zrb [0] hb (Up.refl _ _) ?_
  refine ⟨((M.Fct.mk (1 + X2KX) (X3KX - 1) X50KX)), (X50AT), (X50SD), rfl, ?_, by first | trivial | omega | (have h9 := (by assumption : _ ∈ ([0, 7, 5] : List Int)); simp at h9; refine ⟨?_, ?_, ?_, ?_⟩ <;> dsimp only <;> omega) | (have h9 := (by assumption : _ ∈ ([-2, -1, 15, 16] : List Int)); simp at h9; refine ⟨?_, ?_, ?_, ?_⟩ <;> dsimp only <;> omega) | (have h9 := (by assumption : _ ∈ ([0, 96, 97] : List Int)); simp at h9; refine ⟨?_, ?_, ?_, ?_⟩ <;> dsimp only <;> omega) | (refine ⟨?_, ?_, ?_, ?_⟩ <;> dsimp only <;> omega), by first | trivial | omega | (have h9 := (by assumption : _ ∈ ([0, 7, 5] : List Int)); simp at h9; refine ⟨?_, ?_, ?_, ?_⟩ <;> dsimp only <;> omega) | (have h9 := (by assumption : _ ∈ ([-2, -1, 15, 16] : List Int)); simp at h9; refine ⟨?_, ?_, ?_, ?_⟩ <;> dsimp only <;> omega) | (have h9 := (by assumption : _ ∈ ([0, 96, 97] : List Int)); simp at h9; refine ⟨?_, ?_, ?_, ?_⟩ <;> dsimp only <;> omega) | (refine ⟨?_, ?_, ?_, ?_⟩ <;> dsimp only <;> omega), by first | trivial | omega | (have h9 := (by assumption : _ ∈ ([0, 7, 5] : List Int)); simp at h9; refine ⟨?_, ?_, ?_, ?_⟩ <;> dsimp only <;> omega) | (have h9 := (by assumption : _ ∈ ([-2, -1, 15, 16] : List Int)); simp at h9; refine ⟨?_, ?_, ?_, ?_⟩ <;> dsimp only <;> omega) | (have h9 := (by assumption : _ ∈ ([0, 96, 97] : List Int)); simp at h9; refine ⟨?_, ?_, ?_, ?_⟩ <;> dsimp only <;> omega) | (refine ⟨?_, ?_, ?_, ?_⟩ <;> dsimp only <;> omega)⟩
  · rfl
 refine Js.skip <| Js.blockEnd <| zS <| Q9 1 rfl rfl ?_
 refine zw 2 rfl rfl rfl ?_
 refine JL.nil ?_
 refine zf [0, 1] fun GG53 => ?_
 refine zn ?_
 refine zrb [0] hb (Up.refl _ _) ?_
 refine ⟨((M.Fct.mk (1 + X2KX) (X3KX - 1) (1 + X4KX))), (X33AT), (X33SD), rfl, ?_, by first | trivial | omega | (have h9 := (by assumption : _ ∈ ([0, 7, 5] : List Int)); simp at h9; refine ⟨?_, ?_, ?_, ?_⟩ <;> dsimp only <;> omega) | (have h9 := (by assumption : _ ∈ ([-2, -1, 15, 16] : List Int)); simp at h9; refine ⟨?_, ?_, ?_, ?_⟩ <;> dsimp only <;> omega) | (have h9 := (by assumption : _ ∈ ([0, 96, 97] : List Int)); simp at h9; refine ⟨?_, ?_, ?_, ?_⟩ <;> dsimp only <;> omega) | (refine ⟨?_, ?_, ?_, ?_⟩ <;> dsimp only <;> omega), by first | trivial | omega | (have h9 := (by assumption : _ ∈ ([0, 7, 5] : List Int)); simp at h9; refine ⟨?_, ?_, ?_, ?_⟩ <;> dsimp only <;> omega) | (have h9 := (by assumption : _ ∈ ([-2, -1, 15, 16] : List Int)); simp at h9; refine ⟨?_, ?_, ?_, ?_⟩ <;> dsimp only <;> omega) | (have h9 := (by assumption : _ ∈ ([0, 96, 97] : List Int)); simp at h9; refine ⟨?_, ?_, ?_, ?_⟩ <;> dsimp only <;> omega) | (refine ⟨?_, ?_, ?_, ?_⟩ <;> dsimp only <;> omega), by first | trivial | omega | (have h9 := (by assumption : _ ∈ ([0, 7, 5] : List Int)); simp at h9; refine ⟨?_, ?_, ?_, ?_⟩ <;> dsimp only <;> omega) | (have h9 := (by assumption : _ ∈ ([-2, -1, 15, 16] : List Int)); simp at h9; refine ⟨?_, ?_, ?_, ?_⟩ <;> dsimp only <;> omega) | (have h9 := (by assumption : _ ∈ ([0, 96, 97] : List Int)); simp at h9; refine ⟨?_, ?_, ?_, ?_⟩ <;> dsimp only <;> omega) | (refine ⟨?_, ?_, ?_, ?_⟩ <;> dsimp only <;> omega)⟩
 · rfl
theorem c_spec_DrawApplyFacts (code : Nat) {v_code : Value} {w : World} (h_code : (Ty.bytes 5 code).ok w v_code) (r0 : code ≤ 1048576 := by exact om_) : Ret Try.prog 12 [v_code] w (Ty.tup [Ty.ex (fun (RX : M.Rul) => True) (fun RX => Ty.agg (cRules RX)), Ty.ex (fun (PX : M.Pos) => (PX.pits.length ≤ 4194304 ∧ PX.stores.length ≤ 4194304)) (fun PX => Ty.agg (cPositionL PX)), Ty.ex (fun (LX : List M.Fct) => (LX.length ≤ 30000)) (fun LX => Ty.sl 46 3 LX.length (lFact LX))]) := by
 revert v_code; apply opn
 intro A1 c1 h1 bl1 bh1
 have h_code := h1
 refine enter @Try.func12 @Try.ntmps12 rfl rfl ?_
 refine zent ?_
 refine zS <| za zeh fun b2 => za zeh fun b3 => Qa rfl <| zN <| Qm rfl <| zcs rfl (fun w hw => c_spec_l00From code (ok_ hw)) ?_
 intro b4
 refine Qa rfl <| zN <| Qm rfl <| zB 1 sp_ rfl (fun w hb hw => c_spec_l07Draw code 0 0 hb (ok_ hw)) ?_
 rintro _ _ G5 ⟨X5RX, X5PX, X5KX, X5AT, X5SD, A5rb_0, c5rb_0, A5rb_1, c5rb_1, g5rb_1, rfl, rfl, bl5_0, bl5_1, bl5_2, bl5_3, hX5_0, hX5_1, hX5_2, hX5_3⟩
 refine znl ?_
 refine Qm rfl <| Qx rfl rfl <| Qx rfl rfl <| Qx rfl rfl <| za zeh fun b6 => za zeh fun b7 => zw 1 rfl rfl rfl ?_
 refine zw 0 rfl rfl rfl ?_
 refine Qa rfl <| zN <| zbs fun b8 => ?_
 refine Qa rfl <| zJ <| zS <| Q9 2 rfl rfl ?_
 refine Q9 1 rfl rfl ?_
 refine Qm rfl <| zv rfl (fun w hw => c_spec_MoveFault X5RX X5PX X5KX (okx_ hw) (okx_ hw)) <| Qe rfl rfl <| JL.nil ?_
 refine zd [0, 0, 0, 0, 0, 0, 1, 1] rfl fun u10 x10 => ?_
 refine zn ?_
 refine zk [2, 3, 5, 6, 7] (fun F U l os u => ∃ (xs : List M.Fct) (nX : Nat) (A11_9 : Option Addr) (c11_9 : Nat) (g11_9 : List Nat), l = F [(9, .slice A11_9 nX c11_9)] ∧ os = U [some (rowO 46 3 (.slice A11_9 nX c11_9) nX (fltV vcFact xs) g11_9)] ∧ (xs.length ≤ 20000) ∧ (nX = xs.length) ∧ (nX ≤ c11_9) ∧ (c11_9 ≤ 9223372036854775807)) ?_ ?_
 ·
  refine zi (fun h12 h12' => ?_) fun h12 h12' => ?_
  ·
   have hm0 : (M.make X5RX X5PX X5KX).2 = 0 := by simpa using h12
   have hfl := M.facts_len hm0
   refine Js.region <| Qm rfl <| zcs rfl (fun w hw => c_spec_l11Facts X5RX X5PX X5KX (okx_ hw) (okx_ hw) (r0 := hm0)) ?_
   intro A13 c13 bl13 bh13
   refine Qa rfl <| JL.nil ?_
   refine zd [0, 1, 1, 1, 1, 1, 1, 1] rfl fun u14 x14 => ?_
   exact zm ⟨((M.factsF X5RX X5PX X5KX)), ((M.factsF X5RX X5PX X5KX).length), _, _, _, rfl, rfl, by first | assumption | omega | rfl | (dsimp only; omega) | (simp; done), by first | assumption | omega | rfl | (dsimp only; omega) | (simp; done), by first | assumption | omega | rfl | (dsimp only; omega) | (simp; done), by first | assumption | omega | rfl | (dsimp only; omega) | (simp; done)⟩ x14
  refine Js.skip ?_
  exact zm ⟨([]), (0), _, _, _, rfl, rfl, by first | assumption | omega | rfl | (dsimp only; omega) | (simp; done), by first | assumption | omega | rfl | (dsimp only; omega) | (simp; done), by first | assumption | omega | rfl | (dsimp only; omega) | (simp; done), by first | assumption | omega | rfl | (dsimp only; omega) | (simp; done)⟩ (Up.refl _ _)
 rintro _ _ u11 ⟨xs, nX, A11_9, c11_9, g11_9, rfl, rfl, hx0, hnx, f11_2, f11_3⟩ x11
 refine zn ?_
 refine zS <| Qm rfl <| Qz rfl <| Qa rfl <| zJ <| zS <| Qm rfl ?_
 refine zhl [3] ?_
 refine zB 1 sp_ rfl (fun w hb hw => c_spec_l00Src_pick code X5AT X5SD 8 hb (ok_ hw)) ?_
 rintro _ _ G15 ⟨X15KX, X15AT, X15SD, rfl, rfl, hX15_0, hX15_1, hX15_2, hX15_3⟩
 refine znl ?_
 refine JL.nil <| Js.block <| zS <| Qe rfl rfl <| Qa rfl <| JL.nil ?_
 refine zd [0, 1, 1, 1, 1, 1, 1, 1] rfl fun u16 x16 => ?_
 refine zn ?_
 refine zk [2, 3, 5, 6, 7] (fun F U l os u => ∃ (ys : List M.Fct) (nY : Nat) (at2 sd2 : Int) (A17_9 : Option Addr) (c17_9 : Nat) (g17_9 : List Nat), l = F [(9, .slice A17_9 nY c17_9)] ∧ os = U [some (boxO b4 [.slice A1 code c1, .int .i64 at2, .int .u64 sd2] 105), some (rowO 46 3 (.slice A17_9 nY c17_9) nY (fltV vcFact ys) g17_9)] ∧ (ys.length ≤ 20001) ∧ (0 ≤ at2) ∧ (at2 ≤ 20000) ∧ (nY = ys.length) ∧ (nY ≤ c17_9) ∧ (c17_9 ≤ 9223372036854775807)) ?_ ?_
 ·
  refine zi (fun h18 h18' => ?_) fun h18 h18' => ?_
  ·
   refine Js.region <| Qm rfl <| Qm rfl <| zB 1 sp_ rfl (fun w hb hw => c_spec_l11One code X15AT X15SD hb (ok_ hw)) ?_
   rintro _ _ G19 ⟨X19FX, X19AT, X19SD, rfl, rfl, hX19_0, hX19_1, hX19_2⟩
   refine znl ?_
   refine zbs fun b20 => ?_
   refine JL.e (e_append (i := 3) (n' := (xs ++ [X19FX]).length) (vs' := fltV vcFact (xs ++ [X19FX])) el_31 rfl rfl rfl rfl (src_row (i := 0) und_31 rfl rfl) (by omega) (by omega) ln2_ (by first | rfl | exact fltV_app _ _ _ | exact fltV_snoc _ _ _ | (simp [fltV]; done))) ?_
   rintro v22 _ _ ⟨⟨g23, rfl⟩, rfl⟩ _
   refine JL.fact (row_form' (i := 3) rfl) (fun hf24 => ?_)
   obtain ⟨A24, c24, rfl, bl24, bh24⟩ := hf24
   refine znl ?_
   refine Qa rfl <| JL.nil ?_
   refine zd [1, 2, 2, 2, 2, 2, 2, 2] rfl fun u25 x25 => ?_
   exact zm ⟨(xs ++ [X19FX]), ((xs ++ [X19FX]).length), (X19AT), (X19SD), _, _, _, rfl, rfl, by first | assumption | omega | rfl | (dsimp only; omega) | (simp only [List.length_set, List.length_append, List.length_take, List.length_cons, List.length_nil]; omega) | (simp; done), by first | assumption | omega | rfl | (dsimp only; omega) | (simp only [List.length_set, List.length_append, List.length_take, List.length_cons, List.length_nil]; omega) | (simp; done), by first | assumption | omega | rfl | (dsimp only; omega) | (simp only [List.length_set, List.length_append, List.length_take, List.length_cons, List.length_nil]; omega) | (simp; done), by first | assumption | omega | rfl | (dsimp only; omega) | (simp only [List.length_set, List.length_append, List.length_take, List.length_cons, List.length_nil]; omega) | (simp; done), by first | assumption | omega | rfl | (dsimp only; omega) | (simp only [List.length_set, List.length_append, List.length_take, List.length_cons, List.length_nil]; omega) | (simp; done), by first | assumption | omega | rfl | (dsimp only; omega) | (simp only [List.length_set, List.length_append, List.length_take, List.length_cons, List.length_nil]; omega) | (simp; done)⟩ x25
  refine zS <| Qe rfl rfl <| Qa rfl <| JL.nil ?_
  refine zi (fun h26 h26' => ?_) fun h26 h26' => ?_
  ·
   refine zS <| Qm rfl <| Qg rfl rfl <| JL.nil ?_
   refine zi (fun h27 h27' => ?_) fun h27 h27' => ?_
   ·
    refine zS <| Qm rfl <| Qm rfl <| zB 1 sp_ rfl (fun w hb hw => c_spec_l00Src_pick code X15AT X15SD (nX : Int) hb (ok_ hw)) ?_
    rintro _ _ G28 ⟨X28KX, X28AT, X28SD, rfl, rfl, hX28_0, hX28_1, hX28_2, hX28_3⟩
    refine znl ?_
    refine Qa rfl <| JL.nil ?_
    refine zk [2, 3, 5, 6, 7] (fun F U l os u => ∃ (b30 : Nat) (G31 : List Nat) (X31AT X31SD X31KX : Int), l = F [(9, .slice (some ⟨b30, 0, none⟩) nX c11_9)] ∧ os = [anyO G31] ++ U [some (boxO b4 [.slice A1 code c1, .int .i64 X31AT, .int .u64 X31SD] 105), nO, some (rowO 46 3 (.slice (some ⟨b30, 0, none⟩) nX c11_9) nX (fltV vcFact (xs.set X28KX.toNat (M.Fct.mk ((M.fct xs X28KX.toNat).kind) ((M.fct xs X28KX.toNat).place) (IntKind.i64.wrap (((M.fct xs X28KX.toNat).count) + (IntKind.i64.wrap (X31KX - 1))))))) g11_9)] ∧ (X28AT ≤ X31AT) ∧ (X31AT ≤ X28AT + 2) ∧ (0 ≤ X31KX) ∧ (X31KX = 0 ∨ X31KX < 3)) ?_ ?_
    ·
     refine zdr [6, 11] ?_
     refine jM 0 rfl rfl ?_
     refine jM 1 rfl rfl ?_
     refine JH.fact (row_some (i := 2) rfl len_) (fun hf37 => ?_)
     obtain ⟨b37, rfl⟩ := hf37
     have hy36 : xs[X28KX.toNat]? = some (M.fct xs X28KX.toNat) := M.fct_get len_
     refine jI 2 el_31 rfl rfl rfl rfl ?_
     refine jF 3 fld_46_2 rfl rfl ?_
     refine jM 5 rfl rfl ?_
     refine y2 4 6 ?_ ?_
     ·
      refine JHo.q rfl (q_load1 ty_2.h rfl (fun w hw => (Mem.rowR' (i := 2) rfl (fltV_at (C := vcFact) (fun _ => rfl) hy36) w hw) 2 _ rfl)) ?_
      refine y1 6 ?_
      refine yB 1 sp_ rfl rfl (fun w hb hw => c_spec_l00Src_pick code X28AT X28SD 3 hb (ok_ hw)) ?_
      rintro _ _ G38 ⟨X38KX, X38AT, X38SD, rfl, rfl, hX38_0, hX38_1, hX38_2, hX38_3⟩
      refine znh ?_
      refine JH.p 7 rfl (p_sub rfl rfl rfl) ?_
      refine JH.p 8 rfl (p_add rfl rfl rfl) ?_
      have hy39 : xs[X28KX.toNat]? = some (M.fct xs X28KX.toNat) := M.fct_get len_
      refine jI 9 el_31 rfl rfl rfl rfl ?_
      refine jF 10 fld_46_2 rfl rfl ?_
      refine y1 11 ?_
      refine JHo.s rfl (e_storeRow (i := 3) (xs' := fltV vcFact (xs.set X28KX.toNat (M.Fct.mk ((M.fct xs X28KX.toNat).kind) ((M.fct xs X28KX.toNat).place) (IntKind.i64.wrap (((M.fct xs X28KX.toNat).count) + (IntKind.i64.wrap (X38KX - 1))))))) ty_2.h rfl rfl rfl rfl rfl rfl (fltV_lt (C := vcFact) (j := 2) (fun _ => rfl) len_ (by decide)) (fltV_cell (C := vcFact) (j := 2) (y' := (M.Fct.mk ((M.fct xs X28KX.toNat).kind) ((M.fct xs X28KX.toNat).place) (IntKind.i64.wrap (((M.fct xs X28KX.toNat).count) + (IntKind.i64.wrap (X38KX - 1)))))) (fun _ => rfl) hy39 (by decide) rfl)) (.inr rfl) ?_
      rintro _ _ _ ⟨rfl, rfl⟩ _
      refine znh ?_
      refine yd ?_
      refine zh [1, 0, 0, 0, 0, 0, 0, 0, 0, 0] ?_
      exact zm ⟨_, _, _, _, _, rfl, rfl, zt, zt, zt, zt⟩ (Up.refl _ _) ⟨rfl, rfl, rfl, rfl, rfl, rfl, trivial⟩
     refine yB 1 sp_ rfl rfl (fun w hb hw => c_spec_l00Src_pick code X28AT X28SD 3 hb (ok_ hw)) ?_
     rintro _ _ G40 ⟨X40KX, X40AT, X40SD, rfl, rfl, hX40_0, hX40_1, hX40_2, hX40_3⟩
     refine znh ?_
     refine JH.p 7 rfl (p_sub rfl rfl rfl) ?_
     refine y1 4 ?_
     refine JHo.q rfl (q_load1 ty_2.h rfl (fun w hw => (Mem.rowR' (i := 3) rfl (fltV_at (C := vcFact) (fun _ => rfl) hy36) w hw) 2 _ rfl)) ?_
     refine JH.p 8 rfl (p_add rfl rfl rfl) ?_
     have hy41 : xs[X28KX.toNat]? = some (M.fct xs X28KX.toNat) := M.fct_get len_
     refine jI 9 el_31 rfl rfl rfl rfl ?_
     refine jF 10 fld_46_2 rfl rfl ?_
     refine y1 11 ?_
     refine JHo.s rfl (e_storeRow (i := 3) (xs' := fltV vcFact (xs.set X28KX.toNat (M.Fct.mk ((M.fct xs X28KX.toNat).kind) ((M.fct xs X28KX.toNat).place) (IntKind.i64.wrap (((M.fct xs X28KX.toNat).count) + (IntKind.i64.wrap (X40KX - 1))))))) ty_2.h rfl rfl rfl rfl rfl rfl (fltV_lt (C := vcFact) (j := 2) (fun _ => rfl) len_ (by decide)) (fltV_cell (C := vcFact) (j := 2) (y' := (M.Fct.mk ((M.fct xs X28KX.toNat).kind) ((M.fct xs X28KX.toNat).place) (IntKind.i64.wrap (((M.fct xs X28KX.toNat).count) + (IntKind.i64.wrap (X40KX - 1)))))) (fun _ => rfl) hy41 (by decide) rfl)) (.inr rfl) ?_
     rintro _ _ _ ⟨rfl, rfl⟩ _
     refine znh ?_
     refine yd ?_
     refine zh [1, 0, 0, 0, 0, 0, 0, 0, 0, 0] ?_
     exact zm ⟨_, _, _, _, _, rfl, rfl, zt, zt, zt, zt⟩ (Up.refl _ _) ⟨rfl, rfl, rfl, rfl, rfl, rfl, trivial⟩
    rintro _ _ u35 ⟨b30, G31, X31AT, X31SD, X31KX, rfl, rfl, f35_0, f35_1, f35_2, f35_3⟩ x35
    refine zn ?_
    refine zd [1, 2, 2, 2, 2, 2, 2, 2] rfl fun u42 x42 => ?_
    exact zm ⟨(xs.set X28KX.toNat (M.Fct.mk ((M.fct xs X28KX.toNat).kind) ((M.fct xs X28KX.toNat).place) (IntKind.i64.wrap (((M.fct xs X28KX.toNat).count) + (IntKind.i64.wrap (X31KX - 1)))))), (nX), (X31AT), (X31SD), _, _, _, rfl, rfl, by first | assumption | omega | rfl | (dsimp only; omega) | (simp only [List.length_set, List.length_append, List.length_take, List.length_cons, List.length_nil]; omega) | (simp; done), by first | assumption | omega | rfl | (dsimp only; omega) | (simp only [List.length_set, List.length_append, List.length_take, List.length_cons, List.length_nil]; omega) | (simp; done), by first | assumption | omega | rfl | (dsimp only; omega) | (simp only [List.length_set, List.length_append, List.length_take, List.length_cons, List.length_nil]; omega) | (simp; done), by first | assumption | omega | rfl | (dsimp only; omega) | (simp only [List.length_set, List.length_append, List.length_take, List.length_cons, List.length_nil]; omega) | (simp; done), by first | assumption | omega | rfl | (dsimp only; omega) | (simp only [List.length_set, List.length_append, List.length_take, List.length_cons, List.length_nil]; omega) | (simp; done), by first | assumption | omega | rfl | (dsimp only; omega) | (simp only [List.length_set, List.length_append, List.length_take, List.length_cons, List.length_nil]; omega) | (simp; done)⟩ (x35.trans x42)
   refine Js.skip ?_
   exact zm ⟨(xs), (nX), (X15AT), (X15SD), _, _, _, rfl, rfl, by first | assumption | omega | rfl | (dsimp only; omega) | (simp only [List.length_set, List.length_append, List.length_take, List.length_cons, List.length_nil]; omega) | (simp; done), by first | assumption | omega | rfl | (dsimp only; omega) | (simp only [List.length_set, List.length_append, List.length_take, List.length_cons, List.length_nil]; omega) | (simp; done), by first | assumption | omega | rfl | (dsimp only; omega) | (simp only [List.length_set, List.length_append, List.length_take, List.length_cons, List.length_nil]; omega) | (simp; done), by first | assumption | omega | rfl | (dsimp only; omega) | (simp only [List.length_set, List.length_append, List.length_take, List.length_cons, List.length_nil]; omega) | (simp; done), by first | assumption | omega | rfl | (dsimp only; omega) | (simp only [List.length_set, List.length_append, List.length_take, List.length_cons, List.length_nil]; omega) | (simp; done), by first | assumption | omega | rfl | (dsimp only; omega) | (simp only [List.length_set, List.length_append, List.length_take, List.length_cons, List.length_nil]; omega) | (simp; done)⟩ (Up.refl _ _)
  refine zS <| Qe rfl rfl <| Qa rfl <| JL.nil ?_
  refine zi (fun h43 h43' => ?_) fun h43 h43' => ?_
  ·
   refine zS <| Qm rfl <| Qg rfl rfl <| JL.nil ?_
   refine zi (fun h44 h44' => ?_) fun h44 h44' => ?_
   ·
    refine Js.region <| Qm rfl <| Qm rfl <| Qm rfl <| zB 1 sp_ rfl (fun w hb hw => c_spec_l00Src_pick code X15AT X15SD (nX : Int) hb (ok_ hw)) ?_
    rintro _ _ G45 ⟨X45KX, X45AT, X45SD, rfl, rfl, hX45_0, hX45_1, hX45_2, hX45_3⟩
    refine znl ?_
    refine Qq (p_slice (lo' := 0) (hi' := X45KX.toNat) (mx' := c11_9) el_31 rfl rfl ⟨_, by rw [Int.toNat_of_nonneg (by omega)]; exact rfl, by omega⟩ rfl) <| Qa rfl <| JL.nil ?_
    refine Js.conv (fun w hw => St.cutF vcFact (i := 2) (k := X45KX.toNat) (fun _ => rfl) rfl (by omega) hw) ?_
    refine zn ?_
    refine zd [1, 0, 1, 1, 1, 1, 1, 1] rfl fun u46 x46 => ?_
    exact zm ⟨(xs.take X45KX.toNat), (X45KX.toNat - 0), (X45AT), (X45SD), _, _, _, rfl, rfl, by first | assumption | omega | rfl | (dsimp only; omega) | (simp only [List.length_set, List.length_append, List.length_take, List.length_cons, List.length_nil]; omega) | (simp; done), by first | assumption | omega | rfl | (dsimp only; omega) | (simp only [List.length_set, List.length_append, List.length_take, List.length_cons, List.length_nil]; omega) | (simp; done), by first | assumption | omega | rfl | (dsimp only; omega) | (simp only [List.length_set, List.length_append, List.length_take, List.length_cons, List.length_nil]; omega) | (simp; done), by first | assumption | omega | rfl | (dsimp only; omega) | (simp only [List.length_set, List.length_append, List.length_take, List.length_cons, List.length_nil]; omega) | (simp; done), by first | assumption | omega | rfl | (dsimp only; omega) | (simp only [List.length_set, List.length_append, List.length_take, List.length_cons, List.length_nil]; omega) | (simp; done), by first | assumption | omega | rfl | (dsimp only; omega) | (simp only [List.length_set, List.length_append, List.length_take, List.length_cons, List.length_nil]; omega) | (simp; done)⟩ x46
   refine Js.skip ?_
   exact zm ⟨(xs), (nX), (X15AT), (X15SD), _, _, _, rfl, rfl, by first | assumption | omega | rfl | (dsimp only; omega) | (simp only [List.length_set, List.length_append, List.length_take, List.length_cons, List.length_nil]; omega) | (simp; done), by first | assumption | omega | rfl | (dsimp only; omega) | (simp only [List.length_set, List.length_append, List.length_take, List.length_cons, List.length_nil]; omega) | (simp; done), by first | assumption | omega | rfl | (dsimp only; omega) | (simp only [List.length_set, List.length_append, List.length_take, List.length_cons, List.length_nil]; omega) | (simp; done), by first | assumption | omega | rfl | (dsimp only; omega) | (simp only [List.length_set, List.length_append, List.length_take, List.length_cons, List.length_nil]; omega) | (simp; done), by first | assumption | omega | rfl | (dsimp only; omega) | (simp only [List.length_set, List.length_append, List.length_take, List.length_cons, List.length_nil]; omega) | (simp; done), by first | assumption | omega | rfl | (dsimp only; omega) | (simp only [List.length_set, List.length_append, List.length_take, List.length_cons, List.length_nil]; omega) | (simp; done)⟩ (Up.refl _ _)
  refine zS <| Qe rfl rfl <| Qa rfl <| JL.nil ?_
  refine zi (fun h47 h47' => ?_) fun h47 h47' => ?_
  ·
   refine zS <| Qm rfl <| Qg rfl rfl <| JL.nil ?_
   refine zi (fun h48 h48' => ?_) fun h48 h48' => ?_
   ·
    refine zS <| Qm rfl <| Qm rfl <| zB 1 sp_ rfl (fun w hb hw => c_spec_l00Src_pick code X15AT X15SD (nX : Int) hb (ok_ hw)) ?_
    rintro _ _ G49 ⟨X49KX, X49AT, X49SD, rfl, rfl, hX49_0, hX49_1, hX49_2, hX49_3⟩
    refine znl ?_
    refine Qa rfl <| zG <| Qm rfl <| Qm rfl ?_
    refine JL.fact (row_some (i := 2) rfl len_) (fun hf51 => ?_)
    obtain ⟨b51, rfl⟩ := hf51
    have hy50 : xs[X49KX.toNat]? = some (M.fct xs X49KX.toNat) := M.fct_get len_
    have hy52 : xs[X49KX.toNat]? = some (M.fct xs X49KX.toNat) := M.fct_get len_
    refine Qq (p_indexAddr el_31 rfl rfl len_ len_ rfl) <| Qf fh rfl <| Qw (q_load1 ty_2.h rfl (fun w hw => (Mem.rowR' (i := 2) rfl (fltV_at (C := vcFact) (fun _ => rfl) hy50) w hw) 1 _ rfl)) <| Qq (p_add rfl rfl rfl) <| Qq (p_indexAddr el_31 rfl rfl len_ len_ rfl) <| Qf fh rfl ?_
    refine JL.s (e_storeRow (i := 2) (xs' := fltV vcFact (xs.set X49KX.toNat (M.Fct.mk ((M.fct xs X49KX.toNat).kind) (IntKind.i64.wrap (((M.fct xs X49KX.toNat).place) + 1)) ((M.fct xs X49KX.toNat).count)))) ty_2.h rfl rfl rfl rfl rfl rfl (fltV_lt (C := vcFact) (j := 1) (fun _ => rfl) len_ (by decide)) (fltV_cell (C := vcFact) (j := 1) (y' := (M.Fct.mk ((M.fct xs X49KX.toNat).kind) (IntKind.i64.wrap (((M.fct xs X49KX.toNat).place) + 1)) ((M.fct xs X49KX.toNat).count))) (fun _ => rfl) hy52 (by decide) rfl)) ?_
    rintro _ _ _ ⟨rfl, rfl⟩ _
    refine znl ?_
    refine JL.nil ?_
    refine zd [0, 1, 1, 1, 1, 1, 1, 1] rfl fun u53 x53 => ?_
    exact zm ⟨(xs.set X49KX.toNat (M.Fct.mk ((M.fct xs X49KX.toNat).kind) (IntKind.i64.wrap (((M.fct xs X49KX.toNat).place) + 1)) ((M.fct xs X49KX.toNat).count))), (nX), (X49AT), (X49SD), _, _, _, rfl, rfl, by first | assumption | omega | rfl | (dsimp only; omega) | (simp only [List.length_set, List.length_append, List.length_take, List.length_cons, List.length_nil]; omega) | (simp; done), by first | assumption | omega | rfl | (dsimp only; omega) | (simp only [List.length_set, List.length_append, List.length_take, List.length_cons, List.length_nil]; omega) | (simp; done), by first | assumption | omega | rfl | (dsimp only; omega) | (simp only [List.length_set, List.length_append, List.length_take, List.length_cons, List.length_nil]; omega) | (simp; done), by first | assumption | omega | rfl | (dsimp only; omega) | (simp only [List.length_set, List.length_append, List.length_take, List.length_cons, List.length_nil]; omega) | (simp; done), by first | assumption | omega | rfl | (dsimp only; omega) | (simp only [List.length_set, List.length_append, List.length_take, List.length_cons, List.length_nil]; omega) | (simp; done), by first | assumption | omega | rfl | (dsimp only; omega) | (simp only [List.length_set, List.length_append, List.length_take, List.length_cons, List.length_nil]; omega) | (simp; done)⟩ x53
   refine Js.skip ?_
   exact zm ⟨(xs), (nX), (X15AT), (X15SD), _, _, _, rfl, rfl, by first | assumption | omega | rfl | (dsimp only; omega) | (simp only [List.length_set, List.length_append, List.length_take, List.length_cons, List.length_nil]; omega) | (simp; done), by first | assumption | omega | rfl | (dsimp only; omega) | (simp only [List.length_set, List.length_append, List.length_take, List.length_cons, List.length_nil]; omega) | (simp; done), by first | assumption | omega | rfl | (dsimp only; omega) | (simp only [List.length_set, List.length_append, List.length_take, List.length_cons, List.length_nil]; omega) | (simp; done), by first | assumption | omega | rfl | (dsimp only; omega) | (simp only [List.length_set, List.length_append, List.length_take, List.length_cons, List.length_nil]; omega) | (simp; done), by first | assumption | omega | rfl | (dsimp only; omega) | (simp only [List.length_set, List.length_append, List.length_take, List.length_cons, List.length_nil]; omega) | (simp; done), by first | assumption | omega | rfl | (dsimp only; omega) | (simp only [List.length_set, List.length_append, List.length_take, List.length_cons, List.length_nil]; omega) | (simp; done)⟩ (Up.refl _ _)
  refine Js.skip ?_
  exact zm ⟨(xs), (nX), (X15AT), (X15SD), _, _, _, rfl, rfl, by first | assumption | omega | rfl | (dsimp only; omega) | (simp only [List.length_set, List.length_append, List.length_take, List.length_cons, List.length_nil]; omega) | (simp; done), by first | assumption | omega | rfl | (dsimp only; omega) | (simp only [List.length_set, List.length_append, List.length_take, List.length_cons, List.length_nil]; omega) | (simp; done), by first | assumption | omega | rfl | (dsimp only; omega) | (simp only [List.length_set, List.length_append, List.length_take, List.length_cons, List.length_nil]; omega) | (simp; done), by first | assumption | omega | rfl | (dsimp only; omega) | (simp only [List.length_set, List.length_append, List.length_take, List.length_cons, List.length_nil]; omega) | (simp; done), by first | assumption | omega | rfl | (dsimp only; omega) | (simp only [List.length_set, List.length_append, List.length_take, List.length_cons, List.length_nil]; omega) | (simp; done), by first | assumption | omega | rfl | (dsimp only; omega) | (simp only [List.length_set, List.length_append, List.length_take, List.length_cons, List.length_nil]; omega) | (simp; done)⟩ (Up.refl _ _)
 rintro _ _ u17 ⟨ys, nY, at2, sd2, A17_9, c17_9, g17_9, rfl, rfl, hy0, ha0, ha1, hny, f17_4, f17_5⟩ x17
 refine zn ?_
 refine Js.blockEnd <| Js.seq <| zS <| Qm rfl <| zB 1 sp_ rfl (fun w hb hw => c_spec_l00Src_one code at2 sd2 40 hb (ok_ hw)) ?_
 rintro _ _ G54 ⟨X54BX, X54AT, X54SD, rfl, rfl, hX54_0, hX54_1⟩
 refine znl ?_
 refine JL.nil ?_
 refine zi (fun h55 h55' => ?_) fun h55 h55' => ?_
 ·
  refine zS <| Qm rfl <| zB 1 sp_ rfl (fun w hb hw => c_spec_l00Src_pick code X54AT X54SD 2 hb (ok_ hw)) ?_
  rintro _ _ G56 ⟨X56KX, X56AT, X56SD, rfl, rfl, hX56_0, hX56_1, hX56_2, hX56_3⟩
  refine znl ?_
  refine Qp rfl rfl <| zmkF vcFact M.Fct.zero (a0 := 3000 + X56KX) (m := (3000 + X56KX).toNat) (by omega) (by omega) fun b57 => Qa rfl <| zN <| Qm rfl <| Qz rfl <| Qm rfl <| JL.nil <| Js.block ?_
  refine zl [2, 3, 6, 7, 9, 90] (fun F U l os u m => ∃ (k : Nat) (zs : List M.Fct) (G58_2 : List Nat) (G58_3 : List Nat), l = F [(91, .int .i64 (k : Int))] ∧ os = U [some (rowO 46 3 (.slice (some ⟨b57, 0, none⟩) ((3000 + X56KX).toNat) ((3000 + X56KX).toNat)) ((3000 + X56KX).toNat) (fltV vcFact zs) []), nO, some (anyO G58_2), some (anyO G58_3)] ∧ (zs.length = (3000 + X56KX).toNat) ∧ (k ≤ zs.length) ∧ m = (3000 + X56KX).toNat - k) ⟨0, List.replicate ((3000 + X56KX).toNat) M.Fct.zero, _, _, rfl, rfl, by simp, zt, rfl⟩ ?_
  rintro _ _ u58 _ ⟨k, zs, G58_2, G58_3, rfl, rfl, hz, hk, rfl⟩ x58
  refine zn ?_
  refine zS <| Ql rfl rfl <| zJ ?_
  refine zi (fun h59 h59' => ?_) fun h59 h59' => ?_
  ·
   have hy60 : zs[k]? = some (M.fct zs k) := M.fct_get len_
   refine Js.skip <| Js.seq <| Js.block <| zS <| Qm rfl <| Qa rfl <| zG <| Qm rfl <| Qm rfl <| Qq (p_indexAddr el_31 rfl rfl len_ len_ rfl) <| Qf fh rfl ?_
   refine JL.s (e_storeRow (i := 0) (xs' := fltV vcFact (zs.set k (M.Fct.mk 6 ((M.fct zs k).place) ((M.fct zs k).count)))) ty_2.h rfl rfl rfl rfl rfl rfl (fltV_lt (C := vcFact) (j := 0) (fun _ => rfl) len_ (by decide)) (fltV_cell (C := vcFact) (j := 0) (y' := (M.Fct.mk 6 ((M.fct zs k).place) ((M.fct zs k).count))) (fun _ => rfl) hy60 (by decide) rfl)) ?_
   rintro _ _ _ ⟨rfl, rfl⟩ _
   refine znl ?_
   refine JL.nil <| Js.blockEnd <| Js.region <| Qp rfl rfl <| Qm rfl <| JL.nil ?_
   exact zag ⟨k + 1, zs.set k (M.Fct.mk 6 ((M.fct zs k).place) ((M.fct zs k).count)), _, _, rfl, rfl, by simp only [List.length_set]; omega, by simp only [List.length_set]; omega, rfl⟩ x58
  refine zx ?_
  refine Js.seq ?_
  refine zk [2, 3] (fun F U l os u => l = F [(4, .slice (some ⟨b57, 0, none⟩) ((3000 + X56KX).toNat) ((3000 + X56KX).toNat))] ∧ os = U [nO, nO, nO, nO, nO, nO, nO, nO, nO, some (boxO b3 [.slice A5rb_0 X5PX.pits.length c5rb_0, .slice A5rb_1 X5PX.stores.length c5rb_1, .int .i64 X5PX.player] 28), some (boxO b2 [.int .i64 X5RX.pits, .int .i64 X5RX.seeds, .bool X5RX.stores, .bool X5RX.skip, .bool X5RX.relay, .bool X5RX.feed, .bool X5RX.again, .int .i64 X5RX.capture, .int .i64 X5RX.slam] 25)]) ?_ ?_
  ·
   refine zdr [3, 4] ?_
   refine JH.q 0 rfl (L9 6 rfl rfl) ?_
   refine jM 2 rfl rfl ?_
   refine y2 1 3 ?_ ?_
   ·
    refine JHo.q rfl (L9 5 rfl rfl) ?_
    refine y1 3 ?_
    refine yst rfl rfl rfl ?_
    refine y1 4 ?_
    refine yst rfl rfl rfl ?_
    refine jA 5 rfl rfl ?_
    refine yd ?_
    exact zm ⟨rfl, rfl⟩ (Up.refl _ _)
   refine yst rfl rfl rfl ?_
   refine y1 1 ?_
   refine JHo.q rfl (L9 5 rfl rfl) ?_
   refine y1 4 ?_
   refine yst rfl rfl rfl ?_
   refine jA 5 rfl rfl ?_
   refine yd ?_
   exact zm ⟨rfl, rfl⟩ (Up.refl _ _)
  rintro _ _ u61 ⟨rfl, rfl⟩ x61
  refine zn ?_
  exact zro (((((x10.trans x11).trans x16).trans x17).trans x58).trans x61) (g := by exact (gv_tup (gvc (gv_ex X5RX (by first | trivial | assumption | omega | (dsimp only; omega)) gv_) (gvc (gv_ex X5PX (by first | trivial | assumption | omega | (dsimp only; omega)) (gv_agg (gvc (gv_rx po_ (by first | rfl | assumption)) (gvc gv_ (gvc gv_ gvn))))) (gvc (gv_ex zs (by first | trivial | assumption | omega | (dsimp only; omega)) (gv_flat lFact (xs := zs) po_ (by first | rfl | (simp [fltV]; done)) (by first | with_reducible rfl | assumption | rfl))) gvn)))))
 refine Js.skip <| Js.seq ?_
 refine zk [2, 3] (fun F U l os u => l = F [(4, .slice A17_9 nY c17_9)] ∧ os = U [nO, nO, nO, nO, nO, nO, nO, some (boxO b3 [.slice A5rb_0 X5PX.pits.length c5rb_0, .slice A5rb_1 X5PX.stores.length c5rb_1, .int .i64 X5PX.player] 28), some (boxO b2 [.int .i64 X5RX.pits, .int .i64 X5RX.seeds, .bool X5RX.stores, .bool X5RX.skip, .bool X5RX.relay, .bool X5RX.feed, .bool X5RX.again, .int .i64 X5RX.capture, .int .i64 X5RX.slam] 25)]) ?_ ?_
 ·
  refine zdr [3, 4] ?_
  refine JH.q 0 rfl (L9 4 rfl rfl) ?_
  refine jM 2 rfl rfl ?_
  refine y2 1 3 ?_ ?_
  ·
   refine JHo.q rfl (L9 3 rfl rfl) ?_
   refine y1 3 ?_
   refine yst rfl rfl rfl ?_
   refine y1 4 ?_
   refine yst rfl rfl rfl ?_
   refine jA 5 rfl rfl ?_
   refine yd ?_
   exact zm ⟨rfl, rfl⟩ (Up.refl _ _)
  refine yst rfl rfl rfl ?_
  refine y1 1 ?_
  refine JHo.q rfl (L9 3 rfl rfl) ?_
  refine y1 4 ?_
  refine yst rfl rfl rfl ?_
  refine jA 5 rfl rfl ?_
  refine yd ?_
  exact zm ⟨rfl, rfl⟩ (Up.refl _ _)
 rintro _ _ u62 ⟨rfl, rfl⟩ x62
 refine zn ?_
 exact zro ((((x10.trans x11).trans x16).trans x17).trans x62) (g := by exact (gv_tup (gvc (gv_ex X5RX (by first | trivial | assumption | omega | (dsimp only; omega)) gv_) (gvc (gv_ex X5PX (by first | trivial | assumption | omega | (dsimp only; omega)) (gv_agg (gvc (gv_rx po_ (by first | rfl | assumption)) (gvc gv_ (gvc gv_ gvn))))) (gvc (gv_ex ys (by first | trivial | assumption | omega | (dsimp only; omega)) (gv_flat lFact (xs := ys) po_ (by first | rfl | (simp [fltV]; done)) (by first | with_reducible rfl | assumption | rfl))) gvn)))))
theorem c_impl_teller_lap (t_rules : M.Rul) (t_facts : List M.Fct) {At_9 : Option Addr} {ct_9 : Nat} {gt_9 : List Nat} (from_ seeds : Int) (path : List Int) {v_path : Value} {bt : Nat} {w : World} (hb : Bw w [boxO bt [.int .i64 t_rules.pits, .int .i64 t_rules.seeds, .bool t_rules.stores, .bool t_rules.skip, .bool t_rules.relay, .bool t_rules.feed, .bool t_rules.again, .int .i64 t_rules.capture, .int .i64 t_rules.slam, .slice At_9 t_facts.length ct_9] 85, rowO 46 3 (.slice At_9 t_facts.length ct_9) t_facts.length (fltV vcFact t_facts) gt_9]) (h_path : (Ty.ints 2 path).ok (offW w (([boxO bt [.int .i64 t_rules.pits, .int .i64 t_rules.seeds, .bool t_rules.stores, .bool t_rules.skip, .bool t_rules.relay, .bool t_rules.feed, .bool t_rules.again, .int .i64 t_rules.capture, .int .i64 t_rules.slam, .slice At_9 t_facts.length ct_9] 85, rowO 46 3 (.slice At_9 t_facts.length ct_9) t_facts.length (fltV vcFact t_facts) gt_9] : List Own).flatMap (·.fp))) v_path) (bd0 : t_facts.length ≤ ct_9 := by exact om_) (bd1 : ct_9 ≤ 9223372036854775807 := by exact om_) (r0 : t_facts.length ≤ 1000000 := by exact om_) (r1 : path.length ≤ 1000000 := by exact om_) : RetB Try.prog 44 [.pointer (some ⟨bt, 0, none⟩), .int .i64 from_, .int .i64 seeds, v_path] w [boxO bt [.int .i64 t_rules.pits, .int .i64 t_rules.seeds, .bool t_rules.stores, .bool t_rules.skip, .bool t_rules.relay, .bool t_rules.feed, .bool t_rules.again, .int .i64 t_rules.capture, .int .i64 t_rules.slam, .slice At_9 t_facts.length ct_9] 85, rowO 46 3 (.slice At_9 t_facts.length ct_9) t_facts.length (fltV vcFact t_facts) gt_9] (fun v bs' => ∃ (Axt_9 : Option Addr) (cxt_9 : Nat) (gxt_9 : List Nat), v = .tuple #[] ∧ bs' = [boxO bt [.int .i64 t_rules.pits, .int .i64 t_rules.seeds, .bool t_rules.stores, .bool t_rules.skip, .bool t_rules.relay, .bool t_rules.feed, .bool t_rules.again, .int .i64 t_rules.capture, .int .i64 t_rules.slam, .slice Axt_9 (((t_facts ++ [M.Fct.mk 1 from_ seeds]) ++ M.addFs [] path).length) cxt_9] 85, rowO 46 3 (.slice Axt_9 (((t_facts ++ [M.Fct.mk 1 from_ seeds]) ++ M.addFs [] path).length) cxt_9) (((t_facts ++ [M.Fct.mk 1 from_ seeds]) ++ M.addFs [] path).length) (fltV vcFact ((t_facts ++ [M.Fct.mk 1 from_ seeds]) ++ M.addFs [] path)) gxt_9] ∧ ((t_facts ++ [M.Fct.mk 1 from_ seeds]) ++ M.addFs [] path).length ≤ cxt_9 ∧ cxt_9 ≤ 9223372036854775807) := by
 revert v_path; apply opn
 intro A1 c1 h1 bl1 bh1
 have h_path := h1
 refine enterB hb @Try.func44 @Try.ntmps44 rfl rfl ?_
 refine zent ?_
 refine Js.trashE ?_
 refine zn ?_
 refine zS <| Qm rfl <| Qm rfl <| Qc rfl <| Qf fh rfl <| Q0 0 rfl rfl rfl <| Qm rfl <| Qm rfl <| Qb ?_
 refine zbs fun b2 => ?_
 refine JL.e (e_append (i := 2) (n' := (t_facts ++ [(M.Fct.mk 1 from_ seeds)]).length) (vs' := fltV vcFact (t_facts ++ [(M.Fct.mk 1 from_ seeds)])) el_31 rfl rfl rfl rfl (src_row (i := 0) und_31 rfl rfl) (by omega) (by omega) ln2_ (by first | rfl | exact fltV_app _ _ _ | exact fltV_snoc _ _ _ | (simp [fltV]; done))) ?_
 rintro v4 _ _ ⟨⟨g5, rfl⟩, rfl⟩ _
 refine JL.fact (row_form' (i := 2) rfl) (fun hf6 => ?_)
 obtain ⟨A6, c6, rfl, bl6, bh6⟩ := hf6
 refine znl ?_
 refine Qc rfl <| Qf fh rfl <| zw 1 rfl rfl rfl ?_
 refine zN ?_
 refine JL.e (e_mapNewI) ?_
 rintro _ _ _ ⟨b7, rfl, rfl, rfl⟩ _
 refine znl ?_
 refine Qa rfl <| zN <| Qm rfl <| Qz rfl <| Qm rfl <| JL.nil <| Js.block ?_
 refine zl [0, 8, 26, 27] (fun F U l os u m => ∃ (k nF : Nat) (FF cur : List M.Fct) (g : List (Int × Int)) (A8_0_9 : Option Addr) (c8_0_9 : Nat) (g8_0_9 : List Nat) (G8_4 : List Nat), l = F [(28, .int .i64 (k : Int))] ∧ os = U [some (mapI b7 g), nO, some (boxO bt [.int .i64 t_rules.pits, .int .i64 t_rules.seeds, .bool t_rules.stores, .bool t_rules.skip, .bool t_rules.relay, .bool t_rules.feed, .bool t_rules.again, .int .i64 t_rules.capture, .int .i64 t_rules.slam, .slice A8_0_9 nF c8_0_9] 85), some (rowO 46 3 (.slice A8_0_9 nF c8_0_9) nF (fltV vcFact FF) g8_0_9), some (anyO G8_4)] ∧ (FF = (t_facts ++ [M.Fct.mk 1 from_ seeds]) ++ cur) ∧ (M.MapF_ g ((t_facts ++ [M.Fct.mk 1 from_ seeds]).length : Int) cur) ∧ (M.CntB cur k) ∧ (cur = M.addFs [] (path.take k)) ∧ (k ≤ path.length) ∧ (FF.length ≤ t_facts.length + 1 + k) ∧ (FF.length = nF) ∧ (nF ≤ c8_0_9) ∧ (c8_0_9 ≤ 9223372036854775807) ∧ m = path.length - k) ⟨0, _, t_facts ++ [(M.Fct.mk 1 from_ seeds)], [], [], _, _, _, _, rfl, rfl, by simp, by exact M.MapF_.zero _, by exact (fun f h => by simp at h), by rfl, zt, by simp, by rfl, zu, zu, rfl⟩ ?_
 rintro _ _ u8 _ ⟨k, nF, FF, cur, g, A8_0_9, c8_0_9, g8_0_9, G8_4, rfl, rfl, hF, hM, hC, hA, hk, hFl, hn, f8_7, f8_8, rfl⟩ x8
 refine zn ?_
 refine zS <| Ql rfl rfl <| zJ ?_
 refine zi (fun h9 h9' => ?_) fun h9 h9' => ?_
 ·
  have hkl : k < path.length := by have := h9'; omega
  obtain ⟨b10, o10, he10, hc10⟩ := ints_elem (Ty.mono _ h1 x8.vis) (i := k) (by omega)
  refine Js.skip <| Js.seq <| Js.block <| zS <| Qq (p_indexAddr el_26 rfl rfl (by omega) (by omega) he10) <| QC hc10 rfl <| Qa rfl <| zN <| Qm rfl <| Qm rfl <| Qw (q_lookI (i := 0) (g := g) (k := (M.nth path k)) map_118 rfl rfl rfl) <| Qm rfl <| Qx rfl rfl <| Qx rfl rfl ?_
  refine Qa rfl <| Qa rfl <| zJ <| zS <| Qm rfl <| Qt rfl <| JL.nil ?_
  refine zi (fun h11 h11' => ?_) fun h11 h11' => ?_
  ·
   have hm : M.mhas g (M.nth path k) = false := by simpa using h11
   obtain ⟨hf1, hF2, hM2⟩ := M.tel_miss2 hn hF hM hm
   have hf1c : (M.fct (FF ++ [M.Fct.mk 2 (M.nth path k) 0]) nF).count = 0 := by rw [hf1]
   have hfl9 : (FF ++ [M.Fct.mk 2 (M.nth path k) 0]).length = FF.length + 1 := by simp
   refine zS <| Qm rfl <| Qc rfl <| Qf fh rfl <| Q0 2 rfl rfl rfl <| Qz rfl <| Qa rfl <| zN <| Qm rfl <| Qm rfl <| Qm rfl ?_
   refine JL.s (e_mapUpdI (i := 0) (g := g) (k := (M.nth path k)) (v := (nF : Int)) map_118 rfl rfl rfl rfl (hm)) ?_
   rintro _ _ _ ⟨rfl, rfl⟩ _
   refine znl ?_
   refine zG <| Qm rfl <| Qm rfl <| Qc rfl <| Qf fh rfl <| Q0 2 rfl rfl rfl <| Qm rfl <| Qb ?_
   refine zbs fun b12 => ?_
   refine JL.e (e_append (i := 4) (n' := (FF ++ [(M.Fct.mk 2 (M.nth path k) 0)]).length) (vs' := fltV vcFact (FF ++ [(M.Fct.mk 2 (M.nth path k) 0)])) el_31 rfl rfl rfl rfl (src_row (i := 0) und_31 rfl rfl) (by omega) (by omega) ln2_ (by first | rfl | exact fltV_app _ _ _ | exact fltV_snoc _ _ _ | (simp [fltV]; done))) ?_
   rintro v14 _ _ ⟨⟨g15, rfl⟩, rfl⟩ _
   refine JL.fact (row_form' (i := 4) rfl) (fun hf16 => ?_)
   obtain ⟨A16, c16, rfl, bl16, bh16⟩ := hf16
   refine znl ?_
   refine Qc rfl <| Qf fh rfl <| zw 3 rfl rfl rfl ?_
   refine zG <| Qm rfl <| Qc rfl <| Qf fh rfl <| Q0 3 rfl rfl rfl <| Qm rfl ?_
   refine JL.fact (row_some (i := 4) rfl len_) (fun hf18 => ?_)
   obtain ⟨b18, rfl⟩ := hf18
   have hy17 : (FF ++ [(M.Fct.mk 2 (M.nth path k) 0)])[nF]? = some (M.fct (FF ++ [(M.Fct.mk 2 (M.nth path k) 0)]) nF) := M.fct_get len_
   have hy19 : (FF ++ [(M.Fct.mk 2 (M.nth path k) 0)])[nF]? = some (M.fct (FF ++ [(M.Fct.mk 2 (M.nth path k) 0)]) nF) := M.fct_get len_
   refine Qq (p_indexAddr el_31 rfl rfl len_ len_ rfl) <| Qf fh rfl <| Qw (q_load1 ty_2.h rfl (fun w hw => (Mem.rowR' (i := 4) rfl (fltV_at (C := vcFact) (fun _ => rfl) hy17) w hw) 2 _ rfl)) <| Qp rfl rfl <| Qq (p_indexAddr el_31 rfl rfl len_ len_ rfl) <| Qf fh rfl ?_
   refine JL.s (e_storeRow (i := 4) (xs' := fltV vcFact ((FF ++ [(M.Fct.mk 2 (M.nth path k) 0)]).set nF (M.Fct.mk ((M.fct (FF ++ [(M.Fct.mk 2 (M.nth path k) 0)]) nF).kind) ((M.fct (FF ++ [(M.Fct.mk 2 (M.nth path k) 0)]) nF).place) (((M.fct (FF ++ [(M.Fct.mk 2 (M.nth path k) 0)]) nF).count) + 1)))) ty_2.h rfl rfl rfl rfl rfl rfl (fltV_lt (C := vcFact) (j := 2) (fun _ => rfl) len_ (by decide)) (fltV_cell (C := vcFact) (j := 2) (y' := (M.Fct.mk ((M.fct (FF ++ [(M.Fct.mk 2 (M.nth path k) 0)]) nF).kind) ((M.fct (FF ++ [(M.Fct.mk 2 (M.nth path k) 0)]) nF).place) (((M.fct (FF ++ [(M.Fct.mk 2 (M.nth path k) 0)]) nF).count) + 1))) (fun _ => rfl) hy19 (by decide) rfl)) ?_
   rintro _ _ _ ⟨rfl, rfl⟩ _
   refine znl ?_
   refine JL.nil <| Js.blockEnd <| Js.region <| Qp rfl rfl <| Qm rfl <| JL.nil ?_
   refine zf [1, 1, 1, 1] fun GG20 => ?_
   refine zn ?_
   exact zag ⟨k + 1, _, (FF ++ [(M.Fct.mk 2 (M.nth path k) 0)]).set nF (M.Fct.mk ((M.fct (FF ++ [(M.Fct.mk 2 (M.nth path k) 0)]) nF).kind) ((M.fct (FF ++ [(M.Fct.mk 2 (M.nth path k) 0)]) nF).place) (((M.fct (FF ++ [(M.Fct.mk 2 (M.nth path k) 0)]) nF).count) + 1)), (M.addF cur (M.nth path k)), M.mput g (M.nth path k) (nF : Int), _, _, _, _, rfl, rfl, by first | exact hF2 | (rw [hf1]; exact hF2), by exact hM2, by exact hC.add (by omega), by rw [M.take_nth hkl, M.addFs_snoc, ← hA], zt, by first | (simp only [List.length_set, List.length_append, List.length_cons, List.length_nil]; omega) | omega, by first | exact hn | (rw [List.length_set]; exact hn) | (rw [List.length_set]; done) | (simp; done) | (simp; omega), zu, zu, rfl⟩ x8
  have hm1 : M.mhas g (M.nth path k) = true := by simpa using h11
  obtain ⟨hi0, hi1, hc9, hF2, hM2⟩ := M.tel_hit hF hM hC hm1
  have hi2 : M.mval g (M.nth path k) < (nF : Int) := by omega
  refine Js.skip <| Js.region <| Qm rfl <| Qc rfl <| Qf fh rfl <| Q0 2 rfl rfl rfl <| Qm rfl ?_
  refine JL.fact (row_some (i := 3) rfl len_) (fun hf22 => ?_)
  obtain ⟨b22, rfl⟩ := hf22
  have hy21 : FF[(M.mval g (M.nth path k)).toNat]? = some (M.fct FF ((M.mval g (M.nth path k)).toNat)) := M.fct_get len_
  have hy23 : FF[(M.mval g (M.nth path k)).toNat]? = some (M.fct FF ((M.mval g (M.nth path k)).toNat)) := M.fct_get len_
  refine Qq (p_indexAddr el_31 rfl rfl len_ len_ rfl) <| Qf fh rfl <| Qw (q_load1 ty_2.h rfl (fun w hw => (Mem.rowR' (i := 3) rfl (fltV_at (C := vcFact) (fun _ => rfl) hy21) w hw) 2 _ rfl)) <| Qp rfl rfl <| Qq (p_indexAddr el_31 rfl rfl len_ len_ rfl) <| Qf fh rfl ?_
  refine JL.s (e_storeRow (i := 3) (xs' := fltV vcFact (FF.set ((M.mval g (M.nth path k)).toNat) (M.Fct.mk ((M.fct FF ((M.mval g (M.nth path k)).toNat)).kind) ((M.fct FF ((M.mval g (M.nth path k)).toNat)).place) (((M.fct FF ((M.mval g (M.nth path k)).toNat)).count) + 1)))) ty_2.h rfl rfl rfl rfl rfl rfl (fltV_lt (C := vcFact) (j := 2) (fun _ => rfl) len_ (by decide)) (fltV_cell (C := vcFact) (j := 2) (y' := (M.Fct.mk ((M.fct FF ((M.mval g (M.nth path k)).toNat)).kind) ((M.fct FF ((M.mval g (M.nth path k)).toNat)).place) (((M.fct FF ((M.mval g (M.nth path k)).toNat)).count) + 1))) (fun _ => rfl) hy23 (by decide) rfl)) ?_
  rintro _ _ _ ⟨rfl, rfl⟩ _
  refine znl ?_
  refine JL.nil <| Js.blockEnd <| Js.region <| Qp rfl rfl <| Qm rfl <| JL.nil ?_
  exact zag ⟨k + 1, _, FF.set ((M.mval g (M.nth path k)).toNat) (M.Fct.mk ((M.fct FF ((M.mval g (M.nth path k)).toNat)).kind) ((M.fct FF ((M.mval g (M.nth path k)).toNat)).place) (((M.fct FF ((M.mval g (M.nth path k)).toNat)).count) + 1)), (M.addF cur (M.nth path k)), g, _, _, _, _, rfl, rfl, by first | exact hF2 | (rw [hf1]; exact hF2), by exact hM2, by exact hC.add (by omega), by rw [M.take_nth hkl, M.addFs_snoc, ← hA], zt, by first | (simp only [List.length_set, List.length_append, List.length_cons, List.length_nil]; omega) | omega, by first | exact hn | (rw [List.length_set]; exact hn) | (rw [List.length_set]; done) | (simp; done) | (simp; omega), zu, zu, rfl⟩ x8
 have hE : (t_facts ++ [M.Fct.mk 1 from_ seeds]) ++ M.addFs [] path = FF := by rw [hF, hA, List.take_of_length_le (by have := h9'; omega)]
 refine zx ?_
 refine zrbE [2, 2] hb x8 ?_
 have hN10 : ((t_facts ++ [M.Fct.mk 1 from_ seeds]) ++ M.addFs [] path).length = nF := by first | (rw [hE]; exact hn) | (rw [hE]; done)
 have hE10 : ((t_facts ++ [M.Fct.mk 1 from_ seeds]) ++ M.addFs [] path) = FF := by first | exact hE | (rw [hE]; done)
 refine ⟨A8_0_9, c8_0_9, g8_0_9, rfl, ?_, ?_, ?_⟩
 · first | rfl | (dsimp only; rw [hN10, hE10]; done) | (dsimp only; rw [hN10, hE10]; rfl) | (dsimp only; simp only [hN10, hE10]) | (rw [hN10, hE10]; done) | (rw [hN10, hE10]; rfl)
 all_goals (try dsimp only)
 all_goals (first | (rw [hN10, hE10]; omega) | omega | (simp only [*]; omega) | (simp; done))
theorem c_impl_Rules_factsOf (r : M.Rul) {v_r : Value} (p : M.Pos) {v_p : Value} (move : Int) {w : World} (h_r : (Ty.agg (cRules r)).ok w v_r) (h_p : (Ty.agg (cPosition p)).ok w v_p) (r0 : p.pits.length ≤ 4194304 := by exact om_) (r1 : p.stores.length ≤ 4194304 := by exact om_) : Ret Try.prog 20 [v_r, v_p, .int .i64 move] w (Ty.tup [Ty.sl 46 3 ((M.factsR r p move).1).length (lFact ((M.factsR r p move).1)), Ty.int ((M.factsR r p move).2)]) := by
 revert v_r; apply opn
 revert v_p; apply opn
 intro A1 c1 h1 bl1 bh1 A2 c2 h2 bl2 bh2
 refine enter @Try.func20 @Try.ntmps20 rfl rfl ?_
 refine zent ?_
 refine zS <| zb rfl fun b3 => zb rfl fun b4 => Qa rfl <| Qa rfl <| zN <| Q9 1 rfl rfl ?_
 refine Q9 0 rfl rfl ?_
 refine Qm rfl <| zp rfl (fun w hw => c_impl_Rules_resultOf r p move (ok_ hw) (ok_ hw)) ?_
 intro u5 x5 A6 c6 h6 bl6 bh6 A7 c7 h7 bl7 bh7
 refine Qm rfl <| Qx rfl rfl <| Qx rfl rfl <| za zeh fun b8 => zw 0 rfl rfl rfl ?_
 refine Qa rfl <| zJ <| zS <| Qm rfl <| Qd rfl rfl <| JL.nil ?_
 refine zi (fun h9 h9' => ?_) fun h9 h9' => ?_
 ·
  have hE := M.factsR_n (r := r) (p := p) (move := move) (by simpa using h9)
  have hq0 : [] = (M.factsR r p move).1 := by first | (rw [hE, hE2]; rfl) | (rw [hE]; done) | (rw [hE]; rfl)
  have hq1 : ((M.make r p move).2) = (M.factsR r p move).2 := by first | (rw [hE, hE2]; rfl) | (rw [hE]; done) | (rw [hE]; rfl)
  refine zS <| Qm rfl <| Qa rfl <| Qa rfl <| JL.nil ?_
  exact zro x5
 have hm0 : (M.make r p move).2 = 0 := by simpa using h9
 have hz := M.make_sow0 hm0
 obtain ⟨hok, m0, m1, hGs, q0, q1, hsum⟩ := M.sowMove_ok hz
 obtain ⟨g1, g2, g3, g4, g5, g6, g7⟩ := M.okP_bd hok
 have hq := M.mul_bd g7 g1 g2
 have hG0 := M.Good.of_ok hok
 have hT := M.mvT_true hz
 have hc0 : M.sowCode r p move = 0 := by by_cases e : M.sowCode r p move = 0; exact e; (rw [M.sowMove_code e] at hz; exact absurd hz e)
 obtain ⟨_, _, _, hg0⟩ := M.sowCode_ok hc0
 have hE := M.factsR_y hm0
 refine Js.skip <| Js.seq ?_
 refine zk [2, 3, 4, 8] (fun F U l os u => ∃ (b10 b11 : Nat) (A12 : Option Addr) (c12 : Nat) (A13 : Option Addr) (c13 : Nat) (A14 : Option Addr) (c14 : Nat), l = F [(10, .pointer (some ⟨b10, 0, none⟩)), (11, .pointer (some ⟨b11, 0, none⟩))] ∧ os = [boxO b11 [.int .i64 r.pits, .int .i64 r.seeds, .bool r.stores, .bool r.skip, .bool r.relay, .bool r.feed, .bool r.again, .int .i64 r.capture, .int .i64 r.slam, .int .i64 p.player, .slice A12 p.pits.length c12, .slice A13 p.stores.length c13, .int .i64 0, .int .i64 0, .slice A14 (([] : List Int).length) c14] 60, rowO 2 1 (.slice A14 (([] : List Int).length) c14) (([] : List Int).length) (ints_ []) [], rowO 2 1 (.slice A13 p.stores.length c13) p.stores.length (ints_ p.stores) [], rowO 2 1 (.slice A12 p.pits.length c12) p.pits.length (ints_ p.pits) [], boxO b10 [.int .i64 r.pits, .int .i64 r.seeds, .bool r.stores, .bool r.skip, .bool r.relay, .bool r.feed, .bool r.again, .int .i64 r.capture, .int .i64 r.slam, .slice none 0 0] 85] ++ U [] ∧ (p.pits.length ≤ c12) ∧ (c12 ≤ 9223372036854775807) ∧ (p.stores.length ≤ c13) ∧ (c13 ≤ 9223372036854775807) ∧ (([] : List Int).length ≤ c14) ∧ (c14 ≤ 9223372036854775807)) ?_ ?_
 ·
  refine zdr [] ?_
  refine JH.q 0 rfl (L9 2 rfl rfl) ?_
  refine JH.p 1 rfl (q_bld) ?_
  refine JH.q 3 rfl (L9 2 rfl rfl) ?_
  refine JH.q 4 rfl (L9 1 rfl rfl) ?_
  refine y2 2 5 ?_ ?_
  ·
   refine yb rfl rfl fun b21 => ?_
   refine y1 5 ?_
   refine ycs rfl rfl (fun w hw => c_impl_newSowing r p (ok_ hw) (ok_ hw)) ?_
   intro b22 A23 c23 bl23 bh23 A24 c24 bl24 bh24 A25 c25 bl25 bh25
   refine jA 6 rfl rfl ?_
   refine jA 7 rfl rfl ?_
   refine yd ?_
   exact zm ⟨_, _, _, _, _, _, _, _, rfl, rfl, zt, zt, zt, zt, zt, zt⟩ (Up.refl _ _)
  refine ycs rfl rfl (fun w hw => c_impl_newSowing r p (ok_ hw) (ok_ hw)) ?_
  intro b26 A27 c27 bl27 bh27 A28 c28 bl28 bh28 A29 c29 bl29 bh29
  refine y1 2 ?_
  refine yb rfl rfl fun b30 => ?_
  refine jA 6 rfl rfl ?_
  refine jA 7 rfl rfl ?_
  refine yd ?_
  refine zh [1, 1, 1, 1, 0, 0, 0, 0] ?_
  exact zm ⟨_, _, _, _, _, _, _, _, rfl, rfl, zt, zt, zt, zt, zt, zt⟩ (Up.refl _ _)
 rintro _ _ u20 ⟨b10, b11, A12, c12, A13, c13, A14, c14, rfl, rfl, f20_0, f20_1, f20_2, f20_3, f20_4, f20_5⟩ x20
 refine zn ?_
 refine zS <| Q9 7 rfl rfl ?_
 refine Qf fh rfl <| Q0 6 rfl rfl rfl <| Qm rfl <| zv rfl (fun w hw => c_impl_Rules_pitOf r p.player move (ok_ hw)) <| Qa rfl <| zJ <| zS <| Qa rfl <| JL.nil <| Js.block ?_
 refine Js.conv (fun w hw => St.nilRowS 46 3 hw) ?_
 refine zl [3, 4, 8, 10, 11] (fun F U l os u m => ∃ (mo : Bool) (frm : Int) (sw : M.Sw) (path : List Int) (out : List M.Fct) (A31_10_9 : Option Addr) (c31_10_9 : Nat) (g31_10_9 : List Nat) (A31_11_10 : Option Addr) (c31_11_10 : Nat) (g31_11_10 : List Nat) (A31_11_11 : Option Addr) (c31_11_11 : Nat) (g31_11_11 : List Nat) (A31_11_14 : Option Addr) (c31_11_14 : Nat) (g31_11_14 : List Nat), l = F [(12, .int .i64 frm), (13, .bool mo)] ∧ os = U [some (rowO 46 3 (.slice A31_10_9 out.length c31_10_9) out.length (fltV vcFact out) g31_10_9), some (boxO b11 [.int .i64 r.pits, .int .i64 r.seeds, .bool r.stores, .bool r.skip, .bool r.relay, .bool r.feed, .bool r.again, .int .i64 r.capture, .int .i64 r.slam, .int .i64 p.player, .slice A31_11_10 sw.pits.length c31_11_10, .slice A31_11_11 sw.stores.length c31_11_11, .int .i64 sw.last, .int .i64 sw.laps, .slice A31_11_14 path.length c31_11_14] 60), some (rowO 2 1 (.slice A31_11_14 path.length c31_11_14) path.length (ints_ path) g31_11_14), some (rowO 2 1 (.slice A31_11_11 sw.stores.length c31_11_11) sw.stores.length (ints_ sw.stores) g31_11_11), some (rowO 2 1 (.slice A31_11_10 sw.pits.length c31_11_10) sw.pits.length (ints_ sw.pits) g31_11_10), some (boxO b10 [.int .i64 r.pits, .int .i64 r.seeds, .bool r.stores, .bool r.skip, .bool r.relay, .bool r.feed, .bool r.again, .int .i64 r.capture, .int .i64 r.slam, .slice A31_10_9 out.length c31_10_9] 85)] ∧ (M.RunI r p (p.player * r.pits + move) frm sw path mo) ∧ (M.FacI r p (p.player * r.pits + move) frm sw path out) ∧ (out.length ≤ c31_10_9) ∧ (c31_10_9 ≤ 9223372036854775807) ∧ (sw.pits.length ≤ c31_11_10) ∧ (c31_11_10 ≤ 9223372036854775807) ∧ (sw.stores.length ≤ c31_11_11) ∧ (c31_11_11 ≤ 9223372036854775807) ∧ (path.length ≤ c31_11_14) ∧ (c31_11_14 ≤ 9223372036854775807) ∧ m = (101 - sw.laps).toNat) ⟨true, p.player * r.pits + move, (M.Sw.mk p.pits p.stores 0 0), [], [], _, _, _, _, _, _, _, _, _, _, _, _, rfl, rfl, by exact M.RunI.zero (by omega) (by omega) hg0 hG0, by exact M.FacI.zero _ _ _, zu, zu, zu, zu, zu, zu, zu, zu, rfl⟩ ?_
 rintro _ _ u31 _ ⟨mo, frm, sw, path, out, A31_10_9, c31_10_9, g31_10_9, A31_11_10, c31_11_10, g31_11_10, A31_11_11, c31_11_11, g31_11_11, A31_11_14, c31_11_14, g31_11_14, rfl, rfl, hR, hF, f31_2, f31_3, f31_4, f31_5, f31_6, f31_7, f31_8, f31_9, rfl⟩ x31
 refine zn ?_
 have l3 := hR.g.lp
 have l4 := hR.g.ls
 obtain ⟨la0, la1⟩ := hR.l0
 have hpl := hR.pl
 have hol := hF.len
 have hpx := hR.g.pit frm
 refine Js.seq <| zS <| Qm rfl <| JL.nil ?_
 refine Js.fact (row_some (i := 4) rfl (by omega)) (fun hf32 => ?_)
 obtain ⟨b32, rfl⟩ := hf32
 refine zi (fun h33 h33' => ?_) fun h33 h33' => ?_
 ·
  have hmo : mo = true := h33
  have hRt : M.RunI r p (p.player * r.pits + move) frm sw path true := by rw [← hmo]; exact hR
  obtain ⟨w1, w2, w3, w4, w5⟩ := hRt.go rfl
  have hR2 := hRt.lap g2 g1 g7 hT
  have hF2 := hF.lap' w4
  obtain ⟨ha9, hb9, hc9, hd9, he9, hf9⟩ := M.lap_keeps r path g2 g1 g7 w2 w3 hR.g
  have hle9 := M.lap_ge r p.player frm sw path w4
  refine Js.skip <| Js.seq <| Js.block <| Js.seq ?_
  refine zdr [] ?_
  refine jM 0 rfl rfl ?_
  refine jN 1 rfl rfl ?_
  refine jF 2 fld_60_2 rfl rfl ?_
  refine jF 3 fld_58_0 rfl rfl ?_
  refine jB 4 1 ty_26 rfl rfl rfl rfl ?_
  refine jM 5 rfl rfl ?_
  refine jI 6 el_26 rfl rfl rfl rfl ?_
  refine JH.q 7 rfl (q_load1 ty_2.h rfl (Mem.row (i := 4) rfl (ints_getI (i := frm) (by omega)))) ?_
  refine jM 8 rfl rfl ?_
  refine jN 9 rfl rfl ?_
  refine jF 10 fld_60_3 rfl rfl ?_
  refine jB 11 1 ty_26 rfl rfl rfl rfl ?_
  refine JH.p 12 rfl (p_len el_26 rfl) ?_
  refine jA 13 rfl rfl ?_
  refine jA 14 rfl rfl ?_
  refine yd ?_
  refine zS <| Qm rfl <| Qm rfl ?_
  refine zhl [1, 3, 2, 1] ?_
  refine zB 4 sp_ rfl (fun w hb hw => c_impl_sowing_lap r p.player sw path frm hb (r5 := hR.g)) ?_
  rintro _ _ G35 ⟨A35s_10, c35s_10, g35s_10, A35s_11, c35s_11, g35s_11, A35s_14, c35s_14, g35s_14, rfl, rfl, bl35_0, bl35_1, bl35_2, bl35_3, bl35_4, bl35_5⟩
  refine znl ?_
  have hl36 : ((((M.lap r p.player frm sw path).2).drop path.length).take (((M.lap r p.player frm sw path).2).length - path.length)).length = ((M.lap r p.player frm sw path).2).length - path.length := by rw [List.length_take, List.length_drop]; omega
  refine Qa rfl <| zG <| Qm rfl <| Qm rfl <| Qm rfl <| Qm rfl <| Qc rfl <| Qf fh rfl <| Q0 0 rfl rfl rfl <| Qm rfl <| Qq (p_slice (lo' := path.length) (hi' := ((M.lap r p.player frm sw path).2).length) (mx' := c35s_14) el_26 rfl rfl ⟨rfl, rfl⟩ ⟨_, rfl, by omega⟩) ?_
  refine zhl [6, 5] ?_
  refine zB 2 sp_ rfl (fun w hb hw => c_impl_teller_lap r out frm (M.getI sw.pits frm) ((((M.lap r p.player frm sw path).2).drop path.length).take (((M.lap r p.player frm sw path).2).length - path.length)) hb (ints_cut (a := path.length) (b := ((M.lap r p.player frm sw path).2).length) (m := c35s_14) (ints_rowok (xs := ((M.lap r p.player frm sw path).2)) (hw.pr (i := 3) rfl)) (by omega) (by omega) (by omega) (by omega))) ?_
  rintro _ _ G37 ⟨A37t_9, c37t_9, g37t_9, rfl, rfl, bl37_0, bl37_1⟩
  refine znl ?_
  refine JL.nil <| Js.blockEnd <| Js.region <| Qm rfl <| Qc rfl <| Qf fh rfl <| Qf fh rfl <| Q0 3 rfl rfl rfl <| Qa rfl <| JL.nil ?_
  refine zd [1, 2, 4, 3, 2, 0, 2, 2, 2] rfl fun u38 x38 => ?_
  exact zag ⟨M.more r (M.lap r p.player frm sw path).1, ((M.lap r p.player frm sw path).1).last, (M.lap r p.player frm sw path).1, (M.lap r p.player frm sw path).2, ((out ++ [M.Fct.mk 1 frm (M.getI sw.pits frm)]) ++ M.addFs [] ((((M.lap r p.player frm sw path).2).drop path.length).take (((M.lap r p.player frm sw path).2).length - path.length))), _, _, _, _, _, _, _, _, _, _, _, _, rfl, rfl, by exact hR2, by exact hF2, zu, zu, zu, zu, zu, zu, zu, zu, rfl⟩ (x31.trans x38) (by omega)
 have hmo : mo = false := by simpa using h33
 have hRf : M.RunI r p (p.player * r.pits + move) frm sw path false := by rw [← hmo]; exact hR
 obtain ⟨e1, e2⟩ := hRf.mv hz
 have hG := hR.g
 rw [e1] at q0 q1
 have hlo := hF.out e2.symm
 have hcl := M.captured_len (s := sw) (player := p.player) q1 g2
 have htl := M.taken_len (s := sw) (player := p.player) q1 g2
 refine zx ?_
 refine Js.seq ?_
 refine zdr [] ?_
 refine JH.q 0 rfl (L9 8 rfl rfl) ?_
 refine jM 1 rfl rfl ?_
 refine jN 2 rfl rfl ?_
 refine jF 3 fld_60_2 rfl rfl ?_
 refine JH.q 4 rfl (L9 1 rfl rfl) ?_
 refine jF 5 fld_28_2 rfl rfl ?_
 refine jB 6 7 ty_2 rfl rfl rfl rfl ?_
 refine y1 7 ?_
 refine yp rfl rfl (fun w hw => c_impl_Rules_captured r sw p.player (ok_ hw) (ok_ hw) (r3 := hG)) ?_
 intro u39 x39 A40 c40 h40 bl40 bh40
 refine jA 8 rfl rfl ?_
 refine yd ?_
 refine Js.seq <| zS <| Qm rfl <| Qz rfl <| Qm rfl <| JL.nil <| Js.block ?_
 refine zl [3, 4, 8, 10, 11, 16, 85, 86] (fun F U l os u m => ∃ (k : Nat) (o2 : List M.Fct) (A41_10_9 : Option Addr) (c41_10_9 : Nat) (g41_10_9 : List Nat), l = F [(87, .int .i64 (k : Int))] ∧ os = U [some (rowO 46 3 (.slice A41_10_9 o2.length c41_10_9) o2.length (fltV vcFact o2) g41_10_9), nO, nO, nO, nO, some (boxO b10 [.int .i64 r.pits, .int .i64 r.seeds, .bool r.stores, .bool r.skip, .bool r.relay, .bool r.feed, .bool r.again, .int .i64 r.capture, .int .i64 r.slam, .slice A41_10_9 o2.length c41_10_9] 85)] ∧ (o2 = out ++ ((M.captured r sw p.player).take k).map (fun x => M.Fct.mk 3 x (M.getI sw.pits x))) ∧ (k ≤ (M.captured r sw p.player).length) ∧ (o2.length ≤ 20000 + k) ∧ (o2.length ≤ c41_10_9) ∧ (c41_10_9 ≤ 9223372036854775807) ∧ m = (M.captured r sw p.player).length - k) ⟨0, out, _, _, _, rfl, rfl, by simp, zt, by omega, zu, zu, rfl⟩ ?_
 rintro _ _ u41 _ ⟨k, o2, A41_10_9, c41_10_9, g41_10_9, rfl, rfl, hO, hk, hol2, f41_3, f41_4, rfl⟩ x41
 refine zn ?_
 refine zS <| Ql rfl rfl <| zJ ?_
 refine zi (fun h42 h42' => ?_) fun h42 h42' => ?_
 ·
  have hk2 : k < (M.captured r sw p.player).length := by have := h42'; omega
  have hx := M.captured_mem q1 (M.nth_mem hk2)
  have hO2 := M.cap_step hO (M.nth_sm hk2)
  obtain ⟨b43, o43, he43, hc43⟩ := ints_elem (Ty.mono _ h40 x41.vis) (i := k) (by omega)
  refine Js.skip <| Js.seq <| Js.block <| zS <| Qq (p_indexAddr el_26 rfl rfl (by omega) (by omega) he43) <| QC hc43 rfl <| Qa rfl <| JL.nil ?_
  refine zdr [16, 19] ?_
  refine jM 0 rfl rfl ?_
  refine jM 1 rfl rfl ?_
  refine jN 2 rfl rfl ?_
  refine jF 3 fld_85_1 rfl rfl ?_
  refine jB 4 5 ty_31 rfl rfl rfl rfl ?_
  refine jM 5 rfl rfl ?_
  refine jM 6 rfl rfl ?_
  refine jN 7 rfl rfl ?_
  refine jF 8 fld_60_2 rfl rfl ?_
  refine jF 9 fld_58_0 rfl rfl ?_
  refine jB 10 1 ty_26 rfl rfl rfl rfl ?_
  refine jM 11 rfl rfl ?_
  refine jI 12 el_26 rfl rfl rfl rfl ?_
  refine JH.q 13 rfl (q_load1 ty_2.h rfl (Mem.row (i := 4) rfl (ints_getI (i := M.nth (M.captured r sw p.player) k) (by omega)))) ?_
  refine JH.p 14 rfl (q_bld) ?_
  refine y1 15 ?_
  refine ybs rfl fun b45 => ?_
  refine y1 16 ?_
  refine JHo.e rfl (e_append (i := 1) (n' := (o2 ++ [(M.Fct.mk 3 (M.nth (M.captured r sw p.player) k) (M.getI sw.pits (M.nth (M.captured r sw p.player) k)))]).length) (vs' := fltV vcFact (o2 ++ [(M.Fct.mk 3 (M.nth (M.captured r sw p.player) k) (M.getI sw.pits (M.nth (M.captured r sw p.player) k)))])) el_31 rfl rfl rfl rfl (src_row (i := 0) und_31 rfl rfl) (by omega) (by omega) ln2_ (by first | rfl | exact fltV_app _ _ _ | exact fltV_snoc _ _ _ | (simp [fltV]; done))) (.inr rfl) ?_
  rintro v47 _ _ ⟨⟨g48, rfl⟩, rfl⟩ _
  refine JH.fact (row_form' (i := 1) rfl) (fun hf49 => ?_)
  obtain ⟨A49, c49, rfl, bl49, bh49⟩ := hf49
  refine znh ?_
  refine jN 17 rfl rfl ?_
  refine jF 18 fld_85_1 rfl rfl ?_
  refine y1 19 ?_
  refine yst rfl rfl rfl ?_
  refine yd ?_
  refine Js.blockEnd <| Js.region <| Qp rfl rfl <| Qm rfl <| JL.nil ?_
  refine zd [1, 1, 1, 1, 1, 1, 1, 1, 1] rfl fun u50 x50 => ?_
  exact zag ⟨k + 1, o2 ++ [(M.Fct.mk 3 (M.nth (M.captured r sw p.player) k) (M.getI sw.pits (M.nth (M.captured r sw p.player) k)))], _, _, _, rfl, rfl, by exact hO2, zt, by simp only [List.length_append, List.length_cons, List.length_nil]; omega, zu, zu, rfl⟩ (x41.trans x50)
 have hO3 := M.capF_all hO (by have := h42'; omega)
 rw [hlo] at hO3
 refine zx ?_
 refine Js.seq <| Js.seq ?_
 refine zdr [] ?_
 refine JH.q 0 rfl (L9 8 rfl rfl) ?_
 refine jM 1 rfl rfl ?_
 refine jN 2 rfl rfl ?_
 refine jF 3 fld_60_2 rfl rfl ?_
 refine JH.q 4 rfl (L9 1 rfl rfl) ?_
 refine jF 5 fld_28_2 rfl rfl ?_
 refine jB 6 7 ty_2 rfl rfl rfl rfl ?_
 refine y1 7 ?_
 refine yp rfl rfl (fun w hw => c_impl_Rules_taken r sw p.player (ok_ hw) (ok_ hw) (r3 := hG)) ?_
 intro u51 x51 A52 c52 h52 bl52 bh52
 refine jA 8 rfl rfl ?_
 refine yd ?_
 refine zS <| Qm rfl <| Qz rfl <| Qe rfl rfl <| Qm rfl <| zg (Gd.t1 rfl rfl rfl) (fun hc => p_move rfl) <| zg (Gd.t1 rfl rfl rfl) (fun hc => p_len el_26 (gh hc rfl)) <| zg (Gd.t1 rfl rfl rfl) (fun hc => p_gtr (gh hc rfl) rfl) <| Qq (p_pickAnd rfl rfl rfl) <| JL.nil ?_
 refine zi (fun h53 h53' => ?_) fun h53 h53' => ?_
 ·
  have hcn : (M.captured r sw p.player) = [] ∧ (M.taken r sw p.player) ≠ [] := (by have h9 := h53; simp only [Bool.and_eq_true, decide_eq_true_eq] at h9; exact ⟨List.length_eq_zero_iff.1 (by have := h9.1; omega), fun e => by rw [e] at h9; simp at h9⟩)
  refine zS <| Qa rfl <| zJ <| zS <| Qm rfl <| Qz rfl <| Qm rfl <| JL.nil <| Js.block ?_
  refine zl [8, 10, 11, 127, 128] (fun F U l os u m => ∃ (k : Nat) (sm : Int), l = F [(20, .int .i64 sm), (129, .int .i64 (k : Int))] ∧ os = U [] ∧ (sm + M.isum (((M.taken r sw p.player).drop k).map (M.getI sw.pits)) = M.isum ((M.taken r sw p.player).map (M.getI sw.pits))) ∧ (k ≤ (M.taken r sw p.player).length) ∧ (0 ≤ sm) ∧ (sm ≤ 96 * k) ∧ m = (M.taken r sw p.player).length - k) ⟨0, 0, rfl, rfl, by simp, zt, zt, zt, rfl⟩ ?_
  rintro _ _ u54 _ ⟨k, sm, rfl, rfl, hS, hk, t0, t1, rfl⟩ x54
  refine zn ?_
  refine zS <| Ql rfl rfl <| zJ ?_
  refine zi (fun h55 h55' => ?_) fun h55 h55' => ?_
  ·
   have hk2 : k < (M.taken r sw p.player).length := by have := h55'; omega
   have hx := M.taken_mem q1 (M.nth_mem hk2)
   have hv := hG.pit (M.nth (M.taken r sw p.player) k)
   have hS2 := hS
   rw [M.drop_nth hk2, List.map_cons, M.isum_cons, ← Int.add_assoc] at hS2
   obtain ⟨b56, o56, he56, hc56⟩ := ints_elem (Ty.mono _ h52 x54.vis) (i := k) (by omega)
   refine Js.skip <| Js.seq <| Js.block <| zS <| Qq (p_indexAddr el_26 rfl rfl (by omega) (by omega) he56) <| QC hc56 rfl <| Qa rfl <| zG <| Qm rfl <| Qm rfl <| Qc rfl <| Qf fh rfl <| Qf fh rfl <| Q0 1 rfl rfl rfl ?_
   refine Qm rfl <| Qq (p_indexAddr el_26 rfl rfl (by omega) (by omega) rfl) <| Qw (q_load1 ty_2.h rfl (Mem.row (i := 4) rfl (ints_getI (i := M.nth (M.taken r sw p.player) k) (by omega)))) <| Qp rfl rfl <| Qa rfl <| JL.nil <| Js.blockEnd <| Js.region <| Qp rfl rfl <| Qm rfl <| JL.nil ?_
   exact zag ⟨k + 1, sm + (M.getI sw.pits (M.nth (M.taken r sw p.player) k)), rfl, rfl, by exact hS2, zt, zt, zt, rfl⟩ x54
  have hsm : sm = M.isum ((M.taken r sw p.player).map (M.getI sw.pits)) := by rw [← hS, List.drop_eq_nil_of_le (by have := h55'; omega)]; simp
  have hO4 := M.cap_nil hcn hsm hO3
  have hl62 : (o2 ++ [M.Fct.mk 4 sw.last sm]).length = o2.length + 1 := by simp
  refine zx ?_
  refine zdr [13, 16] ?_
  refine jM 0 rfl rfl ?_
  refine jM 1 rfl rfl ?_
  refine jN 2 rfl rfl ?_
  refine jF 3 fld_85_1 rfl rfl ?_
  refine jB 4 5 ty_31 rfl rfl rfl rfl ?_
  refine jM 5 rfl rfl ?_
  refine jN 6 rfl rfl ?_
  refine jF 7 fld_60_2 rfl rfl ?_
  refine jF 8 fld_58_2 rfl rfl ?_
  refine jB 9 1 ty_2 rfl rfl rfl rfl ?_
  refine jM 10 rfl rfl ?_
  refine JH.p 11 rfl (q_bld) ?_
  refine y1 12 ?_
  refine ybs rfl fun b58 => ?_
  refine y1 13 ?_
  refine JHo.e rfl (e_append (i := 1) (n' := (o2 ++ [(M.Fct.mk 4 sw.last sm)]).length) (vs' := fltV vcFact (o2 ++ [(M.Fct.mk 4 sw.last sm)])) el_31 rfl rfl rfl rfl (src_row (i := 0) und_31 rfl rfl) (by omega) (by omega) ln2_ (by first | rfl | exact fltV_app _ _ _ | exact fltV_snoc _ _ _ | (simp [fltV]; done))) (.inr rfl) ?_
  rintro v60 _ _ ⟨⟨g61, rfl⟩, rfl⟩ _
  refine JH.fact (row_form' (i := 1) rfl) (fun hf62 => ?_)
  obtain ⟨A62, c62, rfl, bl62, bh62⟩ := hf62
  refine znh ?_
  refine jN 14 rfl rfl ?_
  refine jF 15 fld_85_1 rfl rfl ?_
  refine y1 16 ?_
  refine yst rfl rfl rfl ?_
  refine yd ?_
  refine zS <| Qb ?_
  refine za zeh fun b63 => zw 0 rfl rfl rfl ?_
  refine zJ <| zS <| Qf fh rfl <| Q0 8 rfl rfl rfl <| JL.nil ?_
  refine zi (fun h64 h64' => ?_) fun h64 h64' => ?_
  ·
   have hE2 := M.facts_end hm0 e1 hO4 h64
   refine Js.region <| Qf fh rfl <| zw 0 rfl rfl rfl ?_
   refine zJ ?_
   refine zdr [6] ?_
   refine jM 0 rfl rfl ?_
   refine jN 1 rfl rfl ?_
   refine jF 2 fld_85_1 rfl rfl ?_
   refine jB 3 7 ty_31 rfl rfl rfl rfl ?_
   refine JH.q 4 rfl (L9 0 rfl rfl) ?_
   refine y1 5 ?_
   refine ybs rfl fun b65 => ?_
   refine y1 6 ?_
   refine JHo.e rfl (e_append (i := 3) (n' := ((o2 ++ [(M.Fct.mk 4 sw.last sm)]) ++ [(M.Fct.mk 5 0 0)]).length) (vs' := fltV vcFact ((o2 ++ [(M.Fct.mk 4 sw.last sm)]) ++ [(M.Fct.mk 5 0 0)])) el_31 rfl rfl rfl rfl (src_row (i := 0) und_31 rfl rfl) (by omega) (by omega) ln2_ (by first | rfl | exact fltV_app _ _ _ | exact fltV_snoc _ _ _ | (simp [fltV]; done))) (.inr rfl) ?_
   rintro v67 _ _ ⟨⟨g68, rfl⟩, rfl⟩ _
   refine JH.fact (row_form' (i := 3) rfl) (fun hf69 => ?_)
   obtain ⟨A69, c69, rfl, bl69, bh69⟩ := hf69
   refine znh ?_
   refine jA 7 rfl rfl ?_
   refine jA 8 rfl rfl ?_
   refine yd ?_
   have hq0 : ((o2 ++ [(M.Fct.mk 4 sw.last sm)]) ++ [(M.Fct.mk 5 0 0)]) = (M.factsR r p move).1 := by first | (rw [hE, hE2]; rfl) | (rw [hE]; done) | (rw [hE]; rfl)
   have hq1 : 0 = (M.factsR r p move).2 := by first | (rw [hE, hE2]; rfl) | (rw [hE]; done) | (rw [hE]; rfl)
   exact zro ((((((x5.trans x20).trans x31).trans x39).trans x41).trans x51).trans x54) (g := by exact (gv_tup (gvc (gv_flat lFact (xs := ((o2 ++ [(M.Fct.mk 4 sw.last sm)]) ++ [(M.Fct.mk 5 0 0)])) po_ (by first | rfl | (simp [fltV]; done)) (by first | with_reducible rfl | assumption | rfl)) (gvc gv_ gvn))))
  have hE2 := M.facts_end hm0 e1 hO4 h64
  refine Js.skip <| Js.seq ?_
  refine zdr [6] ?_
  refine jM 0 rfl rfl ?_
  refine jN 1 rfl rfl ?_
  refine jF 2 fld_85_1 rfl rfl ?_
  refine jB 3 7 ty_31 rfl rfl rfl rfl ?_
  refine JH.q 4 rfl (L9 0 rfl rfl) ?_
  refine y1 5 ?_
  refine ybs rfl fun b70 => ?_
  refine y1 6 ?_
  refine JHo.e rfl (e_append (i := 3) (n' := ((o2 ++ [(M.Fct.mk 4 sw.last sm)]) ++ [(M.Fct.mk 6 0 0)]).length) (vs' := fltV vcFact ((o2 ++ [(M.Fct.mk 4 sw.last sm)]) ++ [(M.Fct.mk 6 0 0)])) el_31 rfl rfl rfl rfl (src_row (i := 0) und_31 rfl rfl) (by omega) (by omega) ln2_ (by first | rfl | exact fltV_app _ _ _ | exact fltV_snoc _ _ _ | (simp [fltV]; done))) (.inr rfl) ?_
  rintro v72 _ _ ⟨⟨g73, rfl⟩, rfl⟩ _
  refine JH.fact (row_form' (i := 3) rfl) (fun hf74 => ?_)
  obtain ⟨A74, c74, rfl, bl74, bh74⟩ := hf74
  refine znh ?_
  refine jA 7 rfl rfl ?_
  refine jA 8 rfl rfl ?_
  refine yd ?_
  have hq0 : ((o2 ++ [(M.Fct.mk 4 sw.last sm)]) ++ [(M.Fct.mk 6 0 0)]) = (M.factsR r p move).1 := by first | (rw [hE, hE2]; rfl) | (rw [hE]; done) | (rw [hE]; rfl)
  have hq1 : 0 = (M.factsR r p move).2 := by first | (rw [hE, hE2]; rfl) | (rw [hE]; done) | (rw [hE]; rfl)
  exact zro ((((((x5.trans x20).trans x31).trans x39).trans x41).trans x51).trans x54) (g := by exact (gv_tup (gvc (gv_flat lFact (xs := ((o2 ++ [(M.Fct.mk 4 sw.last sm)]) ++ [(M.Fct.mk 6 0 0)])) po_ (by first | rfl | (simp [fltV]; done)) (by first | with_reducible rfl | assumption | rfl)) (gvc gv_ gvn))))
 have hcn : ¬ ((M.captured r sw p.player) = [] ∧ (M.taken r sw p.player) ≠ []) := (by have h9 := h53; rintro ⟨e1, e2⟩; have h8 := Bool.eq_false_iff.1 h9; apply h8; simp only [Bool.and_eq_true, decide_eq_true_eq]; refine ⟨by rw [e1]; rfl, ?_⟩; have := List.length_pos_iff.2 e2; omega)
 have hO4 := M.cap_non hcn hO3
 refine Js.skip <| zS <| Qb ?_
 refine za zeh fun b75 => zw 0 rfl rfl rfl ?_
 refine zJ <| zS <| Qf fh rfl <| Q0 7 rfl rfl rfl <| JL.nil ?_
 refine zi (fun h76 h76' => ?_) fun h76 h76' => ?_
 ·
  have hE2 := M.facts_end hm0 e1 hO4 h76
  refine Js.region <| Qf fh rfl <| zw 0 rfl rfl rfl ?_
  refine zJ ?_
  refine zdr [6] ?_
  refine jM 0 rfl rfl ?_
  refine jN 1 rfl rfl ?_
  refine jF 2 fld_85_1 rfl rfl ?_
  refine jB 3 6 ty_31 rfl rfl rfl rfl ?_
  refine JH.q 4 rfl (L9 0 rfl rfl) ?_
  refine y1 5 ?_
  refine ybs rfl fun b77 => ?_
  refine y1 6 ?_
  refine JHo.e rfl (e_append (i := 2) (n' := (o2 ++ [(M.Fct.mk 5 0 0)]).length) (vs' := fltV vcFact (o2 ++ [(M.Fct.mk 5 0 0)])) el_31 rfl rfl rfl rfl (src_row (i := 0) und_31 rfl rfl) (by omega) (by omega) ln2_ (by first | rfl | exact fltV_app _ _ _ | exact fltV_snoc _ _ _ | (simp [fltV]; done))) (.inr rfl) ?_
  rintro v79 _ _ ⟨⟨g80, rfl⟩, rfl⟩ _
  refine JH.fact (row_form' (i := 2) rfl) (fun hf81 => ?_)
  obtain ⟨A81, c81, rfl, bl81, bh81⟩ := hf81
  refine znh ?_
  refine jA 7 rfl rfl ?_
  refine jA 8 rfl rfl ?_
  refine yd ?_
  have hq0 : (o2 ++ [(M.Fct.mk 5 0 0)]) = (M.factsR r p move).1 := by first | (rw [hE, hE2]; rfl) | (rw [hE]; done) | (rw [hE]; rfl)
  have hq1 : 0 = (M.factsR r p move).2 := by first | (rw [hE, hE2]; rfl) | (rw [hE]; done) | (rw [hE]; rfl)
  exact zro (((((x5.trans x20).trans x31).trans x39).trans x41).trans x51) (g := by exact (gv_tup (gvc (gv_flat lFact (xs := (o2 ++ [(M.Fct.mk 5 0 0)])) po_ (by first | rfl | (simp [fltV]; done)) (by first | with_reducible rfl | assumption | rfl)) (gvc gv_ gvn))))
 have hE2 := M.facts_end hm0 e1 hO4 h76
 refine Js.skip <| Js.seq ?_
 refine zdr [6] ?_
 refine jM 0 rfl rfl ?_
 refine jN 1 rfl rfl ?_
 refine jF 2 fld_85_1 rfl rfl ?_
 refine jB 3 6 ty_31 rfl rfl rfl rfl ?_
 refine JH.q 4 rfl (L9 0 rfl rfl) ?_
 refine y1 5 ?_
 refine ybs rfl fun b82 => ?_
 refine y1 6 ?_
 refine JHo.e rfl (e_append (i := 2) (n' := (o2 ++ [(M.Fct.mk 6 0 0)]).length) (vs' := fltV vcFact (o2 ++ [(M.Fct.mk 6 0 0)])) el_31 rfl rfl rfl rfl (src_row (i := 0) und_31 rfl rfl) (by omega) (by omega) ln2_ (by first | rfl | exact fltV_app _ _ _ | exact fltV_snoc _ _ _ | (simp [fltV]; done))) (.inr rfl) ?_
 rintro v84 _ _ ⟨⟨g85, rfl⟩, rfl⟩ _
 refine JH.fact (row_form' (i := 2) rfl) (fun hf86 => ?_)
 obtain ⟨A86, c86, rfl, bl86, bh86⟩ := hf86
 refine znh ?_
 refine jA 7 rfl rfl ?_
 refine jA 8 rfl rfl ?_
 refine yd ?_
 have hq0 : (o2 ++ [(M.Fct.mk 6 0 0)]) = (M.factsR r p move).1 := by first | (rw [hE, hE2]; rfl) | (rw [hE]; done) | (rw [hE]; rfl)
 have hq1 : 0 = (M.factsR r p move).2 := by first | (rw [hE, hE2]; rfl) | (rw [hE]; done) | (rw [hE]; rfl)
 exact zro (((((x5.trans x20).trans x31).trans x39).trans x41).trans x51) (g := by exact (gv_tup (gvc (gv_flat lFact (xs := (o2 ++ [(M.Fct.mk 6 0 0)])) po_ (by first | rfl | (simp [fltV]; done)) (by first | with_reducible rfl | assumption | rfl)) (gvc gv_ gvn))))
theorem c_impl_FactsOf (r : M.Rul) {v_r : Value} (p : M.Pos) {v_p : Value} (move : Int) {w : World} (h_r : (Ty.agg (cRules r)).ok w v_r) (h_p : (Ty.agg (cPosition p)).ok w v_p) (r0 : p.pits.length ≤ 4194304 := by exact om_) (r1 : p.stores.length ≤ 4194304 := by exact om_) : Ret Try.prog 6 [v_r, v_p, .int .i64 move] w (Ty.tup [Ty.sl 46 3 ((M.factsR r p move).1).length (lFact ((M.factsR r p move).1)), Ty.int ((M.factsR r p move).2)]) := by
 revert v_r; apply opn
 revert v_p; apply opn
 intro A1 c1 h1 bl1 bh1 A2 c2 h2 bl2 bh2
 refine enter @Try.func6 @Try.ntmps6 rfl rfl ?_
 refine zent ?_
 refine zS <| zb rfl fun b3 => zb rfl fun b4 => Qa rfl <| Qa rfl <| zN <| Q9 1 rfl rfl ?_
 refine Q9 0 rfl rfl ?_
 refine Qm rfl <| zcs rfl (fun w hw => c_impl_Rules_factsOf r p move (ok_ hw) (ok_ hw)) ?_
 intro A6 c6 bl6 bh6
 refine Qx rfl rfl <| Qx rfl rfl <| Qa rfl <| Qa rfl <| JL.nil ?_
 exact zro (Up.refl _ _) (g := by exact (gv_tup (gvc (gv_flat lFact (xs := ((M.factsR r p move).1)) po_ (by first | rfl | (simp [fltV]; done)) (by first | with_reducible rfl | assumption | rfl)) (gvc gv_ gvn))))
end Go.Proofs.Ytjgohnaobbphpaa

/- Walks: D2. -/
import Derived.Test.YtejnmechnhgmfaaZpTn
import Derived.Test.YtejnmechnhgmfaaZpND1
import Derived.Test.YtejnmechnhgmfaaZpF13
set_option linter.unusedSimpArgs false
set_option linter.unusedVariables false
set_option maxRecDepth 100000
attribute [local irreducible] Go.Proofs.Ytejnmechnhgmfaa.gv
namespace Go.Proofs.Ytejnmechnhgmfaa
open Go.RowKit

set_option maxHeartbeats 2000000 in
theorem c_spec_l02Draw (s_code : Nat) (s_at s_seed : Int) {As_0 : Option Addr} {cs_0 bs : Nat} {w : World} (hb : Bw w [boxO bs [.slice As_0 s_code cs_0, .int .i64 s_at, .int .u64 s_seed] 118]) (hps_0 : (Ty.bytes 5 s_code).ok (offW w (([boxO bs [.slice As_0 s_code cs_0, .int .i64 s_at, .int .u64 s_seed] 118] : List Own).flatMap (·.fp))) (.slice As_0 s_code cs_0)) (r0 : 0 ≤ s_at := by exact om_) (r1 : s_at ≤ 999999960 := by exact om_) (r2 : s_code ≤ 1048576 := by exact om_) : RetB Try.prog 136 [.pointer (some ⟨bs, 0, none⟩)] w [boxO bs [.slice As_0 s_code cs_0, .int .i64 s_at, .int .u64 s_seed] 118] (fun v bs' => ∃ (RX : M.Rul) (AT SD : Int), v = .agg #[.int .i64 RX.pits, .int .i64 RX.seeds, .bool RX.stores, .bool RX.skip, .bool RX.relay, .bool RX.feed, .bool RX.again, .int .i64 RX.capture, .int .i64 RX.slam] ∧ bs' = [boxO bs [.slice As_0 s_code cs_0, .int .i64 AT, .int .u64 SD] 118] ∧ (0 ≤ RX.pits ∧ RX.pits ≤ 8) ∧ (s_at ≤ AT) ∧ (AT ≤ s_at + 40)) := by
 refine enterB hb @Try.func136 @Try.ntmps136 rfl rfl ?_
 refine zent ?_
 refine Js.trashE ?_
 refine zn ?_
 refine zS <| za zeh fun b1 => zJ <| zS <| Qm rfl ?_
 refine zhl [1] ?_
 refine zBB 1 sp_ rfl (fun w hb _ hw => c_spec_l00Src_one s_code s_at s_seed 3 hb (ok_ hw)) ?_
 rintro _ _ G2 ⟨X2BX, X2AT, X2SD, rfl, rfl, hX2_0, hX2_1⟩
 refine znl ?_
 refine JL.nil ?_
 refine zf [0, 1] fun GG3 => ?_
 refine zn ?_
 refine zi (fun h4 h4' => ?_) fun h4 h4' => ?_
 ·
  refine zS <| Qm rfl <| zp rfl (fun w hw => c_spec_StandardNames) ?_
  intro u5 x5 A6 c6 h6 bl6 bh6
  refine zBB 1 sp_ rfl (fun w hb _ hw => c_spec_l00Src_text s_code X2AT X2SD 4 hb (ok_ hw) (ok_ hw)) ?_
  rintro _ _ G7 ⟨X7TX, X7AT, X7SD, rfl, rfl, hX7_0, hX7_1⟩
  refine znl ?_
  refine zp rfl (fun w hw => c_spec_StandardRules X7TX) ?_
  intro u8 x8 X9 hX9 X10 hX10
  refine Qm rfl <| Qx rfl rfl <| Qx rfl rfl <| za zeh fun b11 => zw 0 rfl rfl rfl ?_
  refine Qa rfl <| JL.nil ?_
  refine zf [0, 0, 1] fun GG12 => ?_
  refine zn ?_
  refine zS <| Q9 0 rfl rfl ?_
  refine zw 2 rfl rfl rfl ?_
  refine JL.nil ?_
  refine zf [1, 1] fun GG13 => ?_
  refine zn ?_
  refine zrb [0] hb (x5.trans x8) ?_
  refine ⟨(X9), (X7AT), (X7SD), rfl, ?_, by first | trivial | omega | decide | (dsimp only; omega), by first | trivial | omega | decide | (dsimp only; omega), by first | trivial | omega | decide | (dsimp only; omega)⟩
  · rfl
 refine Js.skip <| zS <| Qm rfl <| zBB 1 sp_ rfl (fun w hb _ hw => c_spec_l00Src_pick s_code X2AT X2SD 4 hb (ok_ hw)) ?_
 rintro _ _ G14 ⟨X14KX, X14AT, X14SD, rfl, rfl, hX14_0, hX14_1, hX14_2, hX14_3⟩
 refine znl ?_
 refine Qp rfl rfl <| Qm rfl <| zBB 1 sp_ rfl (fun w hb _ hw => c_spec_l00Src_pick s_code X14AT X14SD 4 hb (ok_ hw)) ?_
 rintro _ _ G15 ⟨X15KX, X15AT, X15SD, rfl, rfl, hX15_0, hX15_1, hX15_2, hX15_3⟩
 refine znl ?_
 refine Qp rfl rfl <| Qb ?_
 refine za zeh fun b16 => zw 0 rfl rfl rfl ?_
 refine JL.nil ?_
 refine zf [0, 0, 2] fun GG17 => ?_
 refine zn ?_
 refine zS <| Qm rfl ?_
 refine zhl [1] ?_
 refine zBB 1 sp_ rfl (fun w hb _ hw => c_spec_l00Src_one s_code X15AT X15SD 2 hb (ok_ hw)) ?_
 rintro _ _ G18 ⟨X18BX, X18AT, X18SD, rfl, rfl, hX18_0, hX18_1⟩
 refine znl ?_
 refine Qf fh rfl <| zw 2 rfl rfl rfl ?_
 refine JL.nil ?_
 refine zf [0, 1, 1] fun GG19 => ?_
 refine zn ?_
 refine zS <| Qm rfl <| zBB 1 sp_ rfl (fun w hb _ hw => c_spec_l00Src_one s_code X18AT X18SD 2 hb (ok_ hw)) ?_
 rintro _ _ G20 ⟨X20BX, X20AT, X20SD, rfl, rfl, hX20_0, hX20_1⟩
 refine znl ?_
 refine Qf fh rfl <| zw 2 rfl rfl rfl ?_
 refine JL.nil ?_
 refine zf [0, 1, 1] fun GG21 => ?_
 refine zn ?_
 refine zS <| Qm rfl <| zBB 1 sp_ rfl (fun w hb _ hw => c_spec_l00Src_one s_code X20AT X20SD 4 hb (ok_ hw)) ?_
 rintro _ _ G22 ⟨X22BX, X22AT, X22SD, rfl, rfl, hX22_0, hX22_1⟩
 refine znl ?_
 refine Qf fh rfl <| zw 2 rfl rfl rfl ?_
 refine JL.nil ?_
 refine zf [0, 1, 1] fun GG23 => ?_
 refine zn ?_
 refine zS <| Qm rfl <| zBB 1 sp_ rfl (fun w hb _ hw => c_spec_l00Src_one s_code X22AT X22SD 2 hb (ok_ hw)) ?_
 rintro _ _ G24 ⟨X24BX, X24AT, X24SD, rfl, rfl, hX24_0, hX24_1⟩
 refine znl ?_
 refine Qf fh rfl <| zw 2 rfl rfl rfl ?_
 refine JL.nil ?_
 refine zf [0, 1, 1] fun GG25 => ?_
 refine zn ?_
 refine Js.seq ?_
 rcases Bool.eq_false_or_eq_true (X18BX) with h26 | h26
 ·
  refine Js.region <| Qf fh rfl <| Q0 1 rfl rfl rfl <| Qm rfl <| zT (Gd.t1 rfl rfl rfl) (show X18BX = true by simp [h26]) <| Qm rfl <| zT (Gd.t1 rfl rfl rfl) (show X18BX = true by simp [h26]) <| zBB 1 sp_ rfl (fun w hb _ hw => c_spec_l00Src_one s_code X24AT X24SD 2 hb (ok_ hw)) ?_
  rintro _ _ G27 ⟨X27BX, X27AT, X27SD, rfl, rfl, hX27_0, hX27_1⟩
  refine znl ?_
  refine Qq (p_pickAnd2 rfl rfl rfl) <| Qf fh rfl <| zw 2 rfl rfl rfl ?_
  refine JL.nil ?_
  refine zf [0, 1, 1] fun GG28 => ?_
  refine zn ?_
  refine zS <| Qm rfl <| zBB 1 sp_ rfl (fun w hb _ hw => c_spec_l00Src_pick s_code X27AT X27SD 4 hb (ok_ hw)) ?_
  rintro _ _ G29 ⟨X29KX, X29AT, X29SD, rfl, rfl, hX29_0, hX29_1, hX29_2, hX29_3⟩
  refine znl ?_
  refine Qf fh rfl <| zw 2 rfl rfl rfl ?_
  refine JL.nil ?_
  refine zf [0, 1, 1] fun GG30 => ?_
  refine zn ?_
  refine zS <| Qm rfl <| zBB 1 sp_ rfl (fun w hb _ hw => c_spec_l00Src_pick s_code X29AT X29SD 3 hb (ok_ hw)) ?_
  rintro _ _ G31 ⟨X31KX, X31AT, X31SD, rfl, rfl, hX31_0, hX31_1, hX31_2, hX31_3⟩
  refine znl ?_
  refine Qf fh rfl <| zw 2 rfl rfl rfl ?_
  refine JL.nil ?_
  refine zf [0, 1, 1] fun GG32 => ?_
  refine zn ?_
  refine zS <| Q9 1 rfl rfl ?_
  refine zw 2 rfl rfl rfl ?_
  refine JL.nil ?_
  refine zf [0, 1] fun GG33 => ?_
  refine zn ?_
  refine zrb [0] hb (Up.refl _ _) ?_
  refine ⟨((M.Rul.mk (2 + X14KX) (1 + X15KX) X18BX X20BX X22BX X24BX (X18BX && X27BX) X29KX X31KX)), (X31AT), (X31SD), rfl, ?_, by first | trivial | omega | decide | (dsimp only; omega), by first | trivial | omega | decide | (dsimp only; omega), by first | trivial | omega | decide | (dsimp only; omega)⟩
  · rfl
 refine Js.region <| Qf fh rfl <| Q0 1 rfl rfl rfl <| Qm rfl ?_
 refine JL.g (v := undef) (Gd.t1 rfl rfl rfl) (fun hc => absurd hc (by simp [h26])) ?_
 refine JL.g (v := .bool false) (Gd.t1 rfl rfl rfl) (fun hc => absurd hc (by simp [h26])) ?_
 refine Qq (p_pickAnd rfl rfl rfl) <| Qf fh rfl <| zw 1 rfl rfl rfl ?_
 refine zN <| Qm rfl <| zBB 1 sp_ rfl (fun w hb _ hw => c_spec_l00Src_pick s_code X24AT X24SD 4 hb (ok_ hw)) ?_
 rintro _ _ G34 ⟨X34KX, X34AT, X34SD, rfl, rfl, hX34_0, hX34_1, hX34_2, hX34_3⟩
 refine znl ?_
 refine Qf fh rfl <| zw 2 rfl rfl rfl ?_
 refine JL.nil ?_
 refine zf [0, 1, 1] fun GG35 => ?_
 refine zn ?_
 refine zS <| Qm rfl <| zBB 1 sp_ rfl (fun w hb _ hw => c_spec_l00Src_pick s_code X34AT X34SD 3 hb (ok_ hw)) ?_
 rintro _ _ G36 ⟨X36KX, X36AT, X36SD, rfl, rfl, hX36_0, hX36_1, hX36_2, hX36_3⟩
 refine znl ?_
 refine Qf fh rfl <| zw 2 rfl rfl rfl ?_
 refine JL.nil ?_
 refine zf [0, 1, 1] fun GG37 => ?_
 refine zn ?_
 refine zS <| Q9 1 rfl rfl ?_
 refine zw 2 rfl rfl rfl ?_
 refine JL.nil ?_
 refine zf [0, 1] fun GG38 => ?_
 refine zn ?_
 refine zrb [0] hb (Up.refl _ _) ?_
 refine ⟨((M.Rul.mk (2 + X14KX) (1 + X15KX) X18BX X20BX X22BX X24BX (X18BX && false) X34KX X36KX)), (X36AT), (X36SD), rfl, ?_, by first | trivial | omega | decide | (dsimp only; omega), by first | trivial | omega | decide | (dsimp only; omega), by first | trivial | omega | decide | (dsimp only; omega)⟩
 · rfl

set_option maxHeartbeats 1000000 in
theorem c_spec_l04Start (r : M.Rul) {v_r : Value} {w : World} (h_r : (Ty.ref (cRules r)).ok w v_r) (r0 : 0 ≤ r.pits := by exact om_) (r1 : r.pits ≤ 8 := by exact om_) : Ret Try.prog 140 [v_r] w (Ty.agg (cPosition (M.startP r))) := by
 revert v_r; apply opn
 intro b1 o1 hr1
 refine enter @Try.func140 @Try.ntmps140 rfl rfl ?_
 refine zent ?_
 refine zS <| za zeh fun b2 => zN <| zbs fun b3 => ?_
 refine Qb ?_
 refine za zeh fun b5 => zw 0 rfl rfl rfl ?_
 refine zJ <| zS <| Qa rfl <| JL.nil <| Js.block ?_
 refine Js.conv (fun w hw => St.nilRow 2 hw) ?_
 refine zl [0, 2, 3] (fun F U l os u m => ∃ (k : Nat) (xs : List Int) (A6_3_0 : Option Addr) (c6_3_0 : Nat) (g6_3_0 : List Nat), l = F [(4, .int .i64 (k : Int))] ∧ os = U [some (rowO 2 1 (.slice A6_3_0 xs.length c6_3_0) xs.length (ints_ xs) g6_3_0), some (boxO b5 [.slice A6_3_0 xs.length c6_3_0, .slice (some ⟨b3, 0, none⟩) 2 2, .int .i64 0] 33)] ∧ (xs = List.replicate k r.seeds) ∧ ((k : Int) ≤ 2 * r.pits) ∧ (xs.length = k) ∧ (xs.length ≤ c6_3_0) ∧ (c6_3_0 ≤ 9223372036854775807) ∧ m = (2 * r.pits - k).toNat) ⟨0, [], _, _, _, rfl, rfl, by rfl, zt, by rfl, zu, zu, rfl⟩ ?_
 rintro _ _ u6 _ ⟨k, xs, A6_3_0, c6_3_0, g6_3_0, rfl, rfl, hX, hk, hl, f6_3, f6_4, rfl⟩ x6
 refine zn ?_
 refine Js.seq <| zS <| Qm rfl <| Qm rfl <| Qc rfl <| Qf fh rfl <| QC ((hr1.vis x6.vis) 0 _ rfl) rfl <| Qu rfl rfl <| Ql rfl rfl <| JL.nil ?_
 refine zi (fun h7 h7' => ?_) fun h7 h7' => ?_
 ·
  refine Js.skip <| Js.seq <| Js.block ?_
  refine zdr [7, 9] ?_
  refine JH.p 0 rfl (p_fieldAddr fld_33_0.h rfl) ?_
  refine JH.q 1 rfl (q_load1 ty_24.h rfl (Mem.box (i := 1) rfl rfl)) ?_
  refine JH.p 2 rfl (p_move rfl) ?_
  refine JH.p 3 rfl (p_nilCheck rfl) ?_
  refine JH.p 4 rfl (p_fieldAddr fld_32_1.h rfl) ?_
  refine JH.w 5 rfl (fun os' u' hv => q_load1 ty_2.h rfl (Mem.pub ((hr1.vis (x6.vis.trans hv)) 1 _ rfl))) ?_
  refine y1 6 ?_
  refine ybs rfl fun b8 => ?_
  refine y1 7 ?_
  refine JHo.e rfl (e_append (i := 1) (n' := (xs ++ [r.seeds]).length) (vs' := ints_ (xs ++ [r.seeds])) el_24 rfl rfl rfl rfl (src_row (i := 0) und_24 rfl rfl) (by omega) (by omega) (by first | omega | (simp only [List.length_append, List.length_cons, List.length_nil] <;> omega)) (by simp [ints_])) (.inr rfl) ?_
  rintro v10 _ _ ⟨⟨g11, rfl⟩, rfl⟩ _
  refine JH.fact (row_form' (i := 1) rfl) (fun hf12 => ?_)
  obtain ⟨A12, c12, rfl, bl12, bh12⟩ := hf12
  refine znh ?_
  refine JH.p 8 rfl (p_fieldAddr fld_33_0.h rfl) ?_
  refine y1 9 ?_
  refine yst rfl rfl rfl ?_
  refine yd ?_
  refine Js.blockEnd <| Js.region <| Qm rfl <| Qp rfl rfl <| Qa rfl <| JL.nil ?_
  refine zd [1, 1, 1, 1] rfl fun u13 x13 => ?_
  exact zag ⟨k + 1, xs ++ [r.seeds], _, _, _, rfl, rfl, by rw [hX]; exact List.replicate_succ'.symm, zt, by simp [hl], zu, zu, rfl⟩ (x6.trans x13)
 have hE : xs = List.replicate (2 * r.pits).toNat r.seeds := by rw [hX]; congr 1; have := h7'; omega
 refine zx ?_
 have hq0 : xs = (M.startP r).pits := by first | rfl | exact hE
 have hq1 : [0, 0] = (M.startP r).stores := by first | rfl | exact hE
 have hq2 : 0 = (M.startP r).player := by first | rfl | exact hE
 refine zS <| Q9 1 rfl rfl ?_
 refine zw 3 rfl rfl rfl ?_
 refine JL.nil ?_
 exact zro x6

set_option maxHeartbeats 2000000 in
theorem c_spec_l04Draw (s_code : Nat) (s_at s_seed : Int) {As_0 : Option Addr} {cs_0 : Nat} (r : M.Rul) {v_r : Value} {bs : Nat} {w : World} (hb : Bw w [boxO bs [.slice As_0 s_code cs_0, .int .i64 s_at, .int .u64 s_seed] 118]) (hps_0 : (Ty.bytes 5 s_code).ok (offW w (([boxO bs [.slice As_0 s_code cs_0, .int .i64 s_at, .int .u64 s_seed] 118] : List Own).flatMap (·.fp))) (.slice As_0 s_code cs_0)) (h_r : (Ty.ref (cRules r)).ok (offW w (([boxO bs [.slice As_0 s_code cs_0, .int .i64 s_at, .int .u64 s_seed] 118] : List Own).flatMap (·.fp))) v_r) (r0 : 0 ≤ s_at := by exact om_) (r1 : s_at ≤ 999999800 := by exact om_) (r2 : s_code ≤ 1048576 := by exact om_) (r3 : 0 ≤ r.pits := by exact om_) (r4 : r.pits ≤ 8 := by exact om_) : RetB Try.prog 141 [.pointer (some ⟨bs, 0, none⟩), v_r] w [boxO bs [.slice As_0 s_code cs_0, .int .i64 s_at, .int .u64 s_seed] 118] (fun v bs' => ∃ (PX : M.Pos) (AT SD : Int) (Axr_0 : Option Addr) (cxr_0 : Nat) (gxr_0 : List Nat) (Axr_1 : Option Addr) (cxr_1 : Nat) (gxr_1 : List Nat), v = .agg #[.slice Axr_0 PX.pits.length cxr_0, .slice Axr_1 PX.stores.length cxr_1, .int .i64 PX.player] ∧ bs' = [boxO bs [.slice As_0 s_code cs_0, .int .i64 AT, .int .u64 SD] 118, rowO 2 1 (.slice Axr_0 PX.pits.length cxr_0) PX.pits.length (ints_ PX.pits) gxr_0, rowO 2 1 (.slice Axr_1 PX.stores.length cxr_1) PX.stores.length (ints_ PX.stores) gxr_1] ∧ PX.pits.length ≤ cxr_0 ∧ cxr_0 ≤ 9223372036854775807 ∧ PX.stores.length ≤ cxr_1 ∧ cxr_1 ≤ 9223372036854775807 ∧ (PX.pits.length = (2 * r.pits).toNat ∧ PX.stores.length = 2) ∧ (s_at ≤ AT) ∧ (AT ≤ s_at + 200)) := by
 have hl0 : (M.startP r).pits.length = (2 * r.pits).toNat := by simp [M.startP]
 have hl1 : (M.startP r).stores.length = 2 := rfl
 revert v_r; apply opn
 intro b1 o1 hr1
 refine enterB hb @Try.func141 @Try.ntmps141 rfl rfl ?_
 refine zent ?_
 refine Js.trashE ?_
 refine zn ?_
 refine zS <| za zeh fun b2 => zN <| Qm rfl <| zc rfl (fun w hw => c_spec_l04Start r (ok_ hw)) ?_
 intro A4 c4 bl4 bh4 A5 c5 bl5 bh5
 refine za zeh fun b6 => zw 0 rfl rfl rfl ?_
 refine zN <| Qm rfl ?_
 refine zhl [4] ?_
 refine zBB 1 sp_ rfl (fun w hb _ hw => c_spec_l00Src_one s_code s_at s_seed 2 hb (ok_ hw)) ?_
 rintro _ _ G7 ⟨X7BX, X7AT, X7SD, rfl, rfl, hX7_0, hX7_1⟩
 refine znl ?_
 refine Qa rfl <| JL.nil ?_
 refine zf [0, 1, 1, 1, 1] fun GG8 => ?_
 refine zn ?_
 refine Js.seq <| zS <| Qa rfl <| JL.nil <| Js.block ?_
 refine zl [0, 1, 4, 5, 6] (fun F U l os u m => ∃ (k : Nat) (at1 sd1 : Int) (xs : List Int) (G9_5 : List Nat), l = F [(7, .int .i64 (k : Int))] ∧ os = U [some (boxO bs [.slice As_0 s_code cs_0, .int .i64 at1, .int .u64 sd1] 118), nO, nO, some (rowO 2 1 (.slice A4 (((M.startP r).pits).length) c4) (((M.startP r).pits).length) (ints_ xs) []), nO, some (anyO G9_5)] ∧ (xs.length = (M.startP r).pits.length) ∧ (k ≤ xs.length) ∧ (s_at ≤ at1) ∧ (at1 ≤ s_at + 4 + 4 * k) ∧ m = xs.length - k) ⟨0, X7AT, X7SD, (M.startP r).pits, _, rfl, rfl, by rfl, zt, zt, zt, rfl⟩ ?_
 rintro _ _ u9 _ ⟨k, at1, sd1, xs, G9_5, rfl, rfl, hX, hk, ha0, ha1, rfl⟩ x9
 refine zn ?_
 refine Js.seq <| zS <| Qm rfl <| Qf fh rfl <| Q0 1 rfl rfl rfl <| Qz rfl <| Ql rfl rfl <| JL.nil ?_
 refine zi (fun h10 h10' => ?_) fun h10 h10' => ?_
 ·
  refine Js.skip <| Js.seq <| Js.block <| Js.seq ?_
  refine Js.fact (row_some (i := 3) rfl (by omega)) (fun hf11 => ?_)
  obtain ⟨b11, rfl⟩ := hf11
  refine zk [0, 1, 4, 5, 6, 7] (fun F U l os u => ∃ (G12 : List Nat) (X12AT X12SD X12KX : Int), l = F [] ∧ os = [anyO G12] ++ U [some (boxO bs [.slice As_0 s_code cs_0, .int .i64 X12AT, .int .u64 X12SD] 118), nO, nO, some (rowO 2 1 (.slice (some ⟨b11, 0, none⟩) (((M.startP r).pits).length) c4) (((M.startP r).pits).length) (ints_ (xs.set k X12KX)) [])] ∧ (at1 ≤ X12AT) ∧ (X12AT ≤ at1 + 2) ∧ (0 ≤ X12KX) ∧ (X12KX = 0 ∨ X12KX < 6)) ?_ ?_
  ·
   refine zdr [4, 6] ?_
   refine JH.p 0 rfl (p_fieldAddr fld_33_0.h rfl) ?_
   refine JH.p 2 rfl (p_move rfl) ?_
   refine JH.p 3 rfl (p_move rfl) ?_
   refine y2 1 4 ?_ ?_
   ·
    refine JHo.q rfl (q_load1 ty_24.h rfl (Mem.box (i := 1) rfl rfl)) ?_
    refine y1 4 ?_
    refine yBB 1 sp_ rfl rfl (fun w hb _ hw => c_spec_l00Src_pick s_code at1 sd1 6 hb (ok_ hw)) ?_
    rintro _ _ G17 ⟨X17KX, X17AT, X17SD, rfl, rfl, hX17_0, hX17_1, hX17_2, hX17_3⟩
    refine znh ?_
    refine JH.p 5 rfl (p_indexAddr el_24 rfl rfl (by omega) (by omega) rfl) ?_
    refine y1 6 ?_
    refine JHo.s rfl (e_storeRow (i := 4) (xs' := ints_ (xs.set k X17KX)) ty_2.h rfl rfl rfl rfl rfl rfl (ints_lt (i := k) (by omega)) (ints_setL (i := k) (by omega))) (.inr rfl) ?_
    rintro _ _ _ ⟨rfl, rfl⟩ _
    refine znh ?_
    refine yd ?_
    refine zh [1, 0, 0, 0, 0, 0, 0] ?_
    exact zm ⟨_, _, _, _, rfl, rfl, zt, zt, zt, zt⟩ (Up.refl _ _)
   refine yBB 1 sp_ rfl rfl (fun w hb _ hw => c_spec_l00Src_pick s_code at1 sd1 6 hb (ok_ hw)) ?_
   rintro _ _ G19 ⟨X19KX, X19AT, X19SD, rfl, rfl, hX19_0, hX19_1, hX19_2, hX19_3⟩
   refine znh ?_
   refine y1 1 ?_
   refine JHo.q rfl (q_load1 ty_24.h rfl (Mem.box (i := 2) rfl rfl)) ?_
   refine JH.p 5 rfl (p_indexAddr el_24 rfl rfl (by omega) (by omega) rfl) ?_
   refine y1 6 ?_
   refine JHo.s rfl (e_storeRow (i := 4) (xs' := ints_ (xs.set k X19KX)) ty_2.h rfl rfl rfl rfl rfl rfl (ints_lt (i := k) (by omega)) (ints_setL (i := k) (by omega))) (.inr rfl) ?_
   rintro _ _ _ ⟨rfl, rfl⟩ _
   refine znh ?_
   refine yd ?_
   refine zh [1, 0, 0, 0, 0, 0, 0] ?_
   exact zm ⟨_, _, _, _, rfl, rfl, zt, zt, zt, zt⟩ (Up.refl _ _)
  rintro _ _ u16 ⟨G12, X12AT, X12SD, X12KX, rfl, rfl, f16_0, f16_1, f16_2, f16_3⟩ x16
  refine zn ?_
  refine zf [1, 1, 1, 1, 1] fun GG21 => ?_
  refine zn ?_
  refine Js.seq ?_
  rcases Bool.eq_false_or_eq_true (X7BX) with h22 | h22
  ·
   refine Js.region <| Qm rfl <| Qm rfl <| zT (Gd.t1 rfl rfl rfl) (show X7BX = true by simp [h22]) <| Qm rfl <| zT (Gd.t1 rfl rfl rfl) (show X7BX = true by simp [h22]) <| zBB 1 sp_ rfl (fun w hb _ hw => c_spec_l00Src_one s_code X12AT X12SD 3 hb (ok_ hw)) ?_
   rintro _ _ G23 ⟨X23BX, X23AT, X23SD, rfl, rfl, hX23_0, hX23_1⟩
   refine znl ?_
   refine zT (Gd.t1 rfl rfl rfl) (show X7BX = true by simp [h22]) <| Qt rfl <| Qq (p_pickAnd2 rfl rfl rfl) <| JL.nil ?_
   refine zf [0, 1, 1, 1, 1] fun GG24 => ?_
   refine zn ?_
   refine zi (fun h25 h25' => ?_) fun h25 h25' => ?_
   ·
    refine Js.region <| Qf fh rfl <| Q0 1 rfl rfl rfl <| Qm rfl <| Qq (p_indexAddr el_24 rfl rfl (by omega) (by omega) rfl) ?_
    refine JL.s (e_storeRow (i := 3) (xs' := ints_ ((xs.set k X12KX).set k 0)) ty_2.h rfl rfl rfl rfl rfl rfl (ints_lt (i := k) (by simp only [List.length_set]; omega)) (ints_setL (i := k) (by simp only [List.length_set]; omega))) ?_
    rintro _ _ _ ⟨rfl, rfl⟩ _
    refine znl ?_
    refine JL.nil <| Js.blockEnd <| Js.region <| Qm rfl <| Qp rfl rfl <| Qa rfl <| JL.nil ?_
    exact zag ⟨k + 1, X23AT, X23SD, (xs.set k X12KX).set k 0, _, rfl, rfl, by simp only [List.length_set]; exact hX, by simp only [List.length_set]; omega, zt, zt, rfl⟩ (x9.trans x16) (by simp only [List.length_set]; omega)
   refine Js.skip <| Js.blockEnd <| Js.region <| Qm rfl <| Qp rfl rfl <| Qa rfl <| JL.nil ?_
   exact zag ⟨k + 1, X23AT, X23SD, xs.set k X12KX, _, rfl, rfl, by simp only [List.length_set]; exact hX, by simp only [List.length_set]; omega, zt, zt, rfl⟩ (x9.trans x16) (by simp only [List.length_set]; omega)
  refine Js.region <| Qm rfl <| Qm rfl ?_
  refine JL.g (v := undef) (Gd.t1 rfl rfl rfl) (fun hc => absurd hc (by simp [h22])) ?_
  refine JL.g (v := .bool false) (Gd.t1 rfl rfl rfl) (fun hc => absurd hc (by simp [h22])) ?_
  refine JL.g (v := .bool false) (Gd.t1 rfl rfl rfl) (fun hc => absurd hc (by simp [h22])) ?_
  refine Qq (p_pickAnd rfl rfl rfl) <| JL.nil ?_
  refine zi (fun h27 h27' => ?_) fun h27 h27' => ?_
  ·
   refine Js.region <| Qf fh rfl <| Q0 1 rfl rfl rfl <| Qm rfl <| Qq (p_indexAddr el_24 rfl rfl (by omega) (by omega) rfl) ?_
   refine JL.s (e_storeRow (i := 3) (xs' := ints_ ((xs.set k X12KX).set k 0)) ty_2.h rfl rfl rfl rfl rfl rfl (ints_lt (i := k) (by simp only [List.length_set]; omega)) (ints_setL (i := k) (by simp only [List.length_set]; omega))) ?_
   rintro _ _ _ ⟨rfl, rfl⟩ _
   refine znl ?_
   refine JL.nil <| Js.blockEnd <| Js.region <| Qm rfl <| Qp rfl rfl <| Qa rfl <| JL.nil ?_
   exact zag ⟨k + 1, X12AT, X12SD, (xs.set k X12KX).set k 0, _, rfl, rfl, by simp only [List.length_set]; exact hX, by simp only [List.length_set]; omega, zt, zt, rfl⟩ (x9.trans x16) (by simp only [List.length_set]; omega)
  refine Js.skip <| Js.blockEnd <| Js.region <| Qm rfl <| Qp rfl rfl <| Qa rfl <| JL.nil ?_
  exact zag ⟨k + 1, X12AT, X12SD, xs.set k X12KX, _, rfl, rfl, by simp only [List.length_set]; exact hX, by simp only [List.length_set]; omega, zt, zt, rfl⟩ (x9.trans x16) (by simp only [List.length_set]; omega)
 refine zx ?_
 refine Js.seq <| zS <| Qm rfl <| zBB 1 sp_ rfl (fun w hb _ hw => c_spec_l00Src_one s_code at1 sd1 8 hb (ok_ hw)) ?_
 rintro _ _ G29 ⟨X29BX, X29AT, X29SD, rfl, rfl, hX29_0, hX29_1⟩
 refine znl ?_
 refine JL.nil ?_
 refine zf [0, 1, 1, 1, 1] fun GG30 => ?_
 refine zn ?_
 refine zi (fun h31 h31' => ?_) fun h31 h31' => ?_
 ·
  refine zS <| Qm rfl <| zBB 1 sp_ rfl (fun w hb _ hw => c_spec_l00Src_pick s_code X29AT X29SD 2 hb (ok_ hw)) ?_
  rintro _ _ G32 ⟨X32KX, X32AT, X32SD, rfl, rfl, hX32_0, hX32_1, hX32_2, hX32_3⟩
  refine znl ?_
  refine Qa rfl <| JL.nil ?_
  refine zf [0, 1, 1, 1, 1] fun GG33 => ?_
  refine zn ?_
  have hm9 := M.mul01 (a := X32KX) (n := r.pits) (by omega) (by omega) r3 r4
  obtain ⟨sd9, hsd9⟩ : ∃ x : Int, x = X32KX * r.pits := ⟨_, rfl⟩
  refine zS <| Qm rfl <| Qm rfl <| Qc rfl <| Qf fh rfl <| QC ((hr1.vis x9.vis) 0 _ rfl) rfl <| Qu rfl rfl <| Qa rfl <| JL.nil <| Js.block ?_
  refine zl [0, 1, 4, 5, 8] (fun F U l os u m => ∃ (j : Int) (ys : List Int) (G34_5 : List Nat), l = F [(9, .int .i64 j)] ∧ os = U [nO, nO, nO, some (rowO 2 1 (.slice A4 (((M.startP r).pits).length) c4) (((M.startP r).pits).length) (ints_ ys) []), nO, some (anyO G34_5)] ∧ (ys.length = (M.startP r).pits.length) ∧ (sd9 ≤ j) ∧ (j ≤ sd9 + r.pits) ∧ m = (sd9 + r.pits - j).toNat) ⟨X32KX * r.pits, xs, _, rfl, rfl, zt, zt, zt, rfl⟩ ?_
  rintro _ _ u34 _ ⟨j, ys, G34_5, rfl, rfl, hY, hj0, hj1, rfl⟩ x34
  refine zn ?_
  refine Js.seq <| zS <| Qm rfl <| Qm rfl <| Qp rfl rfl <| Qm rfl <| Qc rfl <| Qf fh rfl <| QC ((hr1.vis (x9.vis.trans x34.vis)) 0 _ rfl) rfl <| Qu rfl rfl <| Ql rfl rfl <| JL.nil ?_
  refine zi (fun h35 h35' => ?_) fun h35 h35' => ?_
  ·
   refine Js.skip <| Js.seq <| Js.block ?_
   refine Js.fact (row_some (i := 3) rfl (by omega)) (fun hf36 => ?_)
   obtain ⟨b36, rfl⟩ := hf36
   refine Js.region <| Qf fh rfl <| Q0 1 rfl rfl rfl <| Qm rfl <| Qq (p_indexAddr el_24 rfl rfl (by omega) (by omega) rfl) ?_
   refine JL.s (e_storeRow (i := 3) (xs' := ints_ (M.setI ys j 0)) ty_2.h rfl rfl rfl rfl rfl rfl (ints_lt (i := j.toNat) (by omega)) (ints_setL (i := j.toNat) (by omega))) ?_
   rintro _ _ _ ⟨rfl, rfl⟩ _
   refine znl ?_
   refine JL.nil <| Js.blockEnd <| Js.region <| Qm rfl <| Qp rfl rfl <| Qa rfl <| JL.nil ?_
   exact zag ⟨j + 1, M.setI ys j 0, _, rfl, rfl, by simp only [M.setI_length, List.length_set]; exact hY, zt, zt, rfl⟩ x34
  refine zx ?_
  refine Js.seq ?_
  refine zk [0, 4, 5] (fun F U l os u => ∃ (G38 : List Nat) (X38AT X38SD : Int) (b40 : Nat) (X38KX : Int), l = F [] ∧ os = [anyO G38] ++ U [some (boxO bs [.slice As_0 s_code cs_0, .int .i64 X38AT, .int .u64 X38SD] 118), some (boxO b6 [.slice A4 (((M.startP r).pits).length) c4, .slice (some ⟨b40, 0, none⟩) (((M.startP r).stores).length) c5, .int .i64 ((M.startP r).player)] 33), some (rowO 2 1 (.slice (some ⟨b40, 0, none⟩) (((M.startP r).stores).length) c5) (((M.startP r).stores).length) (ints_ (((M.startP r).stores).set 0 X38KX)) [])] ∧ (X32AT ≤ X38AT) ∧ (X38AT ≤ X32AT + 2) ∧ (0 ≤ X38KX) ∧ (X38KX = 0 ∨ X38KX < 8)) ?_ ?_
  ·
   refine zdr [3, 5] ?_
   refine JH.p 0 rfl (p_fieldAddr fld_33_1.h rfl) ?_
   refine JH.p 2 rfl (p_move rfl) ?_
   refine y2 1 3 ?_ ?_
   ·
    refine JHo.q rfl (q_load1 ty_24.h rfl (Mem.box (i := 1) rfl rfl)) ?_
    refine y1 3 ?_
    refine yBB 1 sp_ rfl rfl (fun w hb _ hw => c_spec_l00Src_pick s_code X32AT X32SD 8 hb (ok_ hw)) ?_
    rintro _ _ G45 ⟨X45KX, X45AT, X45SD, rfl, rfl, hX45_0, hX45_1, hX45_2, hX45_3⟩
    refine znh ?_
    refine JH.fact (row_some (i := 3) rfl (by omega)) (fun hf47 => ?_)
    obtain ⟨b47, rfl⟩ := hf47
    refine JH.p 4 rfl (p_indexAddr el_24 rfl rfl (by omega) (by omega) rfl) ?_
    refine y1 5 ?_
    refine JHo.s rfl (e_storeRow (i := 3) (xs' := ints_ (((M.startP r).stores).set 0 X45KX)) ty_2.h rfl rfl rfl rfl rfl rfl (ints_lt (i := 0) (by omega)) (ints_setL (i := 0) (by omega))) (.inr rfl) ?_
    rintro _ _ _ ⟨rfl, rfl⟩ _
    refine znh ?_
    refine yd ?_
    refine zh [1, 0, 0, 0, 0, 0, 0] ?_
    exact zm ⟨_, _, _, _, _, rfl, rfl, zt, zt, zt, zt⟩ (Up.refl _ _)
   refine yBB 1 sp_ rfl rfl (fun w hb _ hw => c_spec_l00Src_pick s_code X32AT X32SD 8 hb (ok_ hw)) ?_
   rintro _ _ G48 ⟨X48KX, X48AT, X48SD, rfl, rfl, hX48_0, hX48_1, hX48_2, hX48_3⟩
   refine znh ?_
   refine y1 1 ?_
   refine JHo.q rfl (q_load1 ty_24.h rfl (Mem.box (i := 2) rfl rfl)) ?_
   refine JH.fact (row_some (i := 3) rfl (by omega)) (fun hf50 => ?_)
   obtain ⟨b50, rfl⟩ := hf50
   refine JH.p 4 rfl (p_indexAddr el_24 rfl rfl (by omega) (by omega) rfl) ?_
   refine y1 5 ?_
   refine JHo.s rfl (e_storeRow (i := 3) (xs' := ints_ (((M.startP r).stores).set 0 X48KX)) ty_2.h rfl rfl rfl rfl rfl rfl (ints_lt (i := 0) (by omega)) (ints_setL (i := 0) (by omega))) (.inr rfl) ?_
   rintro _ _ _ ⟨rfl, rfl⟩ _
   refine znh ?_
   refine yd ?_
   refine zh [1, 0, 0, 0, 0, 0, 0] ?_
   exact zm ⟨_, _, _, _, _, rfl, rfl, zt, zt, zt, zt⟩ (Up.refl _ _)
  rintro _ _ u44 ⟨G38, X38AT, X38SD, b40, X38KX, rfl, rfl, f44_0, f44_1, f44_2, f44_3⟩ x44
  refine zn ?_
  refine zf [1, 1, 1, 1, 1] fun GG51 => ?_
  refine zn ?_
  refine Js.seq ?_
  refine zk [0, 4, 5] (fun F U l os u => ∃ (G52 : List Nat) (X52AT X52SD X52KX : Int), l = F [] ∧ os = [anyO G52] ++ U [some (boxO bs [.slice As_0 s_code cs_0, .int .i64 X52AT, .int .u64 X52SD] 118), nO, some (rowO 2 1 (.slice (some ⟨b40, 0, none⟩) (((M.startP r).stores).length) c5) (((M.startP r).stores).length) (ints_ ((((M.startP r).stores).set 0 X38KX).set 1 X52KX)) [])] ∧ (X38AT ≤ X52AT) ∧ (X52AT ≤ X38AT + 2) ∧ (0 ≤ X52KX) ∧ (X52KX = 0 ∨ X52KX < 8)) ?_ ?_
  ·
   refine zdr [3, 5] ?_
   refine JH.p 0 rfl (p_fieldAddr fld_33_1.h rfl) ?_
   refine JH.p 2 rfl (p_move rfl) ?_
   refine y2 1 3 ?_ ?_
   ·
    refine JHo.q rfl (q_load1 ty_24.h rfl (Mem.box (i := 1) rfl rfl)) ?_
    refine y1 3 ?_
    refine yBB 1 sp_ rfl rfl (fun w hb _ hw => c_spec_l00Src_pick s_code X38AT X38SD 8 hb (ok_ hw)) ?_
    rintro _ _ G57 ⟨X57KX, X57AT, X57SD, rfl, rfl, hX57_0, hX57_1, hX57_2, hX57_3⟩
    refine znh ?_
    refine JH.p 4 rfl (p_indexAddr el_24 rfl rfl (by omega) (by omega) rfl) ?_
    refine y1 5 ?_
    refine JHo.s rfl (e_storeRow (i := 3) (xs' := ints_ ((((M.startP r).stores).set 0 X38KX).set 1 X57KX)) ty_2.h rfl rfl rfl rfl rfl rfl (ints_lt (i := 1) (by first | omega | (simp only [List.length_set, M.setI_length]; omega))) (ints_setL (i := 1) (by first | omega | (simp only [List.length_set, M.setI_length]; omega)))) (.inr rfl) ?_
    rintro _ _ _ ⟨rfl, rfl⟩ _
    refine znh ?_
    refine yd ?_
    refine zh [1, 0, 0, 0, 0, 0, 0] ?_
    exact zm ⟨_, _, _, _, rfl, rfl, zt, zt, zt, zt⟩ (Up.refl _ _)
   refine yBB 1 sp_ rfl rfl (fun w hb _ hw => c_spec_l00Src_pick s_code X38AT X38SD 8 hb (ok_ hw)) ?_
   rintro _ _ G59 ⟨X59KX, X59AT, X59SD, rfl, rfl, hX59_0, hX59_1, hX59_2, hX59_3⟩
   refine znh ?_
   refine y1 1 ?_
   refine JHo.q rfl (q_load1 ty_24.h rfl (Mem.box (i := 2) rfl rfl)) ?_
   refine JH.p 4 rfl (p_indexAddr el_24 rfl rfl (by omega) (by omega) rfl) ?_
   refine y1 5 ?_
   refine JHo.s rfl (e_storeRow (i := 3) (xs' := ints_ ((((M.startP r).stores).set 0 X38KX).set 1 X59KX)) ty_2.h rfl rfl rfl rfl rfl rfl (ints_lt (i := 1) (by first | omega | (simp only [List.length_set, M.setI_length]; omega))) (ints_setL (i := 1) (by first | omega | (simp only [List.length_set, M.setI_length]; omega)))) (.inr rfl) ?_
   rintro _ _ _ ⟨rfl, rfl⟩ _
   refine znh ?_
   refine yd ?_
   refine zh [1, 0, 0, 0, 0, 0, 0] ?_
   exact zm ⟨_, _, _, _, rfl, rfl, zt, zt, zt, zt⟩ (Up.refl _ _)
  rintro _ _ u56 ⟨G52, X52AT, X52SD, X52KX, rfl, rfl, f56_0, f56_1, f56_2, f56_3⟩ x56
  refine zn ?_
  refine zf [1, 1, 1, 1, 1] fun GG61 => ?_
  refine zn ?_
  refine zS <| Qm rfl <| zBB 1 sp_ rfl (fun w hb _ hw => c_spec_l00Src_pick s_code X52AT X52SD 2 hb (ok_ hw)) ?_
  rintro _ _ G62 ⟨X62KX, X62AT, X62SD, rfl, rfl, hX62_0, hX62_1, hX62_2, hX62_3⟩
  refine znl ?_
  refine Qf fh rfl <| zw 2 rfl rfl rfl ?_
  refine JL.nil ?_
  refine zf [0, 1, 1, 1, 1] fun GG63 => ?_
  refine zn ?_
  refine zS <| Q9 1 rfl rfl ?_
  refine zw 4 rfl rfl rfl ?_
  refine JL.nil ?_
  refine zf [0, 1, 1, 1] fun GG64 => ?_
  refine zn ?_
  refine zrb [0, 1, 0] hb (((x9.trans x34).trans x44).trans x56) ?_
  have hNr0 : ys.length = ((M.startP r).pits).length := by first | rfl | assumption | omega | (simp only [List.length_set, M.setI_length]; done) | (simp only [List.length_set, M.setI_length]; first | rfl | assumption | omega)
  have hNr1 : ((((M.startP r).stores).set 0 X38KX).set 1 X52KX).length = ((M.startP r).stores).length := by first | rfl | assumption | omega | (simp only [List.length_set, M.setI_length]; done) | (simp only [List.length_set, M.setI_length]; first | rfl | assumption | omega)
  refine ⟨((M.Pos.mk ys ((((M.startP r).stores).set 0 X38KX).set 1 X52KX) X62KX)), (X62AT), (X62SD), A4, c4, [], (some ⟨b40, 0, none⟩), c5, [], (show (.agg #[.slice A4 (((M.startP r).pits).length) c4, .slice (some ⟨b40, 0, none⟩) (((M.startP r).stores).length) c5, .int .i64 X62KX] : Value) = .agg #[.slice A4 ys.length c4, .slice (some ⟨b40, 0, none⟩) ((((M.startP r).stores).set 0 X38KX).set 1 X52KX).length c5, .int .i64 X62KX] by rw [hNr0, hNr1]), ?_, ?_, ?_, ?_, ?_, by first | trivial | omega | decide | (dsimp only; omega), by first | trivial | omega | decide | (dsimp only; omega), by first | trivial | omega | decide | (dsimp only; omega)⟩
  · first | rfl | (dsimp only; rw [hNr0, hNr1]) | (dsimp only; simp only [hNr0, hNr1])
  all_goals (try dsimp only)
  all_goals (first | (rw [hNr0, hNr1]; omega) | omega | (simp only [*]; omega))
 refine Js.skip <| Js.seq ?_
 refine zk [0, 4, 5] (fun F U l os u => ∃ (G65 : List Nat) (X65AT X65SD : Int) (b67 : Nat) (X65KX : Int), l = F [] ∧ os = [anyO G65] ++ U [some (boxO bs [.slice As_0 s_code cs_0, .int .i64 X65AT, .int .u64 X65SD] 118), some (boxO b6 [.slice A4 (((M.startP r).pits).length) c4, .slice (some ⟨b67, 0, none⟩) (((M.startP r).stores).length) c5, .int .i64 ((M.startP r).player)] 33), some (rowO 2 1 (.slice (some ⟨b67, 0, none⟩) (((M.startP r).stores).length) c5) (((M.startP r).stores).length) (ints_ (((M.startP r).stores).set 0 X65KX)) [])] ∧ (X29AT ≤ X65AT) ∧ (X65AT ≤ X29AT + 2) ∧ (0 ≤ X65KX) ∧ (X65KX = 0 ∨ X65KX < 8)) ?_ ?_
 ·
  refine zdr [3, 5] ?_
  refine JH.p 0 rfl (p_fieldAddr fld_33_1.h rfl) ?_
  refine JH.p 2 rfl (p_move rfl) ?_
  refine y2 1 3 ?_ ?_
  ·
   refine JHo.q rfl (q_load1 ty_24.h rfl (Mem.box (i := 1) rfl rfl)) ?_
   refine y1 3 ?_
   refine yBB 1 sp_ rfl rfl (fun w hb _ hw => c_spec_l00Src_pick s_code X29AT X29SD 8 hb (ok_ hw)) ?_
   rintro _ _ G72 ⟨X72KX, X72AT, X72SD, rfl, rfl, hX72_0, hX72_1, hX72_2, hX72_3⟩
   refine znh ?_
   refine JH.fact (row_some (i := 3) rfl (by omega)) (fun hf74 => ?_)
   obtain ⟨b74, rfl⟩ := hf74
   refine JH.p 4 rfl (p_indexAddr el_24 rfl rfl (by omega) (by omega) rfl) ?_
   refine y1 5 ?_
   refine JHo.s rfl (e_storeRow (i := 3) (xs' := ints_ (((M.startP r).stores).set 0 X72KX)) ty_2.h rfl rfl rfl rfl rfl rfl (ints_lt (i := 0) (by omega)) (ints_setL (i := 0) (by omega))) (.inr rfl) ?_
   rintro _ _ _ ⟨rfl, rfl⟩ _
   refine znh ?_
   refine yd ?_
   refine zh [1, 0, 0, 0, 0, 0, 0] ?_
   exact zm ⟨_, _, _, _, _, rfl, rfl, zt, zt, zt, zt⟩ (Up.refl _ _)
  refine yBB 1 sp_ rfl rfl (fun w hb _ hw => c_spec_l00Src_pick s_code X29AT X29SD 8 hb (ok_ hw)) ?_
  rintro _ _ G75 ⟨X75KX, X75AT, X75SD, rfl, rfl, hX75_0, hX75_1, hX75_2, hX75_3⟩
  refine znh ?_
  refine y1 1 ?_
  refine JHo.q rfl (q_load1 ty_24.h rfl (Mem.box (i := 2) rfl rfl)) ?_
  refine JH.fact (row_some (i := 3) rfl (by omega)) (fun hf77 => ?_)
  obtain ⟨b77, rfl⟩ := hf77
  refine JH.p 4 rfl (p_indexAddr el_24 rfl rfl (by omega) (by omega) rfl) ?_
  refine y1 5 ?_
  refine JHo.s rfl (e_storeRow (i := 3) (xs' := ints_ (((M.startP r).stores).set 0 X75KX)) ty_2.h rfl rfl rfl rfl rfl rfl (ints_lt (i := 0) (by omega)) (ints_setL (i := 0) (by omega))) (.inr rfl) ?_
  rintro _ _ _ ⟨rfl, rfl⟩ _
  refine znh ?_
  refine yd ?_
  refine zh [1, 0, 0, 0, 0, 0, 0] ?_
  exact zm ⟨_, _, _, _, _, rfl, rfl, zt, zt, zt, zt⟩ (Up.refl _ _)
 rintro _ _ u71 ⟨G65, X65AT, X65SD, b67, X65KX, rfl, rfl, f71_0, f71_1, f71_2, f71_3⟩ x71
 refine zn ?_
 refine zf [1, 1, 1, 1, 1] fun GG78 => ?_
 refine zn ?_
 refine Js.seq ?_
 refine zk [0, 4, 5] (fun F U l os u => ∃ (G79 : List Nat) (X79AT X79SD X79KX : Int), l = F [] ∧ os = [anyO G79] ++ U [some (boxO bs [.slice As_0 s_code cs_0, .int .i64 X79AT, .int .u64 X79SD] 118), nO, some (rowO 2 1 (.slice (some ⟨b67, 0, none⟩) (((M.startP r).stores).length) c5) (((M.startP r).stores).length) (ints_ ((((M.startP r).stores).set 0 X65KX).set 1 X79KX)) [])] ∧ (X65AT ≤ X79AT) ∧ (X79AT ≤ X65AT + 2) ∧ (0 ≤ X79KX) ∧ (X79KX = 0 ∨ X79KX < 8)) ?_ ?_
 ·
  refine zdr [3, 5] ?_
  refine JH.p 0 rfl (p_fieldAddr fld_33_1.h rfl) ?_
  refine JH.p 2 rfl (p_move rfl) ?_
  refine y2 1 3 ?_ ?_
  ·
   refine JHo.q rfl (q_load1 ty_24.h rfl (Mem.box (i := 1) rfl rfl)) ?_
   refine y1 3 ?_
   refine yBB 1 sp_ rfl rfl (fun w hb _ hw => c_spec_l00Src_pick s_code X65AT X65SD 8 hb (ok_ hw)) ?_
   rintro _ _ G84 ⟨X84KX, X84AT, X84SD, rfl, rfl, hX84_0, hX84_1, hX84_2, hX84_3⟩
   refine znh ?_
   refine JH.p 4 rfl (p_indexAddr el_24 rfl rfl (by omega) (by omega) rfl) ?_
   refine y1 5 ?_
   refine JHo.s rfl (e_storeRow (i := 3) (xs' := ints_ ((((M.startP r).stores).set 0 X65KX).set 1 X84KX)) ty_2.h rfl rfl rfl rfl rfl rfl (ints_lt (i := 1) (by first | omega | (simp only [List.length_set, M.setI_length]; omega))) (ints_setL (i := 1) (by first | omega | (simp only [List.length_set, M.setI_length]; omega)))) (.inr rfl) ?_
   rintro _ _ _ ⟨rfl, rfl⟩ _
   refine znh ?_
   refine yd ?_
   refine zh [1, 0, 0, 0, 0, 0, 0] ?_
   exact zm ⟨_, _, _, _, rfl, rfl, zt, zt, zt, zt⟩ (Up.refl _ _)
  refine yBB 1 sp_ rfl rfl (fun w hb _ hw => c_spec_l00Src_pick s_code X65AT X65SD 8 hb (ok_ hw)) ?_
  rintro _ _ G86 ⟨X86KX, X86AT, X86SD, rfl, rfl, hX86_0, hX86_1, hX86_2, hX86_3⟩
  refine znh ?_
  refine y1 1 ?_
  refine JHo.q rfl (q_load1 ty_24.h rfl (Mem.box (i := 2) rfl rfl)) ?_
  refine JH.p 4 rfl (p_indexAddr el_24 rfl rfl (by omega) (by omega) rfl) ?_
  refine y1 5 ?_
  refine JHo.s rfl (e_storeRow (i := 3) (xs' := ints_ ((((M.startP r).stores).set 0 X65KX).set 1 X86KX)) ty_2.h rfl rfl rfl rfl rfl rfl (ints_lt (i := 1) (by first | omega | (simp only [List.length_set, M.setI_length]; omega))) (ints_setL (i := 1) (by first | omega | (simp only [List.length_set, M.setI_length]; omega)))) (.inr rfl) ?_
  rintro _ _ _ ⟨rfl, rfl⟩ _
  refine znh ?_
  refine yd ?_
  refine zh [1, 0, 0, 0, 0, 0, 0] ?_
  exact zm ⟨_, _, _, _, rfl, rfl, zt, zt, zt, zt⟩ (Up.refl _ _)
 rintro _ _ u83 ⟨G79, X79AT, X79SD, X79KX, rfl, rfl, f83_0, f83_1, f83_2, f83_3⟩ x83
 refine zn ?_
 refine zf [1, 1, 1, 1, 1] fun GG88 => ?_
 refine zn ?_
 refine zS <| Qm rfl <| zBB 1 sp_ rfl (fun w hb _ hw => c_spec_l00Src_pick s_code X79AT X79SD 2 hb (ok_ hw)) ?_
 rintro _ _ G89 ⟨X89KX, X89AT, X89SD, rfl, rfl, hX89_0, hX89_1, hX89_2, hX89_3⟩
 refine znl ?_
 refine Qf fh rfl <| zw 2 rfl rfl rfl ?_
 refine JL.nil ?_
 refine zf [0, 1, 1, 1, 1] fun GG90 => ?_
 refine zn ?_
 refine zS <| Q9 1 rfl rfl ?_
 refine zw 4 rfl rfl rfl ?_
 refine JL.nil ?_
 refine zf [0, 1, 1, 1] fun GG91 => ?_
 refine zn ?_
 refine zrb [0, 1, 0] hb ((x9.trans x71).trans x83) ?_
 have hNr0 : xs.length = ((M.startP r).pits).length := by first | rfl | assumption | omega | (simp only [List.length_set, M.setI_length]; done) | (simp only [List.length_set, M.setI_length]; first | rfl | assumption | omega)
 have hNr1 : ((((M.startP r).stores).set 0 X65KX).set 1 X79KX).length = ((M.startP r).stores).length := by first | rfl | assumption | omega | (simp only [List.length_set, M.setI_length]; done) | (simp only [List.length_set, M.setI_length]; first | rfl | assumption | omega)
 refine ⟨((M.Pos.mk xs ((((M.startP r).stores).set 0 X65KX).set 1 X79KX) X89KX)), (X89AT), (X89SD), A4, c4, [], (some ⟨b67, 0, none⟩), c5, [], (show (.agg #[.slice A4 (((M.startP r).pits).length) c4, .slice (some ⟨b67, 0, none⟩) (((M.startP r).stores).length) c5, .int .i64 X89KX] : Value) = .agg #[.slice A4 xs.length c4, .slice (some ⟨b67, 0, none⟩) ((((M.startP r).stores).set 0 X65KX).set 1 X79KX).length c5, .int .i64 X89KX] by rw [hNr0, hNr1]), ?_, ?_, ?_, ?_, ?_, by first | trivial | omega | decide | (dsimp only; omega), by first | trivial | omega | decide | (dsimp only; omega), by first | trivial | omega | decide | (dsimp only; omega)⟩
 · first | rfl | (dsimp only; rw [hNr0, hNr1]) | (dsimp only; simp only [hNr0, hNr1])
 all_goals (try dsimp only)
 all_goals (first | (rw [hNr0, hNr1]; omega) | omega | (simp only [*]; omega))

set_option maxHeartbeats 1000000 in
theorem c_spec_LegalMoves (r : M.Rul) {v_r : Value} (p : M.Pos) {v_p : Value} {w : World} (h_r : (Ty.agg (cRules r)).ok w v_r) (h_p : (Ty.agg (cPosition p)).ok w v_p) (r0 : p.pits.length ≤ 4194304 := by exact om_) (r1 : p.stores.length ≤ 4194304 := by exact om_) : Ret Try.prog 118 [v_r, v_p] w (Ty.tup [Ty.ints 2 (M.legal r p), Ty.ex (fun (CX : Int) => True) (fun CX => Ty.int CX)]) := by
 revert v_r; apply opn
 revert v_p; apply opn
 intro A1 c1 h1 bl1 bh1 A2 c2 h2 bl2 bh2
 refine enter @Try.func118 @Try.ntmps118 rfl rfl ?_
 refine zent ?_
 refine zS <| zb rfl fun b3 => zb rfl fun b4 => Qa rfl <| Qa rfl <| zJ <| zS <| zv rfl (fun w hw => c_spec_l04Ok r p (ok_ hw) (ok_ hw)) <| Qt rfl <| JL.nil ?_
 refine zi (fun h5 h5' => ?_) fun h5 h5' => ?_
 ·
  have hE := M.legal_no (r := r) (p := p) (by simpa using h5)
  have hq0 : [] = M.legal r p := by first | exact hE | (rw [hE]; done)
  refine zS <| Qa rfl <| Qa rfl <| JL.nil ?_
  exact zro (Up.refl _ _) (g := by exact (gv_tup (gvc gv_ (gvc (gv_ex 1 (by first | trivial | omega | decide | (dsimp only; omega)) gv_) gvn))))
 have hok : M.okP r p = true := by simpa using h5
 have g8 := M.results_8 hok
 refine Js.skip <| zS <| zbs fun b6 => ?_
 refine Qa rfl <| zN <| zp rfl (fun w hw => c_spec_l07All r p (ok_ hw) (ok_ hw) (r0 := hok)) ?_
 intro u8 x8 A9 c9 h9 bl9 bh9
 refine Qa rfl <| zJ <| zS <| Qa rfl <| JL.nil <| Js.block ?_
 refine zl [7] (fun F U l os u m => ∃ (k : Nat) (acc : List Int) (A10_6 : Option Addr) (c10_6 : Nat) (g10_6 : List Nat), l = F [(6, .slice A10_6 acc.length c10_6), (8, .int .i64 (k : Int))] ∧ os = U [some (rowO 2 1 (.slice A10_6 acc.length c10_6) acc.length (ints_ acc) g10_6)] ∧ (acc = ((M.results r p).map (·.move)).take k) ∧ (k ≤ (M.results r p).length) ∧ (acc.length = k) ∧ (acc.length ≤ c10_6) ∧ (c10_6 ≤ 9223372036854775807) ∧ m = (M.results r p).length - k) ⟨0, [], _, _, _, rfl, rfl, by rfl, zt, by rfl, zu, zu, rfl⟩ ?_
 rintro _ _ u10 _ ⟨k, acc, A10_6, c10_6, g10_6, rfl, rfl, hA, hk, hl, f10_3, f10_4, rfl⟩ x10
 refine zn ?_
 refine Js.seq <| zS <| Qm rfl <| Qm rfl <| Qz rfl <| Ql rfl rfl <| JL.nil ?_
 refine zi (fun h11 h11' => ?_) fun h11 h11' => ?_
 ·
  obtain ⟨y12, hy12⟩ : ∃ x, (M.results r p)[k]? = some x := ⟨_, List.getElem?_eq_getElem (by omega)⟩
  obtain ⟨b12, o12, A12_3, c12_3, A12_4, c12_4, he12, hr12, h12_3, h12_4, bl12_3, bh12_3, bl12_4, bh12_4⟩ := elem_Result (Ty.mono _ h9 x10.vis) hy12
  refine Js.skip <| Js.seq <| Js.block <| Js.region <| Qm rfl <| Qm rfl <| Qm rfl <| Qq (p_indexAddr el_74 rfl rfl (by omega) (by omega) he12) <| Qf fh rfl <| QC (hr12 0 _ rfl) rfl <| zbs fun b13 => ?_
  refine JL.e (e_append (i := 1) (n' := (acc ++ [y12.move]).length) (vs' := ints_ (acc ++ [y12.move])) el_24 rfl rfl rfl rfl (src_row (i := 0) und_24 rfl rfl) (by omega) (by omega) (by first | omega | (simp only [List.length_append, List.length_cons, List.length_nil] <;> omega)) (by simp [ints_])) ?_
  rintro v15 _ _ ⟨⟨g16, rfl⟩, rfl⟩ _
  refine JL.fact (row_form' (i := 1) rfl) (fun hf17 => ?_)
  obtain ⟨A17, c17, rfl, bl17, bh17⟩ := hf17
  refine znl ?_
  refine Qa rfl <| JL.nil <| Js.blockEnd <| Js.region <| Qm rfl <| Qp rfl rfl <| Qa rfl <| JL.nil ?_
  refine zd [1, 1, 1] rfl fun u18 x18 => ?_
  exact zag ⟨k + 1, acc ++ [y12.move], _, _, _, rfl, rfl, by rw [hA]; exact (M.moves_step (by assumption)).symm, zt, by simp [hl], zu, zu, rfl⟩ (x10.trans x18)
 have hE : acc = M.legal r p := by rw [hA, M.legal_yes hok, List.take_of_length_le (by rw [List.length_map]; have := h11'; omega)]
 refine zx ?_
 have hq0 : acc = M.legal r p := by first | exact hE | (rw [hE]; done)
 refine zS <| Qm rfl <| Qa rfl <| Qa rfl <| JL.nil ?_
 exact zro (x8.trans x10) (g := by exact (gv_tup (gvc gv_ (gvc (gv_ex 0 (by first | trivial | omega | decide | (dsimp only; omega)) gv_) gvn))))

set_option maxHeartbeats 1000000 in
theorem c_spec_l08Legal (s_code : Nat) (s_at s_seed : Int) {As_0 : Option Addr} {cs_0 : Nat} (g : M.Gam) {v_g : Value} {bs : Nat} {w : World} (hb : Bw w [boxO bs [.slice As_0 s_code cs_0, .int .i64 s_at, .int .u64 s_seed] 118]) (hps_0 : (Ty.bytes 5 s_code).ok (offW w (([boxO bs [.slice As_0 s_code cs_0, .int .i64 s_at, .int .u64 s_seed] 118] : List Own).flatMap (·.fp))) (.slice As_0 s_code cs_0)) (h_g : (Ty.ref (cGame g)).ok (offW w (([boxO bs [.slice As_0 s_code cs_0, .int .i64 s_at, .int .u64 s_seed] 118] : List Own).flatMap (·.fp))) v_g) (r0 : 0 ≤ s_at := by exact om_) (r1 : s_at ≤ 999999998 := by exact om_) (r2 : s_code ≤ 1048576 := by exact om_) (r3 : g.start.pits.length ≤ 4194304 := by exact om_) (r4 : g.start.stores.length ≤ 4194304 := by exact om_) (r5 : g.moves.length ≤ 4194304 := by exact om_) (r6 : g.now.pits.length ≤ 4194304 := by exact om_) (r7 : g.now.stores.length ≤ 4194304 := by exact om_) : RetB Try.prog 95 [.pointer (some ⟨bs, 0, none⟩), v_g] w [boxO bs [.slice As_0 s_code cs_0, .int .i64 s_at, .int .u64 s_seed] 118] (fun v bs' => ∃ (KX AT SD : Int), v = .int .i64 KX ∧ bs' = [boxO bs [.slice As_0 s_code cs_0, .int .i64 AT, .int .u64 SD] 118] ∧ (s_at ≤ AT) ∧ (AT ≤ s_at + 2)) := by
 have hll := M.legal_len g.rules g.now
 revert v_g; apply opn
 intro b6 o6 A1 c1 h1 bl1 bh1 A2 c2 h2 bl2 bh2 A3 c3 h3 bl3 bh3 A4 c4 h4 bl4 bh4 A5 c5 h5 bl5 bh5 hr6
 refine enterB hb @Try.func95 @Try.ntmps95 rfl rfl ?_
 refine zent ?_
 refine Js.trashE ?_
 refine zn ?_
 refine zS <| Qa rfl <| zJ ?_
 refine zdr [] ?_
 refine JH.p 0 rfl (p_move rfl) ?_
 refine JH.p 1 rfl (p_nilCheck rfl) ?_
 refine JH.p 2 rfl (p_fieldAddr fld_35_0.h rfl) ?_
 refine JH.w 3 rfl (fun os' u' hv => LS 0 (hr6.vis hv) rfl) ?_
 refine JH.p 4 rfl (p_move rfl) ?_
 refine JH.p 5 rfl (p_nilCheck rfl) ?_
 refine JH.p 6 rfl (p_fieldAddr fld_35_3.h rfl) ?_
 refine JH.w 7 rfl (fun os' u' hv => LS 13 (hr6.vis hv) rfl) ?_
 refine y1 8 ?_
 refine yp rfl rfl (fun w hw => c_spec_LegalMoves g.rules g.now (ok_ hw) (ok_ hw)) ?_
 intro u7 x7 A8 c8 h8 bl8 bh8 X9 hX9
 refine JH.p 9 rfl (p_move rfl) ?_
 refine JH.p 10 rfl (p_extract rfl rfl) ?_
 refine JH.p 11 rfl (p_extract rfl rfl) ?_
 refine JH.p 12 rfl (p_assign rfl) ?_
 refine JH.p 13 rfl (p_assign rfl) ?_
 refine yd ?_
 refine Js.seq <| zS <| Qm rfl <| Qz rfl <| Qe rfl rfl <| JL.nil ?_
 refine zi (fun h10 h10' => ?_) fun h10 h10' => ?_
 ·
  refine zS <| Qa rfl <| JL.nil ?_
  refine zrb [0] hb x7 ?_
  refine ⟨((-1)), (s_at), (s_seed), rfl, ?_, by first | trivial | omega | decide | (dsimp only; omega), by first | trivial | omega | decide | (dsimp only; omega)⟩
  · rfl
 refine Js.skip <| zS <| Qm rfl <| Qm rfl <| Qm rfl <| Qz rfl <| zBB 1 sp_ rfl (fun w hb _ hw => c_spec_l00Src_pick s_code s_at s_seed (((M.legal g.rules g.now).length) : Int) hb (ok_ hw)) ?_
 rintro _ _ G11 ⟨X11KX, X11AT, X11SD, rfl, rfl, hX11_0, hX11_1, hX11_2, hX11_3⟩
 refine znl ?_
 obtain ⟨b12, o12, he12, hc12⟩ := ints_elem h8 (i := X11KX.toNat) (by omega)
 refine Qq (p_indexAddr el_24 rfl rfl (by omega) (by omega) he12) <| QC hc12 rfl <| Qa rfl <| JL.nil ?_
 refine zrb [0] hb x7 ?_
 refine ⟨(M.nth (M.legal g.rules g.now) X11KX.toNat), (X11AT), (X11SD), rfl, ?_, by first | trivial | omega | decide | (dsimp only; omega), by first | trivial | omega | decide | (dsimp only; omega)⟩
 · rfl

end Go.Proofs.Ytejnmechnhgmfaa

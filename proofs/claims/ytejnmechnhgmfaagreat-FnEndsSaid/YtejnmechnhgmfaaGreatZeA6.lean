/- Walks: D2. -/
import Derived.Test.YtejnmechnhgmfaaGreatZeA2
import Derived.Test.YtejnmechnhgmfaaGreatZeA5
import Derived.Test.YtejnmechnhgmfaaGreatZeA1
import Derived.Test.YtejnmechnhgmfaaGreatZeA3
set_option linter.unusedSimpArgs false
set_option linter.unusedVariables false
set_option maxRecDepth 100000
attribute [local irreducible] Go.Proofs.YtejnmechnhgmfaaGreat.gv
namespace Go.Proofs.YtejnmechnhgmfaaGreat
open Go.RowKit

set_option maxHeartbeats 2000000 in
theorem c_spec_l02Draw (s_code : Nat) (s_at s_seed : Int) {As_0 : Option Addr} {cs_0 bs : Nat} {w : World} (hb : Bw w [boxO bs [.slice As_0 s_code cs_0, .int .i64 s_at, .int .u64 s_seed] 113]) (hps_0 : (Ty.bytes 5 s_code).ok (offW w (([boxO bs [.slice As_0 s_code cs_0, .int .i64 s_at, .int .u64 s_seed] 113] : List Own).flatMap (·.fp))) (.slice As_0 s_code cs_0)) (r0 : 0 ≤ s_at := by exact om_) (r1 : s_at ≤ 999999960 := by exact om_) (r2 : s_code ≤ 1048576 := by exact om_) : RetB Tryz.prog 101 [.pointer (some ⟨bs, 0, none⟩)] w [boxO bs [.slice As_0 s_code cs_0, .int .i64 s_at, .int .u64 s_seed] 113] (fun v bs' => ∃ (RX : M.Rul) (AT SD : Int), v = .agg #[.int .i64 RX.pits, .int .i64 RX.seeds, .bool RX.stores, .bool RX.skip, .bool RX.relay, .bool RX.feed, .bool RX.again, .int .i64 RX.capture, .int .i64 RX.slam] ∧ bs' = [boxO bs [.slice As_0 s_code cs_0, .int .i64 AT, .int .u64 SD] 113] ∧ (2 ≤ RX.pits ∧ RX.pits ≤ 8) ∧ (s_at ≤ AT) ∧ (AT ≤ s_at + 40)) := by
 refine enterB hb @Tryz.func101 @Tryz.ntmps101 rfl rfl ?_
 refine zent ?_
 refine Js.trashE ?_
 refine zn ?_
 refine zS <| za zeh fun b1 => zJ <| zS <| Qm rfl ?_
 refine zhl [1] ?_
 refine zBB 1 sp_ rfl (fun w hb _ hw => c_spec_l00Src_one s_code s_at s_seed 3 hb (ok_ hw)) ?_
 rintro _ _ G2 ⟨X2BX, X2AT, X2SD, rfl, rfl, hX2_0, hX2_1⟩
 refine znl ?_
 refine JL.nil ?_
 refine zf [0, 1] fun GG3 => ?_
 refine zn ?_
 refine zi (fun h4 h4' => ?_) fun h4 h4' => ?_
 ·
  refine zS <| Qm rfl <| zp rfl (fun w hw => c_spec_StandardNames) ?_
  intro u5 x5 A6 c6 h6 bl6 bh6
  refine zBB 1 sp_ rfl (fun w hb _ hw => c_spec_l00Src_text s_code X2AT X2SD M.stdNames hb (ok_ hw) (ok_ hw) (r3 := (by decide)) (r4 := (by decide))) ?_
  rintro _ _ G7 ⟨X7TX, X7AT, X7SD, rfl, rfl, hX7_0, hX7_1, hX7_2⟩
  refine znl ?_
  refine zp rfl (fun w hw => c_spec_StandardRules X7TX (r0 := (by assumption))) ?_
  intro u8 x8 X9 hX9 X10 hX10
  refine Qm rfl <| Qx rfl rfl <| Qx rfl rfl <| za zeh fun b11 => zw 0 rfl rfl rfl ?_
  refine Qa rfl <| JL.nil ?_
  refine zf [0, 0, 1] fun GG12 => ?_
  refine zn ?_
  refine zS <| Q9 0 rfl rfl ?_
  refine zw 2 rfl rfl rfl ?_
  refine JL.nil ?_
  refine zf [1, 1] fun GG13 => ?_
  refine zn ?_
  refine zrb [0] hb (x5.trans x8) ?_
  refine ⟨(X9), (X7AT), (X7SD), rfl, ?_, by first | trivial | omega | decide | (dsimp only; omega), by first | trivial | omega | decide | (dsimp only; omega), by first | trivial | omega | decide | (dsimp only; omega)⟩
  · rfl
 refine Js.skip <| zS <| Qm rfl <| zBB 1 sp_ rfl (fun w hb _ hw => c_spec_l00Src_pick s_code X2AT X2SD 4 hb (ok_ hw)) ?_
 rintro _ _ G14 ⟨X14KX, X14AT, X14SD, rfl, rfl, hX14_0, hX14_1, hX14_2, hX14_3⟩
 refine znl ?_
 refine Qp rfl rfl <| Qm rfl <| zBB 1 sp_ rfl (fun w hb _ hw => c_spec_l00Src_pick s_code X14AT X14SD 4 hb (ok_ hw)) ?_
 rintro _ _ G15 ⟨X15KX, X15AT, X15SD, rfl, rfl, hX15_0, hX15_1, hX15_2, hX15_3⟩
 refine znl ?_
 refine Qp rfl rfl <| Qb ?_
 refine za zeh fun b16 => zw 0 rfl rfl rfl ?_
 refine JL.nil ?_
 refine zf [0, 0, 2] fun GG17 => ?_
 refine zn ?_
 refine zS <| Qm rfl ?_
 refine zhl [1] ?_
 refine zBB 1 sp_ rfl (fun w hb _ hw => c_spec_l00Src_one s_code X15AT X15SD 2 hb (ok_ hw)) ?_
 rintro _ _ G18 ⟨X18BX, X18AT, X18SD, rfl, rfl, hX18_0, hX18_1⟩
 refine znl ?_
 refine Qf fh rfl <| zw 2 rfl rfl rfl ?_
 refine JL.nil ?_
 refine zf [0, 1, 1] fun GG19 => ?_
 refine zn ?_
 refine zS <| Qm rfl <| zBB 1 sp_ rfl (fun w hb _ hw => c_spec_l00Src_one s_code X18AT X18SD 2 hb (ok_ hw)) ?_
 rintro _ _ G20 ⟨X20BX, X20AT, X20SD, rfl, rfl, hX20_0, hX20_1⟩
 refine znl ?_
 refine Qf fh rfl <| zw 2 rfl rfl rfl ?_
 refine JL.nil ?_
 refine zf [0, 1, 1] fun GG21 => ?_
 refine zn ?_
 refine zS <| Qm rfl <| zBB 1 sp_ rfl (fun w hb _ hw => c_spec_l00Src_one s_code X20AT X20SD 4 hb (ok_ hw)) ?_
 rintro _ _ G22 ⟨X22BX, X22AT, X22SD, rfl, rfl, hX22_0, hX22_1⟩
 refine znl ?_
 refine Qf fh rfl <| zw 2 rfl rfl rfl ?_
 refine JL.nil ?_
 refine zf [0, 1, 1] fun GG23 => ?_
 refine zn ?_
 refine zS <| Qm rfl <| zBB 1 sp_ rfl (fun w hb _ hw => c_spec_l00Src_one s_code X22AT X22SD 2 hb (ok_ hw)) ?_
 rintro _ _ G24 ⟨X24BX, X24AT, X24SD, rfl, rfl, hX24_0, hX24_1⟩
 refine znl ?_
 refine Qf fh rfl <| zw 2 rfl rfl rfl ?_
 refine JL.nil ?_
 refine zf [0, 1, 1] fun GG25 => ?_
 refine zn ?_
 refine Js.seq ?_
 rcases Bool.eq_false_or_eq_true (X18BX) with h26 | h26
 ·
  refine Js.region <| Qf fh rfl <| Q0 1 rfl rfl rfl <| Qm rfl <| zT (Gd.t1 rfl rfl rfl) (show X18BX = true by simp [h26]) <| Qm rfl <| zT (Gd.t1 rfl rfl rfl) (show X18BX = true by simp [h26]) <| zBB 1 sp_ rfl (fun w hb _ hw => c_spec_l00Src_one s_code X24AT X24SD 2 hb (ok_ hw)) ?_
  rintro _ _ G27 ⟨X27BX, X27AT, X27SD, rfl, rfl, hX27_0, hX27_1⟩
  refine znl ?_
  refine Qq (p_pickAnd2 rfl rfl rfl) <| Qf fh rfl <| zw 2 rfl rfl rfl ?_
  refine JL.nil ?_
  refine zf [0, 1, 1] fun GG28 => ?_
  refine zn ?_
  refine zS <| Qm rfl <| zBB 1 sp_ rfl (fun w hb _ hw => c_spec_l00Src_pick s_code X27AT X27SD 4 hb (ok_ hw)) ?_
  rintro _ _ G29 ⟨X29KX, X29AT, X29SD, rfl, rfl, hX29_0, hX29_1, hX29_2, hX29_3⟩
  refine znl ?_
  refine Qf fh rfl <| zw 2 rfl rfl rfl ?_
  refine JL.nil ?_
  refine zf [0, 1, 1] fun GG30 => ?_
  refine zn ?_
  refine zS <| Qm rfl <| zBB 1 sp_ rfl (fun w hb _ hw => c_spec_l00Src_pick s_code X29AT X29SD 3 hb (ok_ hw)) ?_
  rintro _ _ G31 ⟨X31KX, X31AT, X31SD, rfl, rfl, hX31_0, hX31_1, hX31_2, hX31_3⟩
  refine znl ?_
  refine Qf fh rfl <| zw 2 rfl rfl rfl ?_
  refine JL.nil ?_
  refine zf [0, 1, 1] fun GG32 => ?_
  refine zn ?_
  refine zS <| Q9 1 rfl rfl ?_
  refine zw 2 rfl rfl rfl ?_
  refine JL.nil ?_
  refine zf [0, 1] fun GG33 => ?_
  refine zn ?_
  refine zrb [0] hb (Up.refl _ _) ?_
  refine ⟨((M.Rul.mk (2 + X14KX) (1 + X15KX) X18BX X20BX X22BX X24BX (X18BX && X27BX) X29KX X31KX)), (X31AT), (X31SD), rfl, ?_, by first | trivial | omega | decide | (dsimp only; omega), by first | trivial | omega | decide | (dsimp only; omega), by first | trivial | omega | decide | (dsimp only; omega)⟩
  · rfl
 refine Js.region <| Qf fh rfl <| Q0 1 rfl rfl rfl <| Qm rfl ?_
 refine JL.g (v := undef) (Gd.t1 rfl rfl rfl) (fun hc => absurd hc (by simp [h26])) ?_
 refine JL.g (v := .bool false) (Gd.t1 rfl rfl rfl) (fun hc => absurd hc (by simp [h26])) ?_
 refine Qq (p_pickAnd rfl rfl rfl) <| Qf fh rfl <| zw 1 rfl rfl rfl ?_
 refine zN <| Qm rfl <| zBB 1 sp_ rfl (fun w hb _ hw => c_spec_l00Src_pick s_code X24AT X24SD 4 hb (ok_ hw)) ?_
 rintro _ _ G34 ⟨X34KX, X34AT, X34SD, rfl, rfl, hX34_0, hX34_1, hX34_2, hX34_3⟩
 refine znl ?_
 refine Qf fh rfl <| zw 2 rfl rfl rfl ?_
 refine JL.nil ?_
 refine zf [0, 1, 1] fun GG35 => ?_
 refine zn ?_
 refine zS <| Qm rfl <| zBB 1 sp_ rfl (fun w hb _ hw => c_spec_l00Src_pick s_code X34AT X34SD 3 hb (ok_ hw)) ?_
 rintro _ _ G36 ⟨X36KX, X36AT, X36SD, rfl, rfl, hX36_0, hX36_1, hX36_2, hX36_3⟩
 refine znl ?_
 refine Qf fh rfl <| zw 2 rfl rfl rfl ?_
 refine JL.nil ?_
 refine zf [0, 1, 1] fun GG37 => ?_
 refine zn ?_
 refine zS <| Q9 1 rfl rfl ?_
 refine zw 2 rfl rfl rfl ?_
 refine JL.nil ?_
 refine zf [0, 1] fun GG38 => ?_
 refine zn ?_
 refine zrb [0] hb (Up.refl _ _) ?_
 refine ⟨((M.Rul.mk (2 + X14KX) (1 + X15KX) X18BX X20BX X22BX X24BX (X18BX && false) X34KX X36KX)), (X36AT), (X36SD), rfl, ?_, by first | trivial | omega | decide | (dsimp only; omega), by first | trivial | omega | decide | (dsimp only; omega), by first | trivial | omega | decide | (dsimp only; omega)⟩
 · rfl

set_option maxHeartbeats 1000000 in
theorem c_spec_l04Start (r : M.Rul) {v_r : Value} {w : World} (h_r : (Ty.ref (cRules r)).ok w v_r) (r0 : 0 ≤ r.pits := by exact om_) (r1 : r.pits ≤ 8 := by exact om_) : Ret Tryz.prog 71 [v_r] w (Ty.agg (cPosition (M.startP r))) := by
 revert v_r; apply opn
 intro b1 o1 hr1
 refine enter @Tryz.func71 @Tryz.ntmps71 rfl rfl ?_
 refine zent ?_
 refine zS <| za zeh fun b2 => zN <| zbs fun b3 => ?_
 refine Qb ?_
 refine za zeh fun b5 => zw 0 rfl rfl rfl ?_
 refine zJ <| zS <| Qa rfl <| JL.nil <| Js.block ?_
 refine Js.conv (fun w hw => St.nilRow 2 hw) ?_
 refine zl [0, 2, 3] (fun F U l os u m => ∃ (k : Nat) (xs : List Int) (A6_3_0 : Option Addr) (c6_3_0 : Nat) (g6_3_0 : List Nat), l = F [(4, .int .i64 (k : Int))] ∧ os = U [some (rowO 2 1 (.slice A6_3_0 xs.length c6_3_0) xs.length (ints_ xs) g6_3_0), some (boxO b5 [.slice A6_3_0 xs.length c6_3_0, .slice (some ⟨b3, 0, none⟩) 2 2, .int .i64 0] 28)] ∧ (xs = List.replicate k r.seeds) ∧ ((k : Int) ≤ 2 * r.pits) ∧ (xs.length = k) ∧ (xs.length ≤ c6_3_0) ∧ (c6_3_0 ≤ 9223372036854775807) ∧ m = (2 * r.pits - k).toNat) ⟨0, [], _, _, _, rfl, rfl, by rfl, zt, by rfl, zu, zu, rfl⟩ ?_
 rintro _ _ u6 _ ⟨k, xs, A6_3_0, c6_3_0, g6_3_0, rfl, rfl, hX, hk, hl, f6_3, f6_4, rfl⟩ x6
 refine zn ?_
 refine Js.seq <| zS <| Qm rfl <| Qm rfl <| Qc rfl <| Qf fh rfl <| QC ((hr1.vis x6.vis) 0 _ rfl) rfl <| Qu rfl rfl <| Ql rfl rfl <| JL.nil ?_
 refine zi (fun h7 h7' => ?_) fun h7 h7' => ?_
 ·
  refine Js.skip <| Js.seq <| Js.block ?_
  refine zdr [7, 9] ?_
  refine JH.p 0 rfl (p_fieldAddr fld_28_0.h rfl) ?_
  refine JH.q 1 rfl (q_load1 ty_26.h rfl (Mem.box (i := 1) rfl rfl)) ?_
  refine JH.p 2 rfl (p_move rfl) ?_
  refine JH.p 3 rfl (p_nilCheck rfl) ?_
  refine JH.p 4 rfl (p_fieldAddr fld_25_1.h rfl) ?_
  refine JH.w 5 rfl (fun os' u' hv => q_load1 ty_2.h rfl (Mem.pub ((hr1.vis (x6.vis.trans hv)) 1 _ rfl))) ?_
  refine y1 6 ?_
  refine ybs rfl fun b8 => ?_
  refine y1 7 ?_
  refine JHo.e rfl (e_append (i := 1) (n' := (xs ++ [r.seeds]).length) (vs' := ints_ (xs ++ [r.seeds])) el_26 rfl rfl rfl rfl (src_row (i := 0) und_26 rfl rfl) (by omega) (by omega) (by first | omega | (simp only [List.length_append, List.length_cons, List.length_nil] <;> omega)) (by simp [ints_])) (.inr rfl) ?_
  rintro v10 _ _ ⟨⟨g11, rfl⟩, rfl⟩ _
  refine JH.fact (row_form' (i := 1) rfl) (fun hf12 => ?_)
  obtain ⟨A12, c12, rfl, bl12, bh12⟩ := hf12
  refine znh ?_
  refine JH.p 8 rfl (p_fieldAddr fld_28_0.h rfl) ?_
  refine y1 9 ?_
  refine yst rfl rfl rfl ?_
  refine yd ?_
  refine Js.blockEnd <| Js.region <| Qm rfl <| Qp rfl rfl <| Qa rfl <| JL.nil ?_
  refine zd [1, 1, 1, 1] rfl fun u13 x13 => ?_
  exact zag ⟨k + 1, xs ++ [r.seeds], _, _, _, rfl, rfl, by rw [hX]; exact List.replicate_succ'.symm, zt, by simp [hl], zu, zu, rfl⟩ (x6.trans x13)
 have hE : xs = List.replicate (2 * r.pits).toNat r.seeds := by rw [hX]; congr 1; have := h7'; omega
 refine zx ?_
 have hq0 : xs = (M.startP r).pits := by first | rfl | exact hE
 have hq1 : [0, 0] = (M.startP r).stores := by first | rfl | exact hE
 have hq2 : 0 = (M.startP r).player := by first | rfl | exact hE
 refine zS <| Q9 1 rfl rfl ?_
 refine zw 3 rfl rfl rfl ?_
 refine JL.nil ?_
 exact zro x6

set_option maxHeartbeats 2000000 in
theorem c_spec_l04Draw (s_code : Nat) (s_at s_seed : Int) {As_0 : Option Addr} {cs_0 : Nat} (r : M.Rul) {v_r : Value} {bs : Nat} {w : World} (hb : Bw w [boxO bs [.slice As_0 s_code cs_0, .int .i64 s_at, .int .u64 s_seed] 113]) (hps_0 : (Ty.bytes 5 s_code).ok (offW w (([boxO bs [.slice As_0 s_code cs_0, .int .i64 s_at, .int .u64 s_seed] 113] : List Own).flatMap (·.fp))) (.slice As_0 s_code cs_0)) (h_r : (Ty.ref (cRules r)).ok (offW w (([boxO bs [.slice As_0 s_code cs_0, .int .i64 s_at, .int .u64 s_seed] 113] : List Own).flatMap (·.fp))) v_r) (r0 : 0 ≤ s_at := by exact om_) (r1 : s_at ≤ 999999800 := by exact om_) (r2 : s_code ≤ 1048576 := by exact om_) (r3 : 0 ≤ r.pits := by exact om_) (r4 : r.pits ≤ 8 := by exact om_) : RetB Tryz.prog 102 [.pointer (some ⟨bs, 0, none⟩), v_r] w [boxO bs [.slice As_0 s_code cs_0, .int .i64 s_at, .int .u64 s_seed] 113] (fun v bs' => ∃ (PX : M.Pos) (AT SD : Int) (Axr_0 : Option Addr) (cxr_0 : Nat) (gxr_0 : List Nat) (Axr_1 : Option Addr) (cxr_1 : Nat) (gxr_1 : List Nat), v = .agg #[.slice Axr_0 PX.pits.length cxr_0, .slice Axr_1 PX.stores.length cxr_1, .int .i64 PX.player] ∧ bs' = [boxO bs [.slice As_0 s_code cs_0, .int .i64 AT, .int .u64 SD] 113, rowO 2 1 (.slice Axr_0 PX.pits.length cxr_0) PX.pits.length (ints_ PX.pits) gxr_0, rowO 2 1 (.slice Axr_1 PX.stores.length cxr_1) PX.stores.length (ints_ PX.stores) gxr_1] ∧ PX.pits.length ≤ cxr_0 ∧ cxr_0 ≤ 9223372036854775807 ∧ PX.stores.length ≤ cxr_1 ∧ cxr_1 ≤ 9223372036854775807 ∧ (PX.pits.length = (2 * r.pits).toNat ∧ PX.stores.length = 2) ∧ (s_at ≤ AT) ∧ (AT ≤ s_at + 200)) := by
 have hl0 : (M.startP r).pits.length = (2 * r.pits).toNat := by simp [M.startP]
 have hl1 : (M.startP r).stores.length = 2 := rfl
 revert v_r; apply opn
 intro b1 o1 hr1
 refine enterB hb @Tryz.func102 @Tryz.ntmps102 rfl rfl ?_
 refine zent ?_
 refine Js.trashE ?_
 refine zn ?_
 refine zS <| za zeh fun b2 => zN <| Qm rfl <| zc rfl (fun w hw => c_spec_l04Start r (ok_ hw)) ?_
 intro A4 c4 bl4 bh4 A5 c5 bl5 bh5
 refine za zeh fun b6 => zw 0 rfl rfl rfl ?_
 refine zN <| Qm rfl ?_
 refine zhl [4] ?_
 refine zBB 1 sp_ rfl (fun w hb _ hw => c_spec_l00Src_one s_code s_at s_seed 2 hb (ok_ hw)) ?_
 rintro _ _ G7 ⟨X7BX, X7AT, X7SD, rfl, rfl, hX7_0, hX7_1⟩
 refine znl ?_
 refine Qa rfl <| JL.nil ?_
 refine zf [0, 1, 1, 1, 1] fun GG8 => ?_
 refine zn ?_
 refine Js.seq <| zS <| Qa rfl <| JL.nil <| Js.block ?_
 refine zl [0, 1, 4, 5, 6] (fun F U l os u m => ∃ (k : Nat) (at1 sd1 : Int) (xs : List Int) (G9_5 : List Nat), l = F [(7, .int .i64 (k : Int))] ∧ os = U [some (boxO bs [.slice As_0 s_code cs_0, .int .i64 at1, .int .u64 sd1] 113), nO, nO, some (rowO 2 1 (.slice A4 (((M.startP r).pits).length) c4) (((M.startP r).pits).length) (ints_ xs) []), nO, some (anyO G9_5)] ∧ (xs.length = (M.startP r).pits.length) ∧ (k ≤ xs.length) ∧ (s_at ≤ at1) ∧ (at1 ≤ s_at + 4 + 4 * k) ∧ m = xs.length - k) ⟨0, X7AT, X7SD, (M.startP r).pits, _, rfl, rfl, by rfl, zt, zt, zt, rfl⟩ ?_
 rintro _ _ u9 _ ⟨k, at1, sd1, xs, G9_5, rfl, rfl, hX, hk, ha0, ha1, rfl⟩ x9
 refine zn ?_
 refine Js.seq <| zS <| Qm rfl <| Qf fh rfl <| Q0 1 rfl rfl rfl <| Qz rfl <| Ql rfl rfl <| JL.nil ?_
 refine zi (fun h10 h10' => ?_) fun h10 h10' => ?_
 ·
  refine Js.skip <| Js.seq <| Js.block <| Js.seq ?_
  refine Js.fact (row_some (i := 3) rfl (by omega)) (fun hf11 => ?_)
  obtain ⟨b11, rfl⟩ := hf11
  refine zk [0, 1, 4, 5, 6, 7] (fun F U l os u => ∃ (G12 : List Nat) (X12AT X12SD X12KX : Int), l = F [] ∧ os = [anyO G12] ++ U [some (boxO bs [.slice As_0 s_code cs_0, .int .i64 X12AT, .int .u64 X12SD] 113), nO, nO, some (rowO 2 1 (.slice (some ⟨b11, 0, none⟩) (((M.startP r).pits).length) c4) (((M.startP r).pits).length) (ints_ (xs.set k X12KX)) [])] ∧ (at1 ≤ X12AT) ∧ (X12AT ≤ at1 + 2) ∧ (0 ≤ X12KX) ∧ (X12KX = 0 ∨ X12KX < 6)) ?_ ?_
  ·
   refine zdr [4, 6] ?_
   refine JH.p 0 rfl (p_fieldAddr fld_28_0.h rfl) ?_
   refine JH.p 2 rfl (p_move rfl) ?_
   refine JH.p 3 rfl (p_move rfl) ?_
   refine y2 1 4 ?_ ?_
   ·
    refine JHo.q rfl (q_load1 ty_26.h rfl (Mem.box (i := 1) rfl rfl)) ?_
    refine y1 4 ?_
    refine yBB 1 sp_ rfl rfl (fun w hb _ hw => c_spec_l00Src_pick s_code at1 sd1 6 hb (ok_ hw)) ?_
    rintro _ _ G17 ⟨X17KX, X17AT, X17SD, rfl, rfl, hX17_0, hX17_1, hX17_2, hX17_3⟩
    refine znh ?_
    refine JH.p 5 rfl (p_indexAddr el_26 rfl rfl (by omega) (by omega) rfl) ?_
    refine y1 6 ?_
    refine JHo.s rfl (e_storeRow (i := 4) (xs' := ints_ (xs.set k X17KX)) ty_2.h rfl rfl rfl rfl rfl rfl (ints_lt (i := k) (by omega)) (ints_setL (i := k) (by omega))) (.inr rfl) ?_
    rintro _ _ _ ⟨rfl, rfl⟩ _
    refine znh ?_
    refine yd ?_
    refine zh [1, 0, 0, 0, 0, 0, 0] ?_
    exact zm ⟨_, _, _, _, rfl, rfl, zt, zt, zt, zt⟩ (Up.refl _ _) ⟨rfl, rfl, rfl, rfl, rfl, rfl, trivial⟩
   refine yBB 1 sp_ rfl rfl (fun w hb _ hw => c_spec_l00Src_pick s_code at1 sd1 6 hb (ok_ hw)) ?_
   rintro _ _ G19 ⟨X19KX, X19AT, X19SD, rfl, rfl, hX19_0, hX19_1, hX19_2, hX19_3⟩
   refine znh ?_
   refine y1 1 ?_
   refine JHo.q rfl (q_load1 ty_26.h rfl (Mem.box (i := 2) rfl rfl)) ?_
   refine JH.p 5 rfl (p_indexAddr el_26 rfl rfl (by omega) (by omega) rfl) ?_
   refine y1 6 ?_
   refine JHo.s rfl (e_storeRow (i := 4) (xs' := ints_ (xs.set k X19KX)) ty_2.h rfl rfl rfl rfl rfl rfl (ints_lt (i := k) (by omega)) (ints_setL (i := k) (by omega))) (.inr rfl) ?_
   rintro _ _ _ ⟨rfl, rfl⟩ _
   refine znh ?_
   refine yd ?_
   refine zh [1, 0, 0, 0, 0, 0, 0] ?_
   exact zm ⟨_, _, _, _, rfl, rfl, zt, zt, zt, zt⟩ (Up.refl _ _) ⟨rfl, rfl, rfl, rfl, rfl, rfl, trivial⟩
  rintro _ _ u16 ⟨G12, X12AT, X12SD, X12KX, rfl, rfl, f16_0, f16_1, f16_2, f16_3⟩ x16
  refine zn ?_
  refine zf [1, 1, 1, 1, 1] fun GG21 => ?_
  refine zn ?_
  refine Js.seq ?_
  rcases Bool.eq_false_or_eq_true (X7BX) with h22 | h22
  ·
   refine Js.region <| Qm rfl <| Qm rfl <| zT (Gd.t1 rfl rfl rfl) (show X7BX = true by simp [h22]) <| Qm rfl <| zT (Gd.t1 rfl rfl rfl) (show X7BX = true by simp [h22]) <| zBB 1 sp_ rfl (fun w hb _ hw => c_spec_l00Src_one s_code X12AT X12SD 3 hb (ok_ hw)) ?_
   rintro _ _ G23 ⟨X23BX, X23AT, X23SD, rfl, rfl, hX23_0, hX23_1⟩
   refine znl ?_
   refine zT (Gd.t1 rfl rfl rfl) (show X7BX = true by simp [h22]) <| Qt rfl <| Qq (p_pickAnd2 rfl rfl rfl) <| JL.nil ?_
   refine zf [0, 1, 1, 1, 1] fun GG24 => ?_
   refine zn ?_
   refine zi (fun h25 h25' => ?_) fun h25 h25' => ?_
   ·
    refine Js.region <| Qf fh rfl <| Q0 1 rfl rfl rfl <| Qm rfl <| Qq (p_indexAddr el_26 rfl rfl (by omega) (by omega) rfl) ?_
    refine JL.s (e_storeRow (i := 3) (xs' := ints_ ((xs.set k X12KX).set k 0)) ty_2.h rfl rfl rfl rfl rfl rfl (ints_lt (i := k) (by simp only [List.length_set]; omega)) (ints_setL (i := k) (by simp only [List.length_set]; omega))) ?_
    rintro _ _ _ ⟨rfl, rfl⟩ _
    refine znl ?_
    refine JL.nil <| Js.blockEnd <| Js.region <| Qm rfl <| Qp rfl rfl <| Qa rfl <| JL.nil ?_
    exact zag ⟨k + 1, X23AT, X23SD, (xs.set k X12KX).set k 0, _, rfl, rfl, by simp only [List.length_set]; exact hX, by simp only [List.length_set]; omega, zt, zt, rfl⟩ (x9.trans x16) (by simp only [List.length_set]; omega)
   refine Js.skip <| Js.blockEnd <| Js.region <| Qm rfl <| Qp rfl rfl <| Qa rfl <| JL.nil ?_
   exact zag ⟨k + 1, X23AT, X23SD, xs.set k X12KX, _, rfl, rfl, by simp only [List.length_set]; exact hX, by simp only [List.length_set]; omega, zt, zt, rfl⟩ (x9.trans x16) (by simp only [List.length_set]; omega)
  refine Js.region <| Qm rfl <| Qm rfl ?_
  refine JL.g (v := undef) (Gd.t1 rfl rfl rfl) (fun hc => absurd hc (by simp [h22])) ?_
  refine JL.g (v := .bool false) (Gd.t1 rfl rfl rfl) (fun hc => absurd hc (by simp [h22])) ?_
  refine JL.g (v := .bool false) (Gd.t1 rfl rfl rfl) (fun hc => absurd hc (by simp [h22])) ?_
  refine Qq (p_pickAnd rfl rfl rfl) <| JL.nil ?_
  refine zi (fun h27 h27' => ?_) fun h27 h27' => ?_
  ·
   refine Js.region <| Qf fh rfl <| Q0 1 rfl rfl rfl <| Qm rfl <| Qq (p_indexAddr el_26 rfl rfl (by omega) (by omega) rfl) ?_
   refine JL.s (e_storeRow (i := 3) (xs' := ints_ ((xs.set k X12KX).set k 0)) ty_2.h rfl rfl rfl rfl rfl rfl (ints_lt (i := k) (by simp only [List.length_set]; omega)) (ints_setL (i := k) (by simp only [List.length_set]; omega))) ?_
   rintro _ _ _ ⟨rfl, rfl⟩ _
   refine znl ?_
   refine JL.nil <| Js.blockEnd <| Js.region <| Qm rfl <| Qp rfl rfl <| Qa rfl <| JL.nil ?_
   exact zag ⟨k + 1, X12AT, X12SD, (xs.set k X12KX).set k 0, _, rfl, rfl, by simp only [List.length_set]; exact hX, by simp only [List.length_set]; omega, zt, zt, rfl⟩ (x9.trans x16) (by simp only [List.length_set]; omega)
  refine Js.skip <| Js.blockEnd <| Js.region <| Qm rfl <| Qp rfl rfl <| Qa rfl <| JL.nil ?_
  exact zag ⟨k + 1, X12AT, X12SD, xs.set k X12KX, _, rfl, rfl, by simp only [List.length_set]; exact hX, by simp only [List.length_set]; omega, zt, zt, rfl⟩ (x9.trans x16) (by simp only [List.length_set]; omega)
 refine zx ?_
 refine Js.seq <| zS <| Qm rfl <| zBB 1 sp_ rfl (fun w hb _ hw => c_spec_l00Src_one s_code at1 sd1 8 hb (ok_ hw)) ?_
 rintro _ _ G29 ⟨X29BX, X29AT, X29SD, rfl, rfl, hX29_0, hX29_1⟩
 refine znl ?_
 refine JL.nil ?_
 refine zf [0, 1, 1, 1, 1] fun GG30 => ?_
 refine zn ?_
 refine zi (fun h31 h31' => ?_) fun h31 h31' => ?_
 ·
  refine zS <| Qm rfl <| zBB 1 sp_ rfl (fun w hb _ hw => c_spec_l00Src_pick s_code X29AT X29SD 2 hb (ok_ hw)) ?_
  rintro _ _ G32 ⟨X32KX, X32AT, X32SD, rfl, rfl, hX32_0, hX32_1, hX32_2, hX32_3⟩
  refine znl ?_
  refine Qa rfl <| JL.nil ?_
  refine zf [0, 1, 1, 1, 1] fun GG33 => ?_
  refine zn ?_
  have hm9 := M.mul01 (a := X32KX) (n := r.pits) (by omega) (by omega) r3 r4
  obtain ⟨sd9, hsd9⟩ : ∃ x : Int, x = X32KX * r.pits := ⟨_, rfl⟩
  refine zS <| Qm rfl <| Qm rfl <| Qc rfl <| Qf fh rfl <| QC ((hr1.vis x9.vis) 0 _ rfl) rfl <| Qu rfl rfl <| Qa rfl <| JL.nil <| Js.block ?_
  refine zl [0, 1, 4, 5, 8] (fun F U l os u m => ∃ (j : Int) (ys : List Int) (G34_5 : List Nat), l = F [(9, .int .i64 j)] ∧ os = U [nO, nO, nO, some (rowO 2 1 (.slice A4 (((M.startP r).pits).length) c4) (((M.startP r).pits).length) (ints_ ys) []), nO, some (anyO G34_5)] ∧ (ys.length = (M.startP r).pits.length) ∧ (sd9 ≤ j) ∧ (j ≤ sd9 + r.pits) ∧ m = (sd9 + r.pits - j).toNat) ⟨X32KX * r.pits, xs, _, rfl, rfl, zt, zt, zt, rfl⟩ ?_
  rintro _ _ u34 _ ⟨j, ys, G34_5, rfl, rfl, hY, hj0, hj1, rfl⟩ x34
  refine zn ?_
  refine Js.seq <| zS <| Qm rfl <| Qm rfl <| Qp rfl rfl <| Qm rfl <| Qc rfl <| Qf fh rfl <| QC ((hr1.vis (x9.vis.trans x34.vis)) 0 _ rfl) rfl <| Qu rfl rfl <| Ql rfl rfl <| JL.nil ?_
  refine zi (fun h35 h35' => ?_) fun h35 h35' => ?_
  ·
   refine Js.skip <| Js.seq <| Js.block ?_
   refine Js.fact (row_some (i := 3) rfl (by omega)) (fun hf36 => ?_)
   obtain ⟨b36, rfl⟩ := hf36
   refine Js.region <| Qf fh rfl <| Q0 1 rfl rfl rfl <| Qm rfl <| Qq (p_indexAddr el_26 rfl rfl (by omega) (by omega) rfl) ?_
   refine JL.s (e_storeRow (i := 3) (xs' := ints_ (M.setI ys j 0)) ty_2.h rfl rfl rfl rfl rfl rfl (ints_lt (i := j.toNat) (by omega)) (ints_setL (i := j.toNat) (by omega))) ?_
   rintro _ _ _ ⟨rfl, rfl⟩ _
   refine znl ?_
   refine JL.nil <| Js.blockEnd <| Js.region <| Qm rfl <| Qp rfl rfl <| Qa rfl <| JL.nil ?_
   exact zag ⟨j + 1, M.setI ys j 0, _, rfl, rfl, by simp only [M.setI_length, List.length_set]; exact hY, zt, zt, rfl⟩ x34
  refine zx ?_
  refine Js.seq ?_
  refine zk [0, 4, 5] (fun F U l os u => ∃ (G38 : List Nat) (X38AT X38SD : Int) (b40 : Nat) (X38KX : Int), l = F [] ∧ os = [anyO G38] ++ U [some (boxO bs [.slice As_0 s_code cs_0, .int .i64 X38AT, .int .u64 X38SD] 113), some (boxO b6 [.slice A4 (((M.startP r).pits).length) c4, .slice (some ⟨b40, 0, none⟩) (((M.startP r).stores).length) c5, .int .i64 ((M.startP r).player)] 28), some (rowO 2 1 (.slice (some ⟨b40, 0, none⟩) (((M.startP r).stores).length) c5) (((M.startP r).stores).length) (ints_ (((M.startP r).stores).set 0 X38KX)) [])] ∧ (X32AT ≤ X38AT) ∧ (X38AT ≤ X32AT + 2) ∧ (0 ≤ X38KX) ∧ (X38KX = 0 ∨ X38KX < 8)) ?_ ?_
  ·
   refine zdr [3, 5] ?_
   refine JH.p 0 rfl (p_fieldAddr fld_28_1.h rfl) ?_
   refine JH.p 2 rfl (p_move rfl) ?_
   refine y2 1 3 ?_ ?_
   ·
    refine JHo.q rfl (q_load1 ty_26.h rfl (Mem.box (i := 1) rfl rfl)) ?_
    refine y1 3 ?_
    refine yBB 1 sp_ rfl rfl (fun w hb _ hw => c_spec_l00Src_pick s_code X32AT X32SD 8 hb (ok_ hw)) ?_
    rintro _ _ G45 ⟨X45KX, X45AT, X45SD, rfl, rfl, hX45_0, hX45_1, hX45_2, hX45_3⟩
    refine znh ?_
    refine JH.fact (row_some (i := 3) rfl (by omega)) (fun hf47 => ?_)
    obtain ⟨b47, rfl⟩ := hf47
    refine JH.p 4 rfl (p_indexAddr el_26 rfl rfl (by omega) (by omega) rfl) ?_
    refine y1 5 ?_
    refine JHo.s rfl (e_storeRow (i := 3) (xs' := ints_ (((M.startP r).stores).set 0 X45KX)) ty_2.h rfl rfl rfl rfl rfl rfl (ints_lt (i := 0) (by omega)) (ints_setL (i := 0) (by omega))) (.inr rfl) ?_
    rintro _ _ _ ⟨rfl, rfl⟩ _
    refine znh ?_
    refine yd ?_
    refine zh [1, 0, 0, 0, 0, 0, 0] ?_
    exact zm ⟨_, _, _, _, _, rfl, rfl, zt, zt, zt, zt⟩ (Up.refl _ _) ⟨rfl, rfl, rfl, trivial⟩
   refine yBB 1 sp_ rfl rfl (fun w hb _ hw => c_spec_l00Src_pick s_code X32AT X32SD 8 hb (ok_ hw)) ?_
   rintro _ _ G48 ⟨X48KX, X48AT, X48SD, rfl, rfl, hX48_0, hX48_1, hX48_2, hX48_3⟩
   refine znh ?_
   refine y1 1 ?_
   refine JHo.q rfl (q_load1 ty_26.h rfl (Mem.box (i := 2) rfl rfl)) ?_
   refine JH.fact (row_some (i := 3) rfl (by omega)) (fun hf50 => ?_)
   obtain ⟨b50, rfl⟩ := hf50
   refine JH.p 4 rfl (p_indexAddr el_26 rfl rfl (by omega) (by omega) rfl) ?_
   refine y1 5 ?_
   refine JHo.s rfl (e_storeRow (i := 3) (xs' := ints_ (((M.startP r).stores).set 0 X48KX)) ty_2.h rfl rfl rfl rfl rfl rfl (ints_lt (i := 0) (by omega)) (ints_setL (i := 0) (by omega))) (.inr rfl) ?_
   rintro _ _ _ ⟨rfl, rfl⟩ _
   refine znh ?_
   refine yd ?_
   refine zh [1, 0, 0, 0, 0, 0, 0] ?_
   exact zm ⟨_, _, _, _, _, rfl, rfl, zt, zt, zt, zt⟩ (Up.refl _ _) ⟨rfl, rfl, rfl, trivial⟩
  rintro _ _ u44 ⟨G38, X38AT, X38SD, b40, X38KX, rfl, rfl, f44_0, f44_1, f44_2, f44_3⟩ x44
  refine zn ?_
  refine zf [1, 1, 1, 1, 1] fun GG51 => ?_
  refine zn ?_
  refine Js.seq ?_
  refine zk [0, 4, 5] (fun F U l os u => ∃ (G52 : List Nat) (X52AT X52SD X52KX : Int), l = F [] ∧ os = [anyO G52] ++ U [some (boxO bs [.slice As_0 s_code cs_0, .int .i64 X52AT, .int .u64 X52SD] 113), nO, some (rowO 2 1 (.slice (some ⟨b40, 0, none⟩) (((M.startP r).stores).length) c5) (((M.startP r).stores).length) (ints_ ((((M.startP r).stores).set 0 X38KX).set 1 X52KX)) [])] ∧ (X38AT ≤ X52AT) ∧ (X52AT ≤ X38AT + 2) ∧ (0 ≤ X52KX) ∧ (X52KX = 0 ∨ X52KX < 8)) ?_ ?_
  ·
   refine zdr [3, 5] ?_
   refine JH.p 0 rfl (p_fieldAddr fld_28_1.h rfl) ?_
   refine JH.p 2 rfl (p_move rfl) ?_
   refine y2 1 3 ?_ ?_
   ·
    refine JHo.q rfl (q_load1 ty_26.h rfl (Mem.box (i := 1) rfl rfl)) ?_
    refine y1 3 ?_
    refine yBB 1 sp_ rfl rfl (fun w hb _ hw => c_spec_l00Src_pick s_code X38AT X38SD 8 hb (ok_ hw)) ?_
    rintro _ _ G57 ⟨X57KX, X57AT, X57SD, rfl, rfl, hX57_0, hX57_1, hX57_2, hX57_3⟩
    refine znh ?_
    refine JH.p 4 rfl (p_indexAddr el_26 rfl rfl (by omega) (by omega) rfl) ?_
    refine y1 5 ?_
    refine JHo.s rfl (e_storeRow (i := 3) (xs' := ints_ ((((M.startP r).stores).set 0 X38KX).set 1 X57KX)) ty_2.h rfl rfl rfl rfl rfl rfl (ints_lt (i := 1) (by first | omega | (simp only [List.length_set, M.setI_length]; omega))) (ints_setL (i := 1) (by first | omega | (simp only [List.length_set, M.setI_length]; omega)))) (.inr rfl) ?_
    rintro _ _ _ ⟨rfl, rfl⟩ _
    refine znh ?_
    refine yd ?_
    refine zh [1, 0, 0, 0, 0, 0, 0] ?_
    exact zm ⟨_, _, _, _, rfl, rfl, zt, zt, zt, zt⟩ (Up.refl _ _) ⟨rfl, rfl, rfl, trivial⟩
   refine yBB 1 sp_ rfl rfl (fun w hb _ hw => c_spec_l00Src_pick s_code X38AT X38SD 8 hb (ok_ hw)) ?_
   rintro _ _ G59 ⟨X59KX, X59AT, X59SD, rfl, rfl, hX59_0, hX59_1, hX59_2, hX59_3⟩
   refine znh ?_
   refine y1 1 ?_
   refine JHo.q rfl (q_load1 ty_26.h rfl (Mem.box (i := 2) rfl rfl)) ?_
   refine JH.p 4 rfl (p_indexAddr el_26 rfl rfl (by omega) (by omega) rfl) ?_
   refine y1 5 ?_
   refine JHo.s rfl (e_storeRow (i := 3) (xs' := ints_ ((((M.startP r).stores).set 0 X38KX).set 1 X59KX)) ty_2.h rfl rfl rfl rfl rfl rfl (ints_lt (i := 1) (by first | omega | (simp only [List.length_set, M.setI_length]; omega))) (ints_setL (i := 1) (by first | omega | (simp only [List.length_set, M.setI_length]; omega)))) (.inr rfl) ?_
   rintro _ _ _ ⟨rfl, rfl⟩ _
   refine znh ?_
   refine yd ?_
   refine zh [1, 0, 0, 0, 0, 0, 0] ?_
   exact zm ⟨_, _, _, _, rfl, rfl, zt, zt, zt, zt⟩ (Up.refl _ _) ⟨rfl, rfl, rfl, trivial⟩
  rintro _ _ u56 ⟨G52, X52AT, X52SD, X52KX, rfl, rfl, f56_0, f56_1, f56_2, f56_3⟩ x56
  refine zn ?_
  refine zf [1, 1, 1, 1, 1] fun GG61 => ?_
  refine zn ?_
  refine zS <| Qm rfl <| zBB 1 sp_ rfl (fun w hb _ hw => c_spec_l00Src_pick s_code X52AT X52SD 2 hb (ok_ hw)) ?_
  rintro _ _ G62 ⟨X62KX, X62AT, X62SD, rfl, rfl, hX62_0, hX62_1, hX62_2, hX62_3⟩
  refine znl ?_
  refine Qf fh rfl <| zw 2 rfl rfl rfl ?_
  refine JL.nil ?_
  refine zf [0, 1, 1, 1, 1] fun GG63 => ?_
  refine zn ?_
  refine zS <| Q9 1 rfl rfl ?_
  refine zw 4 rfl rfl rfl ?_
  refine JL.nil ?_
  refine zf [0, 1, 1, 1] fun GG64 => ?_
  refine zn ?_
  refine zrb [0, 1, 0] hb (((x9.trans x34).trans x44).trans x56) ?_
  have hNr0 : ys.length = ((M.startP r).pits).length := by first | rfl | assumption | omega | (simp only [List.length_set, M.setI_length]; done) | (simp only [List.length_set, M.setI_length]; first | rfl | assumption | omega)
  have hNr1 : ((((M.startP r).stores).set 0 X38KX).set 1 X52KX).length = ((M.startP r).stores).length := by first | rfl | assumption | omega | (simp only [List.length_set, M.setI_length]; done) | (simp only [List.length_set, M.setI_length]; first | rfl | assumption | omega)
  refine ⟨((M.Pos.mk ys ((((M.startP r).stores).set 0 X38KX).set 1 X52KX) X62KX)), (X62AT), (X62SD), A4, c4, [], (some ⟨b40, 0, none⟩), c5, [], (show (.agg #[.slice A4 (((M.startP r).pits).length) c4, .slice (some ⟨b40, 0, none⟩) (((M.startP r).stores).length) c5, .int .i64 X62KX] : Value) = .agg #[.slice A4 ys.length c4, .slice (some ⟨b40, 0, none⟩) ((((M.startP r).stores).set 0 X38KX).set 1 X52KX).length c5, .int .i64 X62KX] by rw [hNr0, hNr1]), ?_, ?_, ?_, ?_, ?_, by first | trivial | omega | decide | (dsimp only; omega), by first | trivial | omega | decide | (dsimp only; omega), by first | trivial | omega | decide | (dsimp only; omega)⟩
  · first | rfl | (dsimp only; rw [hNr0, hNr1]) | (dsimp only; simp only [hNr0, hNr1])
  all_goals (try dsimp only)
  all_goals (first | (rw [hNr0, hNr1]; omega) | omega | (simp only [*]; omega))
 refine Js.skip <| Js.seq ?_
 refine zk [0, 4, 5] (fun F U l os u => ∃ (G65 : List Nat) (X65AT X65SD : Int) (b67 : Nat) (X65KX : Int), l = F [] ∧ os = [anyO G65] ++ U [some (boxO bs [.slice As_0 s_code cs_0, .int .i64 X65AT, .int .u64 X65SD] 113), some (boxO b6 [.slice A4 (((M.startP r).pits).length) c4, .slice (some ⟨b67, 0, none⟩) (((M.startP r).stores).length) c5, .int .i64 ((M.startP r).player)] 28), some (rowO 2 1 (.slice (some ⟨b67, 0, none⟩) (((M.startP r).stores).length) c5) (((M.startP r).stores).length) (ints_ (((M.startP r).stores).set 0 X65KX)) [])] ∧ (X29AT ≤ X65AT) ∧ (X65AT ≤ X29AT + 2) ∧ (0 ≤ X65KX) ∧ (X65KX = 0 ∨ X65KX < 8)) ?_ ?_
 ·
  refine zdr [3, 5] ?_
  refine JH.p 0 rfl (p_fieldAddr fld_28_1.h rfl) ?_
  refine JH.p 2 rfl (p_move rfl) ?_
  refine y2 1 3 ?_ ?_
  ·
   refine JHo.q rfl (q_load1 ty_26.h rfl (Mem.box (i := 1) rfl rfl)) ?_
   refine y1 3 ?_
   refine yBB 1 sp_ rfl rfl (fun w hb _ hw => c_spec_l00Src_pick s_code X29AT X29SD 8 hb (ok_ hw)) ?_
   rintro _ _ G72 ⟨X72KX, X72AT, X72SD, rfl, rfl, hX72_0, hX72_1, hX72_2, hX72_3⟩
   refine znh ?_
   refine JH.fact (row_some (i := 3) rfl (by omega)) (fun hf74 => ?_)
   obtain ⟨b74, rfl⟩ := hf74
   refine JH.p 4 rfl (p_indexAddr el_26 rfl rfl (by omega) (by omega) rfl) ?_
   refine y1 5 ?_
   refine JHo.s rfl (e_storeRow (i := 3) (xs' := ints_ (((M.startP r).stores).set 0 X72KX)) ty_2.h rfl rfl rfl rfl rfl rfl (ints_lt (i := 0) (by omega)) (ints_setL (i := 0) (by omega))) (.inr rfl) ?_
   rintro _ _ _ ⟨rfl, rfl⟩ _
   refine znh ?_
   refine yd ?_
   refine zh [1, 0, 0, 0, 0, 0, 0] ?_
   exact zm ⟨_, _, _, _, _, rfl, rfl, zt, zt, zt, zt⟩ (Up.refl _ _) ⟨rfl, rfl, rfl, trivial⟩
  refine yBB 1 sp_ rfl rfl (fun w hb _ hw => c_spec_l00Src_pick s_code X29AT X29SD 8 hb (ok_ hw)) ?_
  rintro _ _ G75 ⟨X75KX, X75AT, X75SD, rfl, rfl, hX75_0, hX75_1, hX75_2, hX75_3⟩
  refine znh ?_
  refine y1 1 ?_
  refine JHo.q rfl (q_load1 ty_26.h rfl (Mem.box (i := 2) rfl rfl)) ?_
  refine JH.fact (row_some (i := 3) rfl (by omega)) (fun hf77 => ?_)
  obtain ⟨b77, rfl⟩ := hf77
  refine JH.p 4 rfl (p_indexAddr el_26 rfl rfl (by omega) (by omega) rfl) ?_
  refine y1 5 ?_
  refine JHo.s rfl (e_storeRow (i := 3) (xs' := ints_ (((M.startP r).stores).set 0 X75KX)) ty_2.h rfl rfl rfl rfl rfl rfl (ints_lt (i := 0) (by omega)) (ints_setL (i := 0) (by omega))) (.inr rfl) ?_
  rintro _ _ _ ⟨rfl, rfl⟩ _
  refine znh ?_
  refine yd ?_
  refine zh [1, 0, 0, 0, 0, 0, 0] ?_
  exact zm ⟨_, _, _, _, _, rfl, rfl, zt, zt, zt, zt⟩ (Up.refl _ _) ⟨rfl, rfl, rfl, trivial⟩
 rintro _ _ u71 ⟨G65, X65AT, X65SD, b67, X65KX, rfl, rfl, f71_0, f71_1, f71_2, f71_3⟩ x71
 refine zn ?_
 refine zf [1, 1, 1, 1, 1] fun GG78 => ?_
 refine zn ?_
 refine Js.seq ?_
 refine zk [0, 4, 5] (fun F U l os u => ∃ (G79 : List Nat) (X79AT X79SD X79KX : Int), l = F [] ∧ os = [anyO G79] ++ U [some (boxO bs [.slice As_0 s_code cs_0, .int .i64 X79AT, .int .u64 X79SD] 113), nO, some (rowO 2 1 (.slice (some ⟨b67, 0, none⟩) (((M.startP r).stores).length) c5) (((M.startP r).stores).length) (ints_ ((((M.startP r).stores).set 0 X65KX).set 1 X79KX)) [])] ∧ (X65AT ≤ X79AT) ∧ (X79AT ≤ X65AT + 2) ∧ (0 ≤ X79KX) ∧ (X79KX = 0 ∨ X79KX < 8)) ?_ ?_
 ·
  refine zdr [3, 5] ?_
  refine JH.p 0 rfl (p_fieldAddr fld_28_1.h rfl) ?_
  refine JH.p 2 rfl (p_move rfl) ?_
  refine y2 1 3 ?_ ?_
  ·
   refine JHo.q rfl (q_load1 ty_26.h rfl (Mem.box (i := 1) rfl rfl)) ?_
   refine y1 3 ?_
   refine yBB 1 sp_ rfl rfl (fun w hb _ hw => c_spec_l00Src_pick s_code X65AT X65SD 8 hb (ok_ hw)) ?_
   rintro _ _ G84 ⟨X84KX, X84AT, X84SD, rfl, rfl, hX84_0, hX84_1, hX84_2, hX84_3⟩
   refine znh ?_
   refine JH.p 4 rfl (p_indexAddr el_26 rfl rfl (by omega) (by omega) rfl) ?_
   refine y1 5 ?_
   refine JHo.s rfl (e_storeRow (i := 3) (xs' := ints_ ((((M.startP r).stores).set 0 X65KX).set 1 X84KX)) ty_2.h rfl rfl rfl rfl rfl rfl (ints_lt (i := 1) (by first | omega | (simp only [List.length_set, M.setI_length]; omega))) (ints_setL (i := 1) (by first | omega | (simp only [List.length_set, M.setI_length]; omega)))) (.inr rfl) ?_
   rintro _ _ _ ⟨rfl, rfl⟩ _
   refine znh ?_
   refine yd ?_
   refine zh [1, 0, 0, 0, 0, 0, 0] ?_
   exact zm ⟨_, _, _, _, rfl, rfl, zt, zt, zt, zt⟩ (Up.refl _ _) ⟨rfl, rfl, rfl, trivial⟩
  refine yBB 1 sp_ rfl rfl (fun w hb _ hw => c_spec_l00Src_pick s_code X65AT X65SD 8 hb (ok_ hw)) ?_
  rintro _ _ G86 ⟨X86KX, X86AT, X86SD, rfl, rfl, hX86_0, hX86_1, hX86_2, hX86_3⟩
  refine znh ?_
  refine y1 1 ?_
  refine JHo.q rfl (q_load1 ty_26.h rfl (Mem.box (i := 2) rfl rfl)) ?_
  refine JH.p 4 rfl (p_indexAddr el_26 rfl rfl (by omega) (by omega) rfl) ?_
  refine y1 5 ?_
  refine JHo.s rfl (e_storeRow (i := 3) (xs' := ints_ ((((M.startP r).stores).set 0 X65KX).set 1 X86KX)) ty_2.h rfl rfl rfl rfl rfl rfl (ints_lt (i := 1) (by first | omega | (simp only [List.length_set, M.setI_length]; omega))) (ints_setL (i := 1) (by first | omega | (simp only [List.length_set, M.setI_length]; omega)))) (.inr rfl) ?_
  rintro _ _ _ ⟨rfl, rfl⟩ _
  refine znh ?_
  refine yd ?_
  refine zh [1, 0, 0, 0, 0, 0, 0] ?_
  exact zm ⟨_, _, _, _, rfl, rfl, zt, zt, zt, zt⟩ (Up.refl _ _) ⟨rfl, rfl, rfl, trivial⟩
 rintro _ _ u83 ⟨G79, X79AT, X79SD, X79KX, rfl, rfl, f83_0, f83_1, f83_2, f83_3⟩ x83
 refine zn ?_
 refine zf [1, 1, 1, 1, 1] fun GG88 => ?_
 refine zn ?_
 refine zS <| Qm rfl <| zBB 1 sp_ rfl (fun w hb _ hw => c_spec_l00Src_pick s_code X79AT X79SD 2 hb (ok_ hw)) ?_
 rintro _ _ G89 ⟨X89KX, X89AT, X89SD, rfl, rfl, hX89_0, hX89_1, hX89_2, hX89_3⟩
 refine znl ?_
 refine Qf fh rfl <| zw 2 rfl rfl rfl ?_
 refine JL.nil ?_
 refine zf [0, 1, 1, 1, 1] fun GG90 => ?_
 refine zn ?_
 refine zS <| Q9 1 rfl rfl ?_
 refine zw 4 rfl rfl rfl ?_
 refine JL.nil ?_
 refine zf [0, 1, 1, 1] fun GG91 => ?_
 refine zn ?_
 refine zrb [0, 1, 0] hb ((x9.trans x71).trans x83) ?_
 have hNr0 : xs.length = ((M.startP r).pits).length := by first | rfl | assumption | omega | (simp only [List.length_set, M.setI_length]; done) | (simp only [List.length_set, M.setI_length]; first | rfl | assumption | omega)
 have hNr1 : ((((M.startP r).stores).set 0 X65KX).set 1 X79KX).length = ((M.startP r).stores).length := by first | rfl | assumption | omega | (simp only [List.length_set, M.setI_length]; done) | (simp only [List.length_set, M.setI_length]; first | rfl | assumption | omega)
 refine ⟨((M.Pos.mk xs ((((M.startP r).stores).set 0 X65KX).set 1 X79KX) X89KX)), (X89AT), (X89SD), A4, c4, [], (some ⟨b67, 0, none⟩), c5, [], (show (.agg #[.slice A4 (((M.startP r).pits).length) c4, .slice (some ⟨b67, 0, none⟩) (((M.startP r).stores).length) c5, .int .i64 X89KX] : Value) = .agg #[.slice A4 xs.length c4, .slice (some ⟨b67, 0, none⟩) ((((M.startP r).stores).set 0 X65KX).set 1 X79KX).length c5, .int .i64 X89KX] by rw [hNr0, hNr1]), ?_, ?_, ?_, ?_, ?_, by first | trivial | omega | decide | (dsimp only; omega), by first | trivial | omega | decide | (dsimp only; omega), by first | trivial | omega | decide | (dsimp only; omega)⟩
 · first | rfl | (dsimp only; rw [hNr0, hNr1]) | (dsimp only; simp only [hNr0, hNr1])
 all_goals (try dsimp only)
 all_goals (first | (rw [hNr0, hNr1]; omega) | omega | (simp only [*]; omega))

set_option maxHeartbeats 1000000 in
theorem c_spec_LegalMoves (r : M.Rul) {v_r : Value} (p : M.Pos) {v_p : Value} {w : World} (h_r : (Ty.agg (cRules r)).ok w v_r) (h_p : (Ty.agg (cPosition p)).ok w v_p) (r0 : p.pits.length ≤ 4194304 := by exact om_) (r1 : p.stores.length ≤ 4194304 := by exact om_) : Ret Tryz.prog 99 [v_r, v_p] w (Ty.tup [Ty.ints 2 (M.legal r p), Ty.ex (fun (CX : Int) => True) (fun CX => Ty.int CX)]) := by
 revert v_r; apply opn
 revert v_p; apply opn
 intro A1 c1 h1 bl1 bh1 A2 c2 h2 bl2 bh2
 refine enter @Tryz.func99 @Tryz.ntmps99 rfl rfl ?_
 refine zent ?_
 refine zS <| zb rfl fun b3 => zb rfl fun b4 => Qa rfl <| Qa rfl <| zJ <| zS <| zv rfl (fun w hw => c_spec_l04Ok r p (ok_ hw) (ok_ hw)) <| Qt rfl <| JL.nil ?_
 refine zi (fun h5 h5' => ?_) fun h5 h5' => ?_
 ·
  have hE := M.legal_no (r := r) (p := p) (by simpa using h5)
  have hq0 : [] = M.legal r p := by first | exact hE | (rw [hE]; done)
  refine zS <| Qa rfl <| Qa rfl <| JL.nil ?_
  exact zro (Up.refl _ _) (g := by exact (gv_tup (gvc gv_ (gvc (gv_ex 1 (by first | trivial | omega | decide | (dsimp only; omega)) gv_) gvn))))
 have hok : M.okP r p = true := by simpa using h5
 have g8 := M.results_8 hok
 refine Js.skip <| zS <| zbs fun b6 => ?_
 refine Qa rfl <| zN <| zp rfl (fun w hw => c_spec_l07All r p (ok_ hw) (ok_ hw) (r0 := hok)) ?_
 intro u8 x8 A9 c9 h9 bl9 bh9
 refine Qa rfl <| zJ <| zS <| Qa rfl <| JL.nil <| Js.block ?_
 refine zl [7] (fun F U l os u m => ∃ (k : Nat) (acc : List Int) (A10_6 : Option Addr) (c10_6 : Nat) (g10_6 : List Nat), l = F [(6, .slice A10_6 acc.length c10_6), (8, .int .i64 (k : Int))] ∧ os = U [some (rowO 2 1 (.slice A10_6 acc.length c10_6) acc.length (ints_ acc) g10_6)] ∧ (acc = ((M.results r p).map (·.move)).take k) ∧ (k ≤ (M.results r p).length) ∧ (acc.length = k) ∧ (acc.length ≤ c10_6) ∧ (c10_6 ≤ 9223372036854775807) ∧ m = (M.results r p).length - k) ⟨0, [], _, _, _, rfl, rfl, by rfl, zt, by rfl, zu, zu, rfl⟩ ?_
 rintro _ _ u10 _ ⟨k, acc, A10_6, c10_6, g10_6, rfl, rfl, hA, hk, hl, f10_3, f10_4, rfl⟩ x10
 refine zn ?_
 refine Js.seq <| zS <| Qm rfl <| Qm rfl <| Qz rfl <| Ql rfl rfl <| JL.nil ?_
 refine zi (fun h11 h11' => ?_) fun h11 h11' => ?_
 ·
  obtain ⟨y12, hy12⟩ : ∃ x, (M.results r p)[k]? = some x := ⟨_, List.getElem?_eq_getElem (by omega)⟩
  obtain ⟨b12, o12, A12_3, c12_3, A12_4, c12_4, he12, hr12, h12_3, h12_4, bl12_3, bh12_3, bl12_4, bh12_4⟩ := elem_Result (Ty.mono _ h9 x10.vis) hy12
  refine Js.skip <| Js.seq <| Js.block <| Js.region <| Qm rfl <| Qm rfl <| Qm rfl <| Qq (p_indexAddr el_69 rfl rfl (by omega) (by omega) he12) <| Qf fh rfl <| QC (hr12 0 _ rfl) rfl <| zbs fun b13 => ?_
  refine JL.e (e_append (i := 1) (n' := (acc ++ [y12.move]).length) (vs' := ints_ (acc ++ [y12.move])) el_26 rfl rfl rfl rfl (src_row (i := 0) und_26 rfl rfl) (by omega) (by omega) (by first | omega | (simp only [List.length_append, List.length_cons, List.length_nil] <;> omega)) (by simp [ints_])) ?_
  rintro v15 _ _ ⟨⟨g16, rfl⟩, rfl⟩ _
  refine JL.fact (row_form' (i := 1) rfl) (fun hf17 => ?_)
  obtain ⟨A17, c17, rfl, bl17, bh17⟩ := hf17
  refine znl ?_
  refine Qa rfl <| JL.nil <| Js.blockEnd <| Js.region <| Qm rfl <| Qp rfl rfl <| Qa rfl <| JL.nil ?_
  refine zd [1, 1, 1] rfl fun u18 x18 => ?_
  exact zag ⟨k + 1, acc ++ [y12.move], _, _, _, rfl, rfl, by rw [hA]; exact (M.moves_step (by assumption)).symm, zt, by simp [hl], zu, zu, rfl⟩ (x10.trans x18)
 have hE : acc = M.legal r p := by rw [hA, M.legal_yes hok, List.take_of_length_le (by rw [List.length_map]; have := h11'; omega)]
 refine zx ?_
 have hq0 : acc = M.legal r p := by first | exact hE | (rw [hE]; done)
 refine zS <| Qm rfl <| Qa rfl <| Qa rfl <| JL.nil ?_
 exact zro (x8.trans x10) (g := by exact (gv_tup (gvc gv_ (gvc (gv_ex 0 (by first | trivial | omega | decide | (dsimp only; omega)) gv_) gvn))))

set_option maxHeartbeats 1000000 in
theorem c_spec_l08Legal (s_code : Nat) (s_at s_seed : Int) {As_0 : Option Addr} {cs_0 : Nat} (g : M.Gam) {v_g : Value} {bs : Nat} {w : World} (hb : Bw w [boxO bs [.slice As_0 s_code cs_0, .int .i64 s_at, .int .u64 s_seed] 113]) (hps_0 : (Ty.bytes 5 s_code).ok (offW w (([boxO bs [.slice As_0 s_code cs_0, .int .i64 s_at, .int .u64 s_seed] 113] : List Own).flatMap (·.fp))) (.slice As_0 s_code cs_0)) (h_g : (Ty.ref (cGame g)).ok (offW w (([boxO bs [.slice As_0 s_code cs_0, .int .i64 s_at, .int .u64 s_seed] 113] : List Own).flatMap (·.fp))) v_g) (r0 : 0 ≤ s_at := by exact om_) (r1 : s_at ≤ 999999998 := by exact om_) (r2 : s_code ≤ 1048576 := by exact om_) (r3 : g.start.pits.length ≤ 4194304 := by exact om_) (r4 : g.start.stores.length ≤ 4194304 := by exact om_) (r5 : g.moves.length ≤ 4194304 := by exact om_) (r6 : g.now.pits.length ≤ 4194304 := by exact om_) (r7 : g.now.stores.length ≤ 4194304 := by exact om_) : RetB Tryz.prog 61 [.pointer (some ⟨bs, 0, none⟩), v_g] w [boxO bs [.slice As_0 s_code cs_0, .int .i64 s_at, .int .u64 s_seed] 113] (fun v bs' => ∃ (KX AT SD : Int), v = .int .i64 KX ∧ bs' = [boxO bs [.slice As_0 s_code cs_0, .int .i64 AT, .int .u64 SD] 113] ∧ (s_at ≤ AT) ∧ (AT ≤ s_at + 2)) := by
 have hll := M.legal_len g.rules g.now
 revert v_g; apply opn
 intro b6 o6 A1 c1 h1 bl1 bh1 A2 c2 h2 bl2 bh2 A3 c3 h3 bl3 bh3 A4 c4 h4 bl4 bh4 A5 c5 h5 bl5 bh5 hr6
 refine enterB hb @Tryz.func61 @Tryz.ntmps61 rfl rfl ?_
 refine zent ?_
 refine Js.trashE ?_
 refine zn ?_
 refine zS <| Qa rfl <| zJ ?_
 refine zdr [] ?_
 refine JH.p 0 rfl (p_move rfl) ?_
 refine JH.p 1 rfl (p_nilCheck rfl) ?_
 refine JH.p 2 rfl (p_fieldAddr fld_30_0.h rfl) ?_
 refine JH.w 3 rfl (fun os' u' hv => LS 0 (hr6.vis hv) rfl) ?_
 refine JH.p 4 rfl (p_move rfl) ?_
 refine JH.p 5 rfl (p_nilCheck rfl) ?_
 refine JH.p 6 rfl (p_fieldAddr fld_30_3.h rfl) ?_
 refine JH.w 7 rfl (fun os' u' hv => LS 13 (hr6.vis hv) rfl) ?_
 refine y1 8 ?_
 refine yp rfl rfl (fun w hw => c_spec_LegalMoves g.rules g.now (ok_ hw) (ok_ hw)) ?_
 intro u7 x7 A8 c8 h8 bl8 bh8 X9 hX9
 refine JH.p 9 rfl (p_move rfl) ?_
 refine JH.p 10 rfl (p_extract rfl rfl) ?_
 refine JH.p 11 rfl (p_extract rfl rfl) ?_
 refine JH.p 12 rfl (p_assign rfl) ?_
 refine JH.p 13 rfl (p_assign rfl) ?_
 refine yd ?_
 refine Js.seq <| zS <| Qm rfl <| Qz rfl <| Qe rfl rfl <| JL.nil ?_
 refine zi (fun h10 h10' => ?_) fun h10 h10' => ?_
 ·
  refine zS <| Qa rfl <| JL.nil ?_
  refine zrb [0] hb x7 ?_
  refine ⟨((-1)), (s_at), (s_seed), rfl, ?_, by first | trivial | omega | decide | (dsimp only; omega), by first | trivial | omega | decide | (dsimp only; omega)⟩
  · rfl
 refine Js.skip <| zS <| Qm rfl <| Qm rfl <| Qm rfl <| Qz rfl <| zBB 1 sp_ rfl (fun w hb _ hw => c_spec_l00Src_pick s_code s_at s_seed (((M.legal g.rules g.now).length) : Int) hb (ok_ hw)) ?_
 rintro _ _ G11 ⟨X11KX, X11AT, X11SD, rfl, rfl, hX11_0, hX11_1, hX11_2, hX11_3⟩
 refine znl ?_
 obtain ⟨b12, o12, he12, hc12⟩ := ints_elem h8 (i := X11KX.toNat) (by omega)
 refine Qq (p_indexAddr el_26 rfl rfl (by omega) (by omega) he12) <| QC hc12 rfl <| Qa rfl <| JL.nil ?_
 refine zrb [0] hb x7 ?_
 refine ⟨(M.nth (M.legal g.rules g.now) X11KX.toNat), (X11AT), (X11SD), rfl, ?_, by first | trivial | omega | decide | (dsimp only; omega), by first | trivial | omega | decide | (dsimp only; omega)⟩
 · rfl

end Go.Proofs.YtejnmechnhgmfaaGreat

namespace Go.Proofs.YtejnmechnhgmfaaGreat
open Go.RowKit

set_option maxHeartbeats 1000000 in
theorem c_spec_l08New (r : M.Rul) {v_r : Value} (p : M.Pos) {v_p : Value} {w : World} (h_r : (Ty.ref (cRules r)).ok w v_r) (h_p : (Ty.ref (cPosition p)).ok w v_p) (r0 : p.pits.length ≤ 4194304 := by exact om_) (r1 : p.stores.length ≤ 4194304 := by exact om_) : Ret Tryz.prog 72 [v_r, v_p] w (Ty.agg (cGame (M.Gam.mk r p [] p (-1)))) := by
 revert v_r; apply opn
 intro b1 o1 hr1
 revert v_p; apply opn
 intro b4 o4 A2 c2 h2 bl2 bh2 A3 c3 h3 bl3 bh3 hr4
 refine enter @Tryz.func72 @Tryz.ntmps72 rfl rfl ?_
 refine zent ?_
 refine zS <| za zeh fun b5 => zJ ?_
 refine zdr [8] ?_
 refine JH.p 0 rfl (p_move rfl) ?_
 refine JH.p 1 rfl (p_nilCheck rfl) ?_
 refine JH.w 2 rfl (fun os' u' hv => LS 0 (hr1.vis hv) rfl) ?_
 refine JH.p 3 rfl (p_move rfl) ?_
 refine JH.p 5 rfl (p_move rfl) ?_
 refine y1 4 ?_
 refine yc rfl rfl (fun w hw => c_spec_l04Own p (ok_ hw)) ?_
 intro A7 c7 bl7 bh7 A8 c8 bl8 bh8
 refine y1 6 ?_
 refine yc rfl rfl (fun w hw => c_spec_l04Own p (ok_ hw)) ?_
 intro A10 c10 bl10 bh10 A11 c11 bl11 bh11
 refine JH.p 7 rfl (q_bld) ?_
 refine y1 8 ?_
 refine yst rfl rfl rfl ?_
 refine yd ?_
 exact zro (Up.refl _ _)

set_option maxHeartbeats 2000000 in
theorem c_spec_CutGame (g : M.Gam) {v_g : Value} {w : World} (h_g : (Ty.agg (cGame g)).ok w v_g) (r0 : g.start.pits.length ≤ 4194304 := by exact om_) (r1 : g.start.stores.length ≤ 4194304 := by exact om_) (r2 : g.moves.length ≤ 4194304 := by exact om_) (r3 : g.now.pits.length ≤ 4194304 := by exact om_) (r4 : g.now.stores.length ≤ 4194304 := by exact om_) : Ret Tryz.prog 47 [v_g] w (Ty.tup [Ty.agg (cGame ((M.cutR g).1)), Ty.int ((M.cutR g).2)]) := by
 revert v_g; apply opn
 intro A1 c1 h1 bl1 bh1 A2 c2 h2 bl2 bh2 A3 c3 h3 bl3 bh3 A4 c4 h4 bl4 bh4 A5 c5 h5 bl5 bh5
 refine enter @Tryz.func47 @Tryz.ntmps47 rfl rfl ?_
 refine zent ?_
 refine zS <| zb rfl fun b6 => za zeh fun b7 => Qa rfl <| zJ <| zS <| zv rfl (fun w hw => c_spec_l08Ok g (ok_ hw)) <| Qt rfl <| JL.nil ?_
 refine zi (fun h8 h8' => ?_) fun h8 h8' => ?_
 ·
  have hno : M.okG g = false := by simpa using h8
  have hE := M.cutR_1 hno
  have hq0 : 0 = (((M.cutR g).1).rules).pits := by first | (rw [hE]; done) | (rw [hE]; rfl)
  have hq1 : 0 = (((M.cutR g).1).rules).seeds := by first | (rw [hE]; done) | (rw [hE]; rfl)
  have hq2 : false = (((M.cutR g).1).rules).stores := by first | (rw [hE]; done) | (rw [hE]; rfl)
  have hq3 : false = (((M.cutR g).1).rules).skip := by first | (rw [hE]; done) | (rw [hE]; rfl)
  have hq4 : false = (((M.cutR g).1).rules).relay := by first | (rw [hE]; done) | (rw [hE]; rfl)
  have hq5 : false = (((M.cutR g).1).rules).feed := by first | (rw [hE]; done) | (rw [hE]; rfl)
  have hq6 : false = (((M.cutR g).1).rules).again := by first | (rw [hE]; done) | (rw [hE]; rfl)
  have hq7 : 0 = (((M.cutR g).1).rules).capture := by first | (rw [hE]; done) | (rw [hE]; rfl)
  have hq8 : 0 = (((M.cutR g).1).rules).slam := by first | (rw [hE]; done) | (rw [hE]; rfl)
  have hq9 : [] = (((M.cutR g).1).start).pits := by first | (rw [hE]; done) | (rw [hE]; rfl)
  have hq10 : [] = (((M.cutR g).1).start).stores := by first | (rw [hE]; done) | (rw [hE]; rfl)
  have hq11 : 0 = (((M.cutR g).1).start).player := by first | (rw [hE]; done) | (rw [hE]; rfl)
  have hq12 : [] = ((M.cutR g).1).moves := by first | (rw [hE]; done) | (rw [hE]; rfl)
  have hq13 : [] = (((M.cutR g).1).now).pits := by first | (rw [hE]; done) | (rw [hE]; rfl)
  have hq14 : [] = (((M.cutR g).1).now).stores := by first | (rw [hE]; done) | (rw [hE]; rfl)
  have hq15 : 0 = (((M.cutR g).1).now).player := by first | (rw [hE]; done) | (rw [hE]; rfl)
  have hq16 : 0 = ((M.cutR g).1).resigned := by first | (rw [hE]; done) | (rw [hE]; rfl)
  have hq17 : 1 = (M.cutR g).2 := by first | (rw [hE]; done) | (rw [hE]; rfl)
  refine zS <| Qb ?_
  refine zw 0 rfl rfl rfl ?_
  refine Qa rfl <| JL.nil ?_
  exact zro (Up.refl _ _)
 have hok : M.okG g = true := by simpa using h8
 obtain ⟨k1, k2, k3, k4, k5, k6, k7, k8, k9⟩ := M.okG_parts hok
 refine Js.skip <| zS <| Qf fh rfl <| Qf fh rfl <| zc rfl (fun w hw => c_spec_l08New g.rules g.start ⟨_, _, [.int .i64 g.rules.pits, .int .i64 g.rules.seeds, .bool g.rules.stores, .bool g.rules.skip, .bool g.rules.relay, .bool g.rules.feed, .bool g.rules.again, .int .i64 g.rules.capture, .int .i64 g.rules.slam], rfl, ⟨rfl, rfl, rfl, rfl, rfl, rfl, rfl, rfl, rfl, trivial⟩, Mem.boxR (i := 1) rfl 0 9 _ hw⟩ ⟨_, _, [.slice A1 g.start.pits.length c1, .slice A2 g.start.stores.length c2, .int .i64 g.start.player], rfl, ⟨(ok_ hw), (ok_ hw), rfl, trivial⟩, Mem.boxR (i := 1) rfl 9 3 _ hw⟩) ?_
 intro A10 c10 bl10 bh10 A11 c11 bl11 bh11 A12 c12 bl12 bh12 A13 c13 bl13 bh13 A14 c14 bl14 bh14
 refine za zeh fun b15 => zw 0 rfl rfl rfl ?_
 refine zJ <| zS <| Qa rfl <| JL.nil <| Js.block ?_
 refine zl [1, 2, 4] (fun F U l os u m => ∃ (k : Nat) (gk : M.Gam) (A16_4_9 : Option Addr) (c16_4_9 : Nat) (g16_4_9 : List Nat) (A16_4_10 : Option Addr) (c16_4_10 : Nat) (g16_4_10 : List Nat) (A16_4_12 : Option Addr) (c16_4_12 : Nat) (g16_4_12 : List Nat) (A16_4_13 : Option Addr) (c16_4_13 : Nat) (g16_4_13 : List Nat) (A16_4_14 : Option Addr) (c16_4_14 : Nat) (g16_4_14 : List Nat), l = F [(5, .int .i64 (k : Int))] ∧ os = U [some (boxO b15 [.int .i64 gk.rules.pits, .int .i64 gk.rules.seeds, .bool gk.rules.stores, .bool gk.rules.skip, .bool gk.rules.relay, .bool gk.rules.feed, .bool gk.rules.again, .int .i64 gk.rules.capture, .int .i64 gk.rules.slam, .slice A16_4_9 gk.start.pits.length c16_4_9, .slice A16_4_10 gk.start.stores.length c16_4_10, .int .i64 gk.start.player, .slice A16_4_12 gk.moves.length c16_4_12, .slice A16_4_13 gk.now.pits.length c16_4_13, .slice A16_4_14 gk.now.stores.length c16_4_14, .int .i64 gk.now.player, .int .i64 gk.resigned] 30), some (rowO 2 1 (.slice A16_4_14 gk.now.stores.length c16_4_14) gk.now.stores.length (ints_ gk.now.stores) g16_4_14), some (rowO 2 1 (.slice A16_4_13 gk.now.pits.length c16_4_13) gk.now.pits.length (ints_ gk.now.pits) g16_4_13), some (rowO 2 1 (.slice A16_4_12 gk.moves.length c16_4_12) gk.moves.length (ints_ gk.moves) g16_4_12), some (rowO 2 1 (.slice A16_4_10 gk.start.stores.length c16_4_10) gk.start.stores.length (ints_ gk.start.stores) g16_4_10), some (rowO 2 1 (.slice A16_4_9 gk.start.pits.length c16_4_9) gk.start.pits.length (ints_ gk.start.pits) g16_4_9)] ∧ (gk = M.cutG g k) ∧ (M.Cut g k) ∧ (k ≤ g.moves.length) ∧ (gk.start.pits.length ≤ c16_4_9) ∧ (c16_4_9 ≤ 9223372036854775807) ∧ (gk.start.stores.length ≤ c16_4_10) ∧ (c16_4_10 ≤ 9223372036854775807) ∧ (gk.moves.length ≤ c16_4_12) ∧ (c16_4_12 ≤ 9223372036854775807) ∧ (gk.now.pits.length ≤ c16_4_13) ∧ (c16_4_13 ≤ 9223372036854775807) ∧ (gk.now.stores.length ≤ c16_4_14) ∧ (c16_4_14 ≤ 9223372036854775807) ∧ m = g.moves.length - k) ⟨0, (M.Gam.mk g.rules g.start [] g.start (-1)), _, _, _, _, _, _, _, _, _, _, _, _, _, _, _, rfl, rfl, by exact (M.cut_zero hok).symm, by exact M.Cut.zero g, zt, zu, zu, zu, zu, zu, zu, zu, zu, zu, zu, rfl⟩ ?_
 rintro _ _ u16 _ ⟨k, gk, A16_4_9, c16_4_9, g16_4_9, A16_4_10, c16_4_10, g16_4_10, A16_4_12, c16_4_12, g16_4_12, A16_4_13, c16_4_13, g16_4_13, A16_4_14, c16_4_14, g16_4_14, rfl, rfl, hG, hC, hk, f16_3, f16_4, f16_5, f16_6, f16_7, f16_8, f16_9, f16_10, f16_11, f16_12, rfl⟩ x16
 refine zn ?_
 have hok2 : M.okG gk = true := by rw [hG]; exact M.cut_ok hok (by omega)
 have hsm := M.Small.ok hok2
 have hm9 := (M.okG_parts hok2).2.1
 have s1 := hsm.sp
 have s2 := hsm.ss
 have s3 := hsm.m
 have s4 := hsm.np
 have s5 := hsm.ns
 refine Js.seq <| zS <| Qm rfl <| Qf fh rfl <| Q0 7 rfl rfl rfl <| Qz rfl <| Ql rfl rfl <| JL.nil ?_
 refine zi (fun h17 h17' => ?_) fun h17 h17' => ?_
 ·
  refine Js.skip <| Js.seq <| Js.block <| Js.seq <| zS <| zv rfl (fun w hw => c_spec_l09End gk (ok_ hw) (r5 := hok2)) <| Qd rfl rfl <| JL.nil ?_
  refine zi (fun h18 h18' => ?_) fun h18 h18' => ?_
  ·
   have hE : M.cutR g = (gk, 0) := by rw [M.cutR_0 hok, M.cutE_at hC hk (by rw [← hG]; simpa using h18), hG]
   have hq0 : gk.rules.pits = (((M.cutR g).1).rules).pits := by first | (rw [hE]; done) | (rw [hE]; rfl)
   have hq1 : gk.rules.seeds = (((M.cutR g).1).rules).seeds := by first | (rw [hE]; done) | (rw [hE]; rfl)
   have hq2 : gk.rules.stores = (((M.cutR g).1).rules).stores := by first | (rw [hE]; done) | (rw [hE]; rfl)
   have hq3 : gk.rules.skip = (((M.cutR g).1).rules).skip := by first | (rw [hE]; done) | (rw [hE]; rfl)
   have hq4 : gk.rules.relay = (((M.cutR g).1).rules).relay := by first | (rw [hE]; done) | (rw [hE]; rfl)
   have hq5 : gk.rules.feed = (((M.cutR g).1).rules).feed := by first | (rw [hE]; done) | (rw [hE]; rfl)
   have hq6 : gk.rules.again = (((M.cutR g).1).rules).again := by first | (rw [hE]; done) | (rw [hE]; rfl)
   have hq7 : gk.rules.capture = (((M.cutR g).1).rules).capture := by first | (rw [hE]; done) | (rw [hE]; rfl)
   have hq8 : gk.rules.slam = (((M.cutR g).1).rules).slam := by first | (rw [hE]; done) | (rw [hE]; rfl)
   have hq9 : gk.start.pits = (((M.cutR g).1).start).pits := by first | (rw [hE]; done) | (rw [hE]; rfl)
   have hq10 : gk.start.stores = (((M.cutR g).1).start).stores := by first | (rw [hE]; done) | (rw [hE]; rfl)
   have hq11 : gk.start.player = (((M.cutR g).1).start).player := by first | (rw [hE]; done) | (rw [hE]; rfl)
   have hq12 : gk.moves = ((M.cutR g).1).moves := by first | (rw [hE]; done) | (rw [hE]; rfl)
   have hq13 : gk.now.pits = (((M.cutR g).1).now).pits := by first | (rw [hE]; done) | (rw [hE]; rfl)
   have hq14 : gk.now.stores = (((M.cutR g).1).now).stores := by first | (rw [hE]; done) | (rw [hE]; rfl)
   have hq15 : gk.now.player = (((M.cutR g).1).now).player := by first | (rw [hE]; done) | (rw [hE]; rfl)
   have hq16 : gk.resigned = ((M.cutR g).1).resigned := by first | (rw [hE]; done) | (rw [hE]; rfl)
   have hq17 : 0 = (M.cutR g).2 := by first | (rw [hE]; done) | (rw [hE]; rfl)
   refine zS <| Q9 0 rfl rfl ?_
   refine zw 6 rfl rfl rfl ?_
   refine Qa rfl <| JL.nil ?_
   exact zro x16
  have hC2 := hC.step (by rw [← hG]; simpa using h18)
  obtain ⟨b19, o19, he19, hc19⟩ := ints_elem (Ty.mono _ h3 x16.vis) (i := k) (by omega)
  refine Js.skip <| zS <| Qf fh rfl <| Q0 7 rfl rfl rfl <| Qm rfl <| Qq (p_indexAddr el_26 rfl rfl (by omega) (by omega) he19) <| QC hc19 rfl <| zc rfl (fun w hw => c_spec_l08Play gk (M.nth g.moves k) (ok_ hw)) ?_
  intro A22 c22 bl22 bh22 A23 c23 bl23 bh23 A24 c24 bl24 bh24 A25 c25 bl25 bh25 A26 c26 bl26 bh26
  refine Qm rfl <| Qx rfl rfl <| Qx rfl rfl <| za zeh fun b27 => zw 0 rfl rfl rfl ?_
  refine Qa rfl <| zG <| Q9 0 rfl rfl ?_
  refine zw 6 rfl rfl rfl ?_
  refine JL.nil <| Js.blockEnd <| Js.region <| Qm rfl <| Qp rfl rfl <| Qa rfl <| JL.nil ?_
  refine zd [6, 1, 1, 1, 1, 1, 6, 6] rfl fun u28 x28 => ?_
  exact zag ⟨k + 1, (M.play gk (M.nth g.moves k)).1, _, _, _, _, _, _, _, _, _, _, _, _, _, _, _, rfl, rfl, by rw [hG, M.cut_play hok (by omega)], by exact hC2, zt, zu, zu, zu, zu, zu, zu, zu, zu, zu, zu, rfl⟩ (x16.trans x28)
 have e9 : k = g.moves.length := by have := h17'; omega
 refine zx ?_
 refine Js.seq <| zS <| zv rfl (fun w hw => c_spec_l09End gk (ok_ hw) (r5 := hok2)) <| Qe rfl rfl <| JL.nil ?_
 refine zi (fun h29 h29' => ?_) fun h29 h29' => ?_
 ·
  have hE : M.cutR g = (⟨gk.rules, gk.start, gk.moves, gk.now, g.resigned⟩, 0) := by rw [M.cutR_0 hok, M.cutE_no ((congrArg (· + 1) e9) ▸ (hC.step (by rw [← hG]; simpa using h29))), hG, e9]; exact congrArg (·, 0) (M.cut_all hok).symm
  have hq0 : gk.rules.pits = (((M.cutR g).1).rules).pits := by first | (rw [hE]; done) | (rw [hE]; rfl)
  have hq1 : gk.rules.seeds = (((M.cutR g).1).rules).seeds := by first | (rw [hE]; done) | (rw [hE]; rfl)
  have hq2 : gk.rules.stores = (((M.cutR g).1).rules).stores := by first | (rw [hE]; done) | (rw [hE]; rfl)
  have hq3 : gk.rules.skip = (((M.cutR g).1).rules).skip := by first | (rw [hE]; done) | (rw [hE]; rfl)
  have hq4 : gk.rules.relay = (((M.cutR g).1).rules).relay := by first | (rw [hE]; done) | (rw [hE]; rfl)
  have hq5 : gk.rules.feed = (((M.cutR g).1).rules).feed := by first | (rw [hE]; done) | (rw [hE]; rfl)
  have hq6 : gk.rules.again = (((M.cutR g).1).rules).again := by first | (rw [hE]; done) | (rw [hE]; rfl)
  have hq7 : gk.rules.capture = (((M.cutR g).1).rules).capture := by first | (rw [hE]; done) | (rw [hE]; rfl)
  have hq8 : gk.rules.slam = (((M.cutR g).1).rules).slam := by first | (rw [hE]; done) | (rw [hE]; rfl)
  have hq9 : gk.start.pits = (((M.cutR g).1).start).pits := by first | (rw [hE]; done) | (rw [hE]; rfl)
  have hq10 : gk.start.stores = (((M.cutR g).1).start).stores := by first | (rw [hE]; done) | (rw [hE]; rfl)
  have hq11 : gk.start.player = (((M.cutR g).1).start).player := by first | (rw [hE]; done) | (rw [hE]; rfl)
  have hq12 : gk.moves = ((M.cutR g).1).moves := by first | (rw [hE]; done) | (rw [hE]; rfl)
  have hq13 : gk.now.pits = (((M.cutR g).1).now).pits := by first | (rw [hE]; done) | (rw [hE]; rfl)
  have hq14 : gk.now.stores = (((M.cutR g).1).now).stores := by first | (rw [hE]; done) | (rw [hE]; rfl)
  have hq15 : gk.now.player = (((M.cutR g).1).now).player := by first | (rw [hE]; done) | (rw [hE]; rfl)
  have hq16 : g.resigned = ((M.cutR g).1).resigned := by first | (rw [hE]; done) | (rw [hE]; rfl)
  have hq17 : 0 = (M.cutR g).2 := by first | (rw [hE]; done) | (rw [hE]; rfl)
  refine Js.region <| Qf fh rfl <| Q0 7 rfl rfl rfl <| Qf fh rfl <| zw 0 rfl rfl rfl ?_
  refine zN <| Q9 0 rfl rfl ?_
  refine zw 6 rfl rfl rfl ?_
  refine Qa rfl <| JL.nil ?_
  exact zro x16
 have hE : M.cutR g = (gk, 0) := by rw [M.cutR_0 hok, M.cutE_at hC hk (by rw [← hG]; simpa using h29), hG]
 have hq0 : gk.rules.pits = (((M.cutR g).1).rules).pits := by first | (rw [hE]; done) | (rw [hE]; rfl)
 have hq1 : gk.rules.seeds = (((M.cutR g).1).rules).seeds := by first | (rw [hE]; done) | (rw [hE]; rfl)
 have hq2 : gk.rules.stores = (((M.cutR g).1).rules).stores := by first | (rw [hE]; done) | (rw [hE]; rfl)
 have hq3 : gk.rules.skip = (((M.cutR g).1).rules).skip := by first | (rw [hE]; done) | (rw [hE]; rfl)
 have hq4 : gk.rules.relay = (((M.cutR g).1).rules).relay := by first | (rw [hE]; done) | (rw [hE]; rfl)
 have hq5 : gk.rules.feed = (((M.cutR g).1).rules).feed := by first | (rw [hE]; done) | (rw [hE]; rfl)
 have hq6 : gk.rules.again = (((M.cutR g).1).rules).again := by first | (rw [hE]; done) | (rw [hE]; rfl)
 have hq7 : gk.rules.capture = (((M.cutR g).1).rules).capture := by first | (rw [hE]; done) | (rw [hE]; rfl)
 have hq8 : gk.rules.slam = (((M.cutR g).1).rules).slam := by first | (rw [hE]; done) | (rw [hE]; rfl)
 have hq9 : gk.start.pits = (((M.cutR g).1).start).pits := by first | (rw [hE]; done) | (rw [hE]; rfl)
 have hq10 : gk.start.stores = (((M.cutR g).1).start).stores := by first | (rw [hE]; done) | (rw [hE]; rfl)
 have hq11 : gk.start.player = (((M.cutR g).1).start).player := by first | (rw [hE]; done) | (rw [hE]; rfl)
 have hq12 : gk.moves = ((M.cutR g).1).moves := by first | (rw [hE]; done) | (rw [hE]; rfl)
 have hq13 : gk.now.pits = (((M.cutR g).1).now).pits := by first | (rw [hE]; done) | (rw [hE]; rfl)
 have hq14 : gk.now.stores = (((M.cutR g).1).now).stores := by first | (rw [hE]; done) | (rw [hE]; rfl)
 have hq15 : gk.now.player = (((M.cutR g).1).now).player := by first | (rw [hE]; done) | (rw [hE]; rfl)
 have hq16 : gk.resigned = ((M.cutR g).1).resigned := by first | (rw [hE]; done) | (rw [hE]; rfl)
 have hq17 : 0 = (M.cutR g).2 := by first | (rw [hE]; done) | (rw [hE]; rfl)
 refine Js.skip <| zS <| Q9 0 rfl rfl ?_
 refine zw 6 rfl rfl rfl ?_
 refine Qa rfl <| JL.nil ?_
 exact zro x16

end Go.Proofs.YtejnmechnhgmfaaGreat

namespace Go.Proofs.YtejnmechnhgmfaaGreat
open Go.RowKit

set_option maxHeartbeats 4000000 in
theorem c_spec_l08Draw (s_code : Nat) (s_at s_seed : Int) {As_0 : Option Addr} {cs_0 : Nat} (most : Int) {bs : Nat} {w : World} (hb : Bw w [boxO bs [.slice As_0 s_code cs_0, .int .i64 s_at, .int .u64 s_seed] 113]) (hps_0 : (Ty.bytes 5 s_code).ok (offW w (([boxO bs [.slice As_0 s_code cs_0, .int .i64 s_at, .int .u64 s_seed] 113] : List Own).flatMap (·.fp))) (.slice As_0 s_code cs_0)) (r0 : 0 ≤ s_at := by exact om_) (r1 : s_at ≤ 999999000 := by exact om_) (r2 : s_code ≤ 1048576 := by exact om_) (r3 : 0 ≤ most := by exact om_) (r4 : most ≤ 20 := by exact om_) : RetB Tryz.prog 79 [.pointer (some ⟨bs, 0, none⟩), .int .i64 most] w [boxO bs [.slice As_0 s_code cs_0, .int .i64 s_at, .int .u64 s_seed] 113] (fun v bs' => ∃ (GX : M.Gam) (AT SD : Int) (Axr_9 : Option Addr) (cxr_9 : Nat) (gxr_9 : List Nat) (Axr_10 : Option Addr) (cxr_10 : Nat) (gxr_10 : List Nat) (Axr_12 : Option Addr) (cxr_12 : Nat) (gxr_12 : List Nat) (Axr_13 : Option Addr) (cxr_13 : Nat) (gxr_13 : List Nat) (Axr_14 : Option Addr) (cxr_14 : Nat) (gxr_14 : List Nat), v = .agg #[.int .i64 GX.rules.pits, .int .i64 GX.rules.seeds, .bool GX.rules.stores, .bool GX.rules.skip, .bool GX.rules.relay, .bool GX.rules.feed, .bool GX.rules.again, .int .i64 GX.rules.capture, .int .i64 GX.rules.slam, .slice Axr_9 GX.start.pits.length cxr_9, .slice Axr_10 GX.start.stores.length cxr_10, .int .i64 GX.start.player, .slice Axr_12 GX.moves.length cxr_12, .slice Axr_13 GX.now.pits.length cxr_13, .slice Axr_14 GX.now.stores.length cxr_14, .int .i64 GX.now.player, .int .i64 GX.resigned] ∧ bs' = [boxO bs [.slice As_0 s_code cs_0, .int .i64 AT, .int .u64 SD] 113, rowO 2 1 (.slice Axr_9 GX.start.pits.length cxr_9) GX.start.pits.length (ints_ GX.start.pits) gxr_9, rowO 2 1 (.slice Axr_10 GX.start.stores.length cxr_10) GX.start.stores.length (ints_ GX.start.stores) gxr_10, rowO 2 1 (.slice Axr_12 GX.moves.length cxr_12) GX.moves.length (ints_ GX.moves) gxr_12, rowO 2 1 (.slice Axr_13 GX.now.pits.length cxr_13) GX.now.pits.length (ints_ GX.now.pits) gxr_13, rowO 2 1 (.slice Axr_14 GX.now.stores.length cxr_14) GX.now.stores.length (ints_ GX.now.stores) gxr_14] ∧ GX.start.pits.length ≤ cxr_9 ∧ cxr_9 ≤ 9223372036854775807 ∧ GX.start.stores.length ≤ cxr_10 ∧ cxr_10 ≤ 9223372036854775807 ∧ GX.moves.length ≤ cxr_12 ∧ cxr_12 ≤ 9223372036854775807 ∧ GX.now.pits.length ≤ cxr_13 ∧ cxr_13 ≤ 9223372036854775807 ∧ GX.now.stores.length ≤ cxr_14 ∧ cxr_14 ≤ 9223372036854775807 ∧ (M.Small GX ∧ GX.moves.length ≤ 121 ∧ GX.now.stores.length = 2 ∧ 1 ≤ GX.now.pits.length) ∧ (s_at ≤ AT) ∧ (AT ≤ s_at + 1000)) := by
 refine enterB hb @Tryz.func79 @Tryz.ntmps79 rfl rfl ?_
 refine zent ?_
 refine Js.trashE ?_
 refine zn ?_
 refine zS <| za zeh fun b1 => zN <| Qm rfl ?_
 refine zhl [1] ?_
 refine zBB 1 sp_ rfl (fun w hb _ hw => c_spec_l02Draw s_code s_at s_seed hb (ok_ hw)) ?_
 rintro _ _ G2 ⟨X2RX, X2AT, X2SD, rfl, rfl, hX2_0, hX2_1, hX2_2⟩
 refine znl ?_
 refine za zeh fun b3 => zw 0 rfl rfl rfl ?_
 refine JL.nil ?_
 refine zf [0, 0, 1] fun GG4 => ?_
 refine zn ?_
 refine Js.seq <| zS <| Qm rfl ?_
 refine zhl [1] ?_
 refine zBB 1 sp_ rfl (fun w hb _ hw => c_spec_l00Src_one s_code X2AT X2SD 2 hb (ok_ hw)) ?_
 rintro _ _ G5 ⟨X5BX, X5AT, X5SD, rfl, rfl, hX5_0, hX5_1⟩
 refine znl ?_
 refine JL.nil ?_
 refine zf [0, 1, 1] fun GG6 => ?_
 refine zn ?_
 refine zk [0, 1, 4, 5] (fun F U l os u => ∃ (rr : M.Rul) (at2 sd2 : Int) (G7_3 : List Nat), l = F [] ∧ os = U [some (boxO bs [.slice As_0 s_code cs_0, .int .i64 at2, .int .u64 sd2] 113), some (boxO b3 [.int .i64 rr.pits, .int .i64 rr.seeds, .bool rr.stores, .bool rr.skip, .bool rr.relay, .bool rr.feed, .bool rr.again, .int .i64 rr.capture, .int .i64 rr.slam] 25), nO, some (anyO G7_3)] ∧ (2 ≤ rr.pits ∧ rr.pits ≤ 8) ∧ (s_at ≤ at2) ∧ (at2 ≤ s_at + 50)) ?_ ?_
 ·
  refine zi (fun h8 h8' => ?_) fun h8 h8' => ?_
  ·
   refine Js.region <| Qm rfl <| zp rfl (fun w hw => c_spec_StandardNames) ?_
   intro u9 x9 A10 c10 h10 bl10 bh10
   refine zBB 1 sp_ rfl (fun w hb _ hw => c_spec_l00Src_text s_code X5AT X5SD M.stdNames hb (ok_ hw) (ok_ hw) (r3 := (by decide)) (r4 := (by decide))) ?_
   rintro _ _ G11 ⟨X11TX, X11AT, X11SD, rfl, rfl, hX11_0, hX11_1, hX11_2⟩
   refine znl ?_
   refine zp rfl (fun w hw => c_spec_StandardRules X11TX (r0 := (by assumption))) ?_
   intro u12 x12 X13 hX13 X14 hX14
   refine Qm rfl <| Qx rfl rfl <| Qx rfl rfl <| zw 2 rfl rfl rfl ?_
   refine JL.nil ?_
   refine zf [0, 1, 1] fun GG15 => ?_
   refine zn ?_
   exact zm ⟨(X13), (X11AT), (X11SD), _, rfl, rfl, by first | assumption | omega | rfl | (dsimp only; omega), by first | assumption | omega | rfl | (dsimp only; omega), by first | assumption | omega | rfl | (dsimp only; omega)⟩ (x9.trans x12)
  refine Js.skip ?_
  exact zm ⟨(X2RX), (X5AT), (X5SD), _, rfl, rfl, by first | assumption | omega | rfl | (dsimp only; omega), by first | assumption | omega | rfl | (dsimp only; omega), by first | assumption | omega | rfl | (dsimp only; omega)⟩ (Up.refl _ _)
 rintro _ _ u7 ⟨rr, at2, sd2, G7_3, rfl, rfl, hr9, hb0, hb1⟩ x7
 refine zn ?_
 refine zS <| zc rfl (fun w hw => c_spec_l04Start rr (ok_ hw)) ?_
 intro A17 c17 bl17 bh17 A18 c18 bl18 bh18
 have hl0 : (M.startP rr).pits.length = (2 * (rr).pits).toNat := by simp [M.startP]
 have hl1 : (M.startP rr).stores.length = 2 := rfl
 refine za zeh fun b19 => zw 0 rfl rfl rfl ?_
 refine zJ <| zS <| Qm rfl ?_
 refine zhl [3] ?_
 refine zBB 1 sp_ rfl (fun w hb _ hw => c_spec_l00Src_one s_code at2 sd2 3 hb (ok_ hw)) ?_
 rintro _ _ G20 ⟨X20BX, X20AT, X20SD, rfl, rfl, hX20_0, hX20_1⟩
 refine znl ?_
 refine JL.nil ?_
 refine zf [0, 1, 1, 1, 1, 1] fun GG21 => ?_
 refine zn ?_
 refine zk [0, 1, 4, 5, 6] (fun F U l os u => ∃ (pp : M.Pos) (at3 sd3 : Int) (A22_6_0 : Option Addr) (c22_6_0 : Nat) (g22_6_0 : List Nat) (A22_6_1 : Option Addr) (c22_6_1 : Nat) (g22_6_1 : List Nat) (G22_6 : List Nat), l = F [] ∧ os = U [some (boxO bs [.slice As_0 s_code cs_0, .int .i64 at3, .int .u64 sd3] 113), some (boxO b19 [.slice A22_6_0 pp.pits.length c22_6_0, .slice A22_6_1 pp.stores.length c22_6_1, .int .i64 pp.player] 28), some (rowO 2 1 (.slice A22_6_1 pp.stores.length c22_6_1) pp.stores.length (ints_ pp.stores) g22_6_1), some (rowO 2 1 (.slice A22_6_0 pp.pits.length c22_6_0) pp.pits.length (ints_ pp.pits) g22_6_0), nO, nO, some (anyO G22_6)] ∧ (pp.pits.length = (2 * rr.pits).toNat ∧ pp.stores.length = 2) ∧ (s_at ≤ at3) ∧ (at3 ≤ s_at + 270) ∧ (pp.pits.length ≤ c22_6_0) ∧ (c22_6_0 ≤ 9223372036854775807) ∧ (pp.stores.length ≤ c22_6_1) ∧ (c22_6_1 ≤ 9223372036854775807)) ?_ ?_
 ·
  refine zi (fun h23 h23' => ?_) fun h23 h23' => ?_
  ·
   refine Js.region <| Qm rfl <| zBB 1 sp_ rfl (fun w hb _ hw => c_spec_l04Draw s_code X20AT X20SD rr hb (ok_ hw) (ok_ hw)) ?_
   rintro _ _ G24 ⟨X24PX, X24AT, X24SD, A24r_0, c24r_0, g24r_0, A24r_1, c24r_1, g24r_1, rfl, rfl, bl24_0, bl24_1, bl24_2, bl24_3, hX24_0, hX24_1, hX24_2⟩
   refine znl ?_
   refine zw 4 rfl rfl rfl ?_
   refine JL.nil ?_
   refine zf [0, 0, 0, 1, 3, 3] fun GG25 => ?_
   refine zn ?_
   refine zf [0, 2, 1, 0, 0, 0] fun GG26 => ?_
   refine zn ?_
   exact zm ⟨(X24PX), (X24AT), (X24SD), _, _, _, _, _, _, _, rfl, rfl, by first | omega | exact ⟨hl0, hl1⟩, by first | assumption | omega | rfl | (dsimp only; omega), by first | assumption | omega | rfl | (dsimp only; omega), by first | assumption | omega | rfl | (dsimp only; omega), by first | assumption | omega | rfl | (dsimp only; omega), by first | assumption | omega | rfl | (dsimp only; omega), by first | assumption | omega | rfl | (dsimp only; omega)⟩ (Up.refl _ _)
  refine Js.skip ?_
  exact zm ⟨((M.startP rr)), (X20AT), (X20SD), _, _, _, _, _, _, _, rfl, rfl, by first | omega | exact ⟨hl0, hl1⟩, by first | assumption | omega | rfl | (dsimp only; omega), by first | assumption | omega | rfl | (dsimp only; omega), by first | assumption | omega | rfl | (dsimp only; omega), by first | assumption | omega | rfl | (dsimp only; omega), by first | assumption | omega | rfl | (dsimp only; omega), by first | assumption | omega | rfl | (dsimp only; omega)⟩ (Up.refl _ _)
 rintro _ _ u22 ⟨pp, at3, sd3, A22_6_0, c22_6_0, g22_6_0, A22_6_1, c22_6_1, g22_6_1, G22_6, rfl, rfl, hp9, hc0, hc1, f22_3, f22_4, f22_5, f22_6⟩ x22
 refine zn ?_
 refine zS <| zc rfl (fun w hw => c_spec_l08New rr pp (ok_ hw) (ok_ hw)) ?_
 intro A28 c28 bl28 bh28 A29 c29 bl29 bh29 A30 c30 bl30 bh30 A31 c31 bl31 bh31 A32 c32 bl32 bh32
 refine za zeh fun b33 => zw 0 rfl rfl rfl ?_
 refine JL.nil ?_
 refine zf [0, 0, 0, 0, 0, 0, 0, 4] fun GG34 => ?_
 refine zn ?_
 refine Js.seq <| zS <| Qm rfl <| Qm rfl <| Qp rfl rfl ?_
 refine zhl [6] ?_
 refine zBB 1 sp_ rfl (fun w hb _ hw => c_spec_l00Src_pick s_code at3 sd3 (most + 1) hb (ok_ hw)) ?_
 rintro _ _ G35 ⟨X35KX, X35AT, X35SD, rfl, rfl, hX35_0, hX35_1, hX35_2, hX35_3⟩
 refine znl ?_
 refine Qa rfl <| JL.nil ?_
 refine zf [0, 1, 1, 1, 1, 1, 1, 1] fun GG36 => ?_
 refine zn ?_
 refine Js.block ?_
 refine zl [0, 4, 7] (fun F U l os u m => ∃ (j at1 sd1 : Int) (gk : M.Gam) (A37_7_9 : Option Addr) (c37_7_9 : Nat) (g37_7_9 : List Nat) (A37_7_10 : Option Addr) (c37_7_10 : Nat) (g37_7_10 : List Nat) (A37_7_12 : Option Addr) (c37_7_12 : Nat) (g37_7_12 : List Nat) (A37_7_13 : Option Addr) (c37_7_13 : Nat) (g37_7_13 : List Nat) (A37_7_14 : Option Addr) (c37_7_14 : Nat) (g37_7_14 : List Nat) (G37_8 : List Nat), l = F [(8, .int .i64 j)] ∧ os = U [some (boxO bs [.slice As_0 s_code cs_0, .int .i64 at1, .int .u64 sd1] 113), some (boxO b33 [.int .i64 gk.rules.pits, .int .i64 gk.rules.seeds, .bool gk.rules.stores, .bool gk.rules.skip, .bool gk.rules.relay, .bool gk.rules.feed, .bool gk.rules.again, .int .i64 gk.rules.capture, .int .i64 gk.rules.slam, .slice A37_7_9 gk.start.pits.length c37_7_9, .slice A37_7_10 gk.start.stores.length c37_7_10, .int .i64 gk.start.player, .slice A37_7_12 gk.moves.length c37_7_12, .slice A37_7_13 gk.now.pits.length c37_7_13, .slice A37_7_14 gk.now.stores.length c37_7_14, .int .i64 gk.now.player, .int .i64 gk.resigned] 30), some (rowO 2 1 (.slice A37_7_14 gk.now.stores.length c37_7_14) gk.now.stores.length (ints_ gk.now.stores) g37_7_14), some (rowO 2 1 (.slice A37_7_13 gk.now.pits.length c37_7_13) gk.now.pits.length (ints_ gk.now.pits) g37_7_13), some (rowO 2 1 (.slice A37_7_12 gk.moves.length c37_7_12) gk.moves.length (ints_ gk.moves) g37_7_12), some (rowO 2 1 (.slice A37_7_10 gk.start.stores.length c37_7_10) gk.start.stores.length (ints_ gk.start.stores) g37_7_10), some (rowO 2 1 (.slice A37_7_9 gk.start.pits.length c37_7_9) gk.start.pits.length (ints_ gk.start.pits) g37_7_9), nO, some (anyO G37_8)] ∧ (0 ≤ j ∧ j ≤ 21) ∧ (s_at ≤ at1) ∧ (at1 + 2 * j ≤ s_at + 400) ∧ (M.Small gk) ∧ (gk.moves.length ≤ 120) ∧ (gk.now.stores.length = 2) ∧ (1 ≤ gk.now.pits.length) ∧ (gk.start.pits.length ≤ c37_7_9) ∧ (c37_7_9 ≤ 9223372036854775807) ∧ (gk.start.stores.length ≤ c37_7_10) ∧ (c37_7_10 ≤ 9223372036854775807) ∧ (gk.moves.length ≤ c37_7_12) ∧ (c37_7_12 ≤ 9223372036854775807) ∧ (gk.now.pits.length ≤ c37_7_13) ∧ (c37_7_13 ≤ 9223372036854775807) ∧ (gk.now.stores.length ≤ c37_7_14) ∧ (c37_7_14 ≤ 9223372036854775807) ∧ m = j.toNat) ⟨X35KX, X35AT, X35SD, (M.Gam.mk rr pp [] pp (-1)), _, _, _, _, _, _, _, _, _, _, _, _, _, _, _, _, rfl, rfl, zt, zt, zt, by exact ⟨by dsimp only; omega, by dsimp only; omega, by simp, by dsimp only; omega, by dsimp only; omega⟩, by simp, by dsimp only; omega, by dsimp only; omega, zu, zu, zu, zu, zu, zu, zu, zu, zu, zu, rfl⟩ ?_
 rintro _ _ u37 _ ⟨j, at1, sd1, gk, A37_7_9, c37_7_9, g37_7_9, A37_7_10, c37_7_10, g37_7_10, A37_7_12, c37_7_12, g37_7_12, A37_7_13, c37_7_13, g37_7_13, A37_7_14, c37_7_14, g37_7_14, G37_8, rfl, rfl, hj, ha0, ha1, hs, hm, hst, hnp, f37_7, f37_8, f37_9, f37_10, f37_11, f37_12, f37_13, f37_14, f37_15, f37_16, rfl⟩ x37
 refine zn ?_
 have s1 := hs.sp
 have s2 := hs.ss
 have s3 := hs.m
 have s4 := hs.np
 have s5 := hs.ns
 refine Js.seq <| zS <| Qm rfl <| Qg rfl rfl <| JL.nil ?_
 refine zi (fun h38 h38' => ?_) fun h38 h38' => ?_
 ·
  refine Js.skip <| Js.seq <| Js.block <| zS <| Qm rfl <| zBB 1 sp_ rfl (fun w hb _ hw => c_spec_l08Legal s_code at1 sd1 gk hb (ok_ hw) (ok_ hw)) ?_
  rintro _ _ G39 ⟨X39KX, X39AT, X39SD, rfl, rfl, hX39_0, hX39_1⟩
  refine znl ?_
  refine Qa rfl <| JL.nil ?_
  refine zf [0, 1, 1, 1, 1, 1, 1, 1] fun GG40 => ?_
  refine zn ?_
  refine Js.seq <| zS <| Qm rfl <| Ql rfl rfl <| JL.nil ?_
  refine zi (fun h41 h41' => ?_) fun h41 h41' => ?_
  ·
   refine zx ?_
   refine Js.seq <| zS <| Qm rfl <| zBB 1 sp_ rfl (fun w hb _ hw => c_spec_l00Src_one s_code X39AT X39SD 10 hb (ok_ hw)) ?_
   rintro _ _ G42 ⟨X42BX, X42AT, X42SD, rfl, rfl, hX42_0, hX42_1⟩
   refine znl ?_
   refine JL.nil ?_
   refine zf [0, 1, 1, 1, 1, 1, 1, 1] fun GG43 => ?_
   refine zn ?_
   refine zi (fun h44 h44' => ?_) fun h44 h44' => ?_
   ·
    refine Js.region <| Qm rfl <| zBB 1 sp_ rfl (fun w hb _ hw => c_spec_l00Src_pick s_code X42AT X42SD 2 hb (ok_ hw)) ?_
    rintro _ _ G45 ⟨X45KX, X45AT, X45SD, rfl, rfl, hX45_0, hX45_1, hX45_2, hX45_3⟩
    refine znl ?_
    refine Qf fh rfl <| zw 2 rfl rfl rfl ?_
    refine JL.nil ?_
    refine zf [0, 1, 1, 1, 1, 1, 1, 1] fun GG46 => ?_
    refine zn ?_
    refine zS <| Q9 1 rfl rfl ?_
    refine zw 7 rfl rfl rfl ?_
    refine JL.nil ?_
    refine zf [0, 1, 1, 1, 1, 1, 1] fun GG47 => ?_
    refine zn ?_
    refine zrb [0, 4, 3, 2, 1, 0] hb ((x7.trans x22).trans x37) ?_
    refine ⟨((M.Gam.mk gk.rules gk.start gk.moves gk.now X45KX)), (X45AT), (X45SD), A37_7_9, c37_7_9, g37_7_9, A37_7_10, c37_7_10, g37_7_10, A37_7_12, c37_7_12, g37_7_12, A37_7_13, c37_7_13, g37_7_13, A37_7_14, c37_7_14, g37_7_14, rfl, ?_, ?_, ?_, ?_, ?_, ?_, ?_, ?_, ?_, ?_, ?_, by first | trivial | exact ⟨hs, by omega, hst, hnp⟩ | exact ⟨⟨hs.sp, hs.ss, hs.m, hs.np, hs.ns⟩, by dsimp only; omega, hst, hnp⟩ | omega, by first | trivial | exact ⟨hs, by omega, hst, hnp⟩ | exact ⟨⟨hs.sp, hs.ss, hs.m, hs.np, hs.ns⟩, by dsimp only; omega, hst, hnp⟩ | omega, by first | trivial | exact ⟨hs, by omega, hst, hnp⟩ | exact ⟨⟨hs.sp, hs.ss, hs.m, hs.np, hs.ns⟩, by dsimp only; omega, hst, hnp⟩ | omega⟩
    · rfl
    all_goals (try dsimp only)
    all_goals (first | (omega) | omega | (simp only [*]; omega))
   refine Js.skip <| zS <| Q9 1 rfl rfl ?_
   refine zw 7 rfl rfl rfl ?_
   refine JL.nil ?_
   refine zf [0, 1, 1, 1, 1, 1, 1] fun GG48 => ?_
   refine zn ?_
   refine zrb [0, 4, 3, 2, 1, 0] hb ((x7.trans x22).trans x37) ?_
   refine ⟨(gk), (X42AT), (X42SD), A37_7_9, c37_7_9, g37_7_9, A37_7_10, c37_7_10, g37_7_10, A37_7_12, c37_7_12, g37_7_12, A37_7_13, c37_7_13, g37_7_13, A37_7_14, c37_7_14, g37_7_14, rfl, ?_, ?_, ?_, ?_, ?_, ?_, ?_, ?_, ?_, ?_, ?_, by first | trivial | exact ⟨hs, by omega, hst, hnp⟩ | exact ⟨⟨hs.sp, hs.ss, hs.m, hs.np, hs.ns⟩, by dsimp only; omega, hst, hnp⟩ | omega, by first | trivial | exact ⟨hs, by omega, hst, hnp⟩ | exact ⟨⟨hs.sp, hs.ss, hs.m, hs.np, hs.ns⟩, by dsimp only; omega, hst, hnp⟩ | omega, by first | trivial | exact ⟨hs, by omega, hst, hnp⟩ | exact ⟨⟨hs.sp, hs.ss, hs.m, hs.np, hs.ns⟩, by dsimp only; omega, hst, hnp⟩ | omega⟩
   · rfl
   all_goals (try dsimp only)
   all_goals (first | (omega) | omega | (simp only [*]; omega))
  refine Js.skip <| zS <| Qm rfl <| zc rfl (fun w hw => c_spec_l08Play gk X39KX (ok_ hw)) ?_
  intro A51 c51 bl51 bh51 A52 c52 bl52 bh52 A53 c53 bl53 bh53 A54 c54 bl54 bh54 A55 c55 bl55 bh55
  refine Qm rfl <| Qx rfl rfl <| Qx rfl rfl <| za zeh fun b56 => zw 0 rfl rfl rfl ?_
  refine Qa rfl <| zN <| Qm rfl <| Qe rfl rfl <| JL.nil ?_
  refine zi (fun h57 h57' => ?_) fun h57 h57' => ?_
  ·
   have hz : (M.play gk X39KX).2 = 0 := by simpa using h57
   refine Js.region <| Q9 0 rfl rfl ?_
   refine zw 7 rfl rfl rfl ?_
   refine JL.nil ?_
   refine zf [1, 1, 1, 1, 1, 1, 1, 6] fun GG58 => ?_
   refine zn ?_
   refine Js.blockEnd <| Js.region <| Qm rfl <| Qs rfl rfl <| Qa rfl <| JL.nil ?_
   refine zf [5, 5, 0, 0, 0, 0, 0, 0] fun GG59 => ?_
   refine zn ?_
   exact zag ⟨j - 1, X39AT, X39SD, ((M.play gk X39KX).1), _, _, _, _, _, _, _, _, _, _, _, _, _, _, _, _, rfl, rfl, zt, zt, zt, by first | exact hs | exact hs.play hz, by first | exact hm | exact M.play_120 hm hz, by first | exact hst | exact M.play_stores hst hz, by first | exact hnp | exact M.play_pits hnp hz, zu, zu, zu, zu, zu, zu, zu, zu, zu, zu, rfl⟩ x37
  refine Js.skip <| Js.blockEnd <| Js.region <| Qm rfl <| Qs rfl rfl <| Qa rfl <| JL.nil ?_
  refine zf [6, 6, 6, 6, 6, 6, 6, 6] fun GG60 => ?_
  refine zn ?_
  exact zag ⟨j - 1, X39AT, X39SD, gk, _, _, _, _, _, _, _, _, _, _, _, _, _, _, _, _, rfl, rfl, zt, zt, zt, by first | exact hs | exact hs.play hz, by first | exact hm | exact M.play_120 hm hz, by first | exact hst | exact M.play_stores hst hz, by first | exact hnp | exact M.play_pits hnp hz, zu, zu, zu, zu, zu, zu, zu, zu, zu, zu, rfl⟩ x37
 refine zx ?_
 refine Js.seq <| zS <| Qm rfl <| zBB 1 sp_ rfl (fun w hb _ hw => c_spec_l00Src_one s_code at1 sd1 10 hb (ok_ hw)) ?_
 rintro _ _ G61 ⟨X61BX, X61AT, X61SD, rfl, rfl, hX61_0, hX61_1⟩
 refine znl ?_
 refine JL.nil ?_
 refine zf [0, 1, 1, 1, 1, 1, 1, 1] fun GG62 => ?_
 refine zn ?_
 refine zi (fun h63 h63' => ?_) fun h63 h63' => ?_
 ·
  refine Js.region <| Qm rfl <| zBB 1 sp_ rfl (fun w hb _ hw => c_spec_l00Src_pick s_code X61AT X61SD 2 hb (ok_ hw)) ?_
  rintro _ _ G64 ⟨X64KX, X64AT, X64SD, rfl, rfl, hX64_0, hX64_1, hX64_2, hX64_3⟩
  refine znl ?_
  refine Qf fh rfl <| zw 2 rfl rfl rfl ?_
  refine JL.nil ?_
  refine zf [0, 1, 1, 1, 1, 1, 1, 1] fun GG65 => ?_
  refine zn ?_
  refine zS <| Q9 1 rfl rfl ?_
  refine zw 7 rfl rfl rfl ?_
  refine JL.nil ?_
  refine zf [0, 1, 1, 1, 1, 1, 1] fun GG66 => ?_
  refine zn ?_
  refine zrb [0, 4, 3, 2, 1, 0] hb ((x7.trans x22).trans x37) ?_
  refine ⟨((M.Gam.mk gk.rules gk.start gk.moves gk.now X64KX)), (X64AT), (X64SD), A37_7_9, c37_7_9, g37_7_9, A37_7_10, c37_7_10, g37_7_10, A37_7_12, c37_7_12, g37_7_12, A37_7_13, c37_7_13, g37_7_13, A37_7_14, c37_7_14, g37_7_14, rfl, ?_, ?_, ?_, ?_, ?_, ?_, ?_, ?_, ?_, ?_, ?_, by first | trivial | exact ⟨hs, by omega, hst, hnp⟩ | exact ⟨⟨hs.sp, hs.ss, hs.m, hs.np, hs.ns⟩, by dsimp only; omega, hst, hnp⟩ | omega, by first | trivial | exact ⟨hs, by omega, hst, hnp⟩ | exact ⟨⟨hs.sp, hs.ss, hs.m, hs.np, hs.ns⟩, by dsimp only; omega, hst, hnp⟩ | omega, by first | trivial | exact ⟨hs, by omega, hst, hnp⟩ | exact ⟨⟨hs.sp, hs.ss, hs.m, hs.np, hs.ns⟩, by dsimp only; omega, hst, hnp⟩ | omega⟩
  · rfl
  all_goals (try dsimp only)
  all_goals (first | (omega) | omega | (simp only [*]; omega))
 refine Js.skip <| zS <| Q9 1 rfl rfl ?_
 refine zw 7 rfl rfl rfl ?_
 refine JL.nil ?_
 refine zf [0, 1, 1, 1, 1, 1, 1] fun GG67 => ?_
 refine zn ?_
 refine zrb [0, 4, 3, 2, 1, 0] hb ((x7.trans x22).trans x37) ?_
 refine ⟨(gk), (X61AT), (X61SD), A37_7_9, c37_7_9, g37_7_9, A37_7_10, c37_7_10, g37_7_10, A37_7_12, c37_7_12, g37_7_12, A37_7_13, c37_7_13, g37_7_13, A37_7_14, c37_7_14, g37_7_14, rfl, ?_, ?_, ?_, ?_, ?_, ?_, ?_, ?_, ?_, ?_, ?_, by first | trivial | exact ⟨hs, by omega, hst, hnp⟩ | exact ⟨⟨hs.sp, hs.ss, hs.m, hs.np, hs.ns⟩, by dsimp only; omega, hst, hnp⟩ | omega, by first | trivial | exact ⟨hs, by omega, hst, hnp⟩ | exact ⟨⟨hs.sp, hs.ss, hs.m, hs.np, hs.ns⟩, by dsimp only; omega, hst, hnp⟩ | omega, by first | trivial | exact ⟨hs, by omega, hst, hnp⟩ | exact ⟨⟨hs.sp, hs.ss, hs.m, hs.np, hs.ns⟩, by dsimp only; omega, hst, hnp⟩ | omega⟩
 · rfl
 all_goals (try dsimp only)
 all_goals (first | (omega) | omega | (simp only [*]; omega))

end Go.Proofs.YtejnmechnhgmfaaGreat

namespace Go.Proofs.YtejnmechnhgmfaaGreat
open Go.RowKit

set_option maxHeartbeats 4000000 in
theorem c_spec_l08Cycle (many : Int) {w : World} (r0 : 0 ≤ many := by exact om_) (r1 : many ≤ 120 := by exact om_) : Ret Tryz.prog 92 [.int .i64 many] w (Ty.ex (fun (GX : M.Gam) => (M.Small GX ∧ GX.moves.length ≤ 121 ∧ GX.now.stores.length = 2 ∧ 1 ≤ GX.now.pits.length)) (fun GX => Ty.agg (cGame GX))) := by
 have hq0 : ([1, 0, 1, 0] : List Int).length = 4 := rfl
 refine enter @Tryz.func92 @Tryz.ntmps92 rfl rfl ?_
 refine zent ?_
 refine zS <| za zeh fun b1 => zN <| Qb ?_
 refine za zeh fun b2 => zw 0 rfl rfl rfl ?_
 refine zN <| zbs fun b3 => ?_
 refine zbs fun b5 => ?_
 refine Qb ?_
 refine za zeh fun b7 => zw 0 rfl rfl rfl ?_
 refine zN <| zc rfl (fun w hw => c_spec_l08New (M.Rul.mk 2 1 false false false false false 0 0) (M.Pos.mk [1, 0, 1, 0] [0, 0] 0) (ok_ hw) ⟨_, _, [.slice (some ⟨b3, 0, none⟩) 4 4, .slice (some ⟨b5, 0, none⟩) 2 2, .int .i64 0], rfl, ⟨(ints_rowok (xs := [1, 0, 1, 0]) (hw.pr (i := 2) rfl)), (ints_rowok (xs := [0, 0]) (hw.pr (i := 1) rfl)), rfl, trivial⟩, Mem.boxR (i := 0) rfl 0 3 _ hw⟩ (r0 := (by simp)) (r1 := (by simp))) ?_
 intro A9 c9 bl9 bh9 A10 c10 bl10 bh10 A11 c11 bl11 bh11 A12 c12 bl12 bh12 A13 c13 bl13 bh13
 refine za zeh fun b14 => zw 0 rfl rfl rfl ?_
 refine zJ <| Js.block ?_
 refine zl [0, 2, 3, 5] (fun F U l os u m => ∃ (gk : M.Gam) (A15_5_9 : Option Addr) (c15_5_9 : Nat) (g15_5_9 : List Nat) (A15_5_10 : Option Addr) (c15_5_10 : Nat) (g15_5_10 : List Nat) (A15_5_12 : Option Addr) (c15_5_12 : Nat) (g15_5_12 : List Nat) (A15_5_13 : Option Addr) (c15_5_13 : Nat) (g15_5_13 : List Nat) (A15_5_14 : Option Addr) (c15_5_14 : Nat) (g15_5_14 : List Nat), l = F [] ∧ os = U [some (boxO b14 [.int .i64 gk.rules.pits, .int .i64 gk.rules.seeds, .bool gk.rules.stores, .bool gk.rules.skip, .bool gk.rules.relay, .bool gk.rules.feed, .bool gk.rules.again, .int .i64 gk.rules.capture, .int .i64 gk.rules.slam, .slice A15_5_9 gk.start.pits.length c15_5_9, .slice A15_5_10 gk.start.stores.length c15_5_10, .int .i64 gk.start.player, .slice A15_5_12 gk.moves.length c15_5_12, .slice A15_5_13 gk.now.pits.length c15_5_13, .slice A15_5_14 gk.now.stores.length c15_5_14, .int .i64 gk.now.player, .int .i64 gk.resigned] 30), some (rowO 2 1 (.slice A15_5_14 gk.now.stores.length c15_5_14) gk.now.stores.length (ints_ gk.now.stores) g15_5_14), some (rowO 2 1 (.slice A15_5_13 gk.now.pits.length c15_5_13) gk.now.pits.length (ints_ gk.now.pits) g15_5_13), some (rowO 2 1 (.slice A15_5_12 gk.moves.length c15_5_12) gk.moves.length (ints_ gk.moves) g15_5_12), some (rowO 2 1 (.slice A15_5_10 gk.start.stores.length c15_5_10) gk.start.stores.length (ints_ gk.start.stores) g15_5_10), some (rowO 2 1 (.slice A15_5_9 gk.start.pits.length c15_5_9) gk.start.pits.length (ints_ gk.start.pits) g15_5_9)] ∧ (M.Small gk) ∧ (gk.moves.length ≤ 120) ∧ (gk.now.stores.length = 2) ∧ (1 ≤ gk.now.pits.length) ∧ (gk.start.pits.length ≤ c15_5_9) ∧ (c15_5_9 ≤ 9223372036854775807) ∧ (gk.start.stores.length ≤ c15_5_10) ∧ (c15_5_10 ≤ 9223372036854775807) ∧ (gk.moves.length ≤ c15_5_12) ∧ (c15_5_12 ≤ 9223372036854775807) ∧ (gk.now.pits.length ≤ c15_5_13) ∧ (c15_5_13 ≤ 9223372036854775807) ∧ (gk.now.stores.length ≤ c15_5_14) ∧ (c15_5_14 ≤ 9223372036854775807) ∧ m = many.toNat - gk.moves.length) ⟨(M.Gam.mk (M.Rul.mk 2 1 false false false false false 0 0) (M.Pos.mk [1, 0, 1, 0] [0, 0] 0) [] (M.Pos.mk [1, 0, 1, 0] [0, 0] 0) (-1)), _, _, _, _, _, _, _, _, _, _, _, _, _, _, _, rfl, rfl, by exact ⟨by simp, by simp, by simp, by simp, by simp⟩, by simp, by rfl, by simp, zu, zu, zu, zu, zu, zu, zu, zu, zu, zu, rfl⟩ ?_
 rintro _ _ u15 _ ⟨gk, A15_5_9, c15_5_9, g15_5_9, A15_5_10, c15_5_10, g15_5_10, A15_5_12, c15_5_12, g15_5_12, A15_5_13, c15_5_13, g15_5_13, A15_5_14, c15_5_14, g15_5_14, rfl, rfl, hs, hm, hst, hnp, f15_4, f15_5, f15_6, f15_7, f15_8, f15_9, f15_10, f15_11, f15_12, f15_13, rfl⟩ x15
 refine zn ?_
 have s1 := hs.sp
 have s2 := hs.ss
 have s3 := hs.m
 have s4 := hs.np
 have s5 := hs.ns
 have hll := M.legal_len (M.Rul.mk 2 1 false false false false false 0 0) gk.now
 refine Js.seq <| zS <| Qf fh rfl <| Q0 0 rfl rfl rfl <| Qz rfl <| Qm rfl <| Ql rfl rfl <| JL.nil ?_
 refine zi (fun h16 h16' => ?_) fun h16 h16' => ?_
 ·
  refine Js.skip <| Js.block <| zS <| Q9 9 rfl rfl ?_
  refine Qf fh rfl <| Q9 0 rfl rfl ?_
  refine zp rfl (fun w hw => c_spec_LegalMoves (M.Rul.mk 2 1 false false false false false 0 0) gk.now (ok_ hw) (ok_ hw)) ?_
  intro u17 x17 A18 c18 h18 bl18 bh18 X19 hX19
  refine Qm rfl <| Qx rfl rfl <| Qx rfl rfl <| Qa rfl <| Qa rfl <| zJ <| zS <| Qm rfl <| Qz rfl <| Qe rfl rfl <| JL.nil ?_
  refine zi (fun h20 h20' => ?_) fun h20 h20' => ?_
  ·
   refine zS <| Q9 0 rfl rfl ?_
   refine zw 10 rfl rfl rfl ?_
   refine JL.nil ?_
   exact zro (x15.trans x17) (g := by exact (gv_ex gk (by first | trivial | exact ⟨hs, by omega, hst, hnp⟩ | exact ⟨⟨hs.sp, hs.ss, hs.m, hs.np, hs.ns⟩, by dsimp only; omega, hst, hnp⟩ | omega) gv_))
  obtain ⟨b21, o21, he21, hc21⟩ := ints_elem h18 (i := ((((M.legal (M.Rul.mk 2 1 false false false false false 0 0) gk.now).length) : Int) - 1).toNat) (by omega)
  refine Js.skip <| zS <| Qm rfl <| Qm rfl <| Qz rfl <| Qs rfl rfl <| Qq (p_indexAddr el_26 rfl rfl (by omega) (by omega) he21) <| QC hc21 rfl <| zc rfl (fun w hw => c_spec_l08Play gk (M.nth (M.legal (M.Rul.mk 2 1 false false false false false 0 0) gk.now) (((((M.legal (M.Rul.mk 2 1 false false false false false 0 0) gk.now).length) : Int) - 1).toNat)) (ok_ hw)) ?_
  intro A24 c24 bl24 bh24 A25 c25 bl25 bh25 A26 c26 bl26 bh26 A27 c27 bl27 bh27 A28 c28 bl28 bh28
  refine Qm rfl <| Qx rfl rfl <| Qx rfl rfl <| za zeh fun b29 => zw 0 rfl rfl rfl ?_
  refine Qa rfl <| zJ <| zS <| Qm rfl <| Qd rfl rfl <| JL.nil ?_
  refine zi (fun h30 h30' => ?_) fun h30 h30' => ?_
  ·
   refine zS <| Q9 6 rfl rfl ?_
   refine zw 16 rfl rfl rfl ?_
   refine JL.nil ?_
   exact zro (x15.trans x17) (g := by exact (gv_ex gk (by first | trivial | exact ⟨hs, by omega, hst, hnp⟩ | exact ⟨⟨hs.sp, hs.ss, hs.m, hs.np, hs.ns⟩, by dsimp only; omega, hst, hnp⟩ | omega) gv_))
  have hz : (M.play gk (M.nth (M.legal (M.Rul.mk 2 1 false false false false false 0 0) gk.now) (((((M.legal (M.Rul.mk 2 1 false false false false false 0 0) gk.now).length) : Int) - 1).toNat))).2 = 0 := by simpa using h30
  refine Js.skip <| Js.region <| Q9 0 rfl rfl ?_
  refine zw 6 rfl rfl rfl ?_
  refine JL.nil <| Js.blockEnd ?_
  refine zd [6, 1, 1, 1, 1, 1, 6, 6, 6, 6, 6] rfl fun u31 x31 => ?_
  exact zag ⟨((M.play gk (M.nth (M.legal (M.Rul.mk 2 1 false false false false false 0 0) gk.now) (((((M.legal (M.Rul.mk 2 1 false false false false false 0 0) gk.now).length) : Int) - 1).toNat))).1), _, _, _, _, _, _, _, _, _, _, _, _, _, _, _, rfl, rfl, by first | exact hs | exact hs.play hz, by first | exact hm | exact M.play_120 hm hz, by first | exact hst | exact M.play_stores hst hz, by first | exact hnp | exact M.play_pits hnp hz, zu, zu, zu, zu, zu, zu, zu, zu, zu, zu, rfl⟩ ((x15.trans x17).trans x31) (by have := M.play_len hz; omega)
 refine zx ?_
 refine zS <| Q9 0 rfl rfl ?_
 refine zw 10 rfl rfl rfl ?_
 refine JL.nil ?_
 exact zro x15 (g := by exact (gv_ex gk (by first | trivial | exact ⟨hs, by omega, hst, hnp⟩ | exact ⟨⟨hs.sp, hs.ss, hs.m, hs.np, hs.ns⟩, by dsimp only; omega, hst, hnp⟩ | omega) gv_))

end Go.Proofs.YtejnmechnhgmfaaGreat

namespace Go.Proofs.YtejnmechnhgmfaaGreat
open Go.RowKit

set_option maxHeartbeats 4000000 in
theorem c_spec_l08Bent (s_code : Nat) (s_at s_seed : Int) {As_0 : Option Addr} {cs_0 bs : Nat} {w : World} (hb : Bw w [boxO bs [.slice As_0 s_code cs_0, .int .i64 s_at, .int .u64 s_seed] 113]) (hps_0 : (Ty.bytes 5 s_code).ok (offW w (([boxO bs [.slice As_0 s_code cs_0, .int .i64 s_at, .int .u64 s_seed] 113] : List Own).flatMap (·.fp))) (.slice As_0 s_code cs_0)) (r0 : 0 ≤ s_at := by exact om_) (r1 : s_at ≤ 999998000 := by exact om_) (r2 : s_code ≤ 1048576 := by exact om_) : RetB Tryz.prog 51 [.pointer (some ⟨bs, 0, none⟩)] w [boxO bs [.slice As_0 s_code cs_0, .int .i64 s_at, .int .u64 s_seed] 113] (fun v bs' => ∃ (GX : M.Gam) (AT SD : Int) (Axr_9 : Option Addr) (cxr_9 : Nat) (gxr_9 : List Nat) (Axr_10 : Option Addr) (cxr_10 : Nat) (gxr_10 : List Nat) (Axr_12 : Option Addr) (cxr_12 : Nat) (gxr_12 : List Nat) (Axr_13 : Option Addr) (cxr_13 : Nat) (gxr_13 : List Nat) (Axr_14 : Option Addr) (cxr_14 : Nat) (gxr_14 : List Nat), v = .agg #[.int .i64 GX.rules.pits, .int .i64 GX.rules.seeds, .bool GX.rules.stores, .bool GX.rules.skip, .bool GX.rules.relay, .bool GX.rules.feed, .bool GX.rules.again, .int .i64 GX.rules.capture, .int .i64 GX.rules.slam, .slice Axr_9 GX.start.pits.length cxr_9, .slice Axr_10 GX.start.stores.length cxr_10, .int .i64 GX.start.player, .slice Axr_12 GX.moves.length cxr_12, .slice Axr_13 GX.now.pits.length cxr_13, .slice Axr_14 GX.now.stores.length cxr_14, .int .i64 GX.now.player, .int .i64 GX.resigned] ∧ bs' = [boxO bs [.slice As_0 s_code cs_0, .int .i64 AT, .int .u64 SD] 113, rowO 2 1 (.slice Axr_9 GX.start.pits.length cxr_9) GX.start.pits.length (ints_ GX.start.pits) gxr_9, rowO 2 1 (.slice Axr_10 GX.start.stores.length cxr_10) GX.start.stores.length (ints_ GX.start.stores) gxr_10, rowO 2 1 (.slice Axr_12 GX.moves.length cxr_12) GX.moves.length (ints_ GX.moves) gxr_12, rowO 2 1 (.slice Axr_13 GX.now.pits.length cxr_13) GX.now.pits.length (ints_ GX.now.pits) gxr_13, rowO 2 1 (.slice Axr_14 GX.now.stores.length cxr_14) GX.now.stores.length (ints_ GX.now.stores) gxr_14] ∧ GX.start.pits.length ≤ cxr_9 ∧ cxr_9 ≤ 9223372036854775807 ∧ GX.start.stores.length ≤ cxr_10 ∧ cxr_10 ≤ 9223372036854775807 ∧ GX.moves.length ≤ cxr_12 ∧ cxr_12 ≤ 9223372036854775807 ∧ GX.now.pits.length ≤ cxr_13 ∧ cxr_13 ≤ 9223372036854775807 ∧ GX.now.stores.length ≤ cxr_14 ∧ cxr_14 ≤ 9223372036854775807 ∧ (GX.start.pits.length ≤ 4194304 ∧ GX.start.stores.length ≤ 4194304 ∧ GX.moves.length ≤ 122 ∧ GX.now.pits.length ≤ 4194304 ∧ GX.now.stores.length = 2) ∧ (s_at ≤ AT) ∧ (AT ≤ s_at + 2000)) := by
 refine enterB hb @Tryz.func51 @Tryz.ntmps51 rfl rfl ?_
 refine zent ?_
 refine Js.trashE ?_
 refine zn ?_
 refine zS <| za zeh fun b1 => zN <| Qm rfl ?_
 refine zhl [1] ?_
 refine zBB 1 sp_ rfl (fun w hb _ hw => c_spec_l08Draw s_code s_at s_seed 12 hb (ok_ hw)) ?_
 rintro _ _ G2 ⟨X2GX, X2AT, X2SD, A2r_9, c2r_9, g2r_9, A2r_10, c2r_10, g2r_10, A2r_12, c2r_12, g2r_12, A2r_13, c2r_13, g2r_13, A2r_14, c2r_14, g2r_14, rfl, rfl, bl2_0, bl2_1, bl2_2, bl2_3, bl2_4, bl2_5, bl2_6, bl2_7, bl2_8, bl2_9, hX2_0, hX2_1, hX2_2⟩
 refine znl ?_
 refine za zeh fun b3 => zw 0 rfl rfl rfl ?_
 refine JL.nil ?_
 refine zf [0, 0, 0, 0, 0, 0, 0, 1] fun GG4 => ?_
 refine zn ?_
 refine Js.seq <| zS <| Qm rfl ?_
 refine zhl [1] ?_
 refine zBB 1 sp_ rfl (fun w hb _ hw => c_spec_l00Src_one s_code X2AT X2SD 16 hb (ok_ hw)) ?_
 rintro _ _ G5 ⟨X5BX, X5AT, X5SD, rfl, rfl, hX5_0, hX5_1⟩
 refine znl ?_
 refine JL.nil ?_
 refine zf [0, 1, 1, 1, 1, 1, 1, 1] fun GG6 => ?_
 refine zn ?_
 refine zk [0, 2, 3] (fun F U l os u => ∃ (gk : M.Gam) (at1 sd1 : Int) (A7_3_9 : Option Addr) (c7_3_9 : Nat) (g7_3_9 : List Nat) (A7_3_10 : Option Addr) (c7_3_10 : Nat) (g7_3_10 : List Nat) (A7_3_12 : Option Addr) (c7_3_12 : Nat) (g7_3_12 : List Nat) (A7_3_13 : Option Addr) (c7_3_13 : Nat) (g7_3_13 : List Nat) (A7_3_14 : Option Addr) (c7_3_14 : Nat) (g7_3_14 : List Nat) (G7_8 : List Nat), l = F [] ∧ os = U [some (boxO bs [.slice As_0 s_code cs_0, .int .i64 at1, .int .u64 sd1] 113), some (boxO b3 [.int .i64 gk.rules.pits, .int .i64 gk.rules.seeds, .bool gk.rules.stores, .bool gk.rules.skip, .bool gk.rules.relay, .bool gk.rules.feed, .bool gk.rules.again, .int .i64 gk.rules.capture, .int .i64 gk.rules.slam, .slice A7_3_9 gk.start.pits.length c7_3_9, .slice A7_3_10 gk.start.stores.length c7_3_10, .int .i64 gk.start.player, .slice A7_3_12 gk.moves.length c7_3_12, .slice A7_3_13 gk.now.pits.length c7_3_13, .slice A7_3_14 gk.now.stores.length c7_3_14, .int .i64 gk.now.player, .int .i64 gk.resigned] 30), some (rowO 2 1 (.slice A7_3_9 gk.start.pits.length c7_3_9) gk.start.pits.length (ints_ gk.start.pits) g7_3_9), some (rowO 2 1 (.slice A7_3_10 gk.start.stores.length c7_3_10) gk.start.stores.length (ints_ gk.start.stores) g7_3_10), some (rowO 2 1 (.slice A7_3_12 gk.moves.length c7_3_12) gk.moves.length (ints_ gk.moves) g7_3_12), some (rowO 2 1 (.slice A7_3_13 gk.now.pits.length c7_3_13) gk.now.pits.length (ints_ gk.now.pits) g7_3_13), some (rowO 2 1 (.slice A7_3_14 gk.now.stores.length c7_3_14) gk.now.stores.length (ints_ gk.now.stores) g7_3_14), nO, some (anyO G7_8)] ∧ (M.Small gk) ∧ (gk.moves.length ≤ 121) ∧ (gk.now.stores.length = 2) ∧ (s_at ≤ at1) ∧ (at1 ≤ s_at + 1010) ∧ (gk.start.pits.length ≤ c7_3_9) ∧ (c7_3_9 ≤ 9223372036854775807) ∧ (gk.start.stores.length ≤ c7_3_10) ∧ (c7_3_10 ≤ 9223372036854775807) ∧ (gk.moves.length ≤ c7_3_12) ∧ (c7_3_12 ≤ 9223372036854775807) ∧ (gk.now.pits.length ≤ c7_3_13) ∧ (c7_3_13 ≤ 9223372036854775807) ∧ (gk.now.stores.length ≤ c7_3_14) ∧ (c7_3_14 ≤ 9223372036854775807)) ?_ ?_
 ·
  refine zi (fun h8 h8' => ?_) fun h8 h8' => ?_
  ·
   refine Js.region <| Qm rfl <| zbs fun b9 => ?_
   refine zhl [1] ?_
   refine zBB 1 sp_ rfl (fun w hb _ hw => c_spec_l00Src_among s_code X5AT X5SD [4, 8, 12, 119, 120] hb (ok_ hw) (ints_rowok (xs := [4, 8, 12, 119, 120]) (hw.pr (i := 0) rfl)) (r3 := (by simp)) (r4 := (by simp))) ?_
   rintro _ _ G11 ⟨X11KX, X11AT, X11SD, rfl, rfl, hX11_0, hX11_1, hX11_2⟩
   refine znl ?_
   refine zc rfl (fun w hw => c_spec_l08Cycle X11KX (r0 := (by have h9 := (by assumption : _ ∈ ([4, 8, 12, 119, 120] : List Int)); simp at h9; omega)) (r1 := (by have h9 := (by assumption : _ ∈ ([4, 8, 12, 119, 120] : List Int)); simp at h9; omega))) ?_
   intro X12 hX12 A14 c14 bl14 bh14 A15 c15 bl15 bh15 A16 c16 bl16 bh16 A17 c17 bl17 bh17 A18 c18 bl18 bh18
   refine zw 8 rfl rfl rfl ?_
   refine JL.nil ?_
   refine zf [0, 0, 0, 0, 0, 0, 2, 7] fun GG19 => ?_
   refine zn ?_
   refine zf [5, 5, 4, 3, 2, 1, 0, 0] fun GG20 => ?_
   refine zn ?_
   exact zm ⟨(X12), (X11AT), (X11SD), _, _, _, _, _, _, _, _, _, _, _, _, _, _, _, _, rfl, rfl, by exact And.left (b := _ ∧ _) (by assumption), by first | assumption | omega | rfl | (dsimp only; omega), by first | assumption | omega | rfl | (dsimp only; omega), by first | assumption | omega | rfl | (dsimp only; omega), by first | assumption | omega | rfl | (dsimp only; omega), by first | assumption | omega | rfl | (dsimp only; omega), by first | assumption | omega | rfl | (dsimp only; omega), by first | assumption | omega | rfl | (dsimp only; omega), by first | assumption | omega | rfl | (dsimp only; omega), by first | assumption | omega | rfl | (dsimp only; omega), by first | assumption | omega | rfl | (dsimp only; omega), by first | assumption | omega | rfl | (dsimp only; omega), by first | assumption | omega | rfl | (dsimp only; omega), by first | assumption | omega | rfl | (dsimp only; omega), by first | assumption | omega | rfl | (dsimp only; omega)⟩ (Up.refl _ _)
  refine Js.skip ?_
  exact zm ⟨(X2GX), (X5AT), (X5SD), _, _, _, _, _, _, _, _, _, _, _, _, _, _, _, _, rfl, rfl, by exact And.left (b := _ ∧ _) (by assumption), by first | assumption | omega | rfl | (dsimp only; omega), by first | assumption | omega | rfl | (dsimp only; omega), by first | assumption | omega | rfl | (dsimp only; omega), by first | assumption | omega | rfl | (dsimp only; omega), by first | assumption | omega | rfl | (dsimp only; omega), by first | assumption | omega | rfl | (dsimp only; omega), by first | assumption | omega | rfl | (dsimp only; omega), by first | assumption | omega | rfl | (dsimp only; omega), by first | assumption | omega | rfl | (dsimp only; omega), by first | assumption | omega | rfl | (dsimp only; omega), by first | assumption | omega | rfl | (dsimp only; omega), by first | assumption | omega | rfl | (dsimp only; omega), by first | assumption | omega | rfl | (dsimp only; omega), by first | assumption | omega | rfl | (dsimp only; omega)⟩ (Up.refl _ _)
 rintro _ _ u7 ⟨gk, at1, sd1, A7_3_9, c7_3_9, g7_3_9, A7_3_10, c7_3_10, g7_3_10, A7_3_12, c7_3_12, g7_3_12, A7_3_13, c7_3_13, g7_3_13, A7_3_14, c7_3_14, g7_3_14, G7_8, rfl, rfl, hs, hm, hst, ha0, ha1, f7_5, f7_6, f7_7, f7_8, f7_9, f7_10, f7_11, f7_12, f7_13, f7_14⟩ x7
 refine zn ?_
 have s1 := hs.sp
 have s2 := hs.ss
 have s3 := hs.m
 have s4 := hs.np
 have s5 := hs.ns
 refine Js.seq <| zS <| Qm rfl <| zBB 1 sp_ rfl (fun w hb _ hw => c_spec_l00Src_pick s_code at1 sd1 30 hb (ok_ hw)) ?_
 rintro _ _ G21 ⟨X21KX, X21AT, X21SD, rfl, rfl, hX21_0, hX21_1, hX21_2, hX21_3⟩
 refine znl ?_
 refine JL.nil ?_
 refine zf [0, 1, 1, 1, 1, 1, 1, 1] fun GG22 => ?_
 refine zn ?_
 refine Js.block <| zS <| Qe rfl rfl <| Qa rfl <| JL.nil ?_
 refine zi (fun h23 h23' => ?_) fun h23 h23' => ?_
 ·
  refine Js.region <| Qm rfl <| zbs fun b24 => ?_
  refine zhl [1] ?_
  refine zBB 1 sp_ rfl (fun w hb _ hw => c_spec_l00Src_among s_code X21AT X21SD [(-2), 2, 0, 1] hb (ok_ hw) (ints_rowok (xs := [(-2), 2, 0, 1]) (hw.pr (i := 0) rfl)) (r3 := (by simp)) (r4 := (by simp))) ?_
  rintro _ _ G26 ⟨X26KX, X26AT, X26SD, rfl, rfl, hX26_0, hX26_1, hX26_2⟩
  refine znl ?_
  refine Qf fh rfl <| zw 3 rfl rfl rfl ?_
  refine JL.nil ?_
  refine zf [0, 2, 2, 2, 2, 2, 2, 2] fun GG27 => ?_
  refine zn ?_
  refine Js.blockEnd <| zS <| Q9 1 rfl rfl ?_
  refine zw 7 rfl rfl rfl ?_
  refine JL.nil ?_
  refine zf [0, 1, 1, 1, 1, 1, 1] fun GG28 => ?_
  refine zn ?_
  refine zrb [0, 0, 0, 0, 0, 0] hb x7 ?_
  refine ⟨((M.Gam.mk gk.rules gk.start gk.moves gk.now X26KX)), (X26AT), (X26SD), A7_3_9, c7_3_9, g7_3_9, A7_3_10, c7_3_10, g7_3_10, A7_3_12, c7_3_12, g7_3_12, A7_3_13, c7_3_13, g7_3_13, A7_3_14, c7_3_14, g7_3_14, rfl, ?_, ?_, ?_, ?_, ?_, ?_, ?_, ?_, ?_, ?_, ?_, by first | trivial | exact ⟨hs.sp, hs.ss, by omega, hs.np, hst⟩ | omega | (refine ⟨?_, ?_, ?_, ?_, ?_⟩ <;> dsimp only <;> first | assumption | omega | (simp only [List.length_append, List.length_cons, List.length_nil, List.length_set]; omega)), by first | trivial | exact ⟨hs.sp, hs.ss, by omega, hs.np, hst⟩ | omega | (refine ⟨?_, ?_, ?_, ?_, ?_⟩ <;> dsimp only <;> first | assumption | omega | (simp only [List.length_append, List.length_cons, List.length_nil, List.length_set]; omega)), by first | trivial | exact ⟨hs.sp, hs.ss, by omega, hs.np, hst⟩ | omega | (refine ⟨?_, ?_, ?_, ?_, ?_⟩ <;> dsimp only <;> first | assumption | omega | (simp only [List.length_append, List.length_cons, List.length_nil, List.length_set]; omega))⟩
  · rfl
  all_goals (try dsimp only)
  all_goals (first | (omega) | omega | (simp only [*]; omega))
 refine zS <| Qe rfl rfl <| Qa rfl <| JL.nil ?_
 refine zi (fun h29 h29' => ?_) fun h29 h29' => ?_
 ·
  refine zk [2, 3] (fun F U l os u => ∃ (b31 : Nat) (X30KX : Int) (G30 : List Nat) (X30AT X30SD : Int) (A35 : Option Addr) (c35 : Nat) (g34 : List Nat), l = F [] ∧ os = [rowO 2 1 (.slice (some ⟨b31, 0, none⟩) 1 1) 1 [.int .i64 X30KX] [], anyO G30] ++ U [some (boxO bs [.slice As_0 s_code cs_0, .int .i64 X30AT, .int .u64 X30SD] 113), some (boxO b3 [.int .i64 gk.rules.pits, .int .i64 gk.rules.seeds, .bool gk.rules.stores, .bool gk.rules.skip, .bool gk.rules.relay, .bool gk.rules.feed, .bool gk.rules.again, .int .i64 gk.rules.capture, .int .i64 gk.rules.slam, .slice A7_3_9 gk.start.pits.length c7_3_9, .slice A7_3_10 gk.start.stores.length c7_3_10, .int .i64 gk.start.player, .slice A35 ((gk.moves ++ [X30KX]).length) c35, .slice A7_3_13 gk.now.pits.length c7_3_13, .slice A7_3_14 gk.now.stores.length c7_3_14, .int .i64 gk.now.player, .int .i64 gk.resigned] 30), nO, nO, some (rowO 2 1 (.slice A35 ((gk.moves ++ [X30KX]).length) c35) ((gk.moves ++ [X30KX]).length) (ints_ (gk.moves ++ [X30KX])) g34)] ∧ ((gk.moves ++ [X30KX]).length ≤ c35) ∧ (c35 ≤ 9223372036854775807) ∧ (0 ≤ X30KX) ∧ (X30KX = 0 ∨ X30KX < 4) ∧ (X21AT ≤ X30AT) ∧ (X30AT ≤ X21AT + 2)) ?_ ?_
  ·
   refine zdr [3, 5, 7] ?_
   refine JH.p 0 rfl (p_fieldAddr fld_30_2.h rfl) ?_
   refine JH.p 2 rfl (p_move rfl) ?_
   refine y2 1 3 ?_ ?_
   ·
    refine JHo.q rfl (q_load1 ty_26.h rfl (Mem.box (i := 1) rfl rfl)) ?_
    refine y1 3 ?_
    refine yBB 1 sp_ rfl rfl (fun w hb _ hw => c_spec_l00Src_pick s_code X21AT X21SD 4 hb (ok_ hw)) ?_
    rintro _ _ G48 ⟨X48KX, X48AT, X48SD, rfl, rfl, hX48_0, hX48_1, hX48_2, hX48_3⟩
    refine znh ?_
    refine y1 4 ?_
    refine ybs rfl fun b49 => ?_
    refine y1 5 ?_
    refine JHo.e rfl (e_append (i := 6) (n' := (gk.moves ++ [X48KX]).length) (vs' := ints_ (gk.moves ++ [X48KX])) el_26 rfl rfl rfl rfl (src_row (i := 0) und_26 rfl rfl) (by omega) (by omega) (by first | omega | (simp only [List.length_append, List.length_cons, List.length_nil] <;> omega)) (by simp [ints_])) (.inr rfl) ?_
    rintro v51 _ _ ⟨⟨g52, rfl⟩, rfl⟩ _
    refine JH.fact (row_form' (i := 6) rfl) (fun hf53 => ?_)
    obtain ⟨A53, c53, rfl, bl53, bh53⟩ := hf53
    refine znh ?_
    refine JH.p 6 rfl (p_fieldAddr fld_30_2.h rfl) ?_
    refine y1 7 ?_
    refine yst rfl rfl rfl ?_
    refine yd ?_
    refine zh [0, 1, 0, 0, 0, 0, 0, 0, 0, 0, 0] ?_
    exact zm ⟨_, _, _, _, _, _, _, _, rfl, rfl, zt, zt, zt, zt, zt, zt⟩ (Up.refl _ _) ⟨rfl, rfl, trivial⟩
   refine yBB 1 sp_ rfl rfl (fun w hb _ hw => c_spec_l00Src_pick s_code X21AT X21SD 4 hb (ok_ hw)) ?_
   rintro _ _ G54 ⟨X54KX, X54AT, X54SD, rfl, rfl, hX54_0, hX54_1, hX54_2, hX54_3⟩
   refine znh ?_
   refine y2 1 4 ?_ ?_
   ·
    refine JHo.q rfl (q_load1 ty_26.h rfl (Mem.box (i := 2) rfl rfl)) ?_
    refine y1 4 ?_
    refine ybs rfl fun b55 => ?_
    refine y1 5 ?_
    refine JHo.e rfl (e_append (i := 6) (n' := (gk.moves ++ [X54KX]).length) (vs' := ints_ (gk.moves ++ [X54KX])) el_26 rfl rfl rfl rfl (src_row (i := 0) und_26 rfl rfl) (by omega) (by omega) (by first | omega | (simp only [List.length_append, List.length_cons, List.length_nil] <;> omega)) (by simp [ints_])) (.inr rfl) ?_
    rintro v57 _ _ ⟨⟨g58, rfl⟩, rfl⟩ _
    refine JH.fact (row_form' (i := 6) rfl) (fun hf59 => ?_)
    obtain ⟨A59, c59, rfl, bl59, bh59⟩ := hf59
    refine znh ?_
    refine JH.p 6 rfl (p_fieldAddr fld_30_2.h rfl) ?_
    refine y1 7 ?_
    refine yst rfl rfl rfl ?_
    refine yd ?_
    refine zh [0, 1, 0, 0, 0, 0, 0, 0, 0, 0, 0] ?_
    exact zm ⟨_, _, _, _, _, _, _, _, rfl, rfl, zt, zt, zt, zt, zt, zt⟩ (Up.refl _ _) ⟨rfl, rfl, trivial⟩
   refine ybs rfl fun b60 => ?_
   refine y1 1 ?_
   refine JHo.q rfl (q_load1 ty_26.h rfl (Mem.box (i := 3) rfl rfl)) ?_
   refine y1 5 ?_
   refine JHo.e rfl (e_append (i := 6) (n' := (gk.moves ++ [X54KX]).length) (vs' := ints_ (gk.moves ++ [X54KX])) el_26 rfl rfl rfl rfl (src_row (i := 0) und_26 rfl rfl) (by omega) (by omega) (by first | omega | (simp only [List.length_append, List.length_cons, List.length_nil] <;> omega)) (by simp [ints_])) (.inr rfl) ?_
   rintro v62 _ _ ⟨⟨g63, rfl⟩, rfl⟩ _
   refine JH.fact (row_form' (i := 6) rfl) (fun hf64 => ?_)
   obtain ⟨A64, c64, rfl, bl64, bh64⟩ := hf64
   refine znh ?_
   refine JH.p 6 rfl (p_fieldAddr fld_30_2.h rfl) ?_
   refine y1 7 ?_
   refine yst rfl rfl rfl ?_
   refine yd ?_
   refine zh [0, 1, 0, 0, 0, 0, 0, 0, 0, 0, 0] ?_
   exact zm ⟨_, _, _, _, _, _, _, _, rfl, rfl, zt, zt, zt, zt, zt, zt⟩ (Up.refl _ _) ⟨rfl, rfl, trivial⟩
  rintro _ _ u47 ⟨b31, X30KX, G30, X30AT, X30SD, A35, c35, g34, rfl, rfl, f47_0, f47_1, f47_2, f47_3, f47_4, f47_5⟩ x47
  refine zn ?_
  refine zf [2, 2, 2, 2, 2, 2, 2, 2] fun GG65 => ?_
  refine zn ?_
  refine Js.blockEnd <| zS <| Q9 1 rfl rfl ?_
  refine zw 7 rfl rfl rfl ?_
  refine JL.nil ?_
  refine zf [0, 1, 1, 1, 1, 1, 1] fun GG66 => ?_
  refine zn ?_
  refine zrb [0, 0, 0, 0, 0, 0] hb (x7.trans x47) ?_
  refine ⟨((M.Gam.mk gk.rules gk.start (gk.moves ++ [X30KX]) gk.now gk.resigned)), (X30AT), (X30SD), A7_3_9, c7_3_9, g7_3_9, A7_3_10, c7_3_10, g7_3_10, A35, c35, g34, A7_3_13, c7_3_13, g7_3_13, A7_3_14, c7_3_14, g7_3_14, rfl, ?_, ?_, ?_, ?_, ?_, ?_, ?_, ?_, ?_, ?_, ?_, by first | trivial | exact ⟨hs.sp, hs.ss, by omega, hs.np, hst⟩ | omega | (refine ⟨?_, ?_, ?_, ?_, ?_⟩ <;> dsimp only <;> first | assumption | omega | (simp only [List.length_append, List.length_cons, List.length_nil, List.length_set]; omega)), by first | trivial | exact ⟨hs.sp, hs.ss, by omega, hs.np, hst⟩ | omega | (refine ⟨?_, ?_, ?_, ?_, ?_⟩ <;> dsimp only <;> first | assumption | omega | (simp only [List.length_append, List.length_cons, List.length_nil, List.length_set]; omega)), by first | trivial | exact ⟨hs.sp, hs.ss, by omega, hs.np, hst⟩ | omega | (refine ⟨?_, ?_, ?_, ?_, ?_⟩ <;> dsimp only <;> first | assumption | omega | (simp only [List.length_append, List.length_cons, List.length_nil, List.length_set]; omega))⟩
  · rfl
  all_goals (try dsimp only)
  all_goals (first | (omega) | omega | (simp only [*]; omega))
 refine zS <| Qe rfl rfl <| Qa rfl <| JL.nil ?_
 refine zi (fun h67 h67' => ?_) fun h67 h67' => ?_
 ·
  refine Js.region <| Qf fh rfl <| Qf fh rfl <| Q0 1 rfl rfl rfl <| Qq (p_sub rfl rfl rfl) <| Qf fh rfl <| Qf fh rfl <| zw 1 rfl rfl rfl ?_
  refine JL.nil <| Js.blockEnd <| zS <| Q9 1 rfl rfl ?_
  refine zw 7 rfl rfl rfl ?_
  refine JL.nil ?_
  refine zf [0, 1, 1, 1, 1, 1, 1] fun GG68 => ?_
  refine zn ?_
  refine zrb [0, 0, 0, 0, 0, 0] hb x7 ?_
  refine ⟨((M.Gam.mk gk.rules gk.start gk.moves (M.Pos.mk gk.now.pits gk.now.stores (IntKind.i64.wrap (1 - gk.now.player))) gk.resigned)), (X21AT), (X21SD), A7_3_9, c7_3_9, g7_3_9, A7_3_10, c7_3_10, g7_3_10, A7_3_12, c7_3_12, g7_3_12, A7_3_13, c7_3_13, g7_3_13, A7_3_14, c7_3_14, g7_3_14, rfl, ?_, ?_, ?_, ?_, ?_, ?_, ?_, ?_, ?_, ?_, ?_, by first | trivial | exact ⟨hs.sp, hs.ss, by omega, hs.np, hst⟩ | omega | (refine ⟨?_, ?_, ?_, ?_, ?_⟩ <;> dsimp only <;> first | assumption | omega | (simp only [List.length_append, List.length_cons, List.length_nil, List.length_set]; omega)), by first | trivial | exact ⟨hs.sp, hs.ss, by omega, hs.np, hst⟩ | omega | (refine ⟨?_, ?_, ?_, ?_, ?_⟩ <;> dsimp only <;> first | assumption | omega | (simp only [List.length_append, List.length_cons, List.length_nil, List.length_set]; omega)), by first | trivial | exact ⟨hs.sp, hs.ss, by omega, hs.np, hst⟩ | omega | (refine ⟨?_, ?_, ?_, ?_, ?_⟩ <;> dsimp only <;> first | assumption | omega | (simp only [List.length_append, List.length_cons, List.length_nil, List.length_set]; omega))⟩
  · rfl
  all_goals (try dsimp only)
  all_goals (first | (omega) | omega | (simp only [*]; omega))
 refine zS <| Qe rfl rfl <| Qa rfl <| JL.nil ?_
 refine zi (fun h69 h69' => ?_) fun h69 h69' => ?_
 ·
  refine Js.region <| Qf fh rfl <| Qf fh rfl <| Q0 1 rfl rfl rfl ?_
  refine JL.fact (row_some (i := 6) rfl (by omega)) (fun hf71 => ?_)
  obtain ⟨b71, rfl⟩ := hf71
  refine Qq (p_indexAddr el_26 rfl rfl (by omega) (by omega) rfl) <| Qw (q_load1 ty_2.h rfl (Mem.row (i := 6) rfl (ints_get (i := 0) (by omega)))) <| Qq (p_add rfl rfl rfl) <| Qq (p_indexAddr el_26 rfl rfl (by omega) (by omega) rfl) ?_
  refine JL.s (e_storeRow (i := 6) (xs' := ints_ (gk.now.stores.set 0 (IntKind.i64.wrap ((M.nth gk.now.stores 0) + 1)))) ty_2.h rfl rfl rfl rfl rfl rfl (ints_lt (i := 0) (by omega)) (ints_setL (i := 0) (by omega))) ?_
  rintro _ _ _ ⟨rfl, rfl⟩ _
  refine znl ?_
  refine JL.nil <| Js.blockEnd <| zS <| Q9 1 rfl rfl ?_
  refine zw 7 rfl rfl rfl ?_
  refine JL.nil ?_
  refine zf [0, 1, 1, 1, 1, 1, 1] fun GG73 => ?_
  refine zn ?_
  refine zrb [0, 0, 0, 0, 0, 0] hb x7 ?_
  have hNr14 : (gk.now.stores.set 0 (IntKind.i64.wrap ((M.nth gk.now.stores 0) + 1))).length = gk.now.stores.length := by first | rfl | assumption | omega | (simp only [List.length_set, M.setI_length]; done) | (simp only [List.length_set, M.setI_length]; first | rfl | assumption | omega)
  refine ⟨((M.Gam.mk gk.rules gk.start gk.moves (M.Pos.mk gk.now.pits (gk.now.stores.set 0 (IntKind.i64.wrap ((M.nth gk.now.stores 0) + 1))) gk.now.player) gk.resigned)), (X21AT), (X21SD), A7_3_9, c7_3_9, g7_3_9, A7_3_10, c7_3_10, g7_3_10, A7_3_12, c7_3_12, g7_3_12, A7_3_13, c7_3_13, g7_3_13, (some ⟨b71, 0, none⟩), c7_3_14, g7_3_14, (show (.agg #[.int .i64 gk.rules.pits, .int .i64 gk.rules.seeds, .bool gk.rules.stores, .bool gk.rules.skip, .bool gk.rules.relay, .bool gk.rules.feed, .bool gk.rules.again, .int .i64 gk.rules.capture, .int .i64 gk.rules.slam, .slice A7_3_9 gk.start.pits.length c7_3_9, .slice A7_3_10 gk.start.stores.length c7_3_10, .int .i64 gk.start.player, .slice A7_3_12 gk.moves.length c7_3_12, .slice A7_3_13 gk.now.pits.length c7_3_13, .slice (some ⟨b71, 0, none⟩) gk.now.stores.length c7_3_14, .int .i64 gk.now.player, .int .i64 gk.resigned] : Value) = .agg #[.int .i64 gk.rules.pits, .int .i64 gk.rules.seeds, .bool gk.rules.stores, .bool gk.rules.skip, .bool gk.rules.relay, .bool gk.rules.feed, .bool gk.rules.again, .int .i64 gk.rules.capture, .int .i64 gk.rules.slam, .slice A7_3_9 gk.start.pits.length c7_3_9, .slice A7_3_10 gk.start.stores.length c7_3_10, .int .i64 gk.start.player, .slice A7_3_12 gk.moves.length c7_3_12, .slice A7_3_13 gk.now.pits.length c7_3_13, .slice (some ⟨b71, 0, none⟩) (gk.now.stores.set 0 (IntKind.i64.wrap ((M.nth gk.now.stores 0) + 1))).length c7_3_14, .int .i64 gk.now.player, .int .i64 gk.resigned] by rw [hNr14]), ?_, ?_, ?_, ?_, ?_, ?_, ?_, ?_, ?_, ?_, ?_, by first | trivial | exact ⟨hs.sp, hs.ss, by omega, hs.np, hst⟩ | omega | (refine ⟨?_, ?_, ?_, ?_, ?_⟩ <;> dsimp only <;> first | assumption | omega | (simp only [List.length_append, List.length_cons, List.length_nil, List.length_set]; omega)), by first | trivial | exact ⟨hs.sp, hs.ss, by omega, hs.np, hst⟩ | omega | (refine ⟨?_, ?_, ?_, ?_, ?_⟩ <;> dsimp only <;> first | assumption | omega | (simp only [List.length_append, List.length_cons, List.length_nil, List.length_set]; omega)), by first | trivial | exact ⟨hs.sp, hs.ss, by omega, hs.np, hst⟩ | omega | (refine ⟨?_, ?_, ?_, ?_, ?_⟩ <;> dsimp only <;> first | assumption | omega | (simp only [List.length_append, List.length_cons, List.length_nil, List.length_set]; omega))⟩
  · first | rfl | (dsimp only; rw [hNr14]) | (dsimp only; simp only [hNr14])
  all_goals (try dsimp only)
  all_goals (first | (rw [hNr14]; omega) | omega | (simp only [*]; omega))
 refine zS <| Qe rfl rfl <| Qa rfl <| JL.nil ?_
 refine zi (fun h74 h74' => ?_) fun h74 h74' => ?_
 ·
  refine Js.region <| Qm rfl <| zbs fun b75 => ?_
  refine zhl [1] ?_
  refine zBB 1 sp_ rfl (fun w hb _ hw => c_spec_l00Src_among s_code X21AT X21SD [1, 3, 9] hb (ok_ hw) (ints_rowok (xs := [1, 3, 9]) (hw.pr (i := 0) rfl)) (r3 := (by simp)) (r4 := (by simp))) ?_
  rintro _ _ G77 ⟨X77KX, X77AT, X77SD, rfl, rfl, hX77_0, hX77_1, hX77_2⟩
  refine znl ?_
  refine Qf fh rfl <| Qf fh rfl <| zw 3 rfl rfl rfl ?_
  refine JL.nil ?_
  refine zf [0, 2, 2, 2, 2, 2, 2, 2] fun GG78 => ?_
  refine zn ?_
  refine Js.blockEnd <| zS <| Q9 1 rfl rfl ?_
  refine zw 7 rfl rfl rfl ?_
  refine JL.nil ?_
  refine zf [0, 1, 1, 1, 1, 1, 1] fun GG79 => ?_
  refine zn ?_
  refine zrb [0, 0, 0, 0, 0, 0] hb x7 ?_
  refine ⟨((M.Gam.mk (M.Rul.mk X77KX gk.rules.seeds gk.rules.stores gk.rules.skip gk.rules.relay gk.rules.feed gk.rules.again gk.rules.capture gk.rules.slam) gk.start gk.moves gk.now gk.resigned)), (X77AT), (X77SD), A7_3_9, c7_3_9, g7_3_9, A7_3_10, c7_3_10, g7_3_10, A7_3_12, c7_3_12, g7_3_12, A7_3_13, c7_3_13, g7_3_13, A7_3_14, c7_3_14, g7_3_14, rfl, ?_, ?_, ?_, ?_, ?_, ?_, ?_, ?_, ?_, ?_, ?_, by first | trivial | exact ⟨hs.sp, hs.ss, by omega, hs.np, hst⟩ | omega | (refine ⟨?_, ?_, ?_, ?_, ?_⟩ <;> dsimp only <;> first | assumption | omega | (simp only [List.length_append, List.length_cons, List.length_nil, List.length_set]; omega)), by first | trivial | exact ⟨hs.sp, hs.ss, by omega, hs.np, hst⟩ | omega | (refine ⟨?_, ?_, ?_, ?_, ?_⟩ <;> dsimp only <;> first | assumption | omega | (simp only [List.length_append, List.length_cons, List.length_nil, List.length_set]; omega)), by first | trivial | exact ⟨hs.sp, hs.ss, by omega, hs.np, hst⟩ | omega | (refine ⟨?_, ?_, ?_, ?_, ?_⟩ <;> dsimp only <;> first | assumption | omega | (simp only [List.length_append, List.length_cons, List.length_nil, List.length_set]; omega))⟩
  · rfl
  all_goals (try dsimp only)
  all_goals (first | (omega) | omega | (simp only [*]; omega))
 refine zS <| Qe rfl rfl <| Qa rfl <| JL.nil ?_
 refine zi (fun h80 h80' => ?_) fun h80 h80' => ?_
 ·
  refine zS <| Qf fh rfl <| Q0 1 rfl rfl rfl <| Qz rfl <| Qg rfl rfl <| JL.nil ?_
  refine zi (fun h81 h81' => ?_) fun h81 h81' => ?_
  ·
   refine zk [2, 3] (fun F U l os u => ∃ (G82 : List Nat) (X82AT X82SD : Int) (b84 : Nat) (X82KX : Int), l = F [] ∧ os = [anyO G82] ++ U [some (boxO bs [.slice As_0 s_code cs_0, .int .i64 X82AT, .int .u64 X82SD] 113), some (boxO b3 [.int .i64 gk.rules.pits, .int .i64 gk.rules.seeds, .bool gk.rules.stores, .bool gk.rules.skip, .bool gk.rules.relay, .bool gk.rules.feed, .bool gk.rules.again, .int .i64 gk.rules.capture, .int .i64 gk.rules.slam, .slice A7_3_9 gk.start.pits.length c7_3_9, .slice A7_3_10 gk.start.stores.length c7_3_10, .int .i64 gk.start.player, .slice (some ⟨b84, 0, none⟩) gk.moves.length c7_3_12, .slice A7_3_13 gk.now.pits.length c7_3_13, .slice A7_3_14 gk.now.stores.length c7_3_14, .int .i64 gk.now.player, .int .i64 gk.resigned] 30), nO, nO, some (rowO 2 1 (.slice (some ⟨b84, 0, none⟩) gk.moves.length c7_3_12) gk.moves.length (ints_ (gk.moves.set 0 (X82KX - 1))) g7_3_12)] ∧ (X21AT ≤ X82AT) ∧ (X82AT ≤ X21AT + 2) ∧ (0 ≤ X82KX) ∧ (X82KX = 0 ∨ X82KX < 6)) ?_ ?_
   ·
    refine zdr [3, 6] ?_
    refine JH.p 0 rfl (p_fieldAddr fld_30_2.h rfl) ?_
    refine JH.p 2 rfl (p_move rfl) ?_
    refine y2 1 3 ?_ ?_
    ·
     refine JHo.q rfl (q_load1 ty_26.h rfl (Mem.box (i := 1) rfl rfl)) ?_
     refine y1 3 ?_
     refine yBB 1 sp_ rfl rfl (fun w hb _ hw => c_spec_l00Src_pick s_code X21AT X21SD 6 hb (ok_ hw)) ?_
     rintro _ _ G89 ⟨X89KX, X89AT, X89SD, rfl, rfl, hX89_0, hX89_1, hX89_2, hX89_3⟩
     refine znh ?_
     refine JH.p 4 rfl (p_sub rfl rfl (IntWalk.i64_in _ (by omega))) ?_
     refine JH.fact (row_some (i := 5) rfl (by omega)) (fun hf91 => ?_)
     obtain ⟨b91, rfl⟩ := hf91
     refine JH.p 5 rfl (p_indexAddr el_26 rfl rfl (by omega) (by omega) rfl) ?_
     refine y1 6 ?_
     refine JHo.s rfl (e_storeRow (i := 5) (xs' := ints_ (gk.moves.set 0 (X89KX - 1))) ty_2.h rfl rfl rfl rfl rfl rfl (ints_lt (i := 0) (by omega)) (ints_setL (i := 0) (by omega))) (.inr rfl) ?_
     rintro _ _ _ ⟨rfl, rfl⟩ _
     refine znh ?_
     refine yd ?_
     refine zh [1, 0, 0, 0, 0, 0, 0, 0, 0, 0] ?_
     exact zm ⟨_, _, _, _, _, rfl, rfl, zt, zt, zt, zt⟩ (Up.refl _ _) ⟨rfl, rfl, trivial⟩
    refine yBB 1 sp_ rfl rfl (fun w hb _ hw => c_spec_l00Src_pick s_code X21AT X21SD 6 hb (ok_ hw)) ?_
    rintro _ _ G92 ⟨X92KX, X92AT, X92SD, rfl, rfl, hX92_0, hX92_1, hX92_2, hX92_3⟩
    refine znh ?_
    refine JH.p 4 rfl (p_sub rfl rfl (IntWalk.i64_in _ (by omega))) ?_
    refine y1 1 ?_
    refine JHo.q rfl (q_load1 ty_26.h rfl (Mem.box (i := 2) rfl rfl)) ?_
    refine JH.fact (row_some (i := 5) rfl (by omega)) (fun hf94 => ?_)
    obtain ⟨b94, rfl⟩ := hf94
    refine JH.p 5 rfl (p_indexAddr el_26 rfl rfl (by omega) (by omega) rfl) ?_
    refine y1 6 ?_
    refine JHo.s rfl (e_storeRow (i := 5) (xs' := ints_ (gk.moves.set 0 (X92KX - 1))) ty_2.h rfl rfl rfl rfl rfl rfl (ints_lt (i := 0) (by omega)) (ints_setL (i := 0) (by omega))) (.inr rfl) ?_
    rintro _ _ _ ⟨rfl, rfl⟩ _
    refine znh ?_
    refine yd ?_
    refine zh [1, 0, 0, 0, 0, 0, 0, 0, 0, 0] ?_
    exact zm ⟨_, _, _, _, _, rfl, rfl, zt, zt, zt, zt⟩ (Up.refl _ _) ⟨rfl, rfl, trivial⟩
   rintro _ _ u88 ⟨G82, X82AT, X82SD, b84, X82KX, rfl, rfl, f88_0, f88_1, f88_2, f88_3⟩ x88
   refine zn ?_
   refine zf [1, 1, 1, 1, 1, 1, 1, 1] fun GG95 => ?_
   refine zn ?_
   refine Js.blockEnd <| zS <| Q9 1 rfl rfl ?_
   refine zw 7 rfl rfl rfl ?_
   refine JL.nil ?_
   refine zf [0, 1, 1, 1, 1, 1, 1] fun GG96 => ?_
   refine zn ?_
   refine zrb [0, 0, 0, 0, 0, 0] hb (x7.trans x88) ?_
   have hNr12 : (gk.moves.set 0 (X82KX - 1)).length = gk.moves.length := by first | rfl | assumption | omega | (simp only [List.length_set, M.setI_length]; done) | (simp only [List.length_set, M.setI_length]; first | rfl | assumption | omega)
   refine ⟨((M.Gam.mk gk.rules gk.start (gk.moves.set 0 (X82KX - 1)) gk.now gk.resigned)), (X82AT), (X82SD), A7_3_9, c7_3_9, g7_3_9, A7_3_10, c7_3_10, g7_3_10, (some ⟨b84, 0, none⟩), c7_3_12, g7_3_12, A7_3_13, c7_3_13, g7_3_13, A7_3_14, c7_3_14, g7_3_14, (show (.agg #[.int .i64 gk.rules.pits, .int .i64 gk.rules.seeds, .bool gk.rules.stores, .bool gk.rules.skip, .bool gk.rules.relay, .bool gk.rules.feed, .bool gk.rules.again, .int .i64 gk.rules.capture, .int .i64 gk.rules.slam, .slice A7_3_9 gk.start.pits.length c7_3_9, .slice A7_3_10 gk.start.stores.length c7_3_10, .int .i64 gk.start.player, .slice (some ⟨b84, 0, none⟩) gk.moves.length c7_3_12, .slice A7_3_13 gk.now.pits.length c7_3_13, .slice A7_3_14 gk.now.stores.length c7_3_14, .int .i64 gk.now.player, .int .i64 gk.resigned] : Value) = .agg #[.int .i64 gk.rules.pits, .int .i64 gk.rules.seeds, .bool gk.rules.stores, .bool gk.rules.skip, .bool gk.rules.relay, .bool gk.rules.feed, .bool gk.rules.again, .int .i64 gk.rules.capture, .int .i64 gk.rules.slam, .slice A7_3_9 gk.start.pits.length c7_3_9, .slice A7_3_10 gk.start.stores.length c7_3_10, .int .i64 gk.start.player, .slice (some ⟨b84, 0, none⟩) (gk.moves.set 0 (X82KX - 1)).length c7_3_12, .slice A7_3_13 gk.now.pits.length c7_3_13, .slice A7_3_14 gk.now.stores.length c7_3_14, .int .i64 gk.now.player, .int .i64 gk.resigned] by rw [hNr12]), ?_, ?_, ?_, ?_, ?_, ?_, ?_, ?_, ?_, ?_, ?_, by first | trivial | exact ⟨hs.sp, hs.ss, by omega, hs.np, hst⟩ | omega | (refine ⟨?_, ?_, ?_, ?_, ?_⟩ <;> dsimp only <;> first | assumption | omega | (simp only [List.length_append, List.length_cons, List.length_nil, List.length_set]; omega)), by first | trivial | exact ⟨hs.sp, hs.ss, by omega, hs.np, hst⟩ | omega | (refine ⟨?_, ?_, ?_, ?_, ?_⟩ <;> dsimp only <;> first | assumption | omega | (simp only [List.length_append, List.length_cons, List.length_nil, List.length_set]; omega)), by first | trivial | exact ⟨hs.sp, hs.ss, by omega, hs.np, hst⟩ | omega | (refine ⟨?_, ?_, ?_, ?_, ?_⟩ <;> dsimp only <;> first | assumption | omega | (simp only [List.length_append, List.length_cons, List.length_nil, List.length_set]; omega))⟩
   · first | rfl | (dsimp only; rw [hNr12]) | (dsimp only; simp only [hNr12])
   all_goals (try dsimp only)
   all_goals (first | (rw [hNr12]; omega) | omega | (simp only [*]; omega))
  refine Js.skip <| Js.blockEnd <| zS <| Q9 1 rfl rfl ?_
  refine zw 7 rfl rfl rfl ?_
  refine JL.nil ?_
  refine zf [0, 1, 1, 1, 1, 1, 1] fun GG97 => ?_
  refine zn ?_
  refine zrb [0, 0, 0, 0, 0, 0] hb x7 ?_
  refine ⟨(gk), (X21AT), (X21SD), A7_3_9, c7_3_9, g7_3_9, A7_3_10, c7_3_10, g7_3_10, A7_3_12, c7_3_12, g7_3_12, A7_3_13, c7_3_13, g7_3_13, A7_3_14, c7_3_14, g7_3_14, rfl, ?_, ?_, ?_, ?_, ?_, ?_, ?_, ?_, ?_, ?_, ?_, by first | trivial | exact ⟨hs.sp, hs.ss, by omega, hs.np, hst⟩ | omega | (refine ⟨?_, ?_, ?_, ?_, ?_⟩ <;> dsimp only <;> first | assumption | omega | (simp only [List.length_append, List.length_cons, List.length_nil, List.length_set]; omega)), by first | trivial | exact ⟨hs.sp, hs.ss, by omega, hs.np, hst⟩ | omega | (refine ⟨?_, ?_, ?_, ?_, ?_⟩ <;> dsimp only <;> first | assumption | omega | (simp only [List.length_append, List.length_cons, List.length_nil, List.length_set]; omega)), by first | trivial | exact ⟨hs.sp, hs.ss, by omega, hs.np, hst⟩ | omega | (refine ⟨?_, ?_, ?_, ?_, ?_⟩ <;> dsimp only <;> first | assumption | omega | (simp only [List.length_append, List.length_cons, List.length_nil, List.length_set]; omega))⟩
  · rfl
  all_goals (try dsimp only)
  all_goals (first | (omega) | omega | (simp only [*]; omega))
 refine Js.skip <| Js.blockEnd <| zS <| Q9 1 rfl rfl ?_
 refine zw 7 rfl rfl rfl ?_
 refine JL.nil ?_
 refine zf [0, 1, 1, 1, 1, 1, 1] fun GG98 => ?_
 refine zn ?_
 refine zrb [0, 0, 0, 0, 0, 0] hb x7 ?_
 refine ⟨(gk), (X21AT), (X21SD), A7_3_9, c7_3_9, g7_3_9, A7_3_10, c7_3_10, g7_3_10, A7_3_12, c7_3_12, g7_3_12, A7_3_13, c7_3_13, g7_3_13, A7_3_14, c7_3_14, g7_3_14, rfl, ?_, ?_, ?_, ?_, ?_, ?_, ?_, ?_, ?_, ?_, ?_, by first | trivial | exact ⟨hs.sp, hs.ss, by omega, hs.np, hst⟩ | omega | (refine ⟨?_, ?_, ?_, ?_, ?_⟩ <;> dsimp only <;> first | assumption | omega | (simp only [List.length_append, List.length_cons, List.length_nil, List.length_set]; omega)), by first | trivial | exact ⟨hs.sp, hs.ss, by omega, hs.np, hst⟩ | omega | (refine ⟨?_, ?_, ?_, ?_, ?_⟩ <;> dsimp only <;> first | assumption | omega | (simp only [List.length_append, List.length_cons, List.length_nil, List.length_set]; omega)), by first | trivial | exact ⟨hs.sp, hs.ss, by omega, hs.np, hst⟩ | omega | (refine ⟨?_, ?_, ?_, ?_, ?_⟩ <;> dsimp only <;> first | assumption | omega | (simp only [List.length_append, List.length_cons, List.length_nil, List.length_set]; omega))⟩
 · rfl
 all_goals (try dsimp only)
 all_goals (first | (omega) | omega | (simp only [*]; omega))

end Go.Proofs.YtejnmechnhgmfaaGreat


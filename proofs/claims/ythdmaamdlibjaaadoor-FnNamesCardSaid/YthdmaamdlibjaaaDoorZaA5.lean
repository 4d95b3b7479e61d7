/- Walks: D30. -/
import Derived.Test.YthdmaamdlibjaaaDoorZaA3
import Derived.Test.YthdmaamdlibjaaaDoorZaA4
import Derived.Test.YthdmaamdlibjaaaDoorZaA2
import Derived.Test.YthdmaamdlibjaaaDoorZaA1
import Derived.Test.YthdmaamdlibjaaaDoorZaA0
set_option linter.unusedSimpArgs false
set_option linter.unusedVariables false
set_option maxRecDepth 100000
attribute [local irreducible] Go.Proofs.YthdmaamdlibjaaaDoor.gv
set_option maxHeartbeats 16000000
namespace Go.Proofs.YthdmaamdlibjaaaDoor
open Go.RowKit
theorem c_spec_l00Src_textLL (s_code : Nat) (s_at s_seed : Int) {As_0 : Option Addr} {cs_0 : Nat} (list : List (List UInt8)) {v_list : Value} {bs : Nat} {w : World} (hb : Bw w [boxO bs [.slice As_0 s_code cs_0, .int .i64 s_at, .int .u64 s_seed] 87]) (hps_0 : (Ty.bytes 5 s_code).ok (offW w (([boxO bs [.slice As_0 s_code cs_0, .int .i64 s_at, .int .u64 s_seed] 87] : List Own).flatMap (·.fp))) (.slice As_0 s_code cs_0)) (h_list : (Ty.strs 9 list).ok (offW w (([boxO bs [.slice As_0 s_code cs_0, .int .i64 s_at, .int .u64 s_seed] 87] : List Own).flatMap (·.fp))) v_list) (r0 : 0 ≤ s_at := by exact om_) (r1 : s_at ≤ 999999998 := by exact om_) (r2 : s_code ≤ 1048576 := by exact om_) (r3 : 1 ≤ list.length := by exact om_) (r4 : list.length ≤ 1000 := by exact om_) (r5 : ∀ x ∈ list, x.length ≤ 40 := by exact om_) : RetB Tryd.prog 39 [.pointer (some ⟨bs, 0, none⟩), v_list] w [boxO bs [.slice As_0 s_code cs_0, .int .i64 s_at, .int .u64 s_seed] 87] (fun v bs' => ∃ (TX : List UInt8) (AT SD : Int), v = .string (sB TX) ∧ bs' = [boxO bs [.slice As_0 s_code cs_0, .int .i64 AT, .int .u64 SD] 87] ∧ (LenB TX 40) ∧ (TX.length ≤ 40) ∧ (s_at ≤ AT) ∧ (AT ≤ s_at + 2)) := by
 revert v_list; apply opn
 intro A1 c1 h1 bl1 bh1
 have h_list := h1
 refine enterB hb @Tryd.func39 @Tryd.ntmps39 rfl rfl ?_
 refine zent ?_
 refine Js.trashE ?_
 refine zn ?_
 refine zS <| Qa rfl <| zN <| Qm rfl <| Qm rfl <| Qm rfl <| Qz rfl <| zBB 1 sp_ rfl (fun w hb _ hw => c_spec_l00Src_pick s_code s_at s_seed (list.length : Int) hb (ok_ hw)) ?_
 rintro _ _ G2 ⟨X2KX, X2AT, X2SD, rfl, rfl, hX2_0, hX2_1, hX2_2, hX2_3⟩
 refine znl ?_
 obtain ⟨y3, hy3⟩ : ∃ x, list[X2KX.toNat]? = some x := ⟨_, List.getElem?_eq_getElem (by omega)⟩
 obtain ⟨b3, o3, he3, hc3⟩ := strs_elem h1 hy3
 refine Qq (p_indexAddr el_38 rfl rfl (by omega) (by omega) he3) <| QC hc3 rfl <| Qa rfl <| JL.nil ?_
 refine zrb [0] hb (Up.refl _ _) ?_
 refine ⟨(y3), (X2AT), (X2SD), rfl, ?_, by first | trivial | omega | exact ⟨r5 _ (List.mem_of_getElem? (by assumption))⟩ | exact r5 _ (List.mem_of_getElem? (by assumption)), by first | trivial | omega | exact ⟨r5 _ (List.mem_of_getElem? (by assumption))⟩ | exact r5 _ (List.mem_of_getElem? (by assumption)), by first | trivial | omega | exact ⟨r5 _ (List.mem_of_getElem? (by assumption))⟩ | exact r5 _ (List.mem_of_getElem? (by assumption)), by first | trivial | omega | exact ⟨r5 _ (List.mem_of_getElem? (by assumption))⟩ | exact r5 _ (List.mem_of_getElem? (by assumption))⟩
 · rfl
theorem c_spec_StandardRulesL (name : List UInt8) {w : World} (r0 : name ∈ M.stdNames := by exact om_) : Ret Tryd.prog 76 [.string (sB name)] w (Ty.tup [Ty.ex (fun (RX : M.Rul) => (M.okR RX = true)) (fun RX => Ty.agg (cRules RX)), Ty.ex (fun (CX : Int) => True) (fun CX => Ty.int CX)]) := by
 refine enter @Tryd.func76 @Tryd.ntmps76 rfl rfl ?_
 refine zent ?_
 refine zS <| za zeh fun b1 => Qa rfl <| zJ <| zS <| Qm rfl <| JL.nil <| Js.block <| zS <| Qq (p_eqlT und_9 rfl rfl) <| Qa rfl <| JL.nil ?_
 refine zi (fun h2 h2' => ?_) fun h2 h2' => ?_
 ·
  refine zS <| Qb ?_
  refine zw 0 rfl rfl rfl ?_
  refine Qa rfl <| JL.nil ?_
  exact zro (Up.refl _ _) (g := by exact (gv_tup (gvc (gv_ex (M.Rul.mk 6 4 true false false false true 2 0) (by first | trivial | omega | decide | assumption | rfl | (dsimp only; omega) | (exfalso; simp only [M.stdNames, List.mem_cons, List.not_mem_nil, or_false] at r0; rcases r0 with rfl | rfl | rfl | rfl <;> simp_all) | exact M.okR_mk (by omega) (by omega) (by omega) (by omega) (by first | rfl | simp_all)) gv_) (gvc (gv_ex 0 (by first | trivial | omega | decide | assumption | rfl | (dsimp only; omega) | (exfalso; simp only [M.stdNames, List.mem_cons, List.not_mem_nil, or_false] at r0; rcases r0 with rfl | rfl | rfl | rfl <;> simp_all) | exact M.okR_mk (by omega) (by omega) (by omega) (by omega) (by first | rfl | simp_all)) gv_) gvn))))
 refine zS <| Qq (p_eqlT und_9 rfl rfl) <| Qa rfl <| JL.nil ?_
 refine zi (fun h3 h3' => ?_) fun h3 h3' => ?_
 ·
  refine zS <| Qb ?_
  refine zw 0 rfl rfl rfl ?_
  refine Qa rfl <| JL.nil ?_
  exact zro (Up.refl _ _) (g := by exact (gv_tup (gvc (gv_ex (M.Rul.mk 3 2 false false false true false 1 0) (by first | trivial | omega | decide | assumption | rfl | (dsimp only; omega) | (exfalso; simp only [M.stdNames, List.mem_cons, List.not_mem_nil, or_false] at r0; rcases r0 with rfl | rfl | rfl | rfl <;> simp_all) | exact M.okR_mk (by omega) (by omega) (by omega) (by omega) (by first | rfl | simp_all)) gv_) (gvc (gv_ex 0 (by first | trivial | omega | decide | assumption | rfl | (dsimp only; omega) | (exfalso; simp only [M.stdNames, List.mem_cons, List.not_mem_nil, or_false] at r0; rcases r0 with rfl | rfl | rfl | rfl <;> simp_all) | exact M.okR_mk (by omega) (by omega) (by omega) (by omega) (by first | rfl | simp_all)) gv_) gvn))))
 refine zS <| Qq (p_eqlT und_9 rfl rfl) <| Qa rfl <| JL.nil ?_
 refine zi (fun h4 h4' => ?_) fun h4 h4' => ?_
 ·
  refine zS <| Qb ?_
  refine zw 0 rfl rfl rfl ?_
  refine Qa rfl <| JL.nil ?_
  exact zro (Up.refl _ _) (g := by exact (gv_tup (gvc (gv_ex (M.Rul.mk 6 4 false true false true false 1 2) (by first | trivial | omega | decide | assumption | rfl | (dsimp only; omega) | (exfalso; simp only [M.stdNames, List.mem_cons, List.not_mem_nil, or_false] at r0; rcases r0 with rfl | rfl | rfl | rfl <;> simp_all) | exact M.okR_mk (by omega) (by omega) (by omega) (by omega) (by first | rfl | simp_all)) gv_) (gvc (gv_ex 0 (by first | trivial | omega | decide | assumption | rfl | (dsimp only; omega) | (exfalso; simp only [M.stdNames, List.mem_cons, List.not_mem_nil, or_false] at r0; rcases r0 with rfl | rfl | rfl | rfl <;> simp_all) | exact M.okR_mk (by omega) (by omega) (by omega) (by omega) (by first | rfl | simp_all)) gv_) gvn))))
 refine zS <| Qq (p_eqlT und_9 rfl rfl) <| Qa rfl <| JL.nil ?_
 refine zi (fun h5 h5' => ?_) fun h5 h5' => ?_
 ·
  refine zS <| Qb ?_
  refine zw 0 rfl rfl rfl ?_
  refine Qa rfl <| JL.nil ?_
  exact zro (Up.refl _ _) (g := by exact (gv_tup (gvc (gv_ex (M.Rul.mk 4 2 false false true false false 2 0) (by first | trivial | omega | decide | assumption | rfl | (dsimp only; omega) | (exfalso; simp only [M.stdNames, List.mem_cons, List.not_mem_nil, or_false] at r0; rcases r0 with rfl | rfl | rfl | rfl <;> simp_all) | exact M.okR_mk (by omega) (by omega) (by omega) (by omega) (by first | rfl | simp_all)) gv_) (gvc (gv_ex 0 (by first | trivial | omega | decide | assumption | rfl | (dsimp only; omega) | (exfalso; simp only [M.stdNames, List.mem_cons, List.not_mem_nil, or_false] at r0; rcases r0 with rfl | rfl | rfl | rfl <;> simp_all) | exact M.okR_mk (by omega) (by omega) (by omega) (by omega) (by first | rfl | simp_all)) gv_) gvn))))
 refine Js.skip <| Js.blockEnd <| zS <| Qb ?_
 refine zw 0 rfl rfl rfl ?_
 refine Qa rfl <| JL.nil ?_
 exact zro (Up.refl _ _) (g := by exact (gv_tup (gvc (gv_ex (M.Rul.mk 0 0 false false false false false 0 0) (by first | trivial | omega | decide | assumption | rfl | (dsimp only; omega) | (exfalso; simp only [M.stdNames, List.mem_cons, List.not_mem_nil, or_false] at r0; rcases r0 with rfl | rfl | rfl | rfl <;> simp_all) | exact M.okR_mk (by omega) (by omega) (by omega) (by omega) (by first | rfl | simp_all)) gv_) (gvc (gv_ex 3 (by first | trivial | omega | decide | assumption | rfl | (dsimp only; omega) | (exfalso; simp only [M.stdNames, List.mem_cons, List.not_mem_nil, or_false] at r0; rcases r0 with rfl | rfl | rfl | rfl <;> simp_all) | exact M.okR_mk (by omega) (by omega) (by omega) (by omega) (by first | rfl | simp_all)) gv_) gvn))))
theorem c_spec_l02DrawL (s_code : Nat) (s_at s_seed : Int) {As_0 : Option Addr} {cs_0 bs : Nat} {w : World} (hb : Bw w [boxO bs [.slice As_0 s_code cs_0, .int .i64 s_at, .int .u64 s_seed] 87]) (hps_0 : (Ty.bytes 5 s_code).ok (offW w (([boxO bs [.slice As_0 s_code cs_0, .int .i64 s_at, .int .u64 s_seed] 87] : List Own).flatMap (·.fp))) (.slice As_0 s_code cs_0)) (r0 : 0 ≤ s_at := by exact om_) (r1 : s_at ≤ 999999960 := by exact om_) (r2 : s_code ≤ 1048576 := by exact om_) : RetB Tryd.prog 65 [.pointer (some ⟨bs, 0, none⟩)] w [boxO bs [.slice As_0 s_code cs_0, .int .i64 s_at, .int .u64 s_seed] 87] (fun v bs' => ∃ (RX : M.Rul) (AT SD : Int), v = .agg #[.int .i64 RX.pits, .int .i64 RX.seeds, .bool RX.stores, .bool RX.skip, .bool RX.relay, .bool RX.feed, .bool RX.again, .int .i64 RX.capture, .int .i64 RX.slam] ∧ bs' = [boxO bs [.slice As_0 s_code cs_0, .int .i64 AT, .int .u64 SD] 87] ∧ (M.okR RX = true) ∧ (s_at ≤ AT) ∧ (AT ≤ s_at + 40)) := by
 refine enterB hb @Tryd.func65 @Tryd.ntmps65 rfl rfl ?_
 refine zent ?_
 refine Js.trashE ?_
 refine zn ?_
 refine zS <| za zeh fun b1 => zJ <| zS <| Qm rfl ?_
 refine zhl [1] ?_
 refine zBB 1 sp_ rfl (fun w hb _ hw => c_spec_l00Src_one s_code s_at s_seed 3 hb (ok_ hw)) ?_
 rintro _ _ G2 ⟨X2BX, X2AT, X2SD, rfl, rfl, hX2_0, hX2_1⟩
 refine znl ?_
 refine JL.nil ?_
 refine zf [0, 1] fun GG3 => ?_
 refine zn ?_
 refine zi (fun h4 h4' => ?_) fun h4 h4' => ?_
 ·
  refine zS <| Qm rfl <| zp rfl (fun w hw => c_spec_StandardNames) ?_
  intro u5 x5 A6 c6 h6 bl6 bh6
  refine zBB 1 sp_ rfl (fun w hb _ hw => c_spec_l00Src_text s_code X2AT X2SD M.stdNames hb (ok_ hw) (ok_ hw) (r3 := (by decide)) (r4 := (by decide))) ?_
  rintro _ _ G7 ⟨X7TX, X7AT, X7SD, rfl, rfl, hX7_0, hX7_1, hX7_2⟩
  refine znl ?_
  refine zp rfl (fun w hw => c_spec_StandardRulesL X7TX (r0 := (by assumption))) ?_
  intro u8 x8 X9 hX9 X10 hX10
  refine Qm rfl <| Qx rfl rfl <| Qx rfl rfl <| za zeh fun b11 => zw 0 rfl rfl rfl ?_
  refine Qa rfl <| JL.nil ?_
  refine zf [0, 0, 1] fun GG12 => ?_
  refine zn ?_
  refine zS <| Q9 0 rfl rfl ?_
  refine zw 2 rfl rfl rfl ?_
  refine JL.nil ?_
  refine zf [1, 1] fun GG13 => ?_
  refine zn ?_
  refine zrb [0] hb (x5.trans x8) ?_
  refine ⟨(X9), (X7AT), (X7SD), rfl, ?_, by first | trivial | omega | decide | assumption | rfl | (dsimp only; omega) | (exfalso; simp only [M.stdNames, List.mem_cons, List.not_mem_nil, or_false] at r0; rcases r0 with rfl | rfl | rfl | rfl <;> simp_all) | exact M.okR_mk (by omega) (by omega) (by omega) (by omega) (by first | rfl | simp_all), by first | trivial | omega | decide | assumption | rfl | (dsimp only; omega) | (exfalso; simp only [M.stdNames, List.mem_cons, List.not_mem_nil, or_false] at r0; rcases r0 with rfl | rfl | rfl | rfl <;> simp_all) | exact M.okR_mk (by omega) (by omega) (by omega) (by omega) (by first | rfl | simp_all), by first | trivial | omega | decide | assumption | rfl | (dsimp only; omega) | (exfalso; simp only [M.stdNames, List.mem_cons, List.not_mem_nil, or_false] at r0; rcases r0 with rfl | rfl | rfl | rfl <;> simp_all) | exact M.okR_mk (by omega) (by omega) (by omega) (by omega) (by first | rfl | simp_all)⟩
  · rfl
 refine Js.skip <| zS <| Qm rfl <| zBB 1 sp_ rfl (fun w hb _ hw => c_spec_l00Src_pick s_code X2AT X2SD 4 hb (ok_ hw)) ?_
 rintro _ _ G14 ⟨X14KX, X14AT, X14SD, rfl, rfl, hX14_0, hX14_1, hX14_2, hX14_3⟩
 refine znl ?_
 refine Qp rfl rfl <| Qm rfl <| zBB 1 sp_ rfl (fun w hb _ hw => c_spec_l00Src_pick s_code X14AT X14SD 4 hb (ok_ hw)) ?_
 rintro _ _ G15 ⟨X15KX, X15AT, X15SD, rfl, rfl, hX15_0, hX15_1, hX15_2, hX15_3⟩
 refine znl ?_
 refine Qp rfl rfl <| Qb ?_
 refine za zeh fun b16 => zw 0 rfl rfl rfl ?_
 refine JL.nil ?_
 refine zf [0, 0, 2] fun GG17 => ?_
 refine zn ?_
 refine zS <| Qm rfl ?_
 refine zhl [1] ?_
 refine zBB 1 sp_ rfl (fun w hb _ hw => c_spec_l00Src_one s_code X15AT X15SD 2 hb (ok_ hw)) ?_
 rintro _ _ G18 ⟨X18BX, X18AT, X18SD, rfl, rfl, hX18_0, hX18_1⟩
 refine znl ?_
 refine Qf fh rfl <| zw 2 rfl rfl rfl ?_
 refine JL.nil ?_
 refine zf [0, 1, 1] fun GG19 => ?_
 refine zn ?_
 refine zS <| Qm rfl <| zBB 1 sp_ rfl (fun w hb _ hw => c_spec_l00Src_one s_code X18AT X18SD 2 hb (ok_ hw)) ?_
 rintro _ _ G20 ⟨X20BX, X20AT, X20SD, rfl, rfl, hX20_0, hX20_1⟩
 refine znl ?_
 refine Qf fh rfl <| zw 2 rfl rfl rfl ?_
 refine JL.nil ?_
 refine zf [0, 1, 1] fun GG21 => ?_
 refine zn ?_
 refine zS <| Qm rfl <| zBB 1 sp_ rfl (fun w hb _ hw => c_spec_l00Src_one s_code X20AT X20SD 4 hb (ok_ hw)) ?_
 rintro _ _ G22 ⟨X22BX, X22AT, X22SD, rfl, rfl, hX22_0, hX22_1⟩
 refine znl ?_
 refine Qf fh rfl <| zw 2 rfl rfl rfl ?_
 refine JL.nil ?_
 refine zf [0, 1, 1] fun GG23 => ?_
 refine zn ?_
 refine zS <| Qm rfl <| zBB 1 sp_ rfl (fun w hb _ hw => c_spec_l00Src_one s_code X22AT X22SD 2 hb (ok_ hw)) ?_
 rintro _ _ G24 ⟨X24BX, X24AT, X24SD, rfl, rfl, hX24_0, hX24_1⟩
 refine znl ?_
 refine Qf fh rfl <| zw 2 rfl rfl rfl ?_
 refine JL.nil ?_
 refine zf [0, 1, 1] fun GG25 => ?_
 refine zn ?_
 refine Js.seq ?_
 rcases Bool.eq_false_or_eq_true (X18BX) with h26 | h26
 ·
  refine Js.region <| Qf fh rfl <| Q0 1 rfl rfl rfl <| Qm rfl <| zT (Gd.t1 rfl rfl rfl) (show X18BX = true by first | exact h26 | (rw [h26]; rfl) | simp [h26]) <| Qm rfl <| zT (Gd.t1 rfl rfl rfl) (show X18BX = true by first | exact h26 | (rw [h26]; rfl) | simp [h26]) <| zBB 1 sp_ rfl (fun w hb _ hw => c_spec_l00Src_one s_code X24AT X24SD 2 hb (ok_ hw)) ?_
  rintro _ _ G27 ⟨X27BX, X27AT, X27SD, rfl, rfl, hX27_0, hX27_1⟩
  refine znl ?_
  refine Qq (p_pickAnd2 rfl rfl rfl) <| Qf fh rfl <| zw 2 rfl rfl rfl ?_
  refine JL.nil ?_
  refine zf [0, 1, 1] fun GG28 => ?_
  refine zn ?_
  refine zS <| Qm rfl <| zBB 1 sp_ rfl (fun w hb _ hw => c_spec_l00Src_pick s_code X27AT X27SD 4 hb (ok_ hw)) ?_
  rintro _ _ G29 ⟨X29KX, X29AT, X29SD, rfl, rfl, hX29_0, hX29_1, hX29_2, hX29_3⟩
  refine znl ?_
  refine Qf fh rfl <| zw 2 rfl rfl rfl ?_
  refine JL.nil ?_
  refine zf [0, 1, 1] fun GG30 => ?_
  refine zn ?_
  refine zS <| Qm rfl <| zBB 1 sp_ rfl (fun w hb _ hw => c_spec_l00Src_pick s_code X29AT X29SD 3 hb (ok_ hw)) ?_
  rintro _ _ G31 ⟨X31KX, X31AT, X31SD, rfl, rfl, hX31_0, hX31_1, hX31_2, hX31_3⟩
  refine znl ?_
  refine Qf fh rfl <| zw 2 rfl rfl rfl ?_
  refine JL.nil ?_
  refine zf [0, 1, 1] fun GG32 => ?_
  refine zn ?_
  refine zS <| Q9 1 rfl rfl ?_
  refine zw 2 rfl rfl rfl ?_
  refine JL.nil ?_
  refine zf [0, 1] fun GG33 => ?_
  refine zn ?_
  refine zrb [0] hb (Up.refl _ _) ?_
  refine ⟨((M.Rul.mk (2 + X14KX) (1 + X15KX) X18BX X20BX X22BX X24BX (X18BX && X27BX) X29KX X31KX)), (X31AT), (X31SD), rfl, ?_, by first | trivial | omega | decide | assumption | rfl | (dsimp only; omega) | (exfalso; simp only [M.stdNames, List.mem_cons, List.not_mem_nil, or_false] at r0; rcases r0 with rfl | rfl | rfl | rfl <;> simp_all) | exact M.okR_mk (by omega) (by omega) (by omega) (by omega) (by first | rfl | simp_all), by first | trivial | omega | decide | assumption | rfl | (dsimp only; omega) | (exfalso; simp only [M.stdNames, List.mem_cons, List.not_mem_nil, or_false] at r0; rcases r0 with rfl | rfl | rfl | rfl <;> simp_all) | exact M.okR_mk (by omega) (by omega) (by omega) (by omega) (by first | rfl | simp_all), by first | trivial | omega | decide | assumption | rfl | (dsimp only; omega) | (exfalso; simp only [M.stdNames, List.mem_cons, List.not_mem_nil, or_false] at r0; rcases r0 with rfl | rfl | rfl | rfl <;> simp_all) | exact M.okR_mk (by omega) (by omega) (by omega) (by omega) (by first | rfl | simp_all)⟩
  · rfl
 refine Js.region <| Qf fh rfl <| Q0 1 rfl rfl rfl <| Qm rfl ?_
 refine JL.g (v := undef) (Gd.t1 rfl rfl rfl) (fun hc => absurd hc (by first | (rw [h26]; simp; done) | simp [h26])) ?_
 refine JL.g (v := .bool false) (Gd.t1 rfl rfl rfl) (fun hc => absurd hc (by first | (rw [h26]; simp; done) | simp [h26])) ?_
 refine Qq (p_pickAnd rfl rfl rfl) <| Qf fh rfl <| zw 1 rfl rfl rfl ?_
 refine zN <| Qm rfl <| zBB 1 sp_ rfl (fun w hb _ hw => c_spec_l00Src_pick s_code X24AT X24SD 4 hb (ok_ hw)) ?_
 rintro _ _ G34 ⟨X34KX, X34AT, X34SD, rfl, rfl, hX34_0, hX34_1, hX34_2, hX34_3⟩
 refine znl ?_
 refine Qf fh rfl <| zw 2 rfl rfl rfl ?_
 refine JL.nil ?_
 refine zf [0, 1, 1] fun GG35 => ?_
 refine zn ?_
 refine zS <| Qm rfl <| zBB 1 sp_ rfl (fun w hb _ hw => c_spec_l00Src_pick s_code X34AT X34SD 3 hb (ok_ hw)) ?_
 rintro _ _ G36 ⟨X36KX, X36AT, X36SD, rfl, rfl, hX36_0, hX36_1, hX36_2, hX36_3⟩
 refine znl ?_
 refine Qf fh rfl <| zw 2 rfl rfl rfl ?_
 refine JL.nil ?_
 refine zf [0, 1, 1] fun GG37 => ?_
 refine zn ?_
 refine zS <| Q9 1 rfl rfl ?_
 refine zw 2 rfl rfl rfl ?_
 refine JL.nil ?_
 refine zf [0, 1] fun GG38 => ?_
 refine zn ?_
 refine zrb [0] hb (Up.refl _ _) ?_
 refine ⟨((M.Rul.mk (2 + X14KX) (1 + X15KX) X18BX X20BX X22BX X24BX (X18BX && false) X34KX X36KX)), (X36AT), (X36SD), rfl, ?_, by first | trivial | omega | decide | assumption | rfl | (dsimp only; omega) | (exfalso; simp only [M.stdNames, List.mem_cons, List.not_mem_nil, or_false] at r0; rcases r0 with rfl | rfl | rfl | rfl <;> simp_all) | exact M.okR_mk (by omega) (by omega) (by omega) (by omega) (by first | rfl | simp_all), by first | trivial | omega | decide | assumption | rfl | (dsimp only; omega) | (exfalso; simp only [M.stdNames, List.mem_cons, List.not_mem_nil, or_false] at r0; rcases r0 with rfl | rfl | rfl | rfl <;> simp_all) | exact M.okR_mk (by omega) (by omega) (by omega) (by omega) (by first | rfl | simp_all), by first | trivial | omega | decide | assumption | rfl | (dsimp only; omega) | (exfalso; simp only [M.stdNames, List.mem_cons, List.not_mem_nil, or_false] at r0; rcases r0 with rfl | rfl | rfl | rfl <;> simp_all) | exact M.okR_mk (by omega) (by omega) (by omega) (by omega) (by first | rfl | simp_all)⟩
 · rfl
theorem c_spec_l03DrawText (s_code : Nat) (s_at s_seed : Int) {As_0 : Option Addr} {cs_0 bs : Nat} {w : World} (hb : Bw w [boxO bs [.slice As_0 s_code cs_0, .int .i64 s_at, .int .u64 s_seed] 87]) (hps_0 : (Ty.bytes 5 s_code).ok (offW w (([boxO bs [.slice As_0 s_code cs_0, .int .i64 s_at, .int .u64 s_seed] 87] : List Own).flatMap (·.fp))) (.slice As_0 s_code cs_0)) (r0 : 0 ≤ s_at := by exact om_) (r1 : s_at ≤ 999999500 := by exact om_) (r2 : s_code ≤ 1048576 := by exact om_) : RetB Tryd.prog 48 [.pointer (some ⟨bs, 0, none⟩)] w [boxO bs [.slice As_0 s_code cs_0, .int .i64 s_at, .int .u64 s_seed] 87] (fun v bs' => ∃ (TX : List UInt8) (AT SD : Int), v = .string (sB TX) ∧ bs' = [boxO bs [.slice As_0 s_code cs_0, .int .i64 AT, .int .u64 SD] 87] ∧ (TX.length ≤ 300) ∧ (s_at ≤ AT) ∧ (AT ≤ s_at + 500)) := by
 refine enterB hb @Tryd.func48 @Tryd.ntmps48 rfl rfl ?_
 refine zent ?_
 refine Js.trashE ?_
 refine zn ?_
 refine zS <| Qa rfl <| zN <| Qm rfl <| zBB 1 sp_ rfl (fun w hb _ hw => c_spec_l02DrawL s_code s_at s_seed hb (ok_ hw)) ?_
 rintro _ _ G1 ⟨X1RX, X1AT, X1SD, rfl, rfl, hX1_0, hX1_1, hX1_2⟩
 refine znl ?_
 refine za zeh fun b2 => zw 0 rfl rfl rfl ?_
 refine JL.nil ?_
 refine zf [0, 0] fun GG3 => ?_
 refine zn ?_
 refine zS <| zv rfl (fun w hw => c_spec_l03Text X1RX (ok_ hw) (r0 := (by assumption))) <| Qa rfl <| JL.nil ?_
 refine zf [1] fun GG4 => ?_
 refine zn ?_
 have htl := M.rulesT_len X1RX
 refine Js.seq <| zS <| Qm rfl <| zBB 1 sp_ rfl (fun w hb _ hw => c_spec_l00Src_pick s_code X1AT X1SD 6 hb (ok_ hw)) ?_
 rintro _ _ G5 ⟨X5KX, X5AT, X5SD, rfl, rfl, hX5_0, hX5_1, hX5_2, hX5_3⟩
 refine znl ?_
 refine JL.nil ?_
 refine zf [0] fun GG6 => ?_
 refine zn ?_
 refine Js.block <| zS <| Qe rfl rfl <| Qa rfl <| JL.nil ?_
 refine zi (fun h7 h7' => ?_) fun h7 h7' => ?_
 ·
  refine zS <| Qm rfl <| Qm rfl <| zBB 1 sp_ rfl (fun w hb _ hw => c_spec_l01Spoil s_code X5AT X5SD (M.rulesT X1RX) hb (ok_ hw)) ?_
  rintro _ _ G8 ⟨X8TX, X8AT, X8SD, rfl, rfl, hX8_0, hX8_1, hX8_2⟩
  refine znl ?_
  refine Qa rfl <| JL.nil ?_
  refine zf [0] fun GG9 => ?_
  refine zn ?_
  refine zrb [0] hb (Up.refl _ _) ?_
  refine ⟨(X8TX), (X8AT), (X8SD), rfl, ?_, by first | trivial | omega | assumption | (have h9 := (by assumption : LenB _ 40).h; first | omega | (simp only [List.length_append, List.length_cons, List.length_nil]; omega)), by first | trivial | omega | assumption | (have h9 := (by assumption : LenB _ 40).h; first | omega | (simp only [List.length_append, List.length_cons, List.length_nil]; omega)), by first | trivial | omega | assumption | (have h9 := (by assumption : LenB _ 40).h; first | omega | (simp only [List.length_append, List.length_cons, List.length_nil]; omega))⟩
  · rfl
 refine zS <| Qe rfl rfl <| Qa rfl <| JL.nil ?_
 refine zi (fun h10 h10' => ?_) fun h10 h10' => ?_
 ·
  refine zS <| Qm rfl <| Qq (q_cat rfl rfl) <| Qm rfl <| zbs fun b11 => ?_
  refine zhl [1] ?_
  refine zBB 1 sp_ rfl (fun w hb _ hw => c_spec_l00Src_textLL s_code X5AT X5SD ([([112, 105, 116, 115, 61, 51] : List UInt8), ([97, 103, 97, 105, 110] : List UInt8), ([115, 116, 111, 114, 101, 115] : List UInt8), ([98, 108, 117, 101] : List UInt8), ([115, 107, 105, 112, 61, 49] : List UInt8), ([115, 108, 97, 109] : List UInt8), ([99, 97, 112, 116, 117, 114, 101, 61, 97, 108, 108] : List UInt8), ([115, 101, 101, 100, 115, 61, 115, 101, 118, 101, 110] : List UInt8), ([115, 101, 101, 100, 115, 61, 55] : List UInt8), ([61] : List UInt8), ([102, 101, 101, 100, 32, 102, 101, 101, 100] : List UInt8)]) hb (ok_ hw) (strs_rowok (xs := ([([112, 105, 116, 115, 61, 51] : List UInt8), ([97, 103, 97, 105, 110] : List UInt8), ([115, 116, 111, 114, 101, 115] : List UInt8), ([98, 108, 117, 101] : List UInt8), ([115, 107, 105, 112, 61, 49] : List UInt8), ([115, 108, 97, 109] : List UInt8), ([99, 97, 112, 116, 117, 114, 101, 61, 97, 108, 108] : List UInt8), ([115, 101, 101, 100, 115, 61, 115, 101, 118, 101, 110] : List UInt8), ([115, 101, 101, 100, 115, 61, 55] : List UInt8), ([61] : List UInt8), ([102, 101, 101, 100, 32, 102, 101, 101, 100] : List UInt8)])) (hw.pr (i := 0) rfl)) (r3 := (by decide)) (r4 := (by decide)) (r5 := (by decide))) ?_
  rintro _ _ G13 ⟨X13TX, X13AT, X13SD, rfl, rfl, hX13_0, hX13_1, hX13_2, hX13_3⟩
  refine znl ?_
  refine Qq (q_cat rfl rfl) <| Qa rfl <| JL.nil ?_
  refine zf [0] fun GG14 => ?_
  refine zn ?_
  refine zrb [0] hb (Up.refl _ _) ?_
  refine ⟨(((M.rulesT X1RX) ++ ([32] : List UInt8)) ++ X13TX), (X13AT), (X13SD), rfl, ?_, by first | trivial | omega | assumption | (have h9 := (by assumption : LenB _ 40).h; first | omega | (simp only [List.length_append, List.length_cons, List.length_nil]; omega)), by first | trivial | omega | assumption | (have h9 := (by assumption : LenB _ 40).h; first | omega | (simp only [List.length_append, List.length_cons, List.length_nil]; omega)), by first | trivial | omega | assumption | (have h9 := (by assumption : LenB _ 40).h; first | omega | (simp only [List.length_append, List.length_cons, List.length_nil]; omega))⟩
  · rfl
 refine zS <| Qe rfl rfl <| Qa rfl <| JL.nil ?_
 refine zi (fun h15 h15' => ?_) fun h15 h15' => ?_
 ·
  refine zS <| Qm rfl <| zbs fun b16 => ?_
  refine zhl [1] ?_
  refine zBB 1 sp_ rfl (fun w hb _ hw => c_spec_l00Src_textLL s_code X5AT X5SD ([([] : List UInt8), ([32] : List UInt8), ([112, 105, 116, 115, 61, 57, 32, 115, 101, 101, 100, 115, 61, 48] : List UInt8), ([115, 101, 101, 100, 115, 61, 52, 32, 112, 105, 116, 115, 61, 54] : List UInt8), ([32, 32, 112, 105, 116, 115, 61, 50, 32, 32, 32, 115, 101, 101, 100, 115, 61, 49, 32] : List UInt8), ([112, 105, 116, 115, 61, 50, 32, 115, 101, 101, 100, 115, 61, 49, 32, 97, 103, 97, 105, 110] : List UInt8), ([97, 103, 97, 105, 110, 32, 115, 116, 111, 114, 101, 115, 32, 112, 105, 116, 115, 61, 48, 51, 32, 115, 101, 101, 100, 115, 61, 49] : List UInt8)]) hb (ok_ hw) (strs_rowok (xs := ([([] : List UInt8), ([32] : List UInt8), ([112, 105, 116, 115, 61, 57, 32, 115, 101, 101, 100, 115, 61, 48] : List UInt8), ([115, 101, 101, 100, 115, 61, 52, 32, 112, 105, 116, 115, 61, 54] : List UInt8), ([32, 32, 112, 105, 116, 115, 61, 50, 32, 32, 32, 115, 101, 101, 100, 115, 61, 49, 32] : List UInt8), ([112, 105, 116, 115, 61, 50, 32, 115, 101, 101, 100, 115, 61, 49, 32, 97, 103, 97, 105, 110] : List UInt8), ([97, 103, 97, 105, 110, 32, 115, 116, 111, 114, 101, 115, 32, 112, 105, 116, 115, 61, 48, 51, 32, 115, 101, 101, 100, 115, 61, 49] : List UInt8)])) (hw.pr (i := 0) rfl)) (r3 := (by decide)) (r4 := (by decide)) (r5 := (by decide))) ?_
  rintro _ _ G18 ⟨X18TX, X18AT, X18SD, rfl, rfl, hX18_0, hX18_1, hX18_2, hX18_3⟩
  refine znl ?_
  refine Qa rfl <| JL.nil ?_
  refine zf [0] fun GG19 => ?_
  refine zn ?_
  refine zrb [0] hb (Up.refl _ _) ?_
  refine ⟨(X18TX), (X18AT), (X18SD), rfl, ?_, by first | trivial | omega | assumption | (have h9 := (by assumption : LenB _ 40).h; first | omega | (simp only [List.length_append, List.length_cons, List.length_nil]; omega)), by first | trivial | omega | assumption | (have h9 := (by assumption : LenB _ 40).h; first | omega | (simp only [List.length_append, List.length_cons, List.length_nil]; omega)), by first | trivial | omega | assumption | (have h9 := (by assumption : LenB _ 40).h; first | omega | (simp only [List.length_append, List.length_cons, List.length_nil]; omega))⟩
  · rfl
 refine zS <| Qe rfl rfl <| Qa rfl <| JL.nil ?_
 refine zi (fun h20 h20' => ?_) fun h20 h20' => ?_
 ·
  refine Js.block ?_
  refine zl [0] (fun F U l os u m => ∃ (t2 : List UInt8) (at1 sd1 : Int) (G21_1 : List Nat), l = F [(4, .string (sB t2))] ∧ os = U [some (boxO bs [.slice As_0 s_code cs_0, .int .i64 at1, .int .u64 sd1] 87), some (anyO G21_1)] ∧ (t2.length ≤ 202) ∧ (s_at ≤ at1) ∧ (at1 ≤ s_at + 60 + 2 * t2.length) ∧ m = 202 - t2.length) ⟨M.rulesT X1RX, X5AT, X5SD, _, rfl, rfl, zt, zt, zt, rfl⟩ ?_
  rintro _ _ u21 _ ⟨t2, at1, sd1, G21_1, rfl, rfl, hT, ha0, ha1, rfl⟩ x21
  refine zn ?_
  have lb9 : LenB t2 202 := ⟨hT⟩
  refine Js.seq <| zS <| Qm rfl <| Qq (p_lenS und_9 rfl) <| Qm rfl <| zBB 1 sp_ rfl (fun w hb _ hw => c_spec_l00Src_pick s_code at1 sd1 2 hb (ok_ hw)) ?_
  rintro _ _ G22 ⟨X22KX, X22AT, X22SD, rfl, rfl, hX22_0, hX22_1, hX22_2, hX22_3⟩
  refine znl ?_
  refine Qp rfl rfl <| Ql rfl rfl <| JL.nil ?_
  refine zf [0] fun GG23 => ?_
  refine zn ?_
  refine zi (fun h24 h24' => ?_) fun h24 h24' => ?_
  ·
   refine Js.skip <| Js.block <| Js.region <| Qm rfl <| Qq (q_cat rfl rfl) <| Qa rfl <| JL.nil <| Js.blockEnd ?_
   exact zag ⟨t2 ++ ([32] : List UInt8), X22AT, X22SD, _, rfl, rfl, by simp only [List.length_append, List.length_cons, List.length_nil]; omega, zt, by simp only [List.length_append, List.length_cons, List.length_nil]; omega, rfl⟩ x21 (by simp only [List.length_append, List.length_cons, List.length_nil]; omega)
  refine zx ?_
  refine Js.blockEnd <| zS <| Qm rfl <| Qa rfl <| JL.nil ?_
  refine zrb [0] hb x21 ?_
  refine ⟨(t2), (X22AT), (X22SD), rfl, ?_, by first | trivial | omega | assumption | (have h9 := (by assumption : LenB _ 40).h; first | omega | (simp only [List.length_append, List.length_cons, List.length_nil]; omega)), by first | trivial | omega | assumption | (have h9 := (by assumption : LenB _ 40).h; first | omega | (simp only [List.length_append, List.length_cons, List.length_nil]; omega)), by first | trivial | omega | assumption | (have h9 := (by assumption : LenB _ 40).h; first | omega | (simp only [List.length_append, List.length_cons, List.length_nil]; omega))⟩
  · rfl
 refine Js.skip <| Js.blockEnd <| zS <| Qm rfl <| Qa rfl <| JL.nil ?_
 refine zrb [0] hb (Up.refl _ _) ?_
 refine ⟨(M.rulesT X1RX), (X5AT), (X5SD), rfl, ?_, by first | trivial | omega | assumption | (have h9 := (by assumption : LenB _ 40).h; first | omega | (simp only [List.length_append, List.length_cons, List.length_nil]; omega)), by first | trivial | omega | assumption | (have h9 := (by assumption : LenB _ 40).h; first | omega | (simp only [List.length_append, List.length_cons, List.length_nil]; omega)), by first | trivial | omega | assumption | (have h9 := (by assumption : LenB _ 40).h; first | omega | (simp only [List.length_append, List.length_cons, List.length_nil]; omega))⟩
 · rfl
theorem c_spec_DrawSlamName (code : Nat) {v_code : Value} {w : World} (h_code : (Ty.bytes 5 code).ok w v_code) (r0 : code ≤ 1048576 := by exact om_) : Ret Tryd.prog 7 [v_code] w (Ty.ex (fun (KX : Int) => True) (fun KX => Ty.int KX)) := by
 revert v_code; apply opn
 intro A1 c1 h1 bl1 bh1
 have h_code := h1
 refine enter @Tryd.func7 @Tryd.ntmps7 rfl rfl ?_
 refine zent ?_
 refine zS <| Qa rfl <| zN <| Qm rfl <| zcs rfl (fun w hw => c_spec_l00From code (ok_ hw)) ?_
 intro b2
 refine Qa rfl <| zN <| Qm rfl <| zB 1 sp_ rfl (fun w hb hw => c_spec_l00Src_pick code 0 0 6 hb (ok_ hw)) ?_
 rintro _ _ G3 ⟨X3KX, X3AT, X3SD, rfl, rfl, hX3_0, hX3_1, hX3_2, hX3_3⟩
 refine znl ?_
 refine Qs rfl rfl <| Qa rfl <| JL.nil ?_
 exact zro (Up.refl _ _) (g := by exact (gv_ex (X3KX - 1) (by first | trivial | assumption | omega | (have h9 := (by assumption : LenB _ 40).h; omega)) gv_))
theorem c_spec_DrawSlamNamed (code : Nat) {v_code : Value} {w : World} (h_code : (Ty.bytes 5 code).ok w v_code) (r0 : code ≤ 1048576 := by exact om_) : Ret Tryd.prog 10 [v_code] w (Ty.ex (fun (TX : List UInt8) => (TX.length ≤ 100)) (fun TX => Ty.str TX)) := by
 revert v_code; apply opn
 intro A1 c1 h1 bl1 bh1
 have h_code := h1
 refine enter @Tryd.func10 @Tryd.ntmps10 rfl rfl ?_
 refine zent ?_
 refine zS <| Qa rfl <| zN <| Qm rfl <| zcs rfl (fun w hw => c_spec_l00From code (ok_ hw)) ?_
 intro b2
 refine Qa rfl <| zN <| Qm rfl <| Qm rfl <| zp rfl (fun w hw => c_spec_l03Slams) ?_
 intro u3 x3 A4 c4 h4 bl4 bh4
 refine zB 1 sp_ rfl (fun w hb hw => c_spec_l00Src_textLL code 0 0 M.slamNames hb (ok_ hw) (ok_ hw) (r3 := (by decide)) (r4 := (by decide)) (r5 := (by decide))) ?_
 rintro _ _ G5 ⟨X5TX, X5AT, X5SD, rfl, rfl, hX5_0, hX5_1, hX5_2, hX5_3⟩
 refine znl ?_
 refine zB 1 sp_ rfl (fun w hb hw => c_spec_l01Spoil code X5AT X5SD X5TX hb (ok_ hw)) ?_
 rintro _ _ G6 ⟨X6TX, X6AT, X6SD, rfl, rfl, hX6_0, hX6_1, hX6_2⟩
 refine znl ?_
 refine Qa rfl <| JL.nil ?_
 exact zro x3 (g := by exact (gv_ex X6TX (by first | trivial | assumption | omega | (have h9 := (by assumption : LenB _ 40).h; omega)) gv_))
theorem c_spec_DrawFieldOf (code : Nat) {v_code : Value} {w : World} (h_code : (Ty.bytes 5 code).ok w v_code) (r0 : code ≤ 1048576 := by exact om_) : Ret Tryd.prog 12 [v_code] w (Ty.tup [Ty.ex (fun (RX : M.Rul) => True) (fun RX => Ty.agg (cRules RX)), Ty.ex (fun (TX : List UInt8) => (TX.length ≤ 100)) (fun TX => Ty.str TX)]) := by
 revert v_code; apply opn
 intro A1 c1 h1 bl1 bh1
 have h_code := h1
 refine enter @Tryd.func12 @Tryd.ntmps12 rfl rfl ?_
 refine zent ?_
 refine zS <| za zeh fun b2 => Qa rfl <| zN <| Qm rfl <| zcs rfl (fun w hw => c_spec_l00From code (ok_ hw)) ?_
 intro b3
 refine Qa rfl <| zN <| Qm rfl <| zB 1 sp_ rfl (fun w hb hw => c_spec_l02Bent code 0 0 hb (ok_ hw)) ?_
 rintro _ _ G4 ⟨X4RX, X4AT, X4SD, rfl, rfl, hX4_0, hX4_1, hX4_2⟩
 refine znl ?_
 refine za zeh fun b5 => zw 0 rfl rfl rfl ?_
 refine zJ ?_
 refine zk [2] (fun F U l os u => ∃ (X9TX : List UInt8) (G9 G8 : List Nat) (X9AT X9SD : Int) (X8TX : List UInt8) (X8AT : Int), l = F [(3, .string (sB X9TX))] ∧ os = [anyO G9, anyO G8] ++ U [nO, some (boxO b3 [.slice A1 code c1, .int .i64 X9AT, .int .u64 X9SD] 87), nO, some (boxO b2 [.int .i64 X4RX.pits, .int .i64 X4RX.seeds, .bool X4RX.stores, .bool X4RX.skip, .bool X4RX.relay, .bool X4RX.feed, .bool X4RX.again, .int .i64 X4RX.capture, .int .i64 X4RX.slam] 30)] ∧ (X9TX.length ≤ X8TX.length + 8) ∧ (X8AT ≤ X9AT) ∧ (X9AT ≤ X8AT + 8) ∧ (LenB X8TX 40) ∧ (X8TX.length ≤ 40) ∧ (X4AT ≤ X8AT) ∧ (X8AT ≤ X4AT + 2)) ?_ ?_
 ·
  refine zdr [4, 5, 6] ?_
  refine jM 1 rfl rfl ?_
  refine jM 2 rfl rfl ?_
  refine y2 0 3 ?_ ?_
  ·
   refine JHo.q rfl (L9 0 rfl rfl) ?_
   refine y1 3 ?_
   refine yp rfl rfl (fun w hw => c_spec_FieldNames) ?_
   intro u18 x18 A19 c19 h19 bl19 bh19
   refine y1 4 ?_
   refine zhh [1] ?_
   refine yB 1 sp_ rfl rfl (fun w hb hw => c_spec_l00Src_textLL code X4AT X4SD M.fieldNames hb (ok_ hw) (ok_ hw) (r3 := (by decide)) (r4 := (by decide)) (r5 := (by decide))) ?_
   rintro _ _ G20 ⟨X20TX, X20AT, X20SD, rfl, rfl, hX20_0, hX20_1, hX20_2, hX20_3⟩
   refine znh ?_
   refine y1 5 ?_
   refine yB 1 sp_ rfl rfl (fun w hb hw => c_spec_l01Spoil code X20AT X20SD X20TX hb (ok_ hw)) ?_
   rintro _ _ G21 ⟨X21TX, X21AT, X21SD, rfl, rfl, hX21_0, hX21_1, hX21_2⟩
   refine znh ?_
   refine y1 6 ?_
   refine yst rfl rfl rfl ?_
   refine jA 7 rfl rfl ?_
   refine yd ?_
   refine zh [1, 1, 1, 0, 0, 0] ?_
   exact zm ⟨_, _, _, _, _, _, _, rfl, rfl, zt, zt, zt, zt, zt, zt, zt⟩ x18 ⟨rfl, rfl, trivial⟩
  refine yp rfl rfl (fun w hw => c_spec_FieldNames) ?_
  intro u22 x22 A23 c23 h23 bl23 bh23
  refine y2 0 4 ?_ ?_
  ·
   refine JHo.q rfl (L9 0 rfl rfl) ?_
   refine y1 4 ?_
   refine zhh [1] ?_
   refine yB 1 sp_ rfl rfl (fun w hb hw => c_spec_l00Src_textLL code X4AT X4SD M.fieldNames hb (ok_ hw) (ok_ hw) (r3 := (by decide)) (r4 := (by decide)) (r5 := (by decide))) ?_
   rintro _ _ G24 ⟨X24TX, X24AT, X24SD, rfl, rfl, hX24_0, hX24_1, hX24_2, hX24_3⟩
   refine znh ?_
   refine y1 5 ?_
   refine yB 1 sp_ rfl rfl (fun w hb hw => c_spec_l01Spoil code X24AT X24SD X24TX hb (ok_ hw)) ?_
   rintro _ _ G25 ⟨X25TX, X25AT, X25SD, rfl, rfl, hX25_0, hX25_1, hX25_2⟩
   refine znh ?_
   refine y1 6 ?_
   refine yst rfl rfl rfl ?_
   refine jA 7 rfl rfl ?_
   refine yd ?_
   refine zh [1, 1, 1, 0, 0, 0] ?_
   exact zm ⟨_, _, _, _, _, _, _, rfl, rfl, zt, zt, zt, zt, zt, zt, zt⟩ x22 ⟨rfl, rfl, trivial⟩
  refine zhh [1] ?_
  refine yB 1 sp_ rfl rfl (fun w hb hw => c_spec_l00Src_textLL code X4AT X4SD M.fieldNames hb (ok_ hw) (ok_ hw) (r3 := (by decide)) (r4 := (by decide)) (r5 := (by decide))) ?_
  rintro _ _ G26 ⟨X26TX, X26AT, X26SD, rfl, rfl, hX26_0, hX26_1, hX26_2, hX26_3⟩
  refine znh ?_
  refine y2 0 5 ?_ ?_
  ·
   refine JHo.q rfl (L9 2 rfl rfl) ?_
   refine y1 5 ?_
   refine yB 1 sp_ rfl rfl (fun w hb hw => c_spec_l01Spoil code X26AT X26SD X26TX hb (ok_ hw)) ?_
   rintro _ _ G27 ⟨X27TX, X27AT, X27SD, rfl, rfl, hX27_0, hX27_1, hX27_2⟩
   refine znh ?_
   refine y1 6 ?_
   refine yst rfl rfl rfl ?_
   refine jA 7 rfl rfl ?_
   refine yd ?_
   refine zh [1, 1, 1, 0, 0, 0] ?_
   exact zm ⟨_, _, _, _, _, _, _, rfl, rfl, zt, zt, zt, zt, zt, zt, zt⟩ x22 ⟨rfl, rfl, trivial⟩
  refine yB 1 sp_ rfl rfl (fun w hb hw => c_spec_l01Spoil code X26AT X26SD X26TX hb (ok_ hw)) ?_
  rintro _ _ G28 ⟨X28TX, X28AT, X28SD, rfl, rfl, hX28_0, hX28_1, hX28_2⟩
  refine znh ?_
  refine y1 0 ?_
  refine JHo.q rfl (L9 3 rfl rfl) ?_
  refine y1 6 ?_
  refine yst rfl rfl rfl ?_
  refine jA 7 rfl rfl ?_
  refine yd ?_
  refine zh [1, 1, 1, 0, 0, 0] ?_
  exact zm ⟨_, _, _, _, _, _, _, rfl, rfl, zt, zt, zt, zt, zt, zt, zt⟩ x22 ⟨rfl, rfl, trivial⟩
 rintro _ _ u17 ⟨X9TX, G9, G8, X9AT, X9SD, X8TX, X8AT, rfl, rfl, f17_0, f17_1, f17_2, f17_3, f17_4, f17_5, f17_6⟩ x17
 refine zn ?_
 exact zro x17 (g := by exact (gv_tup (gvc (gv_ex X4RX (by first | trivial | assumption | omega | (have h9 := (by assumption : LenB _ 40).h; omega)) gv_) (gvc (gv_ex X9TX (by first | trivial | assumption | omega | (have h9 := (by assumption : LenB _ 40).h; omega)) gv_) gvn))))
theorem c_spec_DrawProblemText (code : Nat) {v_code : Value} {w : World} (h_code : (Ty.bytes 5 code).ok w v_code) (r0 : code ≤ 1048576 := by exact om_) : Ret Tryd.prog 15 [v_code] w (Ty.ex (fun (PX : M.Prb) => (PX.word.length ≤ 1000 ∧ -9223372036854775808 ≤ PX.at1 ∧ PX.at1 ≤ 9223372036854775807)) (fun PX => Ty.agg (cProblem PX))) := by
 revert v_code; apply opn
 intro A1 c1 h1 bl1 bh1
 have h_code := h1
 refine enter @Tryd.func15 @Tryd.ntmps15 rfl rfl ?_
 refine zent ?_
 refine zS <| za zeh fun b2 => zN <| Qm rfl <| zcs rfl (fun w hw => c_spec_l00From code (ok_ hw)) ?_
 intro b3
 refine Qa rfl <| zN <| Qm rfl <| zB 1 sp_ rfl (fun w hb hw => c_spec_l03DrawText code 0 0 hb (ok_ hw)) ?_
 rintro _ _ G4 ⟨X4TX, X4AT, X4SD, rfl, rfl, hX4_0, hX4_1, hX4_2⟩
 refine znl ?_
 refine zp rfl (fun w hw => c_spec_l03Check X4TX) ?_
 intro u5 x5 A6 c6 h6 bl6 bh6
 refine Qm rfl <| Qx rfl rfl <| Qx rfl rfl <| za zeh fun b7 => zw 0 rfl rfl rfl ?_
 refine Qa rfl <| zJ <| Js.seq ?_
 rcases Bool.eq_false_or_eq_true (decide ((((M.chkO X4TX).length) : Int) = 0)) with h8 | h8
 ·
  have hml := M.chkO_len X4TX
  refine Js.region <| Qm rfl <| Qz rfl <| Qe rfl rfl <| Qm rfl ?_
  refine JL.g (v := undef) (Gd.f1 rfl rfl rfl) (fun hc => absurd hc (by first | (rw [h8]; simp; done) | simp [h8])) ?_
  refine JL.g (v := .bool false) (Gd.f1 rfl rfl rfl) (fun hc => absurd hc (by first | (rw [h8]; simp; done) | simp [h8])) ?_
  refine Qq (p_pickOr rfl rfl rfl) <| JL.nil ?_
  refine zi (fun h9 h9' => ?_) fun h9 h9' => ?_
  ·
   refine zS <| Qm rfl ?_
   refine zhl [1] ?_
   refine zB 1 sp_ rfl (fun w hb hw => c_spec_l00Src_pick code X4AT X4SD 9 hb (ok_ hw)) ?_
   rintro _ _ G10 ⟨X10KX, X10AT, X10SD, rfl, rfl, hX10_0, hX10_1, hX10_2, hX10_3⟩
   refine znl ?_
   refine Qs rfl rfl <| Qm rfl <| zB 1 sp_ rfl (fun w hb hw => c_spec_l00Src_pick code X10AT X10SD 30 hb (ok_ hw)) ?_
   rintro _ _ G11 ⟨X11KX, X11AT, X11SD, rfl, rfl, hX11_0, hX11_1, hX11_2, hX11_3⟩
   refine znl ?_
   refine Qb ?_
   refine zw 5 rfl rfl rfl ?_
   refine JL.nil ?_
   exact zro x5 (g := by exact (gv_ex (M.Prb.mk (X10KX - 1) X11KX ([120] : List UInt8)) (by first | trivial | assumption | omega | (refine ⟨(show (1 : Nat) ≤ 1000 by decide), ?_, ?_⟩ <;> dsimp only <;> omega) | (have h9 := M.chkO_el (by assumption); refine ⟨?_, ?_, ?_⟩ <;> omega)) gv_))
  refine Js.skip <| zS <| Qm rfl <| Qm rfl <| Qm rfl <| Qz rfl ?_
  refine zhl [1] ?_
  refine zB 1 sp_ rfl (fun w hb hw => c_spec_l00Src_pick code X4AT X4SD (((M.chkO X4TX).length) : Int) hb (ok_ hw)) ?_
  rintro _ _ G12 ⟨X12KX, X12AT, X12SD, rfl, rfl, hX12_0, hX12_1, hX12_2, hX12_3⟩
  refine znl ?_
  have hy13 : (M.chkO X4TX)[X12KX.toNat]? = some (M.prb (M.chkO X4TX) X12KX.toNat) := M.prb_get (by omega)
  obtain ⟨b13, o13, he13, hr13⟩ := elem_Problem h6 hy13
  refine Qq (p_indexAddr el_41 rfl rfl (by omega) (by omega) he13) <| QS 0 hr13 rfl ?_
  refine zw 4 rfl rfl rfl ?_
  refine JL.nil ?_
  exact zro x5 (g := by exact (gv_ex (M.prb (M.chkO X4TX) X12KX.toNat) (by first | trivial | assumption | omega | (refine ⟨(show (1 : Nat) ≤ 1000 by decide), ?_, ?_⟩ <;> dsimp only <;> omega) | (have h9 := M.chkO_el (by assumption); refine ⟨?_, ?_, ?_⟩ <;> omega)) gv_))
 have hml := M.chkO_len X4TX
 refine Js.region <| Qm rfl <| Qz rfl <| Qe rfl rfl <| Qm rfl <| zT (Gd.f1 rfl rfl rfl) (show (!(decide ((((M.chkO X4TX).length) : Int) = 0))) = true by first | exact h8 | (rw [h8]; rfl) | simp [h8]) <| Qm rfl <| zT (Gd.f1 rfl rfl rfl) (show (!(decide ((((M.chkO X4TX).length) : Int) = 0))) = true by first | exact h8 | (rw [h8]; rfl) | simp [h8]) ?_
 refine zhl [1] ?_
 refine zB 1 sp_ rfl (fun w hb hw => c_spec_l00Src_one code X4AT X4SD 6 hb (ok_ hw)) ?_
 rintro _ _ G14 ⟨X14BX, X14AT, X14SD, rfl, rfl, hX14_0, hX14_1⟩
 refine znl ?_
 refine Qq (p_pickOr2 rfl rfl rfl) <| JL.nil ?_
 refine zi (fun h15 h15' => ?_) fun h15 h15' => ?_
 ·
  refine zS <| Qm rfl <| zB 1 sp_ rfl (fun w hb hw => c_spec_l00Src_pick code X14AT X14SD 9 hb (ok_ hw)) ?_
  rintro _ _ G16 ⟨X16KX, X16AT, X16SD, rfl, rfl, hX16_0, hX16_1, hX16_2, hX16_3⟩
  refine znl ?_
  refine Qs rfl rfl <| Qm rfl <| zB 1 sp_ rfl (fun w hb hw => c_spec_l00Src_pick code X16AT X16SD 30 hb (ok_ hw)) ?_
  rintro _ _ G17 ⟨X17KX, X17AT, X17SD, rfl, rfl, hX17_0, hX17_1, hX17_2, hX17_3⟩
  refine znl ?_
  refine Qb ?_
  refine zw 6 rfl rfl rfl ?_
  refine JL.nil ?_
  exact zro x5 (g := by exact (gv_ex (M.Prb.mk (X16KX - 1) X17KX ([120] : List UInt8)) (by first | trivial | assumption | omega | (refine ⟨(show (1 : Nat) ≤ 1000 by decide), ?_, ?_⟩ <;> dsimp only <;> omega) | (have h9 := M.chkO_el (by assumption); refine ⟨?_, ?_, ?_⟩ <;> omega)) gv_))
 refine Js.skip <| zS <| Qm rfl <| Qm rfl <| Qm rfl <| Qz rfl <| zB 1 sp_ rfl (fun w hb hw => c_spec_l00Src_pick code X14AT X14SD (((M.chkO X4TX).length) : Int) hb (ok_ hw)) ?_
 rintro _ _ G18 ⟨X18KX, X18AT, X18SD, rfl, rfl, hX18_0, hX18_1, hX18_2, hX18_3⟩
 refine znl ?_
 have hy19 : (M.chkO X4TX)[X18KX.toNat]? = some (M.prb (M.chkO X4TX) X18KX.toNat) := M.prb_get (by omega)
 obtain ⟨b19, o19, he19, hr19⟩ := elem_Problem h6 hy19
 refine Qq (p_indexAddr el_41 rfl rfl (by omega) (by omega) he19) <| QS 0 hr19 rfl ?_
 refine zw 5 rfl rfl rfl ?_
 refine JL.nil ?_
 exact zro x5 (g := by exact (gv_ex (M.prb (M.chkO X4TX) X18KX.toNat) (by first | trivial | assumption | omega | (refine ⟨(show (1 : Nat) ≤ 1000 by decide), ?_, ?_⟩ <;> dsimp only <;> omega) | (have h9 := M.chkO_el (by assumption); refine ⟨?_, ?_, ?_⟩ <;> omega)) gv_))
theorem c_spec_SlamNamed (y : List UInt8) {w : World}  : RetV Tryd.prog 11 [.string (sB y)] w (.tuple #[.int .i64 ((M.namedBy M.slamNames y).1), .int .i64 ((M.namedBy M.slamNames y).2)]) := by
 have hl3 : M.slamNames.length = 3 := rfl
 refine enter @Tryd.func11 @Tryd.ntmps11 rfl rfl ?_
 refine zent ?_
 refine zS <| Qa rfl <| Qa rfl <| zN <| zp rfl (fun w hw => c_spec_l03Slams) ?_
 intro u1 x1 A2 c2 h2 bl2 bh2
 refine Qm rfl <| zv rfl (fun w hw => c_spec_l03Index M.slamNames y (ok_ hw)) <| Qa rfl <| zJ <| zS <| Qm rfl <| Ql rfl rfl <| JL.nil ?_
 refine zi (fun h3 h3' => ?_) fun h3 h3' => ?_
 ·
  have hE := M.named_n h3'
  refine zS <| Qa rfl <| Qa rfl <| JL.nil ?_
  refine zR x1 ?_
  rw [hE]; rfl
 have hE := M.named_y (l := M.slamNames) (y := y) (by have := h3'; omega)
 refine Js.skip <| zS <| Qm rfl <| Qa rfl <| Qa rfl <| JL.nil ?_
 refine zR x1 ?_
 rw [hE]; rfl
theorem c_spec_SlamName (kind : Int) {w : World}  : RetV Tryd.prog 16 [.int .i64 kind] w (.string (sB (M.slamName kind))) := by
 have hl3 : M.slamNames.length = 3 := rfl
 refine enter @Tryd.func16 @Tryd.ntmps16 rfl rfl ?_
 refine zent ?_
 refine zS <| Qa rfl <| zJ <| zS <| Qm rfl <| zv rfl (fun w hw => c_spec_l00In kind 0 2) <| Qt rfl <| JL.nil ?_
 refine zi (fun h1 h1' => ?_) fun h1 h1' => ?_
 ·
  have hE := M.slam_out (k := kind) (by simpa using h1)
  refine zS <| Qa rfl <| JL.nil ?_
  refine zR (Up.refl _ _) ?_
  rw [hE]; rfl
 have hb : M.betw kind 0 2 = true := by simpa using h1
 obtain ⟨hb0, hb1⟩ := M.betw_iff.1 hb
 obtain ⟨ye2, hye2⟩ : ∃ x, M.slamNames[kind.toNat]? = some x := ⟨_, List.getElem?_eq_getElem (by omega)⟩
 have hE := M.slamName_get hb0 hye2
 refine Js.skip <| zS <| zp rfl (fun w hw => c_spec_l03Slams) ?_
 intro u3 x3 A4 c4 h4 bl4 bh4
 have hy5 := hye2
 obtain ⟨b5, o5, he5, hc5⟩ := strs_elem h4 hy5
 refine Qm rfl <| Qq (p_indexAddr el_38 rfl rfl (by omega) (by omega) he5) <| QC hc5 rfl <| Qa rfl <| JL.nil ?_
 refine zR x3 ?_
 rw [hE]; rfl
theorem c_spec_FieldOf (r : M.Rul) {v_r : Value} (y : List UInt8) {w : World} (h_r : (Ty.agg (cRules r)).ok w v_r) : RetV Tryd.prog 14 [v_r, .string (sB y)] w (.tuple #[.int .i64 ((M.fieldO r y).1), .int .i64 ((M.fieldO r y).2)]) := by
 have hl9 : M.fieldNames.length = 9 := rfl
 have hf9 : (M.fieldsL r).length = 9 := rfl
 have hkb := M.idx_bd M.fieldNames y
 revert v_r; apply opn
 refine enter @Tryd.func14 @Tryd.ntmps14 rfl rfl ?_
 refine zent ?_
 refine zS <| zb rfl fun b1 => Qa rfl <| Qa rfl <| zJ <| zS <| zv rfl (fun w hw => c_spec_l02Ok r (ok_ hw)) <| Qt rfl <| JL.nil ?_
 refine zi (fun h2 h2' => ?_) fun h2 h2' => ?_
 ·
  have hE := M.fieldO_1 (y := y) (show M.okR r = false by simpa using h2)
  refine zS <| Qa rfl <| Qa rfl <| JL.nil ?_
  refine zR (Up.refl _ _) ?_
  rw [hE]; rfl
 have hok : M.okR r = true := by simpa using h2
 refine Js.skip <| zS <| zp rfl (fun w hw => c_spec_FieldNames) ?_
 intro u3 x3 A4 c4 h4 bl4 bh4
 refine Qm rfl <| zv rfl (fun w hw => c_spec_l03Index M.fieldNames y (ok_ hw)) <| Qa rfl <| zJ <| zS <| Qm rfl <| Ql rfl rfl <| JL.nil ?_
 refine zi (fun h5 h5' => ?_) fun h5 h5' => ?_
 ·
  have hE := M.fieldO_3 hok h5'
  refine zS <| Qa rfl <| Qa rfl <| JL.nil ?_
  refine zR x3 ?_
  rw [hE]; rfl
 have hE := M.fieldO_0 (y := y) hok (by have := h5'; omega)
 refine Js.skip <| zS <| zp rfl (fun w hw => c_spec_l03Values r (ok_ hw)) ?_
 intro u6 x6 A7 c7 h7 bl7 bh7
 obtain ⟨b8, o8, he8, hc8⟩ := ints_elem h7 (i := (M.idx M.fieldNames y).toNat) (by omega)
 refine Qm rfl <| Qq (p_indexAddr el_65 rfl rfl (by omega) (by omega) he8) <| QC hc8 rfl <| Qa rfl <| Qa rfl <| JL.nil ?_
 refine zR (x3.trans x6) ?_
 rw [hE]; rfl
theorem c_spec_ProblemText (p : M.Prb) {v_p : Value} {w : World} (h_p : (Ty.agg (cProblem p)).ok w v_p) (r0 : p.word.length ≤ 1000000 := by exact om_) (r1 : -9223372036854775808 ≤ p.at1 := by exact om_) (r2 : p.at1 ≤ 9223372036854775807 := by exact om_) : RetV Tryd.prog 21 [v_p] w (.string (sB (M.prbT p))) := by
 have lb0 : LenB p.word 1000000 := ⟨by omega⟩
 have hl6 : M.prbNames.length = 6 := rfl
 revert v_p; apply opn
 refine enter @Tryd.func21 @Tryd.ntmps21 rfl rfl ?_
 refine zent ?_
 refine zS <| zb rfl fun b1 => Qa rfl <| zN <| zbs fun b2 => ?_
 refine Qa rfl <| zJ <| zS <| Qf fh rfl <| Q0 1 rfl rfl rfl <| Qm rfl <| Qz rfl <| zv rfl (fun w hw => c_spec_l00In p.kind 1 (6 : Int)) <| Qt rfl <| JL.nil ?_
 refine zi (fun h4 h4' => ?_) fun h4 h4' => ?_
 ·
  have hE := M.prbT_n (p := p) (by simpa using h4)
  refine zS <| Qa rfl <| JL.nil ?_
  refine zR (Up.refl _ _) ?_
  rw [hE]; rfl
 have hb : M.betw p.kind 1 6 = true := by simpa using h4
 obtain ⟨hb0, hb1⟩ := M.betw_iff.1 hb
 obtain ⟨ye5, hye5⟩ : ∃ x, M.prbNames[(p.kind - 1).toNat]? = some x := ⟨_, List.getElem?_eq_getElem (by omega)⟩
 have lb7 : LenB ye5 12 := ⟨M.prbName_len hye5⟩
 have hE := M.prbT_y hb hye5
 refine Js.skip <| Js.seq ?_
 refine zdr [] ?_
 refine jF 0 fld_35_1 rfl rfl ?_
 refine jB 1 1 ty_2 rfl rfl rfl rfl ?_
 refine jF 4 fld_35_2 rfl rfl ?_
 refine jB 5 1 ty_9 rfl rfl rfl rfl ?_
 refine jM 8 rfl rfl ?_
 refine jF 9 fld_35_0 rfl rfl ?_
 refine jB 10 1 ty_2 rfl rfl rfl rfl ?_
 refine JH.p 11 rfl (p_sub rfl rfl (IntWalk.i64_in _ (by omega))) ?_
 refine jI 12 el_38 rfl rfl rfl rfl ?_
 have hye5 : ([([117, 110, 107, 110, 111, 119, 110, 32, 119, 111, 114, 100] : List UInt8), ([103, 105, 118, 101, 110, 32, 116, 119, 105, 99, 101] : List UInt8), ([110, 111, 116, 32, 97, 32, 110, 117, 109, 98, 101, 114] : List UInt8), ([110, 111, 116, 32, 97, 108, 108, 111, 119, 101, 100] : List UInt8), ([109, 105, 115, 115, 105, 110, 103] : List UInt8), ([110, 101, 101, 100, 115, 32, 115, 116, 111, 114, 101, 115] : List UInt8)] : List (List UInt8))[(p.kind - 1).toNat]? = some ye5 := hye5
 refine JH.q 13 rfl (q_load1 ty_9.h rfl (Mem.row (i := 0) rfl (txs_get' (xs := ([([117, 110, 107, 110, 111, 119, 110, 32, 119, 111, 114, 100] : List UInt8), ([103, 105, 118, 101, 110, 32, 116, 119, 105, 99, 101] : List UInt8), ([110, 111, 116, 32, 97, 32, 110, 117, 109, 98, 101, 114] : List UInt8), ([110, 111, 116, 32, 97, 108, 108, 111, 119, 101, 100] : List UInt8), ([109, 105, 115, 115, 105, 110, 103] : List UInt8), ([110, 101, 101, 100, 115, 32, 115, 116, 111, 114, 101, 115] : List UInt8)])) hye5))) ?_
 refine y1 2 ?_
 refine yv rfl rfl (fun w hw => c_spec_l01Dec p.at1) ?_
 refine JH.p 3 rfl (q_cat rfl rfl) ?_
 refine JH.p 6 rfl (q_cat rfl rfl) ?_
 refine JH.p 7 rfl (q_cat rfl rfl) ?_
 refine JH.p 14 rfl (q_cat rfl rfl) ?_
 refine jA 15 rfl rfl ?_
 refine yd ?_
 refine zR (Up.refl _ _) ?_
 rw [hE]; rfl
theorem c_impl_Decimal (n : Int) {w : World} (h_tab : tabT.ok w undef) (r0 : -9223372036854775808 ≤ n := by exact om_) (r1 : n ≤ 9223372036854775807 := by exact om_) : RetV Tryd.prog 52 [.int .i64 n] w (.string (sB (M.dec n))) := by
 refine enter @Tryd.func52 @Tryd.ntmps52 rfl rfl ?_
 refine zent ?_
 refine zS <| Qa rfl <| zN <| Qm rfl <| zv rfl (fun w hw => c_strconv_FormatInt n 10 (ok_ hw)) <| Qa rfl <| JL.nil ?_
 exact zr (Up.refl _ _)
theorem c_impl_SlamName (kind : Int) {w : World}  : RetV Tryd.prog 8 [.int .i64 kind] w (.string (sB (M.slamName kind))) := by
 refine enter @Tryd.func8 @Tryd.ntmps8 rfl rfl ?_
 refine zent ?_
 refine zS <| Qa rfl <| zJ <| zS <| Qm rfl <| JL.nil <| Js.block <| zS <| Qe rfl rfl <| Qa rfl <| JL.nil ?_
 refine zi (fun h1 h1' => ?_) fun h1 h1' => ?_
 ·
  refine zS <| Qa rfl <| JL.nil ?_
  refine zR (Up.refl _ _) ?_
  first | (simp only [outV, M.slamName, *, if_true, if_false]; done) | (simp [outV, M.slamName, *])
 refine zS <| Qe rfl rfl <| Qa rfl <| JL.nil ?_
 refine zi (fun h2 h2' => ?_) fun h2 h2' => ?_
 ·
  refine zS <| Qa rfl <| JL.nil ?_
  refine zR (Up.refl _ _) ?_
  first | (simp only [outV, M.slamName, *, if_true, if_false]; done) | (simp [outV, M.slamName, *])
 refine zS <| Qe rfl rfl <| Qa rfl <| JL.nil ?_
 refine zi (fun h3 h3' => ?_) fun h3 h3' => ?_
 ·
  refine zS <| Qa rfl <| JL.nil ?_
  refine zR (Up.refl _ _) ?_
  first | (simp only [outV, M.slamName, *, if_true, if_false]; done) | (simp [outV, M.slamName, *])
 refine Js.skip <| Js.blockEnd <| zS <| Qa rfl <| JL.nil ?_
 refine zR (Up.refl _ _) ?_
 first | (simp only [outV, M.slamName, *, if_true, if_false]; done) | (simp [outV, M.slamName, *])
theorem c_impl_Rules_flag (r : M.Rul) {v_r : Value} (y : List UInt8) {w : World} (h_r : (Ty.ref (cRules r)).ok w v_r) (r0 : y ∈ M.fNames := by exact om_) : RetV Tryd.prog 61 [v_r, .string (sB y)] w (addO v_r (M.flagIx y)) := by
 revert v_r; apply opn
 intro b1 o1 hr1
 refine enter @Tryd.func61 @Tryd.ntmps61 rfl rfl ?_
 refine zent ?_
 refine zS <| Qa rfl <| zJ <| zS <| Qm rfl <| JL.nil <| Js.block <| zS <| Qq (p_eqlT und_9 rfl rfl) <| Qa rfl <| JL.nil ?_
 refine zi (fun h2 h2' => ?_) fun h2 h2' => ?_
 ·
  have e52 := h2'
  refine zS <| Qm rfl <| Qc rfl <| Qf fh rfl <| Qa rfl <| JL.nil ?_
  refine zR (Up.refl _ _) ?_
  first | (rw [e52]; rfl) | (rw [e54]; rfl) | (rw [e56]; rfl) | (rw [e58]; rfl) | (rw [e60]; rfl) | (exfalso; simp only [M.fNames, List.mem_cons, List.not_mem_nil, or_false] at r0; rcases r0 with h | h | h | h | h <;> contradiction)
 have e52 := h2'
 refine zS <| Qq (p_eqlT und_9 rfl rfl) <| Qa rfl <| JL.nil ?_
 refine zi (fun h3 h3' => ?_) fun h3 h3' => ?_
 ·
  have e54 := h3'
  refine zS <| Qm rfl <| Qc rfl <| Qf fh rfl <| Qa rfl <| JL.nil ?_
  refine zR (Up.refl _ _) ?_
  first | (rw [e52]; rfl) | (rw [e54]; rfl) | (rw [e56]; rfl) | (rw [e58]; rfl) | (rw [e60]; rfl) | (exfalso; simp only [M.fNames, List.mem_cons, List.not_mem_nil, or_false] at r0; rcases r0 with h | h | h | h | h <;> contradiction)
 have e54 := h3'
 refine zS <| Qq (p_eqlT und_9 rfl rfl) <| Qa rfl <| JL.nil ?_
 refine zi (fun h4 h4' => ?_) fun h4 h4' => ?_
 ·
  have e56 := h4'
  refine zS <| Qm rfl <| Qc rfl <| Qf fh rfl <| Qa rfl <| JL.nil ?_
  refine zR (Up.refl _ _) ?_
  first | (rw [e52]; rfl) | (rw [e54]; rfl) | (rw [e56]; rfl) | (rw [e58]; rfl) | (rw [e60]; rfl) | (exfalso; simp only [M.fNames, List.mem_cons, List.not_mem_nil, or_false] at r0; rcases r0 with h | h | h | h | h <;> contradiction)
 have e56 := h4'
 refine zS <| Qq (p_eqlT und_9 rfl rfl) <| Qa rfl <| JL.nil ?_
 refine zi (fun h5 h5' => ?_) fun h5 h5' => ?_
 ·
  have e58 := h5'
  refine zS <| Qm rfl <| Qc rfl <| Qf fh rfl <| Qa rfl <| JL.nil ?_
  refine zR (Up.refl _ _) ?_
  first | (rw [e52]; rfl) | (rw [e54]; rfl) | (rw [e56]; rfl) | (rw [e58]; rfl) | (rw [e60]; rfl) | (exfalso; simp only [M.fNames, List.mem_cons, List.not_mem_nil, or_false] at r0; rcases r0 with h | h | h | h | h <;> contradiction)
 have e58 := h5'
 refine zS <| Qq (p_eqlT und_9 rfl rfl) <| Qa rfl <| JL.nil ?_
 refine zi (fun h6 h6' => ?_) fun h6 h6' => ?_
 ·
  have e60 := h6'
  refine zS <| Qm rfl <| Qc rfl <| Qf fh rfl <| Qa rfl <| JL.nil ?_
  refine zR (Up.refl _ _) ?_
  first | (rw [e52]; rfl) | (rw [e54]; rfl) | (rw [e56]; rfl) | (rw [e58]; rfl) | (rw [e60]; rfl) | (exfalso; simp only [M.fNames, List.mem_cons, List.not_mem_nil, or_false] at r0; rcases r0 with h | h | h | h | h <;> contradiction)
 have e60 := h6'
 refine Js.skip <| Js.blockEnd <| zS <| Qa rfl <| JL.nil ?_
 refine zR (Up.refl _ _) ?_
 first | (rw [e52]; rfl) | (rw [e54]; rfl) | (rw [e56]; rfl) | (rw [e58]; rfl) | (rw [e60]; rfl) | (exfalso; simp only [M.fNames, List.mem_cons, List.not_mem_nil, or_false] at r0; rcases r0 with h | h | h | h | h <;> contradiction)
theorem c_impl_SlamNamed (y : List UInt8) {w : World}  : RetV Tryd.prog 9 [.string (sB y)] w (.tuple #[.int .i64 ((M.namedBy M.slamNames y).1), .int .i64 ((M.namedBy M.slamNames y).2)]) := by
 refine enter @Tryd.func9 @Tryd.ntmps9 rfl rfl ?_
 refine zent ?_
 refine zS <| Qa rfl <| Qa rfl <| zJ <| zS <| Qa rfl <| JL.nil <| Js.block ?_
 refine zl [0] (fun F U l os u m => ∃ (k : Nat), l = F [(4, .int .i64 (k : Int))] ∧ os = U [] ∧ (k ≤ 3) ∧ (M.Nix M.slamNames y k) ∧ m = 3 - k) ⟨0, rfl, rfl, zt, by exact M.Nix.zero _ _, rfl⟩ ?_
 rintro _ _ u1 _ ⟨k, rfl, rfl, hk, hN, rfl⟩ x1
 refine zn ?_
 refine Js.seq <| zS <| Qm rfl <| Qk rfl rfl <| JL.nil ?_
 refine zi (fun h2 h2' => ?_) fun h2 h2' => ?_
 ·
  have hY := M.slam_at (k := k) (by have := h2'; omega)
  refine Js.skip <| Js.seq <| Js.block <| zS <| Qm rfl <| zv rfl (fun w hw => c_impl_SlamName (k : Int)) <| Qm rfl <| Qq (p_eqlT und_9 rfl rfl) <| JL.nil ?_
  refine zi (fun h3 h3' => ?_) fun h3 h3' => ?_
  ·
   have hE := M.named_hit hN hY (by simpa using h3)
   refine zS <| Qm rfl <| Qa rfl <| Qa rfl <| JL.nil ?_
   refine zR x1 ?_
   rw [hE]; rfl
  have hN2 := hN.step hY (by simpa using h3)
  refine Js.skip <| Js.blockEnd <| Js.region <| Qm rfl <| Qp rfl rfl <| Qa rfl <| JL.nil ?_
  exact zag ⟨k + 1, rfl, rfl, zt, by exact hN2, rfl⟩ x1
 have hE := M.named_miss hN (show 3 ≤ k by have := h2'; omega)
 refine zx ?_
 refine zS <| Qa rfl <| Qa rfl <| JL.nil ?_
 refine zR x1 ?_
 rw [hE]; rfl
theorem c_impl_FieldNames  {w : World}  : Ret Tryd.prog 18 [] w (Ty.strs 9 M.fieldNames) := by
 refine enter @Tryd.func18 @Tryd.ntmps18 rfl rfl ?_
 refine zent ?_
 refine zS <| Qa rfl <| zN <| zbs fun b1 => ?_
 refine Qa rfl <| JL.nil ?_
 exact zro (Up.refl _ _) (g := by exact (gv_strs po_ (by rfl) (by rfl)))
theorem c_impl_Rules_number (r : M.Rul) {v_r : Value} (y : List UInt8) {w : World} (h_r : (Ty.ref (cRules r)).ok w v_r) (r0 : M.isNum y = true := by exact om_) : RetV Tryd.prog 67 [v_r, .string (sB y)] w (addO v_r (M.numIx y)) := by
 revert v_r; apply opn
 intro b1 o1 hr1
 refine enter @Tryd.func67 @Tryd.ntmps67 rfl rfl ?_
 refine zent ?_
 refine zS <| Qa rfl <| zJ <| zS <| Qm rfl <| JL.nil <| Js.block <| zS <| Qq (p_eqlT und_9 rfl rfl) <| Qa rfl <| JL.nil ?_
 refine zi (fun h2 h2' => ?_) fun h2 h2' => ?_
 ·
  have e69 := h2'
  refine zS <| Qm rfl <| Qc rfl <| Qf fh rfl <| Qa rfl <| JL.nil ?_
  refine zR (Up.refl _ _) ?_
  first | (rw [e69]; rfl) | (rw [e71]; rfl) | (rw [e73]; rfl) | (rw [e75]; rfl) | (exfalso; rcases M.isNum_iff r0 with h | h | h | h <;> contradiction)
 have e69 := h2'
 refine zS <| Qq (p_eqlT und_9 rfl rfl) <| Qa rfl <| JL.nil ?_
 refine zi (fun h3 h3' => ?_) fun h3 h3' => ?_
 ·
  have e71 := h3'
  refine zS <| Qm rfl <| Qc rfl <| Qf fh rfl <| Qa rfl <| JL.nil ?_
  refine zR (Up.refl _ _) ?_
  first | (rw [e69]; rfl) | (rw [e71]; rfl) | (rw [e73]; rfl) | (rw [e75]; rfl) | (exfalso; rcases M.isNum_iff r0 with h | h | h | h <;> contradiction)
 have e71 := h3'
 refine zS <| Qq (p_eqlT und_9 rfl rfl) <| Qa rfl <| JL.nil ?_
 refine zi (fun h4 h4' => ?_) fun h4 h4' => ?_
 ·
  have e73 := h4'
  refine zS <| Qm rfl <| Qc rfl <| Qf fh rfl <| Qa rfl <| JL.nil ?_
  refine zR (Up.refl _ _) ?_
  first | (rw [e69]; rfl) | (rw [e71]; rfl) | (rw [e73]; rfl) | (rw [e75]; rfl) | (exfalso; rcases M.isNum_iff r0 with h | h | h | h <;> contradiction)
 have e73 := h4'
 refine zS <| Qq (p_eqlT und_9 rfl rfl) <| Qa rfl <| JL.nil ?_
 refine zi (fun h5 h5' => ?_) fun h5 h5' => ?_
 ·
  have e75 := h5'
  refine zS <| Qm rfl <| Qc rfl <| Qf fh rfl <| Qa rfl <| JL.nil ?_
  refine zR (Up.refl _ _) ?_
  first | (rw [e69]; rfl) | (rw [e71]; rfl) | (rw [e73]; rfl) | (rw [e75]; rfl) | (exfalso; rcases M.isNum_iff r0 with h | h | h | h <;> contradiction)
 have e75 := h5'
 refine Js.skip <| Js.blockEnd <| zS <| Qa rfl <| JL.nil ?_
 refine zR (Up.refl _ _) ?_
 first | (rw [e69]; rfl) | (rw [e71]; rfl) | (rw [e73]; rfl) | (rw [e75]; rfl) | (exfalso; rcases M.isNum_iff r0 with h | h | h | h <;> contradiction)
theorem c_impl_Rules_numberL (r : M.Rul) {v_r : Value} (y : List UInt8) {w : World} (h_r : (Ty.ref (cRules r)).ok w v_r) (r0 : M.isNum y = false := by exact om_) : RetV Tryd.prog 67 [v_r, .string (sB y)] w (.pointer none) := by
 obtain ⟨q1, q2, q3, q4⟩ := M.isNum_no r0
 revert v_r; apply opn
 intro b1 o1 hr1
 refine enter @Tryd.func67 @Tryd.ntmps67 rfl rfl ?_
 refine zent ?_
 refine zS <| Qa rfl <| zJ <| zS <| Qm rfl <| JL.nil <| Js.block <| zS <| Qq (p_eqlT und_9 rfl rfl) <| Qa rfl <| JL.nil ?_
 refine zi (fun h2 h2' => ?_) fun h2 h2' => ?_
 · exact absurd h2' (by assumption)
 refine zS <| Qq (p_eqlT und_9 rfl rfl) <| Qa rfl <| JL.nil ?_
 refine zi (fun h3 h3' => ?_) fun h3 h3' => ?_
 · exact absurd h3' (by assumption)
 refine zS <| Qq (p_eqlT und_9 rfl rfl) <| Qa rfl <| JL.nil ?_
 refine zi (fun h4 h4' => ?_) fun h4 h4' => ?_
 · exact absurd h4' (by assumption)
 refine zS <| Qq (p_eqlT und_9 rfl rfl) <| Qa rfl <| JL.nil ?_
 refine zi (fun h5 h5' => ?_) fun h5 h5' => ?_
 · exact absurd h5' (by assumption)
 refine Js.skip <| Js.blockEnd <| zS <| Qa rfl <| JL.nil ?_
 refine zR (Up.refl _ _) ?_
 rfl
theorem c_impl_Rules_flagL (r : M.Rul) {v_r : Value} (y : List UInt8) {w : World} (h_r : (Ty.ref (cRules r)).ok w v_r) (r0 : M.isFlg y = false := by exact om_) : RetV Tryd.prog 61 [v_r, .string (sB y)] w (.pointer none) := by
 obtain ⟨q1, q2, q3, q4, q5⟩ := M.isFlg_no r0
 revert v_r; apply opn
 intro b1 o1 hr1
 refine enter @Tryd.func61 @Tryd.ntmps61 rfl rfl ?_
 refine zent ?_
 refine zS <| Qa rfl <| zJ <| zS <| Qm rfl <| JL.nil <| Js.block <| zS <| Qq (p_eqlT und_9 rfl rfl) <| Qa rfl <| JL.nil ?_
 refine zi (fun h2 h2' => ?_) fun h2 h2' => ?_
 · exact absurd h2' (by assumption)
 refine zS <| Qq (p_eqlT und_9 rfl rfl) <| Qa rfl <| JL.nil ?_
 refine zi (fun h3 h3' => ?_) fun h3 h3' => ?_
 · exact absurd h3' (by assumption)
 refine zS <| Qq (p_eqlT und_9 rfl rfl) <| Qa rfl <| JL.nil ?_
 refine zi (fun h4 h4' => ?_) fun h4 h4' => ?_
 · exact absurd h4' (by assumption)
 refine zS <| Qq (p_eqlT und_9 rfl rfl) <| Qa rfl <| JL.nil ?_
 refine zi (fun h5 h5' => ?_) fun h5 h5' => ?_
 · exact absurd h5' (by assumption)
 refine zS <| Qq (p_eqlT und_9 rfl rfl) <| Qa rfl <| JL.nil ?_
 refine zi (fun h6 h6' => ?_) fun h6 h6' => ?_
 · exact absurd h6' (by assumption)
 refine Js.skip <| Js.blockEnd <| zS <| Qa rfl <| JL.nil ?_
 refine zR (Up.refl _ _) ?_
 rfl
theorem c_impl_Rules_field (r : M.Rul) {v_r : Value} (y : List UInt8) {w : World} (h_r : (Ty.agg (cRules r)).ok w v_r) : RetV Tryd.prog 44 [v_r, .string (sB y)] w (.tuple #[.int .i64 ((M.fieldV r y).1), .bool ((M.fieldV r y).2)]) := by
 revert v_r; apply opn
 refine enter @Tryd.func44 @Tryd.ntmps44 rfl rfl ?_
 refine zent ?_
 refine zS <| zb rfl fun b1 => Qa rfl <| Qa rfl <| zJ <| Js.seq ?_
 rcases Bool.eq_false_or_eq_true (M.isNum y) with h2 | h2
 ·
  refine Js.region <| Qm rfl <| zv rfl (fun w hw => c_impl_Rules_number r y (ok_ hw) (r0 := h2)) <| Qa rfl <| zN <| Qm rfl <| Qq (p_neqP1 @Tryd.underlying90 rfl rfl) <| JL.nil ?_
  refine Js.condT rfl rfl ?_
  have hE := M.fieldV_n (r := r) h2
  refine zS <| Qm rfl <| Qc rfl <| Qw (q_load1 ty_2.h rfl (Mem.box (i := 0) rfl (num_get h2))) <| Qa rfl <| Qa rfl <| JL.nil ?_
  refine zR (Up.refl _ _) ?_
  rw [hE]; rfl
 refine Js.region <| Qm rfl <| zv rfl (fun w hw => c_impl_Rules_numberL r y (ok_ hw) (r0 := h2)) <| Qa rfl <| zN <| Qm rfl <| Qq (p_neqP0 @Tryd.underlying90 rfl rfl) <| JL.nil ?_
 refine Js.condF rfl rfl ?_
 refine Js.skip <| Js.seq ?_
 rcases Bool.eq_false_or_eq_true (M.isFlg y) with h3 | h3
 ·
  refine Js.region <| Qm rfl <| zv rfl (fun w hw => c_impl_Rules_flag r y (ok_ hw) (r0 := (M.isFlg_iff h3))) <| Qa rfl <| zJ <| zS <| Qm rfl <| Qq (p_eqlP1 @Tryd.underlying81 rfl rfl) <| JL.nil ?_
  refine Js.condF rfl rfl ?_
  refine Js.skip <| Js.seq <| zS <| Qm rfl <| Qc rfl <| Qw (q_load1 ty_4.h rfl (Mem.box (i := 0) rfl (flag_get (M.isFlg_iff h3)))) <| JL.nil ?_
  refine zi (fun h4 h4' => ?_) fun h4 h4' => ?_
  ·
   have hE := M.fieldV_t h2 h3 (by simpa using h4)
   refine zS <| Qa rfl <| Qa rfl <| JL.nil ?_
   refine zR (Up.refl _ _) ?_
   rw [hE]; rfl
  have hE := M.fieldV_f h2 h3 (by simpa using h4)
  refine Js.skip <| zS <| Qa rfl <| Qa rfl <| JL.nil ?_
  refine zR (Up.refl _ _) ?_
  rw [hE]; rfl
 refine Js.region <| Qm rfl <| zv rfl (fun w hw => c_impl_Rules_flagL r y (ok_ hw) (r0 := h3)) <| Qa rfl <| zJ <| zS <| Qm rfl <| Qq (p_eqlP0 @Tryd.underlying81 rfl rfl) <| JL.nil ?_
 refine Js.condT rfl rfl ?_
 have hE := M.fieldV_no (r := r) h2 h3
 refine zS <| Qa rfl <| Qa rfl <| JL.nil ?_
 refine zR (Up.refl _ _) ?_
 rw [hE]; rfl
theorem c_impl_FieldOf (r : M.Rul) {v_r : Value} (y : List UInt8) {w : World} (h_r : (Ty.agg (cRules r)).ok w v_r) : RetV Tryd.prog 13 [v_r, .string (sB y)] w (.tuple #[.int .i64 ((M.fieldO r y).1), .int .i64 ((M.fieldO r y).2)]) := by
 revert v_r; apply opn
 refine enter @Tryd.func13 @Tryd.ntmps13 rfl rfl ?_
 refine zent ?_
 refine zS <| zb rfl fun b1 => Qa rfl <| Qa rfl <| zJ <| zS <| Q9 0 rfl rfl ?_
 refine zv rfl (fun w hw => c_impl_ValidRules r (ok_ hw)) <| Qt rfl <| JL.nil ?_
 refine zi (fun h2 h2' => ?_) fun h2 h2' => ?_
 ·
  have hE := M.fieldO_1 (y := y) (show M.okR r = false by simpa using h2)
  refine zS <| Qa rfl <| Qa rfl <| JL.nil ?_
  refine zR (Up.refl _ _) ?_
  rw [hE]; rfl
 have hok : M.okR r = true := by simpa using h2
 refine Js.skip <| zS <| Q9 0 rfl rfl ?_
 refine Qm rfl <| zv rfl (fun w hw => c_impl_Rules_field r y (ok_ hw)) <| Qm rfl <| Qx rfl rfl <| Qx rfl rfl <| Qa rfl <| Qa rfl <| zJ <| zS <| Qm rfl <| Qt rfl <| JL.nil ?_
 refine zi (fun h3 h3' => ?_) fun h3 h3' => ?_
 ·
  have hE := M.fieldO_n hok (by simpa using h3)
  refine zS <| Qa rfl <| Qa rfl <| JL.nil ?_
  refine zR (Up.refl _ _) ?_
  rw [hE]; rfl
 have hE := M.fieldO_v hok (by simpa using h3)
 refine Js.skip <| zS <| Qm rfl <| Qa rfl <| Qa rfl <| JL.nil ?_
 refine zR (Up.refl _ _) ?_
 rw [hE]; rfl
theorem c_impl_ProblemText (p : M.Prb) {v_p : Value} {w : World} (h_p : (Ty.agg (cProblem p)).ok w v_p) (h_tab : tabT.ok w undef) (r0 : p.word.length ≤ 1000000 := by exact om_) (r1 : -9223372036854775808 ≤ p.at1 := by exact om_) (r2 : p.at1 ≤ 9223372036854775807 := by exact om_) : RetV Tryd.prog 20 [v_p] w (.string (sB (M.prbT p))) := by
 have lb0 : LenB p.word 1000000 := ⟨by omega⟩
 have hl6 : M.prbNames.length = 6 := rfl
 revert v_p; apply opn
 refine enter @Tryd.func20 @Tryd.ntmps20 rfl rfl ?_
 refine zent ?_
 refine zS <| zb rfl fun b1 => Qa rfl <| zN <| Qq (q_bldA) <| za zeh fun b2 => zw 0 rfl rfl rfl ?_
 refine zJ <| zS <| Qf fh rfl <| Q0 1 rfl rfl rfl <| zv rfl (fun w hw => c_impl_between p.kind 1 6) <| Qt rfl <| JL.nil ?_
 refine zi (fun h3 h3' => ?_) fun h3 h3' => ?_
 ·
  have hE := M.prbT_n (p := p) (by simpa using h3)
  refine zS <| Qa rfl <| JL.nil ?_
  refine zR (Up.refl _ _) ?_
  rw [hE]; rfl
 have hb : M.betw p.kind 1 6 = true := by simpa using h3
 obtain ⟨hb0, hb1⟩ := M.betw_iff.1 hb
 obtain ⟨ye4, hye4⟩ : ∃ x, M.prbNames[(p.kind - 1).toNat]? = some x := ⟨_, List.getElem?_eq_getElem (by omega)⟩
 have lb7 : LenB ye4 12 := ⟨M.prbName_len hye4⟩
 have hE := M.prbT_y hb hye4
 refine Js.skip <| Js.seq ?_
 refine zdr [] ?_
 refine jF 0 fld_35_1 rfl rfl ?_
 refine jB 1 1 ty_2 rfl rfl rfl rfl ?_
 refine jF 4 fld_35_2 rfl rfl ?_
 refine jB 5 1 ty_9 rfl rfl rfl rfl ?_
 refine jF 8 fld_35_0 rfl rfl ?_
 refine jB 9 1 ty_2 rfl rfl rfl rfl ?_
 refine JH.p 10 rfl (p_sub rfl rfl (IntWalk.i64_in _ (by omega))) ?_
 have hye4 : ([([117, 110, 107, 110, 111, 119, 110, 32, 119, 111, 114, 100] : List UInt8), ([103, 105, 118, 101, 110, 32, 116, 119, 105, 99, 101] : List UInt8), ([110, 111, 116, 32, 97, 32, 110, 117, 109, 98, 101, 114] : List UInt8), ([110, 111, 116, 32, 97, 108, 108, 111, 119, 101, 100] : List UInt8), ([109, 105, 115, 115, 105, 110, 103] : List UInt8), ([110, 101, 101, 100, 115, 32, 115, 116, 111, 114, 101, 115] : List UInt8)] : List (List UInt8))[(p.kind - 1).toNat]? = some ye4 := hye4
 refine JH.p 11 rfl (p_indexAddrA (kk := (p.kind - 1).toNat) ArrI.h rfl rfl (by omega) (by omega) (show 0 + ((p.kind - 1).toNat) * 1 = (p.kind - 1).toNat by omega)) ?_
 refine JH.q 12 rfl (q_load1 ty_9.h rfl (Mem.box (i := 0) rfl (txs_get (xs := [([117, 110, 107, 110, 111, 119, 110, 32, 119, 111, 114, 100] : List UInt8), ([103, 105, 118, 101, 110, 32, 116, 119, 105, 99, 101] : List UInt8), ([110, 111, 116, 32, 97, 32, 110, 117, 109, 98, 101, 114] : List UInt8), ([110, 111, 116, 32, 97, 108, 108, 111, 119, 101, 100] : List UInt8), ([109, 105, 115, 115, 105, 110, 103] : List UInt8), ([110, 101, 101, 100, 115, 32, 115, 116, 111, 114, 101, 115] : List UInt8)]) hye4))) ?_
 refine y1 2 ?_
 refine yv rfl rfl (fun w hw => c_impl_Decimal p.at1 (ok_ hw)) ?_
 refine JH.p 3 rfl (q_cat rfl rfl) ?_
 refine JH.p 6 rfl (q_cat rfl rfl) ?_
 refine JH.p 7 rfl (q_cat rfl rfl) ?_
 refine JH.p 13 rfl (q_cat rfl rfl) ?_
 refine jA 14 rfl rfl ?_
 refine yd ?_
 refine zR (Up.refl _ _) ?_
 rw [hE]; rfl
theorem c_laws_f6texts (a : List (List UInt8)) {v_a : Value} (b : List (List UInt8)) {v_b : Value} {w : World} (h_a : (Ty.strs 9 a).ok w v_a) (h_b : (Ty.strs 9 b).ok w v_b) (r0 : a.length ≤ 4194304 := by exact om_) (r1 : b.length ≤ 4194304 := by exact om_) : RetV Tryd.prog 17 [v_a, v_b] w (.bool (decide (a = b))) := by
 revert v_a; apply opn
 intro A1 c1 h1 bl1 bh1
 have h_a := h1
 revert v_b; apply opn
 intro A2 c2 h2 bl2 bh2
 have h_b := h2
 refine enter @Tryd.func17 @Tryd.ntmps17 rfl rfl ?_
 refine zent ?_
 refine zS <| Qa rfl <| zJ <| zS <| Qm rfl <| Qz rfl <| Qm rfl <| Qz rfl <| Qd rfl rfl <| JL.nil ?_
 refine zi (fun h3 h3' => ?_) fun h3 h3' => ?_
 ·
  have e1 : decide (a = b) = false := by simp; rintro rfl; simp at h3
  refine zS <| Qa rfl <| JL.nil ?_
  refine zR (Up.refl _ _) ?_
  simp [outV, e1]
 have hlen : a.length = b.length := by have := h3'; omega
 refine Js.skip <| Js.seq <| zS <| Qa rfl <| JL.nil <| Js.block ?_
 refine zl [0, 1] (fun F U l os u m => ∃ (k : Nat), l = F [(5, .int .i64 (k : Int))] ∧ os = U [] ∧ (k ≤ a.length) ∧ (a.take k = b.take k) ∧ m = a.length - k) ⟨0, rfl, rfl, zt, by rfl, rfl⟩ ?_
 rintro _ _ u4 _ ⟨k, rfl, rfl, hk, hU, rfl⟩ x4
 refine zn ?_
 refine Js.seq <| zS <| Qm rfl <| Qm rfl <| Qz rfl <| Ql rfl rfl <| JL.nil ?_
 refine zi (fun h5 h5' => ?_) fun h5 h5' => ?_
 ·
  obtain ⟨ye6, hye6⟩ : ∃ x, a[k]? = some x := ⟨_, List.getElem?_eq_getElem (by omega)⟩
  have hY := hye6
  obtain ⟨ye7, hye7⟩ : ∃ x, b[k]? = some x := ⟨_, List.getElem?_eq_getElem (by omega)⟩
  have hZ := hye7
  refine Js.skip <| Js.seq <| Js.block <| Js.seq ?_
  refine zdr [] ?_
  refine jM 0 rfl rfl ?_
  refine jM 1 rfl rfl ?_
  have hy8 := hye6
  obtain ⟨b8, o8, he8, hc8⟩ := strs_elem (Ty.mono _ h1 x4.vis) hy8
  refine jI 2 el_38 rfl rfl rfl he8 ?_
  refine jW 3 ty_9 rfl rfl hc8.vis ?_
  refine jM 4 rfl rfl ?_
  refine jM 5 rfl rfl ?_
  have hy9 := hye7
  obtain ⟨b9, o9, he9, hc9⟩ := strs_elem (Ty.mono _ h2 x4.vis) hy9
  refine jI 6 el_38 rfl rfl rfl he9 ?_
  refine jW 7 ty_9 rfl rfl hc9.vis ?_
  refine JH.p 8 rfl (p_neqT und_9 rfl rfl) ?_
  refine yd ?_
  refine zi (fun h10 h10' => ?_) fun h10 h10' => ?_
  ·
   have e1 := M.eqT_no hY hZ (by simpa using h10)
   refine zS <| Qa rfl <| JL.nil ?_
   refine zR x4 ?_
   simp [outV, e1]
  have hab := M.not_ne h10
  refine Js.skip <| Js.blockEnd <| Js.region <| Qm rfl <| Qp rfl rfl <| Qa rfl <| JL.nil ?_
  exact zag ⟨k + 1, rfl, rfl, zt, by exact M.eqT_step hU hY hZ hab, rfl⟩ x4
 have e1 : a = b := M.eqT_end hU (by have := h5'; omega) hlen
 refine zx ?_
 refine zS <| Qa rfl <| JL.nil ?_
 refine zR x4 ?_
 simp [outV, e1]
theorem c_laws_f6big (code : Nat) {v_code : Value} {w : World} (h_code : (Ty.bytes 5 code).ok w v_code) : RetV Tryd.prog 6 [v_code] w (.bool (decide (4096 < (code : Int)))) := by
 revert v_code; apply opn
 intro A1 c1 h1 bl1 bh1
 have h_code := h1
 refine enter @Tryd.func6 @Tryd.ntmps6 rfl rfl ?_
 refine zent ?_
 refine zS <| Qa rfl <| zN <| Qm rfl <| Qz rfl <| Qg rfl rfl <| Qa rfl <| JL.nil ?_
 exact zr (Up.refl _ _)
theorem c_laws_FnNames (code : Nat) {v_code : Value} {w : World} (h_code : (Ty.bytes 5 code).ok w v_code) (h_tab : tabT.ok w undef) : RetV Tryd.prog 3 [v_code] w (.bool true) := by
 have hl9 : M.fieldNames.length = 9 := rfl
 revert v_code; apply opn
 intro A1 c1 h1 bl1 bh1
 have h_code := h1
 refine enter @Tryd.func3 @Tryd.ntmps3 rfl rfl ?_
 refine zent ?_
 refine zS <| Qa rfl <| zJ <| zS <| Qm rfl <| zv rfl (fun w hw => c_laws_f6big code (ok_ hw)) <| JL.nil ?_
 refine zi (fun h2 h2' => ?_) fun h2 h2' => ?_
 ·
  refine zS <| Qa rfl <| JL.nil ?_
  refine zR (Up.refl _ _) ?_
  first | rfl | (simp [outV]; done) | (have h9 := M.names_law X4; by_cases h7 : M.slamName X4 = [] <;> by_cases h8 : (M.namedBy M.slamNames (M.slamName X4)).2 = 0 <;> simp_all [outV])
 refine Js.skip <| zS <| Qm rfl <| zp rfl (fun w hw => c_spec_DrawSlamName code (ok_ hw)) ?_
 intro u3 x3 X4 hX4
 refine Qa rfl <| zN <| Qm rfl <| zv rfl (fun w hw => c_impl_SlamName X4) <| Qa rfl <| zN <| Qm rfl <| zv rfl (fun w hw => c_impl_SlamNamed (M.slamName X4)) <| Qm rfl <| Qx rfl rfl <| Qx rfl rfl <| Qa rfl <| Qa rfl <| zN ?_
 refine Qm rfl <| zp rfl (fun w hw => c_spec_DrawSlamNamed code (ok_ hw)) ?_
 intro u5 x5 X6 hX6
 refine Qa rfl <| zN <| Qm rfl <| zv rfl (fun w hw => c_impl_SlamNamed X6) <| Qm rfl <| Qx rfl rfl <| Qx rfl rfl <| Qa rfl <| Qa rfl <| zN <| Qm rfl <| zv rfl (fun w hw => c_spec_SlamNamed X6) <| Qm rfl <| Qx rfl rfl ?_
 refine Qx rfl rfl <| Qa rfl <| Qa rfl <| zN <| Qm rfl <| zp rfl (fun w hw => c_spec_DrawFieldOf code (ok_ hw)) ?_
 intro u7 x7 X8 hX8 X9 hX9
 refine Qm rfl <| Qx rfl rfl <| Qx rfl rfl <| za zeh fun b10 => zw 0 rfl rfl rfl ?_
 refine Qa rfl <| zN <| Q9 0 rfl rfl ?_
 refine Qm rfl <| zv rfl (fun w hw => c_impl_FieldOf X8 X9 (ok_ hw)) <| Qm rfl <| Qx rfl rfl <| Qx rfl rfl <| Qa rfl <| Qa rfl <| zN <| Q9 0 rfl rfl ?_
 refine Qm rfl <| zv rfl (fun w hw => c_spec_FieldOf X8 X9 (ok_ hw)) <| Qm rfl <| Qx rfl rfl <| Qx rfl rfl <| Qa rfl <| Qa rfl <| zN <| Qm rfl <| zp rfl (fun w hw => c_spec_DrawProblemText code (ok_ hw)) ?_
 intro u11 x11 X12 hX12
 refine za zeh fun b13 => zw 0 rfl rfl rfl ?_
 refine zJ ?_
 have h14 : (((((((decide (M.slamName X4 = M.slamName X4)) && ((!decide (M.slamName X4 = ([] : List UInt8))) == (decide ((M.namedBy M.slamNames (M.slamName X4)).2 = 0)))) && ((!decide ((M.namedBy M.slamNames (M.slamName X4)).2 = 0)) || (decide ((M.namedBy M.slamNames (M.slamName X4)).1 = X4)))) && (decide ((M.namedBy M.slamNames X6).2 = (M.namedBy M.slamNames X6).2))) && (decide ((M.namedBy M.slamNames X6).1 = (M.namedBy M.slamNames X6).1))) && (decide ((M.fieldO X8 X9).2 = (M.fieldO X8 X9).2))) && (decide ((M.fieldO X8 X9).1 = (M.fieldO X8 X9).1))) = true := by first | (simp; done) | (have h9 := M.names_law X4; by_cases h7 : M.slamName X4 = [] <;> by_cases h8 : (M.namedBy M.slamNames (M.slamName X4)).2 = 0 <;> simp_all [outV])
 refine zdr [] ?_
 refine jM 0 rfl rfl ?_
 refine jM 1 rfl rfl ?_
 refine y1 2 ?_
 refine yv rfl rfl (fun w hw => c_spec_SlamName X4) ?_
 refine JH.p 3 rfl (p_eqlT und_9 rfl rfl) ?_
 refine jM 4 rfl rfl ?_
 refine JH.pg 5 rfl (Gd.t1 rfl rfl rfl) (fun hc => p_move rfl) ?_
 refine JH.pg 6 rfl (Gd.t1 rfl rfl rfl) (fun hc => p_neqT und_9 (gvt rfl hc) rfl) ?_
 refine JH.pg 7 rfl (Gd.t1 rfl rfl rfl) (fun hc => p_move rfl) ?_
 refine JH.pg 8 rfl (Gd.t1 rfl rfl rfl) (fun hc => p_eql (gvt rfl hc) rfl) ?_
 refine JH.pg 9 rfl (Gd.t1 rfl rfl rfl) (fun hc => p_eqlB und_4 (gvt rfl hc) (gvt rfl hc)) ?_
 refine JH.p 10 rfl (p_pickAnd rfl rfl rfl) ?_
 refine jM 11 rfl rfl ?_
 refine JH.pg 12 rfl (Gd.t1 rfl rfl rfl) (fun hc => p_move rfl) ?_
 refine JH.pg 13 rfl (Gd.t1 rfl rfl rfl) (fun hc => p_neq (gvt rfl hc) rfl) ?_
 refine JH.pg 14 rfl (Gd.t1 rfl rfl rfl) (fun hc => p_move (gvt rfl hc)) ?_
 refine JH.pg 15 rfl (Gd.f2 rfl rfl rfl) (fun hc => p_move rfl) ?_
 refine JH.pg 16 rfl (Gd.f2 rfl rfl rfl) (fun hc => p_move rfl) ?_
 refine JH.pg 17 rfl (Gd.f2 rfl rfl rfl) (fun hc => p_eql (gvt rfl hc) (gvt rfl hc)) ?_
 refine JH.pg 18 rfl (Gd.t1 rfl rfl rfl) (fun hc => p_pickOr (gvt rfl hc) rfl (gvl rfl hc)) ?_
 refine JH.p 19 rfl (p_pickAnd rfl rfl rfl) ?_
 refine jM 20 rfl rfl ?_
 refine JH.pg 21 rfl (Gd.t1 rfl rfl rfl) (fun hc => p_move rfl) ?_
 refine JH.pg 22 rfl (Gd.t1 rfl rfl rfl) (fun hc => p_move rfl) ?_
 refine JH.pg 23 rfl (Gd.t1 rfl rfl rfl) (fun hc => p_eql (gvt rfl hc) (gvt rfl hc)) ?_
 refine JH.p 24 rfl (p_pickAnd rfl rfl rfl) ?_
 refine jM 25 rfl rfl ?_
 refine JH.pg 26 rfl (Gd.t1 rfl rfl rfl) (fun hc => p_move rfl) ?_
 refine JH.pg 27 rfl (Gd.t1 rfl rfl rfl) (fun hc => p_move rfl) ?_
 refine JH.pg 28 rfl (Gd.t1 rfl rfl rfl) (fun hc => p_eql (gvt rfl hc) (gvt rfl hc)) ?_
 refine JH.p 29 rfl (p_pickAnd rfl rfl rfl) ?_
 refine jM 30 rfl rfl ?_
 refine JH.pg 31 rfl (Gd.t1 rfl rfl rfl) (fun hc => p_move rfl) ?_
 refine JH.pg 32 rfl (Gd.t1 rfl rfl rfl) (fun hc => p_move rfl) ?_
 refine JH.pg 33 rfl (Gd.t1 rfl rfl rfl) (fun hc => p_eql (gvt rfl hc) (gvt rfl hc)) ?_
 refine JH.p 34 rfl (p_pickAnd rfl rfl rfl) ?_
 refine jM 35 rfl rfl ?_
 refine JH.pg 36 rfl (Gd.t1 rfl rfl rfl) (fun hc => p_move rfl) ?_
 refine JH.pg 37 rfl (Gd.t1 rfl rfl rfl) (fun hc => p_move rfl) ?_
 refine JH.pg 38 rfl (Gd.t1 rfl rfl rfl) (fun hc => p_eql (gvt rfl hc) (gvt rfl hc)) ?_
 refine JH.p 39 rfl (p_pickAnd rfl rfl rfl) ?_
 refine jM 40 rfl rfl ?_
 refine y1 41 ?_
 refine ypT rfl (Gd.t1 rfl rfl rfl) (show (((((((decide (M.slamName X4 = M.slamName X4)) && ((!decide (M.slamName X4 = ([] : List UInt8))) == (decide ((M.namedBy M.slamNames (M.slamName X4)).2 = 0)))) && ((!decide ((M.namedBy M.slamNames (M.slamName X4)).2 = 0)) || (decide ((M.namedBy M.slamNames (M.slamName X4)).1 = X4)))) && (decide ((M.namedBy M.slamNames X6).2 = (M.namedBy M.slamNames X6).2))) && (decide ((M.namedBy M.slamNames X6).1 = (M.namedBy M.slamNames X6).1))) && (decide ((M.fieldO X8 X9).2 = (M.fieldO X8 X9).2))) && (decide ((M.fieldO X8 X9).1 = (M.fieldO X8 X9).1))) = true by first | exact h14 | (rw [h14]; rfl) | simp [h14]) rfl (fun w hw => c_impl_FieldNames) ?_
 intro u15 x15 A16 c16 h16 bl16 bh16
 refine y1 42 ?_
 refine ypT rfl (Gd.t1 rfl rfl rfl) (show (((((((decide (M.slamName X4 = M.slamName X4)) && ((!decide (M.slamName X4 = ([] : List UInt8))) == (decide ((M.namedBy M.slamNames (M.slamName X4)).2 = 0)))) && ((!decide ((M.namedBy M.slamNames (M.slamName X4)).2 = 0)) || (decide ((M.namedBy M.slamNames (M.slamName X4)).1 = X4)))) && (decide ((M.namedBy M.slamNames X6).2 = (M.namedBy M.slamNames X6).2))) && (decide ((M.namedBy M.slamNames X6).1 = (M.namedBy M.slamNames X6).1))) && (decide ((M.fieldO X8 X9).2 = (M.fieldO X8 X9).2))) && (decide ((M.fieldO X8 X9).1 = (M.fieldO X8 X9).1))) = true by first | exact h14 | (rw [h14]; rfl) | simp [h14]) rfl (fun w hw => c_spec_FieldNames) ?_
 intro u17 x17 A18 c18 h18 bl18 bh18
 refine y1 43 ?_
 refine yvT rfl (Gd.t1 rfl rfl rfl) (show (((((((decide (M.slamName X4 = M.slamName X4)) && ((!decide (M.slamName X4 = ([] : List UInt8))) == (decide ((M.namedBy M.slamNames (M.slamName X4)).2 = 0)))) && ((!decide ((M.namedBy M.slamNames (M.slamName X4)).2 = 0)) || (decide ((M.namedBy M.slamNames (M.slamName X4)).1 = X4)))) && (decide ((M.namedBy M.slamNames X6).2 = (M.namedBy M.slamNames X6).2))) && (decide ((M.namedBy M.slamNames X6).1 = (M.namedBy M.slamNames X6).1))) && (decide ((M.fieldO X8 X9).2 = (M.fieldO X8 X9).2))) && (decide ((M.fieldO X8 X9).1 = (M.fieldO X8 X9).1))) = true by first | exact h14 | (rw [h14]; rfl) | simp [h14]) rfl (fun w hw => c_laws_f6texts M.fieldNames M.fieldNames (ok_ hw) (ok_ hw)) ?_
 refine JH.p 44 rfl (p_pickAnd2 rfl rfl rfl) ?_
 refine jM 45 rfl rfl ?_
 refine JH.qg 46 rfl (Gd.t1 rfl rfl rfl) (fun hc => L9 0 rfl rfl) ?_
 refine JH.qg 48 rfl (Gd.t1 rfl rfl rfl) (fun hc => L9 0 rfl rfl) ?_
 refine y1 47 ?_
 refine JHo.ge rfl (Gd.t1 rfl rfl rfl) (fun hc => e_callV fn_20.h (opds_1 (gvt rfl hc)) (fun w hw => c_impl_ProblemText X12 (ok_ hw) (ok_ hw) (r0 := (by have hc9 := hc; (try simp only [Bool.and_eq_true, decide_eq_true_eq, Bool.or_eq_true, Bool.not_eq_true', decide_eq_false_iff_not] at hc9); omega)) (r1 := (by have hc9 := hc; (try simp only [Bool.and_eq_true, decide_eq_true_eq, Bool.or_eq_true, Bool.not_eq_true', decide_eq_false_iff_not] at hc9); omega)) (r2 := (by have hc9 := hc; (try simp only [Bool.and_eq_true, decide_eq_true_eq, Bool.or_eq_true, Bool.not_eq_true', decide_eq_false_iff_not] at hc9); omega)))) ?_
 refine y1 49 ?_
 refine JHo.ge rfl (Gd.t1 rfl rfl rfl) (fun hc => e_callV fn_21.h (opds_1 (gvt rfl hc)) (fun w hw => c_spec_ProblemText X12 (ok_ hw) (r0 := (by have hc9 := hc; (try simp only [Bool.and_eq_true, decide_eq_true_eq, Bool.or_eq_true, Bool.not_eq_true', decide_eq_false_iff_not] at hc9); omega)) (r1 := (by have hc9 := hc; (try simp only [Bool.and_eq_true, decide_eq_true_eq, Bool.or_eq_true, Bool.not_eq_true', decide_eq_false_iff_not] at hc9); omega)) (r2 := (by have hc9 := hc; (try simp only [Bool.and_eq_true, decide_eq_true_eq, Bool.or_eq_true, Bool.not_eq_true', decide_eq_false_iff_not] at hc9); omega)))) ?_
 refine JH.pg 50 rfl (Gd.t1 rfl rfl rfl) (fun hc => p_eqlT und_9 (gvt rfl hc) (gvt rfl hc)) ?_
 refine JH.p 51 rfl (p_pickAnd rfl rfl rfl) ?_
 refine jA 52 rfl rfl ?_
 refine yd ?_
 refine zR (((((x3.trans x5).trans x7).trans x11).trans x15).trans x17) ?_
 first | rfl | (simp [outV]; done) | (have h9 := M.names_law X4; by_cases h7 : M.slamName X4 = [] <;> by_cases h8 : (M.namedBy M.slamNames (M.slamName X4)).2 = 0 <;> simp_all [outV])
end Go.Proofs.YthdmaamdlibjaaaDoor

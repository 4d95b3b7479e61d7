/- Walks: K58. -/
import Derived.Test.YtjgohnaobbphpaaGreatDoorZbA3
import Derived.Test.YtjgohnaobbphpaaGreatDoorZbA9
import Derived.Test.YtjgohnaobbphpaaGreatDoorZbA7
set_option linter.unusedSimpArgs false
set_option linter.unusedVariables false
set_option maxRecDepth 100000
attribute [local irreducible] Go.Proofs.YtjgohnaobbphpaaGreatDoor.gv
set_option maxHeartbeats 16000000
namespace Go.Proofs.YtjgohnaobbphpaaGreatDoor
open Go.RowKit
theorem c_spec_l10Read (s : List UInt8) {w : World} (r0 : s.length ≤ 90000 := by exact om_) : Ret Tryz.prog 60 [.string (sB s)] w (Ty.tup [Ty.agg (cGame ((M.chkW s).1)), Ty.int (M.atS s), Ty.int ((M.chkW s).2.2)]) := by
 refine enter @Tryz.func60 @Tryz.ntmps60 rfl rfl ?_
 refine zent ?_
 refine zS <| za zeh fun b1 => Qa rfl <| Qa rfl <| zN <| Qm rfl <| zcs rfl (fun w hw => c_spec_l01Split s 10) ?_
 intro A2 c2 bl2 bh2
 have hp : 0 < (M.split (M.u8 10) s).length := List.length_pos_iff.2 (M.split_ne 10 s)
 have hpl : (M.split (M.u8 10) s).length ≤ s.length + 1 := M.split_len 10 s
 obtain ⟨ye3, hye3⟩ : ∃ x, (M.split (M.u8 10) s)[((((M.split (M.u8 10) s).length) : Int) - 1).toNat]? = some x := ⟨_, List.getElem?_eq_getElem (by omega)⟩
 have hwh : M.whole s = decide (ye3 = []) := M.whole_last (by rw [show (M.split 10 s).length - 1 = (((M.split (M.u8 10) s).length : Int) - 1).toNat by have h9 : (M.split (M.u8 10) s).length = (M.split 10 s).length := rfl; omega]; exact hye3)
 refine Qa rfl <| zN <| Qm rfl <| Qz rfl <| Qs rfl rfl <| Qa rfl <| zN <| Qm rfl <| Qm rfl ?_
 refine JL.fact (row_some (i := 0) rfl (by omega)) (fun hf5 => ?_)
 obtain ⟨b5, rfl⟩ := hf5
 have hye3 : (M.split (M.u8 10) s : List (List UInt8))[((((M.split (M.u8 10) s).length) : Int) - 1).toNat]? = some ye3 := hye3
 refine Qq (p_indexAddr el_31 rfl rfl (by omega) (by omega) rfl) <| Qw (q_load1 ty_9.h rfl (Mem.row (i := 0) rfl (txs_get' (xs := (M.split (M.u8 10) s)) hye3))) <| Qq (p_eqlT und_9 rfl rfl) <| Qa rfl <| zJ <| zS <| Qm rfl <| Qt rfl <| Qm rfl <| zg (Gd.f1 rfl rfl rfl) (fun hc => p_move rfl) <| zg (Gd.f1 rfl rfl rfl) (fun hc => p_eql (gh hc rfl) rfl) <| Qq (p_pickOr rfl rfl rfl) <| JL.nil ?_
 refine zi (fun h7 h7' => ?_) fun h7 h7' => ?_
 ·
  have hrs : M.recS s = (M.split (M.u8 10) s) ++ [[]] := M.recS_n (fun ⟨d1, d2⟩ => by have h9 := h7; rw [hwh] at d1; have d3 : ¬ (M.split (M.u8 10) s).length = 1 := d2; simp_all; omega)
  refine zS <| Qm rfl <| zbs fun b8 => ?_
  refine JL.e (e_append (i := 1) (n' := ((M.split (M.u8 10) s) ++ ([([] : List UInt8)])).length) (vs' := txs_ ((M.split (M.u8 10) s) ++ ([([] : List UInt8)]))) el_31 rfl rfl rfl rfl (src_row (i := 0) und_31 rfl rfl) (by omega) (by omega) ln2_ (by first | rfl | (simp [txs_]; done))) ?_
  rintro v10 _ _ ⟨⟨g11, rfl⟩, rfl⟩ _
  refine JL.fact (row_form' (i := 1) rfl) (fun hf12 => ?_)
  obtain ⟨A12, c12, rfl, bl12, bh12⟩ := hf12
  refine znl ?_
  have hr2 : 2 ≤ (((M.split (M.u8 10) s) ++ ([([] : List UInt8)]))).length := by rw [← hrs]; exact M.recS_two s
  have hmem : ∀ x ∈ (((M.split (M.u8 10) s) ++ ([([] : List UInt8)]))), x.length ≤ 90000 := fun x hx => Nat.le_trans (M.recS_mem (by rw [hrs]; exact hx)) (by omega)
  obtain ⟨y0_, hy0_⟩ : ∃ x, (((M.split (M.u8 10) s) ++ ([([] : List UInt8)])))[0]? = some x := ⟨_, List.getElem?_eq_getElem (by omega)⟩
  obtain ⟨y1_, hy1_⟩ : ∃ x, (((M.split (M.u8 10) s) ++ ([([] : List UInt8)])))[1]? = some x := ⟨_, List.getElem?_eq_getElem (by omega)⟩
  obtain ⟨H1_, H2_⟩ := M.head_law (s := s) (x := M.headS (M.ln ((M.split (M.u8 10) s) ++ ([([] : List UInt8)])) 0) (M.ln ((M.split (M.u8 10) s) ++ ([([] : List UInt8)])) 1) (decide ((((M.split (M.u8 10) s) ++ ([([] : List UInt8)]))).length = 2) && !(decide (ye3 = ([] : List UInt8))))) (l0 := y0_) (l1 := y1_) (by rw [hrs]; exact hy0_) (by rw [hrs]; exact hy1_) (by rw [hrs, hwh, M.ln_get hy0_, M.ln_get hy1_])
  refine Qa rfl <| zG <| Qm rfl <| Qp rfl rfl <| Qa rfl <| zN <| Qm rfl <| Qm rfl <| zc rfl (fun w hw => c_spec_l10Head ((M.split (M.u8 10) s) ++ ([([] : List UInt8)])) (decide (ye3 = ([] : List UInt8))) (strs_rowok (xs := ((M.split (M.u8 10) s) ++ ([([] : List UInt8)]))) (hw.pr (i := 1) rfl))) ?_
  intro A15 c15 bl15 bh15 A16 c16 bl16 bh16 A17 c17 bl17 bh17 A18 c18 bl18 bh18 A19 c19 bl19 bh19
  refine Qm rfl <| Qx rfl rfl <| Qx rfl rfl <| Qx rfl rfl <| za zeh fun b20 => zw 0 rfl rfl rfl ?_
  refine Qa rfl <| Qa rfl <| zJ <| zS <| Qm rfl <| Qd rfl rfl <| JL.nil ?_
  refine zi (fun h21 h21' => ?_) fun h21 h21' => ?_
  ·
   have n0 := h21
   have hE := H1_ (by simpa using n0)
   have hA := M.atS_b hE (by simpa using n0)
   have hq0 : 0 = (((M.chkW s).1).rules).pits := by first | (rw [hE]; done) | (rw [hE]; rfl) | (rw [hA]; done)
   have hq1 : 0 = (((M.chkW s).1).rules).seeds := by first | (rw [hE]; done) | (rw [hE]; rfl) | (rw [hA]; done)
   have hq2 : false = (((M.chkW s).1).rules).stores := by first | (rw [hE]; done) | (rw [hE]; rfl) | (rw [hA]; done)
   have hq3 : false = (((M.chkW s).1).rules).skip := by first | (rw [hE]; done) | (rw [hE]; rfl) | (rw [hA]; done)
   have hq4 : false = (((M.chkW s).1).rules).relay := by first | (rw [hE]; done) | (rw [hE]; rfl) | (rw [hA]; done)
   have hq5 : false = (((M.chkW s).1).rules).feed := by first | (rw [hE]; done) | (rw [hE]; rfl) | (rw [hA]; done)
   have hq6 : false = (((M.chkW s).1).rules).again := by first | (rw [hE]; done) | (rw [hE]; rfl) | (rw [hA]; done)
   have hq7 : 0 = (((M.chkW s).1).rules).capture := by first | (rw [hE]; done) | (rw [hE]; rfl) | (rw [hA]; done)
   have hq8 : 0 = (((M.chkW s).1).rules).slam := by first | (rw [hE]; done) | (rw [hE]; rfl) | (rw [hA]; done)
   have hq9 : [] = (((M.chkW s).1).start).pits := by first | (rw [hE]; done) | (rw [hE]; rfl) | (rw [hA]; done)
   have hq10 : [] = (((M.chkW s).1).start).stores := by first | (rw [hE]; done) | (rw [hE]; rfl) | (rw [hA]; done)
   have hq11 : 0 = (((M.chkW s).1).start).player := by first | (rw [hE]; done) | (rw [hE]; rfl) | (rw [hA]; done)
   have hq12 : [] = ((M.chkW s).1).moves := by first | (rw [hE]; done) | (rw [hE]; rfl) | (rw [hA]; done)
   have hq13 : [] = (((M.chkW s).1).now).pits := by first | (rw [hE]; done) | (rw [hE]; rfl) | (rw [hA]; done)
   have hq14 : [] = (((M.chkW s).1).now).stores := by first | (rw [hE]; done) | (rw [hE]; rfl) | (rw [hA]; done)
   have hq15 : 0 = (((M.chkW s).1).now).player := by first | (rw [hE]; done) | (rw [hE]; rfl) | (rw [hA]; done)
   have hq16 : 0 = ((M.chkW s).1).resigned := by first | (rw [hE]; done) | (rw [hE]; rfl) | (rw [hA]; done)
   have hq17 : ((M.headS (M.ln ((M.split (M.u8 10) s) ++ ([([] : List UInt8)])) 0) (M.ln ((M.split (M.u8 10) s) ++ ([([] : List UInt8)])) 1) (decide (((M.split (M.u8 10) s) ++ ([([] : List UInt8)])).length = 2) && !(decide (ye3 = ([] : List UInt8))))).2.1) = M.atS s := by first | (rw [hE]; done) | (rw [hE]; rfl) | (rw [hA]; done)
   have hq18 : ((M.headS (M.ln ((M.split (M.u8 10) s) ++ ([([] : List UInt8)])) 0) (M.ln ((M.split (M.u8 10) s) ++ ([([] : List UInt8)])) 1) (decide (((M.split (M.u8 10) s) ++ ([([] : List UInt8)])).length = 2) && !(decide (ye3 = ([] : List UInt8))))).2.2) = (M.chkW s).2.2 := by first | (rw [hE]; done) | (rw [hE]; rfl) | (rw [hA]; done)
   refine zS <| Qb ?_
   refine Qm rfl <| Qm rfl <| zw 8 rfl rfl rfl ?_
   refine Qa rfl <| Qa rfl <| JL.nil ?_
   exact zro (Up.refl _ _)
  have hS0 := H2_ (by simpa using h21)
  refine Js.skip <| Js.seq <| zS <| Qa rfl <| JL.nil <| Js.block ?_
  refine zl [2, 5, 6, 7, 8] (fun F U l os u m => ∃ (k : Nat) (gk : M.Gam) (A22_8_9 : Option Addr) (c22_8_9 : Nat) (g22_8_9 : List Nat) (A22_8_10 : Option Addr) (c22_8_10 : Nat) (g22_8_10 : List Nat) (A22_8_12 : Option Addr) (c22_8_12 : Nat) (g22_8_12 : List Nat) (A22_8_13 : Option Addr) (c22_8_13 : Nat) (g22_8_13 : List Nat) (A22_8_14 : Option Addr) (c22_8_14 : Nat) (g22_8_14 : List Nat), l = F [(11, .int .i64 (k : Int))] ∧ os = U [some (boxO b20 [.int .i64 gk.rules.pits, .int .i64 gk.rules.seeds, .bool gk.rules.stores, .bool gk.rules.skip, .bool gk.rules.relay, .bool gk.rules.feed, .bool gk.rules.again, .int .i64 gk.rules.capture, .int .i64 gk.rules.slam, .slice A22_8_9 gk.start.pits.length c22_8_9, .slice A22_8_10 gk.start.stores.length c22_8_10, .int .i64 gk.start.player, .slice A22_8_12 gk.moves.length c22_8_12, .slice A22_8_13 gk.now.pits.length c22_8_13, .slice A22_8_14 gk.now.stores.length c22_8_14, .int .i64 gk.now.player, .int .i64 gk.resigned] 53), some (rowO 2 1 (.slice A22_8_14 gk.now.stores.length c22_8_14) gk.now.stores.length (ints_ gk.now.stores) g22_8_14), some (rowO 2 1 (.slice A22_8_13 gk.now.pits.length c22_8_13) gk.now.pits.length (ints_ gk.now.pits) g22_8_13), some (rowO 2 1 (.slice A22_8_12 gk.moves.length c22_8_12) gk.moves.length (ints_ gk.moves) g22_8_12), some (rowO 2 1 (.slice A22_8_10 gk.start.stores.length c22_8_10) gk.start.stores.length (ints_ gk.start.stores) g22_8_10), some (rowO 2 1 (.slice A22_8_9 gk.start.pits.length c22_8_9) gk.start.pits.length (ints_ gk.start.pits) g22_8_9)] ∧ (M.SpI s k gk) ∧ (gk.start.pits.length ≤ c22_8_9) ∧ (c22_8_9 ≤ 9223372036854775807) ∧ (gk.start.stores.length ≤ c22_8_10) ∧ (c22_8_10 ≤ 9223372036854775807) ∧ (gk.moves.length ≤ c22_8_12) ∧ (c22_8_12 ≤ 9223372036854775807) ∧ (gk.now.pits.length ≤ c22_8_13) ∧ (c22_8_13 ≤ 9223372036854775807) ∧ (gk.now.stores.length ≤ c22_8_14) ∧ (c22_8_14 ≤ 9223372036854775807) ∧ m = (M.recL s).length - k) ⟨2, (M.headS (M.ln ((M.split (M.u8 10) s) ++ ([([] : List UInt8)])) 0) (M.ln ((M.split (M.u8 10) s) ++ ([([] : List UInt8)])) 1) (decide ((((M.split (M.u8 10) s) ++ ([([] : List UInt8)]))).length = 2) && !(decide (ye3 = ([] : List UInt8))))).1, _, _, _, _, _, _, _, _, _, _, _, _, _, _, _, rfl, rfl, by exact hS0, zu, zu, zu, zu, zu, zu, zu, zu, zu, zu, rfl⟩ ?_
  rintro _ _ u22 _ ⟨k, gk, A22_8_9, c22_8_9, g22_8_9, A22_8_10, c22_8_10, g22_8_10, A22_8_12, c22_8_12, g22_8_12, A22_8_13, c22_8_13, g22_8_13, A22_8_14, c22_8_14, g22_8_14, rfl, rfl, hS, f22_1, f22_2, f22_3, f22_4, f22_5, f22_6, f22_7, f22_8, f22_9, f22_10, rfl⟩ x22
  refine zn ?_
  obtain ⟨gb1, gb2, gb3, gb4, gb5⟩ := M.okG_bd hS.ok
  have hkn := hS.kn
  have hll : (M.recS s).length = (M.recL s).length + 1 := by rw [hS.l]; simp
  refine Js.seq <| zS <| Qm rfl <| Qm rfl <| Ql rfl rfl <| JL.nil ?_
  refine zi (fun h23 h23' => ?_) fun h23 h23' => ?_
  ·
   have hkl : k < (M.recL s).length := by have h9 := h23'; rw [hrs] at hll; (try simp at hll); omega
   have hkc : k < (M.recS s).length := by omega
   rw [hrs] at hkc
   obtain ⟨ye24, hye24⟩ : ∃ x, ((M.split (M.u8 10) s) ++ ([([] : List UInt8)]))[k]? = some x := ⟨_, List.getElem?_eq_getElem (by omega)⟩
   have hyr : (M.recS s)[k]? = some ye24 := by rw [hrs]; exact hye24
   have hyl := hmem _ (List.mem_of_getElem? hye24)
   have hal := M.aft_len ye24 ([114, 101, 115, 105, 103, 110, 115] : List UInt8)
   refine Js.skip <| Js.seq <| Js.block <| zS <| Qm rfl <| Qm rfl ?_
   refine JL.fact (row_some (i := 7) rfl (by omega)) (fun hf26 => ?_)
   obtain ⟨b26, rfl⟩ := hf26
   have hye24 : ((M.split (M.u8 10) s) ++ ([([] : List UInt8)]) : List (List UInt8))[k]? = some ye24 := hye24
   refine Qq (p_indexAddr el_31 rfl rfl (by omega) (by omega) rfl) <| Qw (q_load1 ty_9.h rfl (Mem.row (i := 7) rfl (txs_get' (xs := ((M.split (M.u8 10) s) ++ ([([] : List UInt8)]))) hye24))) <| zv rfl (fun w hw => c_spec_l10After ye24 ([114, 101, 115, 105, 103, 110, 115] : List UInt8)) <| Qm rfl <| Qx rfl rfl <| Qx rfl rfl <| Qa rfl <| Qa rfl <| zJ <| Js.block <| zS <| Qf fh rfl <| Q0 0 rfl rfl rfl <| Qh rfl rfl ?_
   refine Qa rfl <| JL.nil ?_
   refine zi (fun h28 h28' => ?_) fun h28 h28' => ?_
   ·
    have hE := hS.bad hkl hyr (M.lineI_7 (by simpa using h28)) (show ¬ (7 : Int) = 0 by decide)
    have hA := M.atS_b hE (show ¬ (7 : Int) = 0 by decide)
    have hq0 : 0 = (((M.chkW s).1).rules).pits := by first | (rw [hE]; done) | (rw [hE]; rfl) | (rw [hA]; done)
    have hq1 : 0 = (((M.chkW s).1).rules).seeds := by first | (rw [hE]; done) | (rw [hE]; rfl) | (rw [hA]; done)
    have hq2 : false = (((M.chkW s).1).rules).stores := by first | (rw [hE]; done) | (rw [hE]; rfl) | (rw [hA]; done)
    have hq3 : false = (((M.chkW s).1).rules).skip := by first | (rw [hE]; done) | (rw [hE]; rfl) | (rw [hA]; done)
    have hq4 : false = (((M.chkW s).1).rules).relay := by first | (rw [hE]; done) | (rw [hE]; rfl) | (rw [hA]; done)
    have hq5 : false = (((M.chkW s).1).rules).feed := by first | (rw [hE]; done) | (rw [hE]; rfl) | (rw [hA]; done)
    have hq6 : false = (((M.chkW s).1).rules).again := by first | (rw [hE]; done) | (rw [hE]; rfl) | (rw [hA]; done)
    have hq7 : 0 = (((M.chkW s).1).rules).capture := by first | (rw [hE]; done) | (rw [hE]; rfl) | (rw [hA]; done)
    have hq8 : 0 = (((M.chkW s).1).rules).slam := by first | (rw [hE]; done) | (rw [hE]; rfl) | (rw [hA]; done)
    have hq9 : [] = (((M.chkW s).1).start).pits := by first | (rw [hE]; done) | (rw [hE]; rfl) | (rw [hA]; done)
    have hq10 : [] = (((M.chkW s).1).start).stores := by first | (rw [hE]; done) | (rw [hE]; rfl) | (rw [hA]; done)
    have hq11 : 0 = (((M.chkW s).1).start).player := by first | (rw [hE]; done) | (rw [hE]; rfl) | (rw [hA]; done)
    have hq12 : [] = ((M.chkW s).1).moves := by first | (rw [hE]; done) | (rw [hE]; rfl) | (rw [hA]; done)
    have hq13 : [] = (((M.chkW s).1).now).pits := by first | (rw [hE]; done) | (rw [hE]; rfl) | (rw [hA]; done)
    have hq14 : [] = (((M.chkW s).1).now).stores := by first | (rw [hE]; done) | (rw [hE]; rfl) | (rw [hA]; done)
    have hq15 : 0 = (((M.chkW s).1).now).player := by first | (rw [hE]; done) | (rw [hE]; rfl) | (rw [hA]; done)
    have hq16 : 0 = ((M.chkW s).1).resigned := by first | (rw [hE]; done) | (rw [hE]; rfl) | (rw [hA]; done)
    have hq17 : (k : Int) = M.atS s := by first | (rw [hE]; done) | (rw [hE]; rfl) | (rw [hA]; done)
    have hq18 : 7 = (M.chkW s).2.2 := by first | (rw [hE]; done) | (rw [hE]; rfl) | (rw [hA]; done)
    refine zS <| Qb ?_
    refine Qm rfl <| zw 8 rfl rfl rfl ?_
    refine Qa rfl <| Qa rfl <| JL.nil ?_
    exact zro x22
   have n7 : ¬ 0 ≤ gk.resigned := by simpa using h28
   refine zS <| Qm rfl <| Qm rfl <| zg (Gd.t1 rfl rfl rfl) (fun hc => p_move rfl) <| zg (Gd.t1 rfl rfl rfl) (fun hc => p_eqlT und_9 (gh hc rfl) rfl) <| zg (Gd.t1 rfl rfl rfl) (fun hc => p_move (gh hc rfl)) <| zg (Gd.f2 rfl rfl rfl) (fun hc => p_move rfl) <| zg (Gd.f2 rfl rfl rfl) (fun hc => p_eqlT und_9 (gh hc rfl) rfl) <| zg (Gd.t1 rfl rfl rfl) (fun hc => p_pickOr (gh hc rfl) rfl (gvl rfl hc)) <| Qq (p_pickAnd rfl rfl rfl) <| Qa rfl <| JL.nil ?_
   refine zi (fun h29 h29' => ?_) fun h29 h29' => ?_
   ·
    have hc9 := h29
    have hq : (M.aft ye24 M.resW).2 = true ∧ ((M.aft ye24 M.resW).1 = [48] ∨ (M.aft ye24 M.resW).1 = [49]) := by simpa [M.resW] using hc9
    have hS2 := hS.step hkl hyr (M.res_line n7 hq.1 hq.2) rfl
    refine zS <| Qm rfl <| zv rfl (fun w hw => c_spec_l01Number ((M.aft ye24 ([114, 101, 115, 105, 103, 110, 115] : List UInt8)).1)) <| Qm rfl <| Qx rfl rfl <| Qx rfl rfl <| Qa rfl <| Qa rfl <| zN <| Qm rfl <| Qf fh rfl <| zw 0 rfl rfl rfl ?_
    refine JL.nil ?_
    refine zx ?_
    refine Js.region <| Qm rfl <| Qp rfl rfl <| Qa rfl <| JL.nil ?_
    exact zag ⟨k + 1, M.resG gk (M.num (M.aft ye24 M.resW).1).1, _, _, _, _, _, _, _, _, _, _, _, _, _, _, _, rfl, rfl, by exact hS2, by first | omega | (dsimp only [M.resG]; omega), by first | omega | (dsimp only [M.resG]; omega), by first | omega | (dsimp only [M.resG]; omega), by first | omega | (dsimp only [M.resG]; omega), by first | omega | (dsimp only [M.resG]; omega), by first | omega | (dsimp only [M.resG]; omega), by first | omega | (dsimp only [M.resG]; omega), by first | omega | (dsimp only [M.resG]; omega), by first | omega | (dsimp only [M.resG]; omega), by first | omega | (dsimp only [M.resG]; omega), rfl⟩ x22 (by omega)
   have hc9 := h29
   obtain ⟨n0, n1⟩ := M.res_not (y := ye24) (by have h9 := hc9; simp only [M.resW]; simpa using h9)
   have hye24 : ((M.split (M.u8 10) s) ++ ([([] : List UInt8)]) : List (List UInt8))[k]? = some ye24 := hye24
   refine Js.skip <| Js.blockEnd <| zS <| Qm rfl <| Qm rfl <| Qq (p_indexAddr el_31 rfl rfl (by omega) (by omega) rfl) <| Qw (q_load1 ty_9.h rfl (Mem.row (i := 7) rfl (txs_get' (xs := ((M.split (M.u8 10) s) ++ ([([] : List UInt8)]))) hye24))) <| zc rfl (fun w hw => c_spec_l10Next gk ye24 (ok_ hw)) ?_
   intro A34 c34 bl34 bh34 A35 c35 bl35 bh35 A36 c36 bl36 bh36 A37 c37 bl37 bh37 A38 c38 bl38 bh38
   refine Qm rfl <| Qx rfl rfl <| Qx rfl rfl <| za zeh fun b39 => zw 0 rfl rfl rfl ?_
   refine Qa rfl <| zJ <| zS <| Qm rfl <| Qd rfl rfl <| JL.nil ?_
   refine zi (fun h40 h40' => ?_) fun h40 h40' => ?_
   ·
    have n9 : ¬ (M.nextR gk (M.numR ye24)).2 = 0 := by simpa using h40
    have hE := hS.bad hkl hyr (M.lineI_n n7 n0 n1 n9) n9
    have hA := M.atS_b hE n9
    have hq0 : 0 = (((M.chkW s).1).rules).pits := by first | (rw [hE]; done) | (rw [hE]; rfl) | (rw [hA]; done)
    have hq1 : 0 = (((M.chkW s).1).rules).seeds := by first | (rw [hE]; done) | (rw [hE]; rfl) | (rw [hA]; done)
    have hq2 : false = (((M.chkW s).1).rules).stores := by first | (rw [hE]; done) | (rw [hE]; rfl) | (rw [hA]; done)
    have hq3 : false = (((M.chkW s).1).rules).skip := by first | (rw [hE]; done) | (rw [hE]; rfl) | (rw [hA]; done)
    have hq4 : false = (((M.chkW s).1).rules).relay := by first | (rw [hE]; done) | (rw [hE]; rfl) | (rw [hA]; done)
    have hq5 : false = (((M.chkW s).1).rules).feed := by first | (rw [hE]; done) | (rw [hE]; rfl) | (rw [hA]; done)
    have hq6 : false = (((M.chkW s).1).rules).again := by first | (rw [hE]; done) | (rw [hE]; rfl) | (rw [hA]; done)
    have hq7 : 0 = (((M.chkW s).1).rules).capture := by first | (rw [hE]; done) | (rw [hE]; rfl) | (rw [hA]; done)
    have hq8 : 0 = (((M.chkW s).1).rules).slam := by first | (rw [hE]; done) | (rw [hE]; rfl) | (rw [hA]; done)
    have hq9 : [] = (((M.chkW s).1).start).pits := by first | (rw [hE]; done) | (rw [hE]; rfl) | (rw [hA]; done)
    have hq10 : [] = (((M.chkW s).1).start).stores := by first | (rw [hE]; done) | (rw [hE]; rfl) | (rw [hA]; done)
    have hq11 : 0 = (((M.chkW s).1).start).player := by first | (rw [hE]; done) | (rw [hE]; rfl) | (rw [hA]; done)
    have hq12 : [] = ((M.chkW s).1).moves := by first | (rw [hE]; done) | (rw [hE]; rfl) | (rw [hA]; done)
    have hq13 : [] = (((M.chkW s).1).now).pits := by first | (rw [hE]; done) | (rw [hE]; rfl) | (rw [hA]; done)
    have hq14 : [] = (((M.chkW s).1).now).stores := by first | (rw [hE]; done) | (rw [hE]; rfl) | (rw [hA]; done)
    have hq15 : 0 = (((M.chkW s).1).now).player := by first | (rw [hE]; done) | (rw [hE]; rfl) | (rw [hA]; done)
    have hq16 : 0 = ((M.chkW s).1).resigned := by first | (rw [hE]; done) | (rw [hE]; rfl) | (rw [hA]; done)
    have hq17 : (k : Int) = M.atS s := by first | (rw [hE]; done) | (rw [hE]; rfl) | (rw [hA]; done)
    have hq18 : ((M.nextR gk (M.numR ye24)).2) = (M.chkW s).2.2 := by first | (rw [hE]; done) | (rw [hE]; rfl) | (rw [hA]; done)
    refine zS <| Qb ?_
    refine Qm rfl <| Qm rfl <| zw 14 rfl rfl rfl ?_
    refine Qa rfl <| Qa rfl <| JL.nil ?_
    exact zro x22
   have n9 : (M.nextR gk (M.numR ye24)).2 = 0 := by simpa using h40
   have hS2 := hS.step hkl hyr (M.lineI_y n7 n0 n1 n9) rfl
   refine Js.skip <| Js.region <| Q9 0 rfl rfl ?_
   refine zw 6 rfl rfl rfl ?_
   refine JL.nil <| Js.blockEnd <| Js.region <| Qm rfl <| Qp rfl rfl <| Qa rfl <| JL.nil ?_
   refine zd [6, 1, 1, 1, 1, 1, 6, 6, 6] rfl fun u41 x41 => ?_
   exact zag ⟨k + 1, (M.nextR gk (M.numR ye24)).1, _, _, _, _, _, _, _, _, _, _, _, _, _, _, _, rfl, rfl, by exact hS2, by first | omega | (dsimp only [M.resG]; omega), by first | omega | (dsimp only [M.resG]; omega), by first | omega | (dsimp only [M.resG]; omega), by first | omega | (dsimp only [M.resG]; omega), by first | omega | (dsimp only [M.resG]; omega), by first | omega | (dsimp only [M.resG]; omega), by first | omega | (dsimp only [M.resG]; omega), by first | omega | (dsimp only [M.resG]; omega), by first | omega | (dsimp only [M.resG]; omega), by first | omega | (dsimp only [M.resG]; omega), rfl⟩ (x22.trans x41) (by omega)
  have hkl : (M.recL s).length ≤ k := by have h9 := h23'; have hll : (M.recS s).length = (M.recL s).length + 1 := (by rw [hS.l]; simp); rw [hrs] at hll; (try simp at hll); omega
  refine zx ?_
  refine Js.seq <| zS <| Qm rfl <| Qt rfl <| JL.nil ?_
  refine zi (fun h42 h42' => ?_) fun h42 h42' => ?_
  ·
   have hE := hS.end_ hkl (by have h9 := h42; rw [hwh]; simpa using h9)
   have hA := M.atS_b hE (show ¬ (7 : Int) = 0 by decide)
   have hkq : (k : Int) = ((((M.split (M.u8 10) s).length) : Int) - 1) + 1 := by have h8 := hS.kn; have hll : (M.recS s).length = (M.recL s).length + 1 := (by rw [hS.l]; simp); rw [hrs] at hll; (try simp at hll); omega
   rw [hkq] at hA
   have hq0 : 0 = (((M.chkW s).1).rules).pits := by first | (rw [hE]; done) | (rw [hE]; rfl) | (rw [hA]; done)
   have hq1 : 0 = (((M.chkW s).1).rules).seeds := by first | (rw [hE]; done) | (rw [hE]; rfl) | (rw [hA]; done)
   have hq2 : false = (((M.chkW s).1).rules).stores := by first | (rw [hE]; done) | (rw [hE]; rfl) | (rw [hA]; done)
   have hq3 : false = (((M.chkW s).1).rules).skip := by first | (rw [hE]; done) | (rw [hE]; rfl) | (rw [hA]; done)
   have hq4 : false = (((M.chkW s).1).rules).relay := by first | (rw [hE]; done) | (rw [hE]; rfl) | (rw [hA]; done)
   have hq5 : false = (((M.chkW s).1).rules).feed := by first | (rw [hE]; done) | (rw [hE]; rfl) | (rw [hA]; done)
   have hq6 : false = (((M.chkW s).1).rules).again := by first | (rw [hE]; done) | (rw [hE]; rfl) | (rw [hA]; done)
   have hq7 : 0 = (((M.chkW s).1).rules).capture := by first | (rw [hE]; done) | (rw [hE]; rfl) | (rw [hA]; done)
   have hq8 : 0 = (((M.chkW s).1).rules).slam := by first | (rw [hE]; done) | (rw [hE]; rfl) | (rw [hA]; done)
   have hq9 : [] = (((M.chkW s).1).start).pits := by first | (rw [hE]; done) | (rw [hE]; rfl) | (rw [hA]; done)
   have hq10 : [] = (((M.chkW s).1).start).stores := by first | (rw [hE]; done) | (rw [hE]; rfl) | (rw [hA]; done)
   have hq11 : 0 = (((M.chkW s).1).start).player := by first | (rw [hE]; done) | (rw [hE]; rfl) | (rw [hA]; done)
   have hq12 : [] = ((M.chkW s).1).moves := by first | (rw [hE]; done) | (rw [hE]; rfl) | (rw [hA]; done)
   have hq13 : [] = (((M.chkW s).1).now).pits := by first | (rw [hE]; done) | (rw [hE]; rfl) | (rw [hA]; done)
   have hq14 : [] = (((M.chkW s).1).now).stores := by first | (rw [hE]; done) | (rw [hE]; rfl) | (rw [hA]; done)
   have hq15 : 0 = (((M.chkW s).1).now).player := by first | (rw [hE]; done) | (rw [hE]; rfl) | (rw [hA]; done)
   have hq16 : 0 = ((M.chkW s).1).resigned := by first | (rw [hE]; done) | (rw [hE]; rfl) | (rw [hA]; done)
   have hq17 : ((((((M.split (M.u8 10) s).length) : Int) - 1) + 1) - 1) = M.atS s := by first | (rw [hE]; done) | (rw [hE]; rfl) | (rw [hA]; done)
   have hq18 : 7 = (M.chkW s).2.2 := by first | (rw [hE]; done) | (rw [hE]; rfl) | (rw [hA]; done)
   refine zS <| Qb ?_
   refine Qm rfl <| Qs rfl rfl <| zw 8 rfl rfl rfl ?_
   refine Qa rfl <| Qa rfl <| JL.nil ?_
   exact zro x22
  have hE := hS.done hkl (by have h9 := h42; rw [hwh]; simpa using h9)
  have hA := M.atS_0 hE
  have hq0 : gk.rules.pits = (((M.chkW s).1).rules).pits := by first | (rw [hE]; done) | (rw [hE]; rfl) | (rw [hA]; done)
  have hq1 : gk.rules.seeds = (((M.chkW s).1).rules).seeds := by first | (rw [hE]; done) | (rw [hE]; rfl) | (rw [hA]; done)
  have hq2 : gk.rules.stores = (((M.chkW s).1).rules).stores := by first | (rw [hE]; done) | (rw [hE]; rfl) | (rw [hA]; done)
  have hq3 : gk.rules.skip = (((M.chkW s).1).rules).skip := by first | (rw [hE]; done) | (rw [hE]; rfl) | (rw [hA]; done)
  have hq4 : gk.rules.relay = (((M.chkW s).1).rules).relay := by first | (rw [hE]; done) | (rw [hE]; rfl) | (rw [hA]; done)
  have hq5 : gk.rules.feed = (((M.chkW s).1).rules).feed := by first | (rw [hE]; done) | (rw [hE]; rfl) | (rw [hA]; done)
  have hq6 : gk.rules.again = (((M.chkW s).1).rules).again := by first | (rw [hE]; done) | (rw [hE]; rfl) | (rw [hA]; done)
  have hq7 : gk.rules.capture = (((M.chkW s).1).rules).capture := by first | (rw [hE]; done) | (rw [hE]; rfl) | (rw [hA]; done)
  have hq8 : gk.rules.slam = (((M.chkW s).1).rules).slam := by first | (rw [hE]; done) | (rw [hE]; rfl) | (rw [hA]; done)
  have hq9 : gk.start.pits = (((M.chkW s).1).start).pits := by first | (rw [hE]; done) | (rw [hE]; rfl) | (rw [hA]; done)
  have hq10 : gk.start.stores = (((M.chkW s).1).start).stores := by first | (rw [hE]; done) | (rw [hE]; rfl) | (rw [hA]; done)
  have hq11 : gk.start.player = (((M.chkW s).1).start).player := by first | (rw [hE]; done) | (rw [hE]; rfl) | (rw [hA]; done)
  have hq12 : gk.moves = ((M.chkW s).1).moves := by first | (rw [hE]; done) | (rw [hE]; rfl) | (rw [hA]; done)
  have hq13 : gk.now.pits = (((M.chkW s).1).now).pits := by first | (rw [hE]; done) | (rw [hE]; rfl) | (rw [hA]; done)
  have hq14 : gk.now.stores = (((M.chkW s).1).now).stores := by first | (rw [hE]; done) | (rw [hE]; rfl) | (rw [hA]; done)
  have hq15 : gk.now.player = (((M.chkW s).1).now).player := by first | (rw [hE]; done) | (rw [hE]; rfl) | (rw [hA]; done)
  have hq16 : gk.resigned = ((M.chkW s).1).resigned := by first | (rw [hE]; done) | (rw [hE]; rfl) | (rw [hA]; done)
  have hq17 : 0 = M.atS s := by first | (rw [hE]; done) | (rw [hE]; rfl) | (rw [hA]; done)
  have hq18 : 0 = (M.chkW s).2.2 := by first | (rw [hE]; done) | (rw [hE]; rfl) | (rw [hA]; done)
  refine Js.skip <| zS <| Q9 0 rfl rfl ?_
  refine zw 8 rfl rfl rfl ?_
  refine Qa rfl <| Qa rfl <| JL.nil ?_
  exact zro x22
 have hrs : M.recS s = (M.split (M.u8 10) s) := M.recS_y (by have h9 := h7; rw [hwh]; simp_all) (fun d2 => by have h9 := h7; have d3 : (M.split (M.u8 10) s).length = 1 := d2; simp_all)
 have hr2 : 2 ≤ ((M.split (M.u8 10) s)).length := by rw [← hrs]; exact M.recS_two s
 have hmem : ∀ x ∈ ((M.split (M.u8 10) s)), x.length ≤ 90000 := fun x hx => Nat.le_trans (M.recS_mem (by rw [hrs]; exact hx)) (by omega)
 obtain ⟨y0_, hy0_⟩ : ∃ x, ((M.split (M.u8 10) s))[0]? = some x := ⟨_, List.getElem?_eq_getElem (by omega)⟩
 obtain ⟨y1_, hy1_⟩ : ∃ x, ((M.split (M.u8 10) s))[1]? = some x := ⟨_, List.getElem?_eq_getElem (by omega)⟩
 obtain ⟨H1_, H2_⟩ := M.head_law (s := s) (x := M.headS (M.ln (M.split (M.u8 10) s) 0) (M.ln (M.split (M.u8 10) s) 1) (decide (((M.split (M.u8 10) s)).length = 2) && !(decide (ye3 = ([] : List UInt8))))) (l0 := y0_) (l1 := y1_) (by rw [hrs]; exact hy0_) (by rw [hrs]; exact hy1_) (by rw [hrs, hwh, M.ln_get hy0_, M.ln_get hy1_])
 refine Js.skip <| zS <| Qm rfl <| Qm rfl <| zc rfl (fun w hw => c_spec_l10Head (M.split (M.u8 10) s) (decide (ye3 = ([] : List UInt8))) (strs_rowok (xs := (M.split (M.u8 10) s)) (hw.pr (i := 0) rfl))) ?_
 intro A45 c45 bl45 bh45 A46 c46 bl46 bh46 A47 c47 bl47 bh47 A48 c48 bl48 bh48 A49 c49 bl49 bh49
 refine Qm rfl <| Qx rfl rfl <| Qx rfl rfl <| Qx rfl rfl <| za zeh fun b50 => zw 0 rfl rfl rfl ?_
 refine Qa rfl <| Qa rfl <| zJ <| zS <| Qm rfl <| Qd rfl rfl <| JL.nil ?_
 refine zi (fun h51 h51' => ?_) fun h51 h51' => ?_
 ·
  have n0 := h51
  have hE := H1_ (by simpa using n0)
  have hA := M.atS_b hE (by simpa using n0)
  have hq0 : 0 = (((M.chkW s).1).rules).pits := by first | (rw [hE]; done) | (rw [hE]; rfl) | (rw [hA]; done)
  have hq1 : 0 = (((M.chkW s).1).rules).seeds := by first | (rw [hE]; done) | (rw [hE]; rfl) | (rw [hA]; done)
  have hq2 : false = (((M.chkW s).1).rules).stores := by first | (rw [hE]; done) | (rw [hE]; rfl) | (rw [hA]; done)
  have hq3 : false = (((M.chkW s).1).rules).skip := by first | (rw [hE]; done) | (rw [hE]; rfl) | (rw [hA]; done)
  have hq4 : false = (((M.chkW s).1).rules).relay := by first | (rw [hE]; done) | (rw [hE]; rfl) | (rw [hA]; done)
  have hq5 : false = (((M.chkW s).1).rules).feed := by first | (rw [hE]; done) | (rw [hE]; rfl) | (rw [hA]; done)
  have hq6 : false = (((M.chkW s).1).rules).again := by first | (rw [hE]; done) | (rw [hE]; rfl) | (rw [hA]; done)
  have hq7 : 0 = (((M.chkW s).1).rules).capture := by first | (rw [hE]; done) | (rw [hE]; rfl) | (rw [hA]; done)
  have hq8 : 0 = (((M.chkW s).1).rules).slam := by first | (rw [hE]; done) | (rw [hE]; rfl) | (rw [hA]; done)
  have hq9 : [] = (((M.chkW s).1).start).pits := by first | (rw [hE]; done) | (rw [hE]; rfl) | (rw [hA]; done)
  have hq10 : [] = (((M.chkW s).1).start).stores := by first | (rw [hE]; done) | (rw [hE]; rfl) | (rw [hA]; done)
  have hq11 : 0 = (((M.chkW s).1).start).player := by first | (rw [hE]; done) | (rw [hE]; rfl) | (rw [hA]; done)
  have hq12 : [] = ((M.chkW s).1).moves := by first | (rw [hE]; done) | (rw [hE]; rfl) | (rw [hA]; done)
  have hq13 : [] = (((M.chkW s).1).now).pits := by first | (rw [hE]; done) | (rw [hE]; rfl) | (rw [hA]; done)
  have hq14 : [] = (((M.chkW s).1).now).stores := by first | (rw [hE]; done) | (rw [hE]; rfl) | (rw [hA]; done)
  have hq15 : 0 = (((M.chkW s).1).now).player := by first | (rw [hE]; done) | (rw [hE]; rfl) | (rw [hA]; done)
  have hq16 : 0 = ((M.chkW s).1).resigned := by first | (rw [hE]; done) | (rw [hE]; rfl) | (rw [hA]; done)
  have hq17 : ((M.headS (M.ln (M.split (M.u8 10) s) 0) (M.ln (M.split (M.u8 10) s) 1) (decide ((M.split (M.u8 10) s).length = 2) && !(decide (ye3 = ([] : List UInt8))))).2.1) = M.atS s := by first | (rw [hE]; done) | (rw [hE]; rfl) | (rw [hA]; done)
  have hq18 : ((M.headS (M.ln (M.split (M.u8 10) s) 0) (M.ln (M.split (M.u8 10) s) 1) (decide ((M.split (M.u8 10) s).length = 2) && !(decide (ye3 = ([] : List UInt8))))).2.2) = (M.chkW s).2.2 := by first | (rw [hE]; done) | (rw [hE]; rfl) | (rw [hA]; done)
  refine zS <| Qb ?_
  refine Qm rfl <| Qm rfl <| zw 7 rfl rfl rfl ?_
  refine Qa rfl <| Qa rfl <| JL.nil ?_
  exact zro (Up.refl _ _)
 have hS0 := H2_ (by simpa using h51)
 refine Js.skip <| Js.seq <| zS <| Qa rfl <| JL.nil <| Js.block ?_
 refine zl [2, 5, 6, 7, 8] (fun F U l os u m => ∃ (k : Nat) (gk : M.Gam) (A52_8_9 : Option Addr) (c52_8_9 : Nat) (g52_8_9 : List Nat) (A52_8_10 : Option Addr) (c52_8_10 : Nat) (g52_8_10 : List Nat) (A52_8_12 : Option Addr) (c52_8_12 : Nat) (g52_8_12 : List Nat) (A52_8_13 : Option Addr) (c52_8_13 : Nat) (g52_8_13 : List Nat) (A52_8_14 : Option Addr) (c52_8_14 : Nat) (g52_8_14 : List Nat), l = F [(11, .int .i64 (k : Int))] ∧ os = U [some (boxO b50 [.int .i64 gk.rules.pits, .int .i64 gk.rules.seeds, .bool gk.rules.stores, .bool gk.rules.skip, .bool gk.rules.relay, .bool gk.rules.feed, .bool gk.rules.again, .int .i64 gk.rules.capture, .int .i64 gk.rules.slam, .slice A52_8_9 gk.start.pits.length c52_8_9, .slice A52_8_10 gk.start.stores.length c52_8_10, .int .i64 gk.start.player, .slice A52_8_12 gk.moves.length c52_8_12, .slice A52_8_13 gk.now.pits.length c52_8_13, .slice A52_8_14 gk.now.stores.length c52_8_14, .int .i64 gk.now.player, .int .i64 gk.resigned] 53), some (rowO 2 1 (.slice A52_8_14 gk.now.stores.length c52_8_14) gk.now.stores.length (ints_ gk.now.stores) g52_8_14), some (rowO 2 1 (.slice A52_8_13 gk.now.pits.length c52_8_13) gk.now.pits.length (ints_ gk.now.pits) g52_8_13), some (rowO 2 1 (.slice A52_8_12 gk.moves.length c52_8_12) gk.moves.length (ints_ gk.moves) g52_8_12), some (rowO 2 1 (.slice A52_8_10 gk.start.stores.length c52_8_10) gk.start.stores.length (ints_ gk.start.stores) g52_8_10), some (rowO 2 1 (.slice A52_8_9 gk.start.pits.length c52_8_9) gk.start.pits.length (ints_ gk.start.pits) g52_8_9)] ∧ (M.SpI s k gk) ∧ (gk.start.pits.length ≤ c52_8_9) ∧ (c52_8_9 ≤ 9223372036854775807) ∧ (gk.start.stores.length ≤ c52_8_10) ∧ (c52_8_10 ≤ 9223372036854775807) ∧ (gk.moves.length ≤ c52_8_12) ∧ (c52_8_12 ≤ 9223372036854775807) ∧ (gk.now.pits.length ≤ c52_8_13) ∧ (c52_8_13 ≤ 9223372036854775807) ∧ (gk.now.stores.length ≤ c52_8_14) ∧ (c52_8_14 ≤ 9223372036854775807) ∧ m = (M.recL s).length - k) ⟨2, (M.headS (M.ln (M.split (M.u8 10) s) 0) (M.ln (M.split (M.u8 10) s) 1) (decide (((M.split (M.u8 10) s)).length = 2) && !(decide (ye3 = ([] : List UInt8))))).1, _, _, _, _, _, _, _, _, _, _, _, _, _, _, _, rfl, rfl, by exact hS0, zu, zu, zu, zu, zu, zu, zu, zu, zu, zu, rfl⟩ ?_
 rintro _ _ u52 _ ⟨k, gk, A52_8_9, c52_8_9, g52_8_9, A52_8_10, c52_8_10, g52_8_10, A52_8_12, c52_8_12, g52_8_12, A52_8_13, c52_8_13, g52_8_13, A52_8_14, c52_8_14, g52_8_14, rfl, rfl, hS, f52_1, f52_2, f52_3, f52_4, f52_5, f52_6, f52_7, f52_8, f52_9, f52_10, rfl⟩ x52
 refine zn ?_
 obtain ⟨gb1, gb2, gb3, gb4, gb5⟩ := M.okG_bd hS.ok
 have hkn := hS.kn
 have hll : (M.recS s).length = (M.recL s).length + 1 := by rw [hS.l]; simp
 refine Js.seq <| zS <| Qm rfl <| Qm rfl <| Ql rfl rfl <| JL.nil ?_
 refine zi (fun h53 h53' => ?_) fun h53 h53' => ?_
 ·
  have hkl : k < (M.recL s).length := by have h9 := h53'; rw [hrs] at hll; (try simp at hll); omega
  have hkc : k < (M.recS s).length := by omega
  rw [hrs] at hkc
  obtain ⟨ye54, hye54⟩ : ∃ x, (M.split (M.u8 10) s)[k]? = some x := ⟨_, List.getElem?_eq_getElem (by omega)⟩
  have hyr : (M.recS s)[k]? = some ye54 := by rw [hrs]; exact hye54
  have hyl := hmem _ (List.mem_of_getElem? hye54)
  have hal := M.aft_len ye54 ([114, 101, 115, 105, 103, 110, 115] : List UInt8)
  have hye54 : (M.split (M.u8 10) s : List (List UInt8))[k]? = some ye54 := hye54
  refine Js.skip <| Js.seq <| Js.block <| zS <| Qm rfl <| Qm rfl <| Qq (p_indexAddr el_31 rfl rfl (by omega) (by omega) rfl) <| Qw (q_load1 ty_9.h rfl (Mem.row (i := 6) rfl (txs_get' (xs := (M.split (M.u8 10) s)) hye54))) <| zv rfl (fun w hw => c_spec_l10After ye54 ([114, 101, 115, 105, 103, 110, 115] : List UInt8)) <| Qm rfl <| Qx rfl rfl <| Qx rfl rfl <| Qa rfl <| Qa rfl ?_
  refine zJ <| Js.block <| zS <| Qf fh rfl <| Q0 0 rfl rfl rfl <| Qh rfl rfl <| Qa rfl <| JL.nil ?_
  refine zi (fun h57 h57' => ?_) fun h57 h57' => ?_
  ·
   have hE := hS.bad hkl hyr (M.lineI_7 (by simpa using h57)) (show ¬ (7 : Int) = 0 by decide)
   have hA := M.atS_b hE (show ¬ (7 : Int) = 0 by decide)
   have hq0 : 0 = (((M.chkW s).1).rules).pits := by first | (rw [hE]; done) | (rw [hE]; rfl) | (rw [hA]; done)
   have hq1 : 0 = (((M.chkW s).1).rules).seeds := by first | (rw [hE]; done) | (rw [hE]; rfl) | (rw [hA]; done)
   have hq2 : false = (((M.chkW s).1).rules).stores := by first | (rw [hE]; done) | (rw [hE]; rfl) | (rw [hA]; done)
   have hq3 : false = (((M.chkW s).1).rules).skip := by first | (rw [hE]; done) | (rw [hE]; rfl) | (rw [hA]; done)
   have hq4 : false = (((M.chkW s).1).rules).relay := by first | (rw [hE]; done) | (rw [hE]; rfl) | (rw [hA]; done)
   have hq5 : false = (((M.chkW s).1).rules).feed := by first | (rw [hE]; done) | (rw [hE]; rfl) | (rw [hA]; done)
   have hq6 : false = (((M.chkW s).1).rules).again := by first | (rw [hE]; done) | (rw [hE]; rfl) | (rw [hA]; done)
   have hq7 : 0 = (((M.chkW s).1).rules).capture := by first | (rw [hE]; done) | (rw [hE]; rfl) | (rw [hA]; done)
   have hq8 : 0 = (((M.chkW s).1).rules).slam := by first | (rw [hE]; done) | (rw [hE]; rfl) | (rw [hA]; done)
   have hq9 : [] = (((M.chkW s).1).start).pits := by first | (rw [hE]; done) | (rw [hE]; rfl) | (rw [hA]; done)
   have hq10 : [] = (((M.chkW s).1).start).stores := by first | (rw [hE]; done) | (rw [hE]; rfl) | (rw [hA]; done)
   have hq11 : 0 = (((M.chkW s).1).start).player := by first | (rw [hE]; done) | (rw [hE]; rfl) | (rw [hA]; done)
   have hq12 : [] = ((M.chkW s).1).moves := by first | (rw [hE]; done) | (rw [hE]; rfl) | (rw [hA]; done)
   have hq13 : [] = (((M.chkW s).1).now).pits := by first | (rw [hE]; done) | (rw [hE]; rfl) | (rw [hA]; done)
   have hq14 : [] = (((M.chkW s).1).now).stores := by first | (rw [hE]; done) | (rw [hE]; rfl) | (rw [hA]; done)
   have hq15 : 0 = (((M.chkW s).1).now).player := by first | (rw [hE]; done) | (rw [hE]; rfl) | (rw [hA]; done)
   have hq16 : 0 = ((M.chkW s).1).resigned := by first | (rw [hE]; done) | (rw [hE]; rfl) | (rw [hA]; done)
   have hq17 : (k : Int) = M.atS s := by first | (rw [hE]; done) | (rw [hE]; rfl) | (rw [hA]; done)
   have hq18 : 7 = (M.chkW s).2.2 := by first | (rw [hE]; done) | (rw [hE]; rfl) | (rw [hA]; done)
   refine zS <| Qb ?_
   refine Qm rfl <| zw 7 rfl rfl rfl ?_
   refine Qa rfl <| Qa rfl <| JL.nil ?_
   exact zro x52
  have n7 : ¬ 0 ≤ gk.resigned := by simpa using h57
  refine zS <| Qm rfl <| Qm rfl <| zg (Gd.t1 rfl rfl rfl) (fun hc => p_move rfl) <| zg (Gd.t1 rfl rfl rfl) (fun hc => p_eqlT und_9 (gh hc rfl) rfl) <| zg (Gd.t1 rfl rfl rfl) (fun hc => p_move (gh hc rfl)) <| zg (Gd.f2 rfl rfl rfl) (fun hc => p_move rfl) <| zg (Gd.f2 rfl rfl rfl) (fun hc => p_eqlT und_9 (gh hc rfl) rfl) <| zg (Gd.t1 rfl rfl rfl) (fun hc => p_pickOr (gh hc rfl) rfl (gvl rfl hc)) <| Qq (p_pickAnd rfl rfl rfl) <| Qa rfl <| JL.nil ?_
  refine zi (fun h58 h58' => ?_) fun h58 h58' => ?_
  ·
   have hc9 := h58
   have hq : (M.aft ye54 M.resW).2 = true ∧ ((M.aft ye54 M.resW).1 = [48] ∨ (M.aft ye54 M.resW).1 = [49]) := by simpa [M.resW] using hc9
   have hS2 := hS.step hkl hyr (M.res_line n7 hq.1 hq.2) rfl
   refine zS <| Qm rfl <| zv rfl (fun w hw => c_spec_l01Number ((M.aft ye54 ([114, 101, 115, 105, 103, 110, 115] : List UInt8)).1)) <| Qm rfl <| Qx rfl rfl <| Qx rfl rfl <| Qa rfl <| Qa rfl <| zN <| Qm rfl <| Qf fh rfl <| zw 0 rfl rfl rfl ?_
   refine JL.nil ?_
   refine zx ?_
   refine Js.region <| Qm rfl <| Qp rfl rfl <| Qa rfl <| JL.nil ?_
   exact zag ⟨k + 1, M.resG gk (M.num (M.aft ye54 M.resW).1).1, _, _, _, _, _, _, _, _, _, _, _, _, _, _, _, rfl, rfl, by exact hS2, by first | omega | (dsimp only [M.resG]; omega), by first | omega | (dsimp only [M.resG]; omega), by first | omega | (dsimp only [M.resG]; omega), by first | omega | (dsimp only [M.resG]; omega), by first | omega | (dsimp only [M.resG]; omega), by first | omega | (dsimp only [M.resG]; omega), by first | omega | (dsimp only [M.resG]; omega), by first | omega | (dsimp only [M.resG]; omega), by first | omega | (dsimp only [M.resG]; omega), by first | omega | (dsimp only [M.resG]; omega), rfl⟩ x52 (by omega)
  have hc9 := h58
  obtain ⟨n0, n1⟩ := M.res_not (y := ye54) (by have h9 := hc9; simp only [M.resW]; simpa using h9)
  have hye54 : (M.split (M.u8 10) s : List (List UInt8))[k]? = some ye54 := hye54
  refine Js.skip <| Js.blockEnd <| zS <| Qm rfl <| Qm rfl <| Qq (p_indexAddr el_31 rfl rfl (by omega) (by omega) rfl) <| Qw (q_load1 ty_9.h rfl (Mem.row (i := 6) rfl (txs_get' (xs := (M.split (M.u8 10) s)) hye54))) <| zc rfl (fun w hw => c_spec_l10Next gk ye54 (ok_ hw)) ?_
  intro A63 c63 bl63 bh63 A64 c64 bl64 bh64 A65 c65 bl65 bh65 A66 c66 bl66 bh66 A67 c67 bl67 bh67
  refine Qm rfl <| Qx rfl rfl <| Qx rfl rfl <| za zeh fun b68 => zw 0 rfl rfl rfl ?_
  refine Qa rfl <| zJ <| zS <| Qm rfl <| Qd rfl rfl <| JL.nil ?_
  refine zi (fun h69 h69' => ?_) fun h69 h69' => ?_
  ·
   have n9 : ¬ (M.nextR gk (M.numR ye54)).2 = 0 := by simpa using h69
   have hE := hS.bad hkl hyr (M.lineI_n n7 n0 n1 n9) n9
   have hA := M.atS_b hE n9
   have hq0 : 0 = (((M.chkW s).1).rules).pits := by first | (rw [hE]; done) | (rw [hE]; rfl) | (rw [hA]; done)
   have hq1 : 0 = (((M.chkW s).1).rules).seeds := by first | (rw [hE]; done) | (rw [hE]; rfl) | (rw [hA]; done)
   have hq2 : false = (((M.chkW s).1).rules).stores := by first | (rw [hE]; done) | (rw [hE]; rfl) | (rw [hA]; done)
   have hq3 : false = (((M.chkW s).1).rules).skip := by first | (rw [hE]; done) | (rw [hE]; rfl) | (rw [hA]; done)
   have hq4 : false = (((M.chkW s).1).rules).relay := by first | (rw [hE]; done) | (rw [hE]; rfl) | (rw [hA]; done)
   have hq5 : false = (((M.chkW s).1).rules).feed := by first | (rw [hE]; done) | (rw [hE]; rfl) | (rw [hA]; done)
   have hq6 : false = (((M.chkW s).1).rules).again := by first | (rw [hE]; done) | (rw [hE]; rfl) | (rw [hA]; done)
   have hq7 : 0 = (((M.chkW s).1).rules).capture := by first | (rw [hE]; done) | (rw [hE]; rfl) | (rw [hA]; done)
   have hq8 : 0 = (((M.chkW s).1).rules).slam := by first | (rw [hE]; done) | (rw [hE]; rfl) | (rw [hA]; done)
   have hq9 : [] = (((M.chkW s).1).start).pits := by first | (rw [hE]; done) | (rw [hE]; rfl) | (rw [hA]; done)
   have hq10 : [] = (((M.chkW s).1).start).stores := by first | (rw [hE]; done) | (rw [hE]; rfl) | (rw [hA]; done)
   have hq11 : 0 = (((M.chkW s).1).start).player := by first | (rw [hE]; done) | (rw [hE]; rfl) | (rw [hA]; done)
   have hq12 : [] = ((M.chkW s).1).moves := by first | (rw [hE]; done) | (rw [hE]; rfl) | (rw [hA]; done)
   have hq13 : [] = (((M.chkW s).1).now).pits := by first | (rw [hE]; done) | (rw [hE]; rfl) | (rw [hA]; done)
   have hq14 : [] = (((M.chkW s).1).now).stores := by first | (rw [hE]; done) | (rw [hE]; rfl) | (rw [hA]; done)
   have hq15 : 0 = (((M.chkW s).1).now).player := by first | (rw [hE]; done) | (rw [hE]; rfl) | (rw [hA]; done)
   have hq16 : 0 = ((M.chkW s).1).resigned := by first | (rw [hE]; done) | (rw [hE]; rfl) | (rw [hA]; done)
   have hq17 : (k : Int) = M.atS s := by first | (rw [hE]; done) | (rw [hE]; rfl) | (rw [hA]; done)
   have hq18 : ((M.nextR gk (M.numR ye54)).2) = (M.chkW s).2.2 := by first | (rw [hE]; done) | (rw [hE]; rfl) | (rw [hA]; done)
   refine zS <| Qb ?_
   refine Qm rfl <| Qm rfl <| zw 13 rfl rfl rfl ?_
   refine Qa rfl <| Qa rfl <| JL.nil ?_
   exact zro x52
  have n9 : (M.nextR gk (M.numR ye54)).2 = 0 := by simpa using h69
  have hS2 := hS.step hkl hyr (M.lineI_y n7 n0 n1 n9) rfl
  refine Js.skip <| Js.region <| Q9 0 rfl rfl ?_
  refine zw 6 rfl rfl rfl ?_
  refine JL.nil <| Js.blockEnd <| Js.region <| Qm rfl <| Qp rfl rfl <| Qa rfl <| JL.nil ?_
  refine zd [6, 1, 1, 1, 1, 1, 6, 6] rfl fun u70 x70 => ?_
  exact zag ⟨k + 1, (M.nextR gk (M.numR ye54)).1, _, _, _, _, _, _, _, _, _, _, _, _, _, _, _, rfl, rfl, by exact hS2, by first | omega | (dsimp only [M.resG]; omega), by first | omega | (dsimp only [M.resG]; omega), by first | omega | (dsimp only [M.resG]; omega), by first | omega | (dsimp only [M.resG]; omega), by first | omega | (dsimp only [M.resG]; omega), by first | omega | (dsimp only [M.resG]; omega), by first | omega | (dsimp only [M.resG]; omega), by first | omega | (dsimp only [M.resG]; omega), by first | omega | (dsimp only [M.resG]; omega), by first | omega | (dsimp only [M.resG]; omega), rfl⟩ (x52.trans x70) (by omega)
 have hkl : (M.recL s).length ≤ k := by have h9 := h53'; have hll : (M.recS s).length = (M.recL s).length + 1 := (by rw [hS.l]; simp); rw [hrs] at hll; (try simp at hll); omega
 refine zx ?_
 refine Js.seq <| zS <| Qm rfl <| Qt rfl <| JL.nil ?_
 refine zi (fun h71 h71' => ?_) fun h71 h71' => ?_
 ·
  have hE := hS.end_ hkl (by have h9 := h71; rw [hwh]; simpa using h9)
  have hA := M.atS_b hE (show ¬ (7 : Int) = 0 by decide)
  have hkq : (k : Int) = (((M.split (M.u8 10) s).length) : Int) - 1 := by have h8 := hS.kn; have hll : (M.recS s).length = (M.recL s).length + 1 := (by rw [hS.l]; simp); rw [hrs] at hll; (try simp at hll); omega
  rw [hkq] at hA
  have hq0 : 0 = (((M.chkW s).1).rules).pits := by first | (rw [hE]; done) | (rw [hE]; rfl) | (rw [hA]; done)
  have hq1 : 0 = (((M.chkW s).1).rules).seeds := by first | (rw [hE]; done) | (rw [hE]; rfl) | (rw [hA]; done)
  have hq2 : false = (((M.chkW s).1).rules).stores := by first | (rw [hE]; done) | (rw [hE]; rfl) | (rw [hA]; done)
  have hq3 : false = (((M.chkW s).1).rules).skip := by first | (rw [hE]; done) | (rw [hE]; rfl) | (rw [hA]; done)
  have hq4 : false = (((M.chkW s).1).rules).relay := by first | (rw [hE]; done) | (rw [hE]; rfl) | (rw [hA]; done)
  have hq5 : false = (((M.chkW s).1).rules).feed := by first | (rw [hE]; done) | (rw [hE]; rfl) | (rw [hA]; done)
  have hq6 : false = (((M.chkW s).1).rules).again := by first | (rw [hE]; done) | (rw [hE]; rfl) | (rw [hA]; done)
  have hq7 : 0 = (((M.chkW s).1).rules).capture := by first | (rw [hE]; done) | (rw [hE]; rfl) | (rw [hA]; done)
  have hq8 : 0 = (((M.chkW s).1).rules).slam := by first | (rw [hE]; done) | (rw [hE]; rfl) | (rw [hA]; done)
  have hq9 : [] = (((M.chkW s).1).start).pits := by first | (rw [hE]; done) | (rw [hE]; rfl) | (rw [hA]; done)
  have hq10 : [] = (((M.chkW s).1).start).stores := by first | (rw [hE]; done) | (rw [hE]; rfl) | (rw [hA]; done)
  have hq11 : 0 = (((M.chkW s).1).start).player := by first | (rw [hE]; done) | (rw [hE]; rfl) | (rw [hA]; done)
  have hq12 : [] = ((M.chkW s).1).moves := by first | (rw [hE]; done) | (rw [hE]; rfl) | (rw [hA]; done)
  have hq13 : [] = (((M.chkW s).1).now).pits := by first | (rw [hE]; done) | (rw [hE]; rfl) | (rw [hA]; done)
  have hq14 : [] = (((M.chkW s).1).now).stores := by first | (rw [hE]; done) | (rw [hE]; rfl) | (rw [hA]; done)
  have hq15 : 0 = (((M.chkW s).1).now).player := by first | (rw [hE]; done) | (rw [hE]; rfl) | (rw [hA]; done)
  have hq16 : 0 = ((M.chkW s).1).resigned := by first | (rw [hE]; done) | (rw [hE]; rfl) | (rw [hA]; done)
  have hq17 : (((((M.split (M.u8 10) s).length) : Int) - 1) - 1) = M.atS s := by first | (rw [hE]; done) | (rw [hE]; rfl) | (rw [hA]; done)
  have hq18 : 7 = (M.chkW s).2.2 := by first | (rw [hE]; done) | (rw [hE]; rfl) | (rw [hA]; done)
  refine zS <| Qb ?_
  refine Qm rfl <| Qs rfl rfl <| zw 7 rfl rfl rfl ?_
  refine Qa rfl <| Qa rfl <| JL.nil ?_
  exact zro x52
 have hE := hS.done hkl (by have h9 := h71; rw [hwh]; simpa using h9)
 have hA := M.atS_0 hE
 have hq0 : gk.rules.pits = (((M.chkW s).1).rules).pits := by first | (rw [hE]; done) | (rw [hE]; rfl) | (rw [hA]; done)
 have hq1 : gk.rules.seeds = (((M.chkW s).1).rules).seeds := by first | (rw [hE]; done) | (rw [hE]; rfl) | (rw [hA]; done)
 have hq2 : gk.rules.stores = (((M.chkW s).1).rules).stores := by first | (rw [hE]; done) | (rw [hE]; rfl) | (rw [hA]; done)
 have hq3 : gk.rules.skip = (((M.chkW s).1).rules).skip := by first | (rw [hE]; done) | (rw [hE]; rfl) | (rw [hA]; done)
 have hq4 : gk.rules.relay = (((M.chkW s).1).rules).relay := by first | (rw [hE]; done) | (rw [hE]; rfl) | (rw [hA]; done)
 have hq5 : gk.rules.feed = (((M.chkW s).1).rules).feed := by first | (rw [hE]; done) | (rw [hE]; rfl) | (rw [hA]; done)
 have hq6 : gk.rules.again = (((M.chkW s).1).rules).again := by first | (rw [hE]; done) | (rw [hE]; rfl) | (rw [hA]; done)
 have hq7 : gk.rules.capture = (((M.chkW s).1).rules).capture := by first | (rw [hE]; done) | (rw [hE]; rfl) | (rw [hA]; done)
 have hq8 : gk.rules.slam = (((M.chkW s).1).rules).slam := by first | (rw [hE]; done) | (rw [hE]; rfl) | (rw [hA]; done)
 have hq9 : gk.start.pits = (((M.chkW s).1).start).pits := by first | (rw [hE]; done) | (rw [hE]; rfl) | (rw [hA]; done)
 have hq10 : gk.start.stores = (((M.chkW s).1).start).stores := by first | (rw [hE]; done) | (rw [hE]; rfl) | (rw [hA]; done)
 have hq11 : gk.start.player = (((M.chkW s).1).start).player := by first | (rw [hE]; done) | (rw [hE]; rfl) | (rw [hA]; done)
 have hq12 : gk.moves = ((M.chkW s).1).moves := by first | (rw [hE]; done) | (rw [hE]; rfl) | (rw [hA]; done)
 have hq13 : gk.now.pits = (((M.chkW s).1).now).pits := by first | (rw [hE]; done) | (rw [hE]; rfl) | (rw [hA]; done)
 have hq14 : gk.now.stores = (((M.chkW s).1).now).stores := by first | (rw [hE]; done) | (rw [hE]; rfl) | (rw [hA]; done)
 have hq15 : gk.now.player = (((M.chkW s).1).now).player := by first | (rw [hE]; done) | (rw [hE]; rfl) | (rw [hA]; done)
 have hq16 : gk.resigned = ((M.chkW s).1).resigned := by first | (rw [hE]; done) | (rw [hE]; rfl) | (rw [hA]; done)
 have hq17 : 0 = M.atS s := by first | (rw [hE]; done) | (rw [hE]; rfl) | (rw [hA]; done)
 have hq18 : 0 = (M.chkW s).2.2 := by first | (rw [hE]; done) | (rw [hE]; rfl) | (rw [hA]; done)
 refine Js.skip <| zS <| Q9 0 rfl rfl ?_
 refine zw 7 rfl rfl rfl ?_
 refine Qa rfl <| Qa rfl <| JL.nil ?_
 exact zro x52
theorem c_spec_CheckRecord (s : List UInt8) {w : World} (r0 : s.length ≤ 1048576 := by exact om_) : RetV Tryz.prog 24 [.string (sB s)] w (.tuple #[.int .i64 ((M.chkC s).1), .int .i64 ((M.chkC s).2.1), .int .i64 ((M.chkC s).2.2)]) := by
 refine enter @Tryz.func24 @Tryz.ntmps24 rfl rfl ?_
 refine zent ?_
 refine zS <| Qa rfl <| Qa rfl <| Qa rfl <| zJ <| zS <| Qm rfl <| Qq (p_lenS und_9 rfl) <| Qg rfl rfl <| JL.nil ?_
 refine zi (fun h1 h1' => ?_) fun h1 h1' => ?_
 ·
  have hE := M.chkC_5 (s := s) (by have := h1'; omega)
  refine zS <| Qa rfl <| Qa rfl <| Qa rfl <| JL.nil ?_
  refine zR (Up.refl _ _) ?_
  first | (rw [hE]; done) | (rw [hE]; rfl)
 have hE := M.chkC_0 (s := s) (by have := h1'; omega)
 have hco := M.chkW_one s
 refine Js.skip <| zS <| Qm rfl <| zp rfl (fun w hw => c_spec_l10Read s) ?_
 intro u2 x2 A3 c3 h3 bl3 bh3 A4 c4 h4 bl4 bh4 A5 c5 h5 bl5 bh5 A6 c6 h6 bl6 bh6 A7 c7 h7 bl7 bh7
 refine Qm rfl <| Qx rfl rfl <| Qx rfl rfl <| Qx rfl rfl <| za zeh fun b8 => zw 0 rfl rfl rfl ?_
 refine Qa rfl <| Qa rfl <| zJ <| zS <| Qm rfl <| Qe rfl rfl <| JL.nil ?_
 refine zi (fun h9 h9' => ?_) fun h9 h9' => ?_
 ·
  have h0 : (M.chkW s).2.2 = 0 := by simpa using h9
  have h1 : (M.chkW s).2.1 = -1 := by rcases hco with h9 | h9; exact h9.1; exact absurd h0 h9.2.1
  rw [h0, h1] at hE
  refine zS <| Qa rfl <| Qa rfl <| Qa rfl <| JL.nil ?_
  refine zR x2 ?_
  first | (rw [hE]; done) | (rw [hE]; rfl)
 have h0 : ¬ (M.chkW s).2.2 = 0 := by simpa using h9
 have h1 : M.atS s = (M.chkW s).2.1 := if_neg h0
 rw [← h1] at hE
 refine Js.skip <| zS <| Qm rfl <| Qm rfl <| Qa rfl <| Qa rfl <| Qa rfl <| JL.nil ?_
 refine zR x2 ?_
 first | (rw [hE]; done) | (rw [hE]; rfl)
theorem c_laws_FnExactCheckRecord (aS : List UInt8) {w : World} (h_tab : tabT.ok w undef) : RetV Tryz.prog 4 [.string (sB aS)] w (.bool true) := by
 refine enter @Tryz.func4 @Tryz.ntmps4 rfl rfl ?_
 refine zent ?_
 refine zS <| Qa rfl <| zJ <| zS <| Qm rfl <| Qq (p_lenS und_9 rfl) <| Qg rfl rfl <| JL.nil ?_
 refine zi (fun h1 h1' => ?_) fun h1 h1' => ?_
 ·
  refine zS <| Qa rfl <| JL.nil ?_
  exact zr (Up.refl _ _)
 refine Js.skip <| zS <| Qm rfl <| zv rfl (fun w hw => c_spec_CheckRecord aS) <| Qm rfl <| Qx rfl rfl <| Qx rfl rfl <| Qx rfl rfl <| Qa rfl <| Qa rfl <| Qa rfl <| zN <| Qm rfl <| zv rfl (fun w hw => c_impl_CheckRecord aS (ok_ hw)) ?_
 refine Qm rfl <| Qx rfl rfl <| Qx rfl rfl <| Qx rfl rfl <| Qa rfl <| Qa rfl <| Qa rfl <| zJ <| zS <| Qm rfl <| Qm rfl <| Qd rfl rfl <| Qm rfl <| zg (Gd.f1 rfl rfl rfl) (fun hc => p_move rfl) ?_
 refine zg (Gd.f1 rfl rfl rfl) (fun hc => p_move rfl) <| zg (Gd.f1 rfl rfl rfl) (fun hc => p_neq (gh hc rfl) (gh hc rfl)) <| Qq (p_pickOr rfl rfl rfl) <| Qm rfl <| zg (Gd.f1 rfl rfl rfl) (fun hc => p_move rfl) <| zg (Gd.f1 rfl rfl rfl) (fun hc => p_move rfl) <| zg (Gd.f1 rfl rfl rfl) (fun hc => p_neq (gh hc rfl) (gh hc rfl)) <| Qq (p_pickOr rfl rfl rfl) <| JL.nil ?_
 refine zi (fun h2 h2' => ?_) fun h2 h2' => ?_
 · exact absurd h2 (by simp)
 refine Js.skip <| zS <| Qa rfl <| JL.nil ?_
 exact zr (Up.refl _ _)
end Go.Proofs.YtjgohnaobbphpaaGreatDoor

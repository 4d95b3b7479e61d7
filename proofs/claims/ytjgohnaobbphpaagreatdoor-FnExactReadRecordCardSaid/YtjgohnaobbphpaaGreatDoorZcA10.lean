/- Walks: K58. -/
import Derived.Test.YtjgohnaobbphpaaGreatDoorZcA3
import Derived.Test.YtjgohnaobbphpaaGreatDoorZcA9
import Derived.Test.YtjgohnaobbphpaaGreatDoorZcA5
import Derived.Test.YtjgohnaobbphpaaGreatDoorZcA7
import Derived.Test.YtjgohnaobbphpaaGreatDoorZcA4
set_option linter.unusedSimpArgs false
set_option linter.unusedVariables false
set_option maxRecDepth 100000
attribute [local irreducible] Go.Proofs.YtjgohnaobbphpaaGreatDoor.gv
set_option maxHeartbeats 16000000
namespace Go.Proofs.YtjgohnaobbphpaaGreatDoor
open Go.RowKit
theorem c_spec_l10Read (s : List UInt8) {w : World} (r0 : s.length ≤ 90000 := by exact om_) : Ret Tryz.prog 60 [.string (sB s)] w (Ty.tup [Ty.agg (cGame ((M.chkW s).1)), Ty.int (M.atS s), Ty.int ((M.chkW s).2.2)]) := by
 refine enter @Tryz.func60 @Tryz.ntmps60 rfl rfl ?_
 refine zent ?_
 refine zS <| za zeh fun b1 => Qa rfl <| Qa rfl <| zN <| Qm rfl <| zcs rfl (fun w hw => c_spec_l01Split s 10) ?_
 intro A2 c2 bl2 bh2
 have hp : 0 < (M.split (M.u8 10) s).length := List.length_pos_iff.2 (M.split_ne 10 s)
 have hpl : (M.split (M.u8 10) s).length ≤ s.length + 1 := M.split_len 10 s
 obtain ⟨ye3, hye3⟩ : ∃ x, (M.split (M.u8 10) s)[((((M.split (M.u8 10) s).length) : Int) - 1).toNat]? = some x := ⟨_, List.getElem?_eq_getElem (by omega)⟩
 have hwh : M.whole s = decide (ye3 = []) := M.whole_last (by rw [show (M.split 10 s).length - 1 = (((M.split (M.u8 10) s).length : Int) - 1).toNat by have h9 : (M.split (M.u8 10) s).length = (M.split 10 s).length := rfl; omega]; exact hye3)
 refine Qa rfl <| zN <| Qm rfl <| Qz rfl <| Qs rfl rfl <| Qa rfl <| zN <| Qm rfl <| Qm rfl ?_
 refine JL.fact (row_some (i := 0) rfl (by omega)) (fun hf5 => ?_)
 obtain ⟨b5, rfl⟩ := hf5
 have hye3 : (M.split (M.u8 10) s : List (List UInt8))[((((M.split (M.u8 10) s).length) : Int) - 1).toNat]? = some ye3 := hye3
 refine Qq (p_indexAddr el_31 rfl rfl (by omega) (by omega) rfl) <| Qw (q_load1 ty_9.h rfl (Mem.row (i := 0) rfl (txs_get' (xs := (M.split (M.u8 10) s)) hye3))) <| Qq (p_eqlT und_9 rfl rfl) <| Qa rfl <| zJ <| zS <| Qm rfl <| Qt rfl <| Qm rfl <| zg (Gd.f1 rfl rfl rfl) (fun hc => p_move rfl) <| zg (Gd.f1 rfl rfl rfl) (fun hc => p_eql (gh hc rfl) rfl) <| Qq (p_pickOr rfl rfl rfl) <| JL.nil ?_
 refine zi (fun h7 h7' => ?_) fun h7 h7' => ?_
 ·
  have hrs : M.recS s = (M.split (M.u8 10) s) ++ [[]] := M.recS_n (fun ⟨d1, d2⟩ => by have h9 := h7; rw [hwh] at d1; have d3 : ¬ (M.split (M.u8 10) s).length = 1 := d2; simp_all; omega)
  refine zS <| Qm rfl <| zbs fun b8 => ?_
  refine JL.e (e_append (i := 1) (n' := ((M.split (M.u8 10) s) ++ ([([] : List UInt8)])).length) (vs' := txs_ ((M.split (M.u8 10) s) ++ ([([] : List UInt8)]))) el_31 rfl rfl rfl rfl (src_row (i := 0) und_31 rfl rfl) (by omega) (by omega) ln2_ (by first | rfl | (simp [txs_]; done))) ?_
  rintro v10 _ _ ⟨⟨g11, rfl⟩, rfl⟩ _
  refine JL.fact (row_form' (i := 1) rfl) (fun hf12 => ?_)
  obtain ⟨A12, c12, rfl, bl12, bh12⟩ := hf12
  refine znl ?_
  have hr2 : 2 ≤ (((M.split (M.u8 10) s) ++ ([([] : List UInt8)]))).length := by rw [← hrs]; exact M.recS_two s
  have hmem : ∀ x ∈ (((M.split (M.u8 10) s) ++ ([([] : List UInt8)]))), x.length ≤ 90000 := fun x hx => Nat.le_trans (M.recS_mem (by rw [hrs]; exact hx)) (by omega)
  obtain ⟨y0_, hy0_⟩ : ∃ x, (((M.split (M.u8 10) s) ++ ([([] : List UInt8)])))[0]? = some x := ⟨_, List.getElem?_eq_getElem (by omega)⟩
  obtain ⟨y1_, hy1_⟩ : ∃ x, (((M.split (M.u8 10) s) ++ ([([] : List UInt8)])))[1]? = some x := ⟨_, List.getElem?_eq_getElem (by omega)⟩
  obtain ⟨H1_, H2_⟩ := M.head_law (s := s) (x := M.headS (M.ln ((M.split (M.u8 10) s) ++ ([([] : List UInt8)])) 0) (M.ln ((M.split (M.u8 10) s) ++ ([([] : List UInt8)])) 1) (decide ((((M.split (M.u8 10) s) ++ ([([] : List UInt8)]))).length = 2) && !(decide (ye3 = ([] : List UInt8))))) (l0 := y0_) (l1 := y1_) (by rw [hrs]; exact hy0_) (by rw [hrs]; exact hy1_) (by rw [hrs, hwh, M.ln_get hy0_, M.ln_get hy1_])
  refine Qa rfl <| zG <| Qm rfl <| Qp rfl rfl <| Qa rfl <| zN <| Qm rfl <| Qm rfl <| zc rfl (fun w hw => c_spec_l10Head ((M.split (M.u8 10) s) ++ ([([] : List UInt8)])) (decide (ye3 = ([] : List UInt8))) (strs_rowok (xs := ((M.split (M.u8 10) s) ++ ([([] : List UInt8)]))) (hw.pr (i := 1) rfl))) ?_
  intro A15 c15 bl15 bh15 A16 c16 bl16 bh16 A17 c17 bl17 bh17 A18 c18 bl18 bh18 A19 c19 bl19 bh19
  refine Qm rfl <| Qx rfl rfl <| Qx rfl rfl <| Qx rfl rfl <| za zeh fun b20 => zw 0 rfl rfl rfl ?_
  refine Qa rfl <| Qa rfl <| zJ <| zS <| Qm rfl <| Qd rfl rfl <| JL.nil ?_
  refine zi (fun h21 h21' => ?_) fun h21 h21' => ?_
  ·
   have n0 := h21
   have hE := H1_ (by simpa using n0)
   have hA := M.atS_b hE (by simpa using n0)
   have hq0 : 0 = (((M.chkW s).1).rules).pits := by first | (rw [hE]; done) | (rw [hE]; rfl) | (rw [hA]; done)
   have hq1 : 0 = (((M.chkW s).1).rules).seeds := by first | (rw [hE]; done) | (rw [hE]; rfl) | (rw [hA]; done)
   have hq2 : false = (((M.chkW s).1).rules).stores := by first | (rw [hE]; done) | (rw [hE]; rfl) | (rw [hA]; done)
   have hq3 : false = (((M.chkW s).1).rules).skip := by first | (rw [hE]; done) | (rw [hE]; rfl) | (rw [hA]; done)
   have hq4 : false = (((M.chkW s).1).rules).relay := by first | (rw [hE]; done) | (rw [hE]; rfl) | (rw [hA]; done)
   have hq5 : false = (((M.chkW s).1).rules).feed := by first | (rw [hE]; done) | (rw [hE]; rfl) | (rw [hA]; done)
   have hq6 : false = (((M.chkW s).1).rules).again := by first | (rw [hE]; done) | (rw [hE]; rfl) | (rw [hA]; done)
   have hq7 : 0 = (((M.chkW s).1).rules).capture := by first | (rw [hE]; done) | (rw [hE]; rfl) | (rw [hA]; done)
   have hq8 : 0 = (((M.chkW s).1).rules).slam := by first | (rw [hE]; done) | (rw [hE]; rfl) | (rw [hA]; done)
   have hq9 : [] = (((M.chkW s).1).start).pits := by first | (rw [hE]; done) | (rw [hE]; rfl) | (rw [hA]; done)
   have hq10 : [] = (((M.chkW s).1).start).stores := by first | (rw [hE]; done) | (rw [hE]; rfl) | (rw [hA]; done)
   have hq11 : 0 = (((M.chkW s).1).start).player := by first | (rw [hE]; done) | (rw [hE]; rfl) | (rw [hA]; done)
   have hq12 : [] = ((M.chkW s).1).moves := by first | (rw [hE]; done) | (rw [hE]; rfl) | (rw [hA]; done)
   have hq13 : [] = (((M.chkW s).1).now).pits := by first | (rw [hE]; done) | (rw [hE]; rfl) | (rw [hA]; done)
   have hq14 : [] = (((M.chkW s).1).now).stores := by first | (rw [hE]; done) | (rw [hE]; rfl) | (rw [hA]; done)
   have hq15 : 0 = (((M.chkW s).1).now).player := by first | (rw [hE]; done) | (rw [hE]; rfl) | (rw [hA]; done)
   have hq16 : 0 = ((M.chkW s).1).resigned := by first | (rw [hE]; done) | (rw [hE]; rfl) | (rw [hA]; done)
   have hq17 : ((M.headS (M.ln ((M.split (M.u8 10) s) ++ ([([] : List UInt8)])) 0) (M.ln ((M.split (M.u8 10) s) ++ ([([] : List UInt8)])) 1) (decide (((M.split (M.u8 10) s) ++ ([([] : List UInt8)])).length = 2) && !(decide (ye3 = ([] : List UInt8))))).2.1) = M.atS s := by first | (rw [hE]; done) | (rw [hE]; rfl) | (rw [hA]; done)
   have hq18 : ((M.headS (M.ln ((M.split (M.u8 10) s) ++ ([([] : List UInt8)])) 0) (M.ln ((M.split (M.u8 10) s) ++ ([([] : List UInt8)])) 1) (decide (((M.split (M.u8 10) s) ++ ([([] : List UInt8)])).length = 2) && !(decide (ye3 = ([] : List UInt8))))).2.2) = (M.chkW s).2.2 := by first | (rw [hE]; done) | (rw [hE]; rfl) | (rw [hA]; done)
   refine zS <| Qb ?_
   refine Qm rfl <| Qm rfl <| zw 8 rfl rfl rfl ?_
   refine Qa rfl <| Qa rfl <| JL.nil ?_
   exact zro (Up.refl _ _)
  have hS0 := H2_ (by simpa using h21)
  refine Js.skip <| Js.seq <| zS <| Qa rfl <| JL.nil <| Js.block ?_
  refine zl [2, 5, 6, 7, 8] (fun F U l os u m => ∃ (k : Nat) (gk : M.Gam) (A22_8_9 : Option Addr) (c22_8_9 : Nat) (g22_8_9 : List Nat) (A22_8_10 : Option Addr) (c22_8_10 : Nat) (g22_8_10 : List Nat) (A22_8_12 : Option Addr) (c22_8_12 : Nat) (g22_8_12 : List Nat) (A22_8_13 : Option Addr) (c22_8_13 : Nat) (g22_8_13 : List Nat) (A22_8_14 : Option Addr) (c22_8_14 : Nat) (g22_8_14 : List Nat), l = F [(11, .int .i64 (k : Int))] ∧ os = U [some (boxO b20 [.int .i64 gk.rules.pits, .int .i64 gk.rules.seeds, .bool gk.rules.stores, .bool gk.rules.skip, .bool gk.rules.relay, .bool gk.rules.feed, .bool gk.rules.again, .int .i64 gk.rules.capture, .int .i64 gk.rules.slam, .slice A22_8_9 gk.start.pits.length c22_8_9, .slice A22_8_10 gk.start.stores.length c22_8_10, .int .i64 gk.start.player, .slice A22_8_12 gk.moves.length c22_8_12, .slice A22_8_13 gk.now.pits.length c22_8_13, .slice A22_8_14 gk.now.stores.length c22_8_14, .int .i64 gk.now.player, .int .i64 gk.resigned] 53), some (rowO 2 1 (.slice A22_8_14 gk.now.stores.length c22_8_14) gk.now.stores.length (ints_ gk.now.stores) g22_8_14), some (rowO 2 1 (.slice A22_8_13 gk.now.pits.length c22_8_13) gk.now.pits.length (ints_ gk.now.pits) g22_8_13), some (rowO 2 1 (.slice A22_8_12 gk.moves.length c22_8_12) gk.moves.length (ints_ gk.moves) g22_8_12), some (rowO 2 1 (.slice A22_8_10 gk.start.stores.length c22_8_10) gk.start.stores.length (ints_ gk.start.stores) g22_8_10), some (rowO 2 1 (.slice A22_8_9 gk.start.pits.length c22_8_9) gk.start.pits.length (ints_ gk.start.pits) g22_8_9)] ∧ (M.SpI s k gk) ∧ (gk.start.pits.length ≤ c22_8_9) ∧ (c22_8_9 ≤ 9223372036854775807) ∧ (gk.start.stores.length ≤ c22_8_10) ∧ (c22_8_10 ≤ 9223372036854775807) ∧ (gk.moves.length ≤ c22_8_12) ∧ (c22_8_12 ≤ 9223372036854775807) ∧ (gk.now.pits.length ≤ c22_8_13) ∧ (c22_8_13 ≤ 9223372036854775807) ∧ (gk.now.stores.length ≤ c22_8_14) ∧ (c22_8_14 ≤ 9223372036854775807) ∧ m = (M.recL s).length - k) ⟨2, (M.headS (M.ln ((M.split (M.u8 10) s) ++ ([([] : List UInt8)])) 0) (M.ln ((M.split (M.u8 10) s) ++ ([([] : List UInt8)])) 1) (decide ((((M.split (M.u8 10) s) ++ ([([] : List UInt8)]))).length = 2) && !(decide (ye3 = ([] : List UInt8))))).1, _, _, _, _, _, _, _, _, _, _, _, _, _, _, _, rfl, rfl, by exact hS0, zu, zu, zu, zu, zu, zu, zu, zu, zu, zu, rfl⟩ ?_
  rintro _ _ u22 _ ⟨k, gk, A22_8_9, c22_8_9, g22_8_9, A22_8_10, c22_8_10, g22_8_10, A22_8_12, c22_8_12, g22_8_12, A22_8_13, c22_8_13, g22_8_13, A22_8_14, c22_8_14, g22_8_14, rfl, rfl, hS, f22_1, f22_2, f22_3, f22_4, f22_5, f22_6, f22_7, f22_8, f22_9, f22_10, rfl⟩ x22
  refine zn ?_
  obtain ⟨gb1, gb2, gb3, gb4, gb5⟩ := M.okG_bd hS.ok
  have hkn := hS.kn
  have hll : (M.recS s).length = (M.recL s).length + 1 := by rw [hS.l]; simp
  refine Js.seq <| zS <| Qm rfl <| Qm rfl <| Ql rfl rfl <| JL.nil ?_
  refine zi (fun h23 h23' => ?_) fun h23 h23' => ?_
  ·
   have hkl : k < (M.recL s).length := by have h9 := h23'; rw [hrs] at hll; (try simp at hll); omega
   have hkc : k < (M.recS s).length := by omega
   rw [hrs] at hkc
   obtain ⟨ye24, hye24⟩ : ∃ x, ((M.split (M.u8 10) s) ++ ([([] : List UInt8)]))[k]? = some x := ⟨_, List.getElem?_eq_getElem (by omega)⟩
   have hyr : (M.recS s)[k]? = some ye24 := by rw [hrs]; exact hye24
   have hyl := hmem _ (List.mem_of_getElem? hye24)
   have hal := M.aft_len ye24 ([114, 101, 115, 105, 103, 110, 115] : List UInt8)
   refine Js.skip <| Js.seq <| Js.block <| zS <| Qm rfl <| Qm rfl ?_
   refine JL.fact (row_some (i := 7) rfl (by omega)) (fun hf26 => ?_)
   obtain ⟨b26, rfl⟩ := hf26
   have hye24 : ((M.split (M.u8 10) s) ++ ([([] : List UInt8)]) : List (List UInt8))[k]? = some ye24 := hye24
   refine Qq (p_indexAddr el_31 rfl rfl (by omega) (by omega) rfl) <| Qw (q_load1 ty_9.h rfl (Mem.row (i := 7) rfl (txs_get' (xs := ((M.split (M.u8 10) s) ++ ([([] : List UInt8)]))) hye24))) <| zv rfl (fun w hw => c_spec_l10After ye24 ([114, 101, 115, 105, 103, 110, 115] : List UInt8)) <| Qm rfl <| Qx rfl rfl <| Qx rfl rfl <| Qa rfl <| Qa rfl <| zJ <| Js.block <| zS <| Qf fh rfl <| Q0 0 rfl rfl rfl <| Qh rfl rfl ?_
   refine Qa rfl <| JL.nil ?_
   refine zi (fun h28 h28' => ?_) fun h28 h28' => ?_
   ·
    have hE := hS.bad hkl hyr (M.lineI_7 (by simpa using h28)) (show ¬ (7 : Int) = 0 by decide)
    have hA := M.atS_b hE (show ¬ (7 : Int) = 0 by decide)
    have hq0 : 0 = (((M.chkW s).1).rules).pits := by first | (rw [hE]; done) | (rw [hE]; rfl) | (rw [hA]; done)
    have hq1 : 0 = (((M.chkW s).1).rules).seeds := by first | (rw [hE]; done) | (rw [hE]; rfl) | (rw [hA]; done)
    have hq2 : false = (((M.chkW s).1).rules).stores := by first | (rw [hE]; done) | (rw [hE]; rfl) | (rw [hA]; done)
    have hq3 : false = (((M.chkW s).1).rules).skip := by first | (rw [hE]; done) | (rw [hE]; rfl) | (rw [hA]; done)
    have hq4 : false = (((M.chkW s).1).rules).relay := by first | (rw [hE]; done) | (rw [hE]; rfl) | (rw [hA]; done)
    have hq5 : false = (((M.chkW s).1).rules).feed := by first | (rw [hE]; done) | (rw [hE]; rfl) | (rw [hA]; done)
    have hq6 : false = (((M.chkW s).1).rules).again := by first | (rw [hE]; done) | (rw [hE]; rfl) | (rw [hA]; done)
    have hq7 : 0 = (((M.chkW s).1).rules).capture := by first | (rw [hE]; done) | (rw [hE]; rfl) | (rw [hA]; done)
    have hq8 : 0 = (((M.chkW s).1).rules).slam := by first | (rw [hE]; done) | (rw [hE]; rfl) | (rw [hA]; done)
    have hq9 : [] = (((M.chkW s).1).start).pits := by first | (rw [hE]; done) | (rw [hE]; rfl) | (rw [hA]; done)
    have hq10 : [] = (((M.chkW s).1).start).stores := by first | (rw [hE]; done) | (rw [hE]; rfl) | (rw [hA]; done)
    have hq11 : 0 = (((M.chkW s).1).start).player := by first | (rw [hE]; done) | (rw [hE]; rfl) | (rw [hA]; done)
    have hq12 : [] = ((M.chkW s).1).moves := by first | (rw [hE]; done) | (rw [hE]; rfl) | (rw [hA]; done)
    have hq13 : [] = (((M.chkW s).1).now).pits := by first | (rw [hE]; done) | (rw [hE]; rfl) | (rw [hA]; done)
    have hq14 : [] = (((M.chkW s).1).now).stores := by first | (rw [hE]; done) | (rw [hE]; rfl) | (rw [hA]; done)
    have hq15 : 0 = (((M.chkW s).1).now).player := by first | (rw [hE]; done) | (rw [hE]; rfl) | (rw [hA]; done)
    have hq16 : 0 = ((M.chkW s).1).resigned := by first | (rw [hE]; done) | (rw [hE]; rfl) | (rw [hA]; done)
    have hq17 : (k : Int) = M.atS s := by first | (rw [hE]; done) | (rw [hE]; rfl) | (rw [hA]; done)
    have hq18 : 7 = (M.chkW s).2.2 := by first | (rw [hE]; done) | (rw [hE]; rfl) | (rw [hA]; done)
    refine zS <| Qb ?_
    refine Qm rfl <| zw 8 rfl rfl rfl ?_
    refine Qa rfl <| Qa rfl <| JL.nil ?_
    exact zro x22
   have n7 : ¬ 0 ≤ gk.resigned := by simpa using h28
   refine zS <| Qm rfl <| Qm rfl <| zg (Gd.t1 rfl rfl rfl) (fun hc => p_move rfl) <| zg (Gd.t1 rfl rfl rfl) (fun hc => p_eqlT und_9 (gh hc rfl) rfl) <| zg (Gd.t1 rfl rfl rfl) (fun hc => p_move (gh hc rfl)) <| zg (Gd.f2 rfl rfl rfl) (fun hc => p_move rfl) <| zg (Gd.f2 rfl rfl rfl) (fun hc => p_eqlT und_9 (gh hc rfl) rfl) <| zg (Gd.t1 rfl rfl rfl) (fun hc => p_pickOr (gh hc rfl) rfl (gvl rfl hc)) <| Qq (p_pickAnd rfl rfl rfl) <| Qa rfl <| JL.nil ?_
   refine zi (fun h29 h29' => ?_) fun h29 h29' => ?_
   ·
    have hc9 := h29
    have hq : (M.aft ye24 M.resW).2 = true ∧ ((M.aft ye24 M.resW).1 = [48] ∨ (M.aft ye24 M.resW).1 = [49]) := by simpa [M.resW] using hc9
    have hS2 := hS.step hkl hyr (M.res_line n7 hq.1 hq.2) rfl
    refine zS <| Qm rfl <| zv rfl (fun w hw => c_spec_l01Number ((M.aft ye24 ([114, 101, 115, 105, 103, 110, 115] : List UInt8)).1)) <| Qm rfl <| Qx rfl rfl <| Qx rfl rfl <| Qa rfl <| Qa rfl <| zN <| Qm rfl <| Qf fh rfl <| zw 0 rfl rfl rfl ?_
    refine JL.nil ?_
    refine zx ?_
    refine Js.region <| Qm rfl <| Qp rfl rfl <| Qa rfl <| JL.nil ?_
    exact zag ⟨k + 1, M.resG gk (M.num (M.aft ye24 M.resW).1).1, _, _, _, _, _, _, _, _, _, _, _, _, _, _, _, rfl, rfl, by exact hS2, by first | omega | (dsimp only [M.resG]; omega), by first | omega | (dsimp only [M.resG]; omega), by first | omega | (dsimp only [M.resG]; omega), by first | omega | (dsimp only [M.resG]; omega), by first | omega | (dsimp only [M.resG]; omega), by first | omega | (dsimp only [M.resG]; omega), by first | omega | (dsimp only [M.resG]; omega), by first | omega | (dsimp only [M.resG]; omega), by first | omega | (dsimp only [M.resG]; omega), by first | omega | (dsimp only [M.resG]; omega), rfl⟩ x22 (by omega)
   have hc9 := h29
   obtain ⟨n0, n1⟩ := M.res_not (y := ye24) (by have h9 := hc9; simp only [M.resW]; simpa using h9)
   have hye24 : ((M.split (M.u8 10) s) ++ ([([] : List UInt8)]) : List (List UInt8))[k]? = some ye24 := hye24
   refine Js.skip <| Js.blockEnd <| zS <| Qm rfl <| Qm rfl <| Qq (p_indexAddr el_31 rfl rfl (by omega) (by omega) rfl) <| Qw (q_load1 ty_9.h rfl (Mem.row (i := 7) rfl (txs_get' (xs := ((M.split (M.u8 10) s) ++ ([([] : List UInt8)]))) hye24))) <| zc rfl (fun w hw => c_spec_l10Next gk ye24 (ok_ hw)) ?_
   intro A34 c34 bl34 bh34 A35 c35 bl35 bh35 A36 c36 bl36 bh36 A37 c37 bl37 bh37 A38 c38 bl38 bh38
   refine Qm rfl <| Qx rfl rfl <| Qx rfl rfl <| za zeh fun b39 => zw 0 rfl rfl rfl ?_
   refine Qa rfl <| zJ <| zS <| Qm rfl <| Qd rfl rfl <| JL.nil ?_
   refine zi (fun h40 h40' => ?_) fun h40 h40' => ?_
   ·
    have n9 : ¬ (M.nextR gk (M.numR ye24)).2 = 0 := by simpa using h40
    have hE := hS.bad hkl hyr (M.lineI_n n7 n0 n1 n9) n9
    have hA := M.atS_b hE n9
    have hq0 : 0 = (((M.chkW s).1).rules).pits := by first | (rw [hE]; done) | (rw [hE]; rfl) | (rw [hA]; done)
    have hq1 : 0 = (((M.chkW s).1).rules).seeds := by first | (rw [hE]; done) | (rw [hE]; rfl) | (rw [hA]; done)
    have hq2 : false = (((M.chkW s).1).rules).stores := by first | (rw [hE]; done) | (rw [hE]; rfl) | (rw [hA]; done)
    have hq3 : false = (((M.chkW s).1).rules).skip := by first | (rw [hE]; done) | (rw [hE]; rfl) | (rw [hA]; done)
    have hq4 : false = (((M.chkW s).1).rules).relay := by first | (rw [hE]; done) | (rw [hE]; rfl) | (rw [hA]; done)
    have hq5 : false = (((M.chkW s).1).rules).feed := by first | (rw [hE]; done) | (rw [hE]; rfl) | (rw [hA]; done)
    have hq6 : false = (((M.chkW s).1).rules).again := by first | (rw [hE]; done) | (rw [hE]; rfl) | (rw [hA]; done)
    have hq7 : 0 = (((M.chkW s).1).rules).capture := by first | (rw [hE]; done) | (rw [hE]; rfl) | (rw [hA]; done)
    have hq8 : 0 = (((M.chkW s).1).rules).slam := by first | (rw [hE]; done) | (rw [hE]; rfl) | (rw [hA]; done)
    have hq9 : [] = (((M.chkW s).1).start).pits := by first | (rw [hE]; done) | (rw [hE]; rfl) | (rw [hA]; done)
    have hq10 : [] = (((M.chkW s).1).start).stores := by first | (rw [hE]; done) | (rw [hE]; rfl) | (rw [hA]; done)
    have hq11 : 0 = (((M.chkW s).1).start).player := by first | (rw [hE]; done) | (rw [hE]; rfl) | (rw [hA]; done)
    have hq12 : [] = ((M.chkW s).1).moves := by first | (rw [hE]; done) | (rw [hE]; rfl) | (rw [hA]; done)
    have hq13 : [] = (((M.chkW s).1).now).pits := by first | (rw [hE]; done) | (rw [hE]; rfl) | (rw [hA]; done)
    have hq14 : [] = (((M.chkW s).1).now).stores := by first | (rw [hE]; done) | (rw [hE]; rfl) | (rw [hA]; done)
    have hq15 : 0 = (((M.chkW s).1).now).player := by first | (rw [hE]; done) | (rw [hE]; rfl) | (rw [hA]; done)
    have hq16 : 0 = ((M.chkW s).1).resigned := by first | (rw [hE]; done) | (rw [hE]; rfl) | (rw [hA]; done)
    have hq17 : (k : Int) = M.atS s := by first | (rw [hE]; done) | (rw [hE]; rfl) | (rw [hA]; done)
    have hq18 : ((M.nextR gk (M.numR ye24)).2) = (M.chkW s).2.2 := by first | (rw [hE]; done) | (rw [hE]; rfl) | (rw [hA]; done)
    refine zS <| Qb ?_
    refine Qm rfl <| Qm rfl <| zw 14 rfl rfl rfl ?_
    refine Qa rfl <| Qa rfl <| JL.nil ?_
    exact zro x22
   have n9 : (M.nextR gk (M.numR ye24)).2 = 0 := by simpa using h40
   have hS2 := hS.step hkl hyr (M.lineI_y n7 n0 n1 n9) rfl
   refine Js.skip <| Js.region <| Q9 0 rfl rfl ?_
   refine zw 6 rfl rfl rfl ?_
   refine JL.nil <| Js.blockEnd <| Js.region <| Qm rfl <| Qp rfl rfl <| Qa rfl <| JL.nil ?_
   refine zd [6, 1, 1, 1, 1, 1, 6, 6, 6] rfl fun u41 x41 => ?_
   exact zag ⟨k + 1, (M.nextR gk (M.numR ye24)).1, _, _, _, _, _, _, _, _, _, _, _, _, _, _, _, rfl, rfl, by exact hS2, by first | omega | (dsimp only [M.resG]; omega), by first | omega | (dsimp only [M.resG]; omega), by first | omega | (dsimp only [M.resG]; omega), by first | omega | (dsimp only [M.resG]; omega), by first | omega | (dsimp only [M.resG]; omega), by first | omega | (dsimp only [M.resG]; omega), by first | omega | (dsimp only [M.resG]; omega), by first | omega | (dsimp only [M.resG]; omega), by first | omega | (dsimp only [M.resG]; omega), by first | omega | (dsimp only [M.resG]; omega), rfl⟩ (x22.trans x41) (by omega)
  have hkl : (M.recL s).length ≤ k := by have h9 := h23'; have hll : (M.recS s).length = (M.recL s).length + 1 := (by rw [hS.l]; simp); rw [hrs] at hll; (try simp at hll); omega
  refine zx ?_
  refine Js.seq <| zS <| Qm rfl <| Qt rfl <| JL.nil ?_
  refine zi (fun h42 h42' => ?_) fun h42 h42' => ?_
  ·
   have hE := hS.end_ hkl (by have h9 := h42; rw [hwh]; simpa using h9)
   have hA := M.atS_b hE (show ¬ (7 : Int) = 0 by decide)
   have hkq : (k : Int) = ((((M.split (M.u8 10) s).length) : Int) - 1) + 1 := by have h8 := hS.kn; have hll : (M.recS s).length = (M.recL s).length + 1 := (by rw [hS.l]; simp); rw [hrs] at hll; (try simp at hll); omega
   rw [hkq] at hA
   have hq0 : 0 = (((M.chkW s).1).rules).pits := by first | (rw [hE]; done) | (rw [hE]; rfl) | (rw [hA]; done)
   have hq1 : 0 = (((M.chkW s).1).rules).seeds := by first | (rw [hE]; done) | (rw [hE]; rfl) | (rw [hA]; done)
   have hq2 : false = (((M.chkW s).1).rules).stores := by first | (rw [hE]; done) | (rw [hE]; rfl) | (rw [hA]; done)
   have hq3 : false = (((M.chkW s).1).rules).skip := by first | (rw [hE]; done) | (rw [hE]; rfl) | (rw [hA]; done)
   have hq4 : false = (((M.chkW s).1).rules).relay := by first | (rw [hE]; done) | (rw [hE]; rfl) | (rw [hA]; done)
   have hq5 : false = (((M.chkW s).1).rules).feed := by first | (rw [hE]; done) | (rw [hE]; rfl) | (rw [hA]; done)
   have hq6 : false = (((M.chkW s).1).rules).again := by first | (rw [hE]; done) | (rw [hE]; rfl) | (rw [hA]; done)
   have hq7 : 0 = (((M.chkW s).1).rules).capture := by first | (rw [hE]; done) | (rw [hE]; rfl) | (rw [hA]; done)
   have hq8 : 0 = (((M.chkW s).1).rules).slam := by first | (rw [hE]; done) | (rw [hE]; rfl) | (rw [hA]; done)
   have hq9 : [] = (((M.chkW s).1).start).pits := by first | (rw [hE]; done) | (rw [hE]; rfl) | (rw [hA]; done)
   have hq10 : [] = (((M.chkW s).1).start).stores := by first | (rw [hE]; done) | (rw [hE]; rfl) | (rw [hA]; done)
   have hq11 : 0 = (((M.chkW s).1).start).player := by first | (rw [hE]; done) | (rw [hE]; rfl) | (rw [hA]; done)
   have hq12 : [] = ((M.chkW s).1).moves := by first | (rw [hE]; done) | (rw [hE]; rfl) | (rw [hA]; done)
   have hq13 : [] = (((M.chkW s).1).now).pits := by first | (rw [hE]; done) | (rw [hE]; rfl) | (rw [hA]; done)
   have hq14 : [] = (((M.chkW s).1).now).stores := by first | (rw [hE]; done) | (rw [hE]; rfl) | (rw [hA]; done)
   have hq15 : 0 = (((M.chkW s).1).now).player := by first | (rw [hE]; done) | (rw [hE]; rfl) | (rw [hA]; done)
   have hq16 : 0 = ((M.chkW s).1).resigned := by first | (rw [hE]; done) | (rw [hE]; rfl) | (rw [hA]; done)
   have hq17 : ((((((M.split (M.u8 10) s).length) : Int) - 1) + 1) - 1) = M.atS s := by first | (rw [hE]; done) | (rw [hE]; rfl) | (rw [hA]; done)
   have hq18 : 7 = (M.chkW s).2.2 := by first | (rw [hE]; done) | (rw [hE]; rfl) | (rw [hA]; done)
   refine zS <| Qb ?_
   refine Qm rfl <| Qs rfl rfl <| zw 8 rfl rfl rfl ?_
   refine Qa rfl <| Qa rfl <| JL.nil ?_
   exact zro x22
  have hE := hS.done hkl (by have h9 := h42; rw [hwh]; simpa using h9)
  have hA := M.atS_0 hE
  have hq0 : gk.rules.pits = (((M.chkW s).1).rules).pits := by first | (rw [hE]; done) | (rw [hE]; rfl) | (rw [hA]; done)
  have hq1 : gk.rules.seeds = (((M.chkW s).1).rules).seeds := by first | (rw [hE]; done) | (rw [hE]; rfl) | (rw [hA]; done)
  have hq2 : gk.rules.stores = (((M.chkW s).1).rules).stores := by first | (rw [hE]; done) | (rw [hE]; rfl) | (rw [hA]; done)
  have hq3 : gk.rules.skip = (((M.chkW s).1).rules).skip := by first | (rw [hE]; done) | (rw [hE]; rfl) | (rw [hA]; done)
  have hq4 : gk.rules.relay = (((M.chkW s).1).rules).relay := by first | (rw [hE]; done) | (rw [hE]; rfl) | (rw [hA]; done)
  have hq5 : gk.rules.feed = (((M.chkW s).1).rules).feed := by first | (rw [hE]; done) | (rw [hE]; rfl) | (rw [hA]; done)
  have hq6 : gk.rules.again = (((M.chkW s).1).rules).again := by first | (rw [hE]; done) | (rw [hE]; rfl) | (rw [hA]; done)
  have hq7 : gk.rules.capture = (((M.chkW s).1).rules).capture := by first | (rw [hE]; done) | (rw [hE]; rfl) | (rw [hA]; done)
  have hq8 : gk.rules.slam = (((M.chkW s).1).rules).slam := by first | (rw [hE]; done) | (rw [hE]; rfl) | (rw [hA]; done)
  have hq9 : gk.start.pits = (((M.chkW s).1).start).pits := by first | (rw [hE]; done) | (rw [hE]; rfl) | (rw [hA]; done)
  have hq10 : gk.start.stores = (((M.chkW s).1).start).stores := by first | (rw [hE]; done) | (rw [hE]; rfl) | (rw [hA]; done)
  have hq11 : gk.start.player = (((M.chkW s).1).start).player := by first | (rw [hE]; done) | (rw [hE]; rfl) | (rw [hA]; done)
  have hq12 : gk.moves = ((M.chkW s).1).moves := by first | (rw [hE]; done) | (rw [hE]; rfl) | (rw [hA]; done)
  have hq13 : gk.now.pits = (((M.chkW s).1).now).pits := by first | (rw [hE]; done) | (rw [hE]; rfl) | (rw [hA]; done)
  have hq14 : gk.now.stores = (((M.chkW s).1).now).stores := by first | (rw [hE]; done) | (rw [hE]; rfl) | (rw [hA]; done)
  have hq15 : gk.now.player = (((M.chkW s).1).now).player := by first | (rw [hE]; done) | (rw [hE]; rfl) | (rw [hA]; done)
  have hq16 : gk.resigned = ((M.chkW s).1).resigned := by first | (rw [hE]; done) | (rw [hE]; rfl) | (rw [hA]; done)
  have hq17 : 0 = M.atS s := by first | (rw [hE]; done) | (rw [hE]; rfl) | (rw [hA]; done)
  have hq18 : 0 = (M.chkW s).2.2 := by first | (rw [hE]; done) | (rw [hE]; rfl) | (rw [hA]; done)
  refine Js.skip <| zS <| Q9 0 rfl rfl ?_
  refine zw 8 rfl rfl rfl ?_
  refine Qa rfl <| Qa rfl <| JL.nil ?_
  exact zro x22
 have hrs : M.recS s = (M.split (M.u8 10) s) := M.recS_y (by have h9 := h7; rw [hwh]; simp_all) (fun d2 => by have h9 := h7; have d3 : (M.split (M.u8 10) s).length = 1 := d2; simp_all)
 have hr2 : 2 ≤ ((M.split (M.u8 10) s)).length := by rw [← hrs]; exact M.recS_two s
 have hmem : ∀ x ∈ ((M.split (M.u8 10) s)), x.length ≤ 90000 := fun x hx => Nat.le_trans (M.recS_mem (by rw [hrs]; exact hx)) (by omega)
 obtain ⟨y0_, hy0_⟩ : ∃ x, ((M.split (M.u8 10) s))[0]? = some x := ⟨_, List.getElem?_eq_getElem (by omega)⟩
 obtain ⟨y1_, hy1_⟩ : ∃ x, ((M.split (M.u8 10) s))[1]? = some x := ⟨_, List.getElem?_eq_getElem (by omega)⟩
 obtain ⟨H1_, H2_⟩ := M.head_law (s := s) (x := M.headS (M.ln (M.split (M.u8 10) s) 0) (M.ln (M.split (M.u8 10) s) 1) (decide (((M.split (M.u8 10) s)).length = 2) && !(decide (ye3 = ([] : List UInt8))))) (l0 := y0_) (l1 := y1_) (by rw [hrs]; exact hy0_) (by rw [hrs]; exact hy1_) (by rw [hrs, hwh, M.ln_get hy0_, M.ln_get hy1_])
 refine Js.skip <| zS <| Qm rfl <| Qm rfl <| zc rfl (fun w hw => c_spec_l10Head (M.split (M.u8 10) s) (decide (ye3 = ([] : List UInt8))) (strs_rowok (xs := (M.split (M.u8 10) s)) (hw.pr (i := 0) rfl))) ?_
 intro A45 c45 bl45 bh45 A46 c46 bl46 bh46 A47 c47 bl47 bh47 A48 c48 bl48 bh48 A49 c49 bl49 bh49
 refine Qm rfl <| Qx rfl rfl <| Qx rfl rfl <| Qx rfl rfl <| za zeh fun b50 => zw 0 rfl rfl rfl ?_
 refine Qa rfl <| Qa rfl <| zJ <| zS <| Qm rfl <| Qd rfl rfl <| JL.nil ?_
 refine zi (fun h51 h51' => ?_) fun h51 h51' => ?_
 ·
  have n0 := h51
  have hE := H1_ (by simpa using n0)
  have hA := M.atS_b hE (by simpa using n0)
  have hq0 : 0 = (((M.chkW s).1).rules).pits := by first | (rw [hE]; done) | (rw [hE]; rfl) | (rw [hA]; done)
  have hq1 : 0 = (((M.chkW s).1).rules).seeds := by first | (rw [hE]; done) | (rw [hE]; rfl) | (rw [hA]; done)
  have hq2 : false = (((M.chkW s).1).rules).stores := by first | (rw [hE]; done) | (rw [hE]; rfl) | (rw [hA]; done)
  have hq3 : false = (((M.chkW s).1).rules).skip := by first | (rw [hE]; done) | (rw [hE]; rfl) | (rw [hA]; done)
  have hq4 : false = (((M.chkW s).1).rules).relay := by first | (rw [hE]; done) | (rw [hE]; rfl) | (rw [hA]; done)
  have hq5 : false = (((M.chkW s).1).rules).feed := by first | (rw [hE]; done) | (rw [hE]; rfl) | (rw [hA]; done)
  have hq6 : false = (((M.chkW s).1).rules).again := by first | (rw [hE]; done) | (rw [hE]; rfl) | (rw [hA]; done)
  have hq7 : 0 = (((M.chkW s).1).rules).capture := by first | (rw [hE]; done) | (rw [hE]; rfl) | (rw [hA]; done)
  have hq8 : 0 = (((M.chkW s).1).rules).slam := by first | (rw [hE]; done) | (rw [hE]; rfl) | (rw [hA]; done)
  have hq9 : [] = (((M.chkW s).1).start).pits := by first | (rw [hE]; done) | (rw [hE]; rfl) | (rw [hA]; done)
  have hq10 : [] = (((M.chkW s).1).start).stores := by first | (rw [hE]; done) | (rw [hE]; rfl) | (rw [hA]; done)
  have hq11 : 0 = (((M.chkW s).1).start).player := by first | (rw [hE]; done) | (rw [hE]; rfl) | (rw [hA]; done)
  have hq12 : [] = ((M.chkW s).1).moves := by first | (rw [hE]; done) | (rw [hE]; rfl) | (rw [hA]; done)
  have hq13 : [] = (((M.chkW s).1).now).pits := by first | (rw [hE]; done) | (rw [hE]; rfl) | (rw [hA]; done)
  have hq14 : [] = (((M.chkW s).1).now).stores := by first | (rw [hE]; done) | (rw [hE]; rfl) | (rw [hA]; done)
  have hq15 : 0 = (((M.chkW s).1).now).player := by first | (rw [hE]; done) | (rw [hE]; rfl) | (rw [hA]; done)
  have hq16 : 0 = ((M.chkW s).1).resigned := by first | (rw [hE]; done) | (rw [hE]; rfl) | (rw [hA]; done)
  have hq17 : ((M.headS (M.ln (M.split (M.u8 10) s) 0) (M.ln (M.split (M.u8 10) s) 1) (decide ((M.split (M.u8 10) s).length = 2) && !(decide (ye3 = ([] : List UInt8))))).2.1) = M.atS s := by first | (rw [hE]; done) | (rw [hE]; rfl) | (rw [hA]; done)
  have hq18 : ((M.headS (M.ln (M.split (M.u8 10) s) 0) (M.ln (M.split (M.u8 10) s) 1) (decide ((M.split (M.u8 10) s).length = 2) && !(decide (ye3 = ([] : List UInt8))))).2.2) = (M.chkW s).2.2 := by first | (rw [hE]; done) | (rw [hE]; rfl) | (rw [hA]; done)
  refine zS <| Qb ?_
  refine Qm rfl <| Qm rfl <| zw 7 rfl rfl rfl ?_
  refine Qa rfl <| Qa rfl <| JL.nil ?_
  exact zro (Up.refl _ _)
 have hS0 := H2_ (by simpa using h51)
 refine Js.skip <| Js.seq <| zS <| Qa rfl <| JL.nil <| Js.block ?_
 refine zl [2, 5, 6, 7, 8] (fun F U l os u m => ∃ (k : Nat) (gk : M.Gam) (A52_8_9 : Option Addr) (c52_8_9 : Nat) (g52_8_9 : List Nat) (A52_8_10 : Option Addr) (c52_8_10 : Nat) (g52_8_10 : List Nat) (A52_8_12 : Option Addr) (c52_8_12 : Nat) (g52_8_12 : List Nat) (A52_8_13 : Option Addr) (c52_8_13 : Nat) (g52_8_13 : List Nat) (A52_8_14 : Option Addr) (c52_8_14 : Nat) (g52_8_14 : List Nat), l = F [(11, .int .i64 (k : Int))] ∧ os = U [some (boxO b50 [.int .i64 gk.rules.pits, .int .i64 gk.rules.seeds, .bool gk.rules.stores, .bool gk.rules.skip, .bool gk.rules.relay, .bool gk.rules.feed, .bool gk.rules.again, .int .i64 gk.rules.capture, .int .i64 gk.rules.slam, .slice A52_8_9 gk.start.pits.length c52_8_9, .slice A52_8_10 gk.start.stores.length c52_8_10, .int .i64 gk.start.player, .slice A52_8_12 gk.moves.length c52_8_12, .slice A52_8_13 gk.now.pits.length c52_8_13, .slice A52_8_14 gk.now.stores.length c52_8_14, .int .i64 gk.now.player, .int .i64 gk.resigned] 53), some (rowO 2 1 (.slice A52_8_14 gk.now.stores.length c52_8_14) gk.now.stores.length (ints_ gk.now.stores) g52_8_14), some (rowO 2 1 (.slice A52_8_13 gk.now.pits.length c52_8_13) gk.now.pits.length (ints_ gk.now.pits) g52_8_13), some (rowO 2 1 (.slice A52_8_12 gk.moves.length c52_8_12) gk.moves.length (ints_ gk.moves) g52_8_12), some (rowO 2 1 (.slice A52_8_10 gk.start.stores.length c52_8_10) gk.start.stores.length (ints_ gk.start.stores) g52_8_10), some (rowO 2 1 (.slice A52_8_9 gk.start.pits.length c52_8_9) gk.start.pits.length (ints_ gk.start.pits) g52_8_9)] ∧ (M.SpI s k gk) ∧ (gk.start.pits.length ≤ c52_8_9) ∧ (c52_8_9 ≤ 9223372036854775807) ∧ (gk.start.stores.length ≤ c52_8_10) ∧ (c52_8_10 ≤ 9223372036854775807) ∧ (gk.moves.length ≤ c52_8_12) ∧ (c52_8_12 ≤ 9223372036854775807) ∧ (gk.now.pits.length ≤ c52_8_13) ∧ (c52_8_13 ≤ 9223372036854775807) ∧ (gk.now.stores.length ≤ c52_8_14) ∧ (c52_8_14 ≤ 9223372036854775807) ∧ m = (M.recL s).length - k) ⟨2, (M.headS (M.ln (M.split (M.u8 10) s) 0) (M.ln (M.split (M.u8 10) s) 1) (decide (((M.split (M.u8 10) s)).length = 2) && !(decide (ye3 = ([] : List UInt8))))).1, _, _, _, _, _, _, _, _, _, _, _, _, _, _, _, rfl, rfl, by exact hS0, zu, zu, zu, zu, zu, zu, zu, zu, zu, zu, rfl⟩ ?_
 rintro _ _ u52 _ ⟨k, gk, A52_8_9, c52_8_9, g52_8_9, A52_8_10, c52_8_10, g52_8_10, A52_8_12, c52_8_12, g52_8_12, A52_8_13, c52_8_13, g52_8_13, A52_8_14, c52_8_14, g52_8_14, rfl, rfl, hS, f52_1, f52_2, f52_3, f52_4, f52_5, f52_6, f52_7, f52_8, f52_9, f52_10, rfl⟩ x52
 refine zn ?_
 obtain ⟨gb1, gb2, gb3, gb4, gb5⟩ := M.okG_bd hS.ok
 have hkn := hS.kn
 have hll : (M.recS s).length = (M.recL s).length + 1 := by rw [hS.l]; simp
 refine Js.seq <| zS <| Qm rfl <| Qm rfl <| Ql rfl rfl <| JL.nil ?_
 refine zi (fun h53 h53' => ?_) fun h53 h53' => ?_
 ·
  have hkl : k < (M.recL s).length := by have h9 := h53'; rw [hrs] at hll; (try simp at hll); omega
  have hkc : k < (M.recS s).length := by omega
  rw [hrs] at hkc
  obtain ⟨ye54, hye54⟩ : ∃ x, (M.split (M.u8 10) s)[k]? = some x := ⟨_, List.getElem?_eq_getElem (by omega)⟩
  have hyr : (M.recS s)[k]? = some ye54 := by rw [hrs]; exact hye54
  have hyl := hmem _ (List.mem_of_getElem? hye54)
  have hal := M.aft_len ye54 ([114, 101, 115, 105, 103, 110, 115] : List UInt8)
  have hye54 : (M.split (M.u8 10) s : List (List UInt8))[k]? = some ye54 := hye54
  refine Js.skip <| Js.seq <| Js.block <| zS <| Qm rfl <| Qm rfl <| Qq (p_indexAddr el_31 rfl rfl (by omega) (by omega) rfl) <| Qw (q_load1 ty_9.h rfl (Mem.row (i := 6) rfl (txs_get' (xs := (M.split (M.u8 10) s)) hye54))) <| zv rfl (fun w hw => c_spec_l10After ye54 ([114, 101, 115, 105, 103, 110, 115] : List UInt8)) <| Qm rfl <| Qx rfl rfl <| Qx rfl rfl <| Qa rfl <| Qa rfl ?_
  refine zJ <| Js.block <| zS <| Qf fh rfl <| Q0 0 rfl rfl rfl <| Qh rfl rfl <| Qa rfl <| JL.nil ?_
  refine zi (fun h57 h57' => ?_) fun h57 h57' => ?_
  ·
   have hE := hS.bad hkl hyr (M.lineI_7 (by simpa using h57)) (show ¬ (7 : Int) = 0 by decide)
   have hA := M.atS_b hE (show ¬ (7 : Int) = 0 by decide)
   have hq0 : 0 = (((M.chkW s).1).rules).pits := by first | (rw [hE]; done) | (rw [hE]; rfl) | (rw [hA]; done)
   have hq1 : 0 = (((M.chkW s).1).rules).seeds := by first | (rw [hE]; done) | (rw [hE]; rfl) | (rw [hA]; done)
   have hq2 : false = (((M.chkW s).1).rules).stores := by first | (rw [hE]; done) | (rw [hE]; rfl) | (rw [hA]; done)
   have hq3 : false = (((M.chkW s).1).rules).skip := by first | (rw [hE]; done) | (rw [hE]; rfl) | (rw [hA]; done)
   have hq4 : false = (((M.chkW s).1).rules).relay := by first | (rw [hE]; done) | (rw [hE]; rfl) | (rw [hA]; done)
   have hq5 : false = (((M.chkW s).1).rules).feed := by first | (rw [hE]; done) | (rw [hE]; rfl) | (rw [hA]; done)
   have hq6 : false = (((M.chkW s).1).rules).again := by first | (rw [hE]; done) | (rw [hE]; rfl) | (rw [hA]; done)
   have hq7 : 0 = (((M.chkW s).1).rules).capture := by first | (rw [hE]; done) | (rw [hE]; rfl) | (rw [hA]; done)
   have hq8 : 0 = (((M.chkW s).1).rules).slam := by first | (rw [hE]; done) | (rw [hE]; rfl) | (rw [hA]; done)
   have hq9 : [] = (((M.chkW s).1).start).pits := by first | (rw [hE]; done) | (rw [hE]; rfl) | (rw [hA]; done)
   have hq10 : [] = (((M.chkW s).1).start).stores := by first | (rw [hE]; done) | (rw [hE]; rfl) | (rw [hA]; done)
   have hq11 : 0 = (((M.chkW s).1).start).player := by first | (rw [hE]; done) | (rw [hE]; rfl) | (rw [hA]; done)
   have hq12 : [] = ((M.chkW s).1).moves := by first | (rw [hE]; done) | (rw [hE]; rfl) | (rw [hA]; done)
   have hq13 : [] = (((M.chkW s).1).now).pits := by first | (rw [hE]; done) | (rw [hE]; rfl) | (rw [hA]; done)
   have hq14 : [] = (((M.chkW s).1).now).stores := by first | (rw [hE]; done) | (rw [hE]; rfl) | (rw [hA]; done)
   have hq15 : 0 = (((M.chkW s).1).now).player := by first | (rw [hE]; done) | (rw [hE]; rfl) | (rw [hA]; done)
   have hq16 : 0 = ((M.chkW s).1).resigned := by first | (rw [hE]; done) | (rw [hE]; rfl) | (rw [hA]; done)
   have hq17 : (k : Int) = M.atS s := by first | (rw [hE]; done) | (rw [hE]; rfl) | (rw [hA]; done)
   have hq18 : 7 = (M.chkW s).2.2 := by first | (rw [hE]; done) | (rw [hE]; rfl) | (rw [hA]; done)
   refine zS <| Qb ?_
   refine Qm rfl <| zw 7 rfl rfl rfl ?_
   refine Qa rfl <| Qa rfl <| JL.nil ?_
   exact zro x52
  have n7 : ¬ 0 ≤ gk.resigned := by simpa using h57
  refine zS <| Qm rfl <| Qm rfl <| zg (Gd.t1 rfl rfl rfl) (fun hc => p_move rfl) <| zg (Gd.t1 rfl rfl rfl) (fun hc => p_eqlT und_9 (gh hc rfl) rfl) <| zg (Gd.t1 rfl rfl rfl) (fun hc => p_move (gh hc rfl)) <| zg (Gd.f2 rfl rfl rfl) (fun hc => p_move rfl) <| zg (Gd.f2 rfl rfl rfl) (fun hc => p_eqlT und_9 (gh hc rfl) rfl) <| zg (Gd.t1 rfl rfl rfl) (fun hc => p_pickOr (gh hc rfl) rfl (gvl rfl hc)) <| Qq (p_pickAnd rfl rfl rfl) <| Qa rfl <| JL.nil ?_
  refine zi (fun h58 h58' => ?_) fun h58 h58' => ?_
  ·
   have hc9 := h58
   have hq : (M.aft ye54 M.resW).2 = true ∧ ((M.aft ye54 M.resW).1 = [48] ∨ (M.aft ye54 M.resW).1 = [49]) := by simpa [M.resW] using hc9
   have hS2 := hS.step hkl hyr (M.res_line n7 hq.1 hq.2) rfl
   refine zS <| Qm rfl <| zv rfl (fun w hw => c_spec_l01Number ((M.aft ye54 ([114, 101, 115, 105, 103, 110, 115] : List UInt8)).1)) <| Qm rfl <| Qx rfl rfl <| Qx rfl rfl <| Qa rfl <| Qa rfl <| zN <| Qm rfl <| Qf fh rfl <| zw 0 rfl rfl rfl ?_
   refine JL.nil ?_
   refine zx ?_
   refine Js.region <| Qm rfl <| Qp rfl rfl <| Qa rfl <| JL.nil ?_
   exact zag ⟨k + 1, M.resG gk (M.num (M.aft ye54 M.resW).1).1, _, _, _, _, _, _, _, _, _, _, _, _, _, _, _, rfl, rfl, by exact hS2, by first | omega | (dsimp only [M.resG]; omega), by first | omega | (dsimp only [M.resG]; omega), by first | omega | (dsimp only [M.resG]; omega), by first | omega | (dsimp only [M.resG]; omega), by first | omega | (dsimp only [M.resG]; omega), by first | omega | (dsimp only [M.resG]; omega), by first | omega | (dsimp only [M.resG]; omega), by first | omega | (dsimp only [M.resG]; omega), by first | omega | (dsimp only [M.resG]; omega), by first | omega | (dsimp only [M.resG]; omega), rfl⟩ x52 (by omega)
  have hc9 := h58
  obtain ⟨n0, n1⟩ := M.res_not (y := ye54) (by have h9 := hc9; simp only [M.resW]; simpa using h9)
  have hye54 : (M.split (M.u8 10) s : List (List UInt8))[k]? = some ye54 := hye54
  refine Js.skip <| Js.blockEnd <| zS <| Qm rfl <| Qm rfl <| Qq (p_indexAddr el_31 rfl rfl (by omega) (by omega) rfl) <| Qw (q_load1 ty_9.h rfl (Mem.row (i := 6) rfl (txs_get' (xs := (M.split (M.u8 10) s)) hye54))) <| zc rfl (fun w hw => c_spec_l10Next gk ye54 (ok_ hw)) ?_
  intro A63 c63 bl63 bh63 A64 c64 bl64 bh64 A65 c65 bl65 bh65 A66 c66 bl66 bh66 A67 c67 bl67 bh67
  refine Qm rfl <| Qx rfl rfl <| Qx rfl rfl <| za zeh fun b68 => zw 0 rfl rfl rfl ?_
  refine Qa rfl <| zJ <| zS <| Qm rfl <| Qd rfl rfl <| JL.nil ?_
  refine zi (fun h69 h69' => ?_) fun h69 h69' => ?_
  ·
   have n9 : ¬ (M.nextR gk (M.numR ye54)).2 = 0 := by simpa using h69
   have hE := hS.bad hkl hyr (M.lineI_n n7 n0 n1 n9) n9
   have hA := M.atS_b hE n9
   have hq0 : 0 = (((M.chkW s).1).rules).pits := by first | (rw [hE]; done) | (rw [hE]; rfl) | (rw [hA]; done)
   have hq1 : 0 = (((M.chkW s).1).rules).seeds := by first | (rw [hE]; done) | (rw [hE]; rfl) | (rw [hA]; done)
   have hq2 : false = (((M.chkW s).1).rules).stores := by first | (rw [hE]; done) | (rw [hE]; rfl) | (rw [hA]; done)
   have hq3 : false = (((M.chkW s).1).rules).skip := by first | (rw [hE]; done) | (rw [hE]; rfl) | (rw [hA]; done)
   have hq4 : false = (((M.chkW s).1).rules).relay := by first | (rw [hE]; done) | (rw [hE]; rfl) | (rw [hA]; done)
   have hq5 : false = (((M.chkW s).1).rules).feed := by first | (rw [hE]; done) | (rw [hE]; rfl) | (rw [hA]; done)
   have hq6 : false = (((M.chkW s).1).rules).again := by first | (rw [hE]; done) | (rw [hE]; rfl) | (rw [hA]; done)
   have hq7 : 0 = (((M.chkW s).1).rules).capture := by first | (rw [hE]; done) | (rw [hE]; rfl) | (rw [hA]; done)
   have hq8 : 0 = (((M.chkW s).1).rules).slam := by first | (rw [hE]; done) | (rw [hE]; rfl) | (rw [hA]; done)
   have hq9 : [] = (((M.chkW s).1).start).pits := by first | (rw [hE]; done) | (rw [hE]; rfl) | (rw [hA]; done)
   have hq10 : [] = (((M.chkW s).1).start).stores := by first | (rw [hE]; done) | (rw [hE]; rfl) | (rw [hA]; done)
   have hq11 : 0 = (((M.chkW s).1).start).player := by first | (rw [hE]; done) | (rw [hE]; rfl) | (rw [hA]; done)
   have hq12 : [] = ((M.chkW s).1).moves := by first | (rw [hE]; done) | (rw [hE]; rfl) | (rw [hA]; done)
   have hq13 : [] = (((M.chkW s).1).now).pits := by first | (rw [hE]; done) | (rw [hE]; rfl) | (rw [hA]; done)
   have hq14 : [] = (((M.chkW s).1).now).stores := by first | (rw [hE]; done) | (rw [hE]; rfl) | (rw [hA]; done)
   have hq15 : 0 = (((M.chkW s).1).now).player := by first | (rw [hE]; done) | (rw [hE]; rfl) | (rw [hA]; done)
   have hq16 : 0 = ((M.chkW s).1).resigned := by first | (rw [hE]; done) | (rw [hE]; rfl) | (rw [hA]; done)
   have hq17 : (k : Int) = M.atS s := by first | (rw [hE]; done) | (rw [hE]; rfl) | (rw [hA]; done)
   have hq18 : ((M.nextR gk (M.numR ye54)).2) = (M.chkW s).2.2 := by first | (rw [hE]; done) | (rw [hE]; rfl) | (rw [hA]; done)
   refine zS <| Qb ?_
   refine Qm rfl <| Qm rfl <| zw 13 rfl rfl rfl ?_
   refine Qa rfl <| Qa rfl <| JL.nil ?_
   exact zro x52
  have n9 : (M.nextR gk (M.numR ye54)).2 = 0 := by simpa using h69
  have hS2 := hS.step hkl hyr (M.lineI_y n7 n0 n1 n9) rfl
  refine Js.skip <| Js.region <| Q9 0 rfl rfl ?_
  refine zw 6 rfl rfl rfl ?_
  refine JL.nil <| Js.blockEnd <| Js.region <| Qm rfl <| Qp rfl rfl <| Qa rfl <| JL.nil ?_
  refine zd [6, 1, 1, 1, 1, 1, 6, 6] rfl fun u70 x70 => ?_
  exact zag ⟨k + 1, (M.nextR gk (M.numR ye54)).1, _, _, _, _, _, _, _, _, _, _, _, _, _, _, _, rfl, rfl, by exact hS2, by first | omega | (dsimp only [M.resG]; omega), by first | omega | (dsimp only [M.resG]; omega), by first | omega | (dsimp only [M.resG]; omega), by first | omega | (dsimp only [M.resG]; omega), by first | omega | (dsimp only [M.resG]; omega), by first | omega | (dsimp only [M.resG]; omega), by first | omega | (dsimp only [M.resG]; omega), by first | omega | (dsimp only [M.resG]; omega), by first | omega | (dsimp only [M.resG]; omega), by first | omega | (dsimp only [M.resG]; omega), rfl⟩ (x52.trans x70) (by omega)
 have hkl : (M.recL s).length ≤ k := by have h9 := h53'; have hll : (M.recS s).length = (M.recL s).length + 1 := (by rw [hS.l]; simp); rw [hrs] at hll; (try simp at hll); omega
 refine zx ?_
 refine Js.seq <| zS <| Qm rfl <| Qt rfl <| JL.nil ?_
 refine zi (fun h71 h71' => ?_) fun h71 h71' => ?_
 ·
  have hE := hS.end_ hkl (by have h9 := h71; rw [hwh]; simpa using h9)
  have hA := M.atS_b hE (show ¬ (7 : Int) = 0 by decide)
  have hkq : (k : Int) = (((M.split (M.u8 10) s).length) : Int) - 1 := by have h8 := hS.kn; have hll : (M.recS s).length = (M.recL s).length + 1 := (by rw [hS.l]; simp); rw [hrs] at hll; (try simp at hll); omega
  rw [hkq] at hA
  have hq0 : 0 = (((M.chkW s).1).rules).pits := by first | (rw [hE]; done) | (rw [hE]; rfl) | (rw [hA]; done)
  have hq1 : 0 = (((M.chkW s).1).rules).seeds := by first | (rw [hE]; done) | (rw [hE]; rfl) | (rw [hA]; done)
  have hq2 : false = (((M.chkW s).1).rules).stores := by first | (rw [hE]; done) | (rw [hE]; rfl) | (rw [hA]; done)
  have hq3 : false = (((M.chkW s).1).rules).skip := by first | (rw [hE]; done) | (rw [hE]; rfl) | (rw [hA]; done)
  have hq4 : false = (((M.chkW s).1).rules).relay := by first | (rw [hE]; done) | (rw [hE]; rfl) | (rw [hA]; done)
  have hq5 : false = (((M.chkW s).1).rules).feed := by first | (rw [hE]; done) | (rw [hE]; rfl) | (rw [hA]; done)
  have hq6 : false = (((M.chkW s).1).rules).again := by first | (rw [hE]; done) | (rw [hE]; rfl) | (rw [hA]; done)
  have hq7 : 0 = (((M.chkW s).1).rules).capture := by first | (rw [hE]; done) | (rw [hE]; rfl) | (rw [hA]; done)
  have hq8 : 0 = (((M.chkW s).1).rules).slam := by first | (rw [hE]; done) | (rw [hE]; rfl) | (rw [hA]; done)
  have hq9 : [] = (((M.chkW s).1).start).pits := by first | (rw [hE]; done) | (rw [hE]; rfl) | (rw [hA]; done)
  have hq10 : [] = (((M.chkW s).1).start).stores := by first | (rw [hE]; done) | (rw [hE]; rfl) | (rw [hA]; done)
  have hq11 : 0 = (((M.chkW s).1).start).player := by first | (rw [hE]; done) | (rw [hE]; rfl) | (rw [hA]; done)
  have hq12 : [] = ((M.chkW s).1).moves := by first | (rw [hE]; done) | (rw [hE]; rfl) | (rw [hA]; done)
  have hq13 : [] = (((M.chkW s).1).now).pits := by first | (rw [hE]; done) | (rw [hE]; rfl) | (rw [hA]; done)
  have hq14 : [] = (((M.chkW s).1).now).stores := by first | (rw [hE]; done) | (rw [hE]; rfl) | (rw [hA]; done)
  have hq15 : 0 = (((M.chkW s).1).now).player := by first | (rw [hE]; done) | (rw [hE]; rfl) | (rw [hA]; done)
  have hq16 : 0 = ((M.chkW s).1).resigned := by first | (rw [hE]; done) | (rw [hE]; rfl) | (rw [hA]; done)
  have hq17 : (((((M.split (M.u8 10) s).length) : Int) - 1) - 1) = M.atS s := by first | (rw [hE]; done) | (rw [hE]; rfl) | (rw [hA]; done)
  have hq18 : 7 = (M.chkW s).2.2 := by first | (rw [hE]; done) | (rw [hE]; rfl) | (rw [hA]; done)
  refine zS <| Qb ?_
  refine Qm rfl <| Qs rfl rfl <| zw 7 rfl rfl rfl ?_
  refine Qa rfl <| Qa rfl <| JL.nil ?_
  exact zro x52
 have hE := hS.done hkl (by have h9 := h71; rw [hwh]; simpa using h9)
 have hA := M.atS_0 hE
 have hq0 : gk.rules.pits = (((M.chkW s).1).rules).pits := by first | (rw [hE]; done) | (rw [hE]; rfl) | (rw [hA]; done)
 have hq1 : gk.rules.seeds = (((M.chkW s).1).rules).seeds := by first | (rw [hE]; done) | (rw [hE]; rfl) | (rw [hA]; done)
 have hq2 : gk.rules.stores = (((M.chkW s).1).rules).stores := by first | (rw [hE]; done) | (rw [hE]; rfl) | (rw [hA]; done)
 have hq3 : gk.rules.skip = (((M.chkW s).1).rules).skip := by first | (rw [hE]; done) | (rw [hE]; rfl) | (rw [hA]; done)
 have hq4 : gk.rules.relay = (((M.chkW s).1).rules).relay := by first | (rw [hE]; done) | (rw [hE]; rfl) | (rw [hA]; done)
 have hq5 : gk.rules.feed = (((M.chkW s).1).rules).feed := by first | (rw [hE]; done) | (rw [hE]; rfl) | (rw [hA]; done)
 have hq6 : gk.rules.again = (((M.chkW s).1).rules).again := by first | (rw [hE]; done) | (rw [hE]; rfl) | (rw [hA]; done)
 have hq7 : gk.rules.capture = (((M.chkW s).1).rules).capture := by first | (rw [hE]; done) | (rw [hE]; rfl) | (rw [hA]; done)
 have hq8 : gk.rules.slam = (((M.chkW s).1).rules).slam := by first | (rw [hE]; done) | (rw [hE]; rfl) | (rw [hA]; done)
 have hq9 : gk.start.pits = (((M.chkW s).1).start).pits := by first | (rw [hE]; done) | (rw [hE]; rfl) | (rw [hA]; done)
 have hq10 : gk.start.stores = (((M.chkW s).1).start).stores := by first | (rw [hE]; done) | (rw [hE]; rfl) | (rw [hA]; done)
 have hq11 : gk.start.player = (((M.chkW s).1).start).player := by first | (rw [hE]; done) | (rw [hE]; rfl) | (rw [hA]; done)
 have hq12 : gk.moves = ((M.chkW s).1).moves := by first | (rw [hE]; done) | (rw [hE]; rfl) | (rw [hA]; done)
 have hq13 : gk.now.pits = (((M.chkW s).1).now).pits := by first | (rw [hE]; done) | (rw [hE]; rfl) | (rw [hA]; done)
 have hq14 : gk.now.stores = (((M.chkW s).1).now).stores := by first | (rw [hE]; done) | (rw [hE]; rfl) | (rw [hA]; done)
 have hq15 : gk.now.player = (((M.chkW s).1).now).player := by first | (rw [hE]; done) | (rw [hE]; rfl) | (rw [hA]; done)
 have hq16 : gk.resigned = ((M.chkW s).1).resigned := by first | (rw [hE]; done) | (rw [hE]; rfl) | (rw [hA]; done)
 have hq17 : 0 = M.atS s := by first | (rw [hE]; done) | (rw [hE]; rfl) | (rw [hA]; done)
 have hq18 : 0 = (M.chkW s).2.2 := by first | (rw [hE]; done) | (rw [hE]; rfl) | (rw [hA]; done)
 refine Js.skip <| zS <| Q9 0 rfl rfl ?_
 refine zw 7 rfl rfl rfl ?_
 refine Qa rfl <| Qa rfl <| JL.nil ?_
 exact zro x52
theorem c_spec_ReadRecord (s : List UInt8) {w : World} (r0 : s.length ≤ 1048576 := by exact om_) : Ret Tryz.prog 26 [.string (sB s)] w (Ty.tup [Ty.agg (cGame ((M.readG s).1)), Ty.bool ((M.readG s).2)]) := by
 refine enter @Tryz.func26 @Tryz.ntmps26 rfl rfl ?_
 refine zent ?_
 refine zS <| za zeh fun b1 => Qa rfl <| zJ <| zS <| Qm rfl <| Qq (p_lenS und_9 rfl) <| Qg rfl rfl <| JL.nil ?_
 refine zi (fun h2 h2' => ?_) fun h2 h2' => ?_
 ·
  have hE := M.readG_5 (s := s) (by have := h2'; omega)
  have hq0 : 0 = (((M.readG s).1).rules).pits := rp_ hE
  have hq1 : 0 = (((M.readG s).1).rules).seeds := rp_ hE
  have hq2 : false = (((M.readG s).1).rules).stores := rp_ hE
  have hq3 : false = (((M.readG s).1).rules).skip := rp_ hE
  have hq4 : false = (((M.readG s).1).rules).relay := rp_ hE
  have hq5 : false = (((M.readG s).1).rules).feed := rp_ hE
  have hq6 : false = (((M.readG s).1).rules).again := rp_ hE
  have hq7 : 0 = (((M.readG s).1).rules).capture := rp_ hE
  have hq8 : 0 = (((M.readG s).1).rules).slam := rp_ hE
  have hq9 : [] = (((M.readG s).1).start).pits := rp_ hE
  have hq10 : [] = (((M.readG s).1).start).stores := rp_ hE
  have hq11 : 0 = (((M.readG s).1).start).player := rp_ hE
  have hq12 : [] = ((M.readG s).1).moves := rp_ hE
  have hq13 : [] = (((M.readG s).1).now).pits := rp_ hE
  have hq14 : [] = (((M.readG s).1).now).stores := rp_ hE
  have hq15 : 0 = (((M.readG s).1).now).player := rp_ hE
  have hq16 : 0 = ((M.readG s).1).resigned := rp_ hE
  have hq17 : false = (M.readG s).2 := rp_ hE
  refine zS <| Qb ?_
  refine zw 0 rfl rfl rfl ?_
  refine Qa rfl <| JL.nil ?_
  exact zro (Up.refl _ _)
 have hs9 : ¬ 4000 < s.length := by have := h2'; omega
 refine Js.skip <| zS <| Qm rfl <| zc rfl (fun w hw => c_spec_l10Read s) ?_
 intro A5 c5 bl5 bh5 A6 c6 bl6 bh6 A7 c7 bl7 bh7 A8 c8 bl8 bh8 A9 c9 bl9 bh9
 refine Qm rfl <| Qx rfl rfl <| Qx rfl rfl <| Qx rfl rfl <| za zeh fun b10 => zw 0 rfl rfl rfl ?_
 refine Qa rfl <| Qa rfl <| zJ <| zS <| Qm rfl <| Qd rfl rfl <| JL.nil ?_
 refine zi (fun h11 h11' => ?_) fun h11 h11' => ?_
 ·
  have hE := M.readG_n hs9 (by simpa using h11)
  have hq0 : 0 = (((M.readG s).1).rules).pits := rp_ hE
  have hq1 : 0 = (((M.readG s).1).rules).seeds := rp_ hE
  have hq2 : false = (((M.readG s).1).rules).stores := rp_ hE
  have hq3 : false = (((M.readG s).1).rules).skip := rp_ hE
  have hq4 : false = (((M.readG s).1).rules).relay := rp_ hE
  have hq5 : false = (((M.readG s).1).rules).feed := rp_ hE
  have hq6 : false = (((M.readG s).1).rules).again := rp_ hE
  have hq7 : 0 = (((M.readG s).1).rules).capture := rp_ hE
  have hq8 : 0 = (((M.readG s).1).rules).slam := rp_ hE
  have hq9 : [] = (((M.readG s).1).start).pits := rp_ hE
  have hq10 : [] = (((M.readG s).1).start).stores := rp_ hE
  have hq11 : 0 = (((M.readG s).1).start).player := rp_ hE
  have hq12 : [] = ((M.readG s).1).moves := rp_ hE
  have hq13 : [] = (((M.readG s).1).now).pits := rp_ hE
  have hq14 : [] = (((M.readG s).1).now).stores := rp_ hE
  have hq15 : 0 = (((M.readG s).1).now).player := rp_ hE
  have hq16 : 0 = ((M.readG s).1).resigned := rp_ hE
  have hq17 : false = (M.readG s).2 := rp_ hE
  refine zS <| Qb ?_
  refine zw 6 rfl rfl rfl ?_
  refine Qa rfl <| JL.nil ?_
  exact zro (Up.refl _ _)
 have hE := M.readG_y hs9 (by simpa using h11)
 have hq0 : ((((M.chkW s).1).rules).pits) = (((M.readG s).1).rules).pits := rp_ hE
 have hq1 : ((((M.chkW s).1).rules).seeds) = (((M.readG s).1).rules).seeds := rp_ hE
 have hq2 : ((((M.chkW s).1).rules).stores) = (((M.readG s).1).rules).stores := rp_ hE
 have hq3 : ((((M.chkW s).1).rules).skip) = (((M.readG s).1).rules).skip := rp_ hE
 have hq4 : ((((M.chkW s).1).rules).relay) = (((M.readG s).1).rules).relay := rp_ hE
 have hq5 : ((((M.chkW s).1).rules).feed) = (((M.readG s).1).rules).feed := rp_ hE
 have hq6 : ((((M.chkW s).1).rules).again) = (((M.readG s).1).rules).again := rp_ hE
 have hq7 : ((((M.chkW s).1).rules).capture) = (((M.readG s).1).rules).capture := rp_ hE
 have hq8 : ((((M.chkW s).1).rules).slam) = (((M.readG s).1).rules).slam := rp_ hE
 have hq9 : ((((M.chkW s).1).start).pits) = (((M.readG s).1).start).pits := rp_ hE
 have hq10 : ((((M.chkW s).1).start).stores) = (((M.readG s).1).start).stores := rp_ hE
 have hq11 : ((((M.chkW s).1).start).player) = (((M.readG s).1).start).player := rp_ hE
 have hq12 : (((M.chkW s).1).moves) = ((M.readG s).1).moves := rp_ hE
 have hq13 : ((((M.chkW s).1).now).pits) = (((M.readG s).1).now).pits := rp_ hE
 have hq14 : ((((M.chkW s).1).now).stores) = (((M.readG s).1).now).stores := rp_ hE
 have hq15 : ((((M.chkW s).1).now).player) = (((M.readG s).1).now).player := rp_ hE
 have hq16 : (((M.chkW s).1).resigned) = ((M.readG s).1).resigned := rp_ hE
 have hq17 : true = (M.readG s).2 := rp_ hE
 refine Js.skip <| zS <| Q9 0 rfl rfl ?_
 refine zw 6 rfl rfl rfl ?_
 refine Qa rfl <| JL.nil ?_
 exact zro (Up.refl _ _)
theorem c_laws_eqInt64S (a : List Int) {v_a : Value} (b : List Int) {v_b : Value} {w : World} (h_a : (Ty.ints 2 a).ok w v_a) (h_b : (Ty.ints 2 b).ok w v_b) (r0 : a.length ≤ 4194304 := by exact om_) (r1 : b.length ≤ 4194304 := by exact om_) : RetV Tryz.prog 64 [v_a, v_b] w (.bool (decide (a = b))) := by
 revert v_a; apply opn
 intro A1 c1 h1 bl1 bh1
 have h_a := h1
 revert v_b; apply opn
 intro A2 c2 h2 bl2 bh2
 have h_b := h2
 refine enter @Tryz.func64 @Tryz.ntmps64 rfl rfl ?_
 refine zent ?_
 refine zS <| Qa rfl <| zJ <| zS <| Qm rfl <| Qz rfl <| Qm rfl <| Qz rfl <| Qd rfl rfl <| JL.nil ?_
 refine zi (fun h3 h3' => ?_) fun h3 h3' => ?_
 ·
  have e1 : decide (a = b) = false := by simp; rintro rfl; simp at h3
  refine zS <| Qa rfl <| JL.nil ?_
  refine zR (Up.refl _ _) ?_
  simp [outV, e1]
 have hlen : a.length = b.length := by have := h3'; omega
 refine Js.skip <| Js.seq <| zS <| Qa rfl <| JL.nil <| Js.block ?_
 refine zl [0, 1] (fun F U l os u m => ∃ (k : Nat), l = F [(5, .int .i64 (k : Int))] ∧ os = U [] ∧ (k ≤ a.length) ∧ (M.Upto a b k) ∧ m = a.length - k) ⟨0, rfl, rfl, zt, by exact M.Upto.zero _ _, rfl⟩ ?_
 rintro _ _ u4 _ ⟨k, rfl, rfl, hk, hU, rfl⟩ x4
 refine zn ?_
 refine Js.seq <| zS <| Qm rfl <| Qm rfl <| Qz rfl <| Ql rfl rfl <| JL.nil ?_
 refine zi (fun h5 h5' => ?_) fun h5 h5' => ?_
 ·
  refine Js.skip <| Js.seq <| Js.block <| Js.seq ?_
  refine zdr [] ?_
  refine jM 0 rfl rfl ?_
  refine jM 1 rfl rfl ?_
  obtain ⟨b6, o6, he6, hc6⟩ := ints_elem (Ty.mono _ h1 x4.vis) (i := k) (by omega)
  refine jI 2 el_26 rfl rfl rfl he6 ?_
  refine jW 3 ty_2 rfl rfl hc6.vis ?_
  refine jM 4 rfl rfl ?_
  refine jM 5 rfl rfl ?_
  obtain ⟨b7, o7, he7, hc7⟩ := ints_elem (Ty.mono _ h2 x4.vis) (i := k) (by omega)
  refine jI 6 el_26 rfl rfl rfl he7 ?_
  refine jW 7 ty_2 rfl rfl hc7.vis ?_
  refine JH.p 8 rfl (p_neq rfl rfl) ?_
  refine yd ?_
  refine zi (fun h8 h8' => ?_) fun h8 h8' => ?_
  ·
   have e1 : decide (a = b) = false := by simpa using M.ne_of_nth (a := a) (b := b) (k := k) (by simpa using h8)
   refine zS <| Qa rfl <| JL.nil ?_
   refine zR x4 ?_
   simp [outV, e1]
  have hab : M.nth a k = M.nth b k := by simpa using h8
  refine Js.skip <| Js.blockEnd <| Js.region <| Qm rfl <| Qp rfl rfl <| Qa rfl <| JL.nil ?_
  exact zag ⟨k + 1, rfl, rfl, zt, by exact hU.step (by omega) (by omega) hab, rfl⟩ x4
 have e1 : a = b := hU.done (by omega) (by omega)
 refine zx ?_
 refine zS <| Qa rfl <| JL.nil ?_
 refine zR x4 ?_
 simp [outV, e1]
theorem c_laws_eqPosition (a : M.Pos) {v_a : Value} (b : M.Pos) {v_b : Value} {w : World} (h_a : (Ty.agg (cPosition a)).ok w v_a) (h_b : (Ty.agg (cPosition b)).ok w v_b) (r0 : a.pits.length ≤ 4194304 := by exact om_) (r1 : a.stores.length ≤ 4194304 := by exact om_) (r2 : b.pits.length ≤ 4194304 := by exact om_) (r3 : b.stores.length ≤ 4194304 := by exact om_) : RetV Tryz.prog 63 [v_a, v_b] w (.bool (decide (a = b))) := by
 revert v_a; apply opn
 intro A1 c1 h1 bl1 bh1 A2 c2 h2 bl2 bh2
 revert v_b; apply opn
 intro A3 c3 h3 bl3 bh3 A4 c4 h4 bl4 bh4
 refine enter @Tryz.func63 @Tryz.ntmps63 rfl rfl ?_
 refine zent ?_
 refine zS <| zb rfl fun b5 => zb rfl fun b6 => Qa rfl <| zJ <| zS <| Qf fh rfl <| Q0 1 rfl rfl rfl <| Qf fh rfl <| Q0 0 rfl rfl rfl <| zv rfl (fun w hw => c_laws_eqInt64S a.pits b.pits (ok_ hw) (ok_ hw)) <| Qt rfl <| JL.nil ?_
 refine zi (fun h7 h7' => ?_) fun h7 h7' => ?_
 ·
  have hne : a ≠ b := by rintro rfl; simp at h7
  refine zS <| Qa rfl <| JL.nil ?_
  refine zR (Up.refl _ _) ?_
  first | (rw [decide_eq_false hne]; rfl) | (rw [decide_eq_true (M.pos_ext q0 q1 q2)]; rfl)
 have q0 : a.pits = b.pits := by simpa using h7
 refine Js.skip <| Js.seq <| zS <| Qf fh rfl <| Q0 1 rfl rfl rfl <| Qf fh rfl <| Q0 0 rfl rfl rfl <| zv rfl (fun w hw => c_laws_eqInt64S a.stores b.stores (ok_ hw) (ok_ hw)) <| Qt rfl <| JL.nil ?_
 refine zi (fun h8 h8' => ?_) fun h8 h8' => ?_
 ·
  have hne : a ≠ b := by rintro rfl; simp at h8
  refine zS <| Qa rfl <| JL.nil ?_
  refine zR (Up.refl _ _) ?_
  first | (rw [decide_eq_false hne]; rfl) | (rw [decide_eq_true (M.pos_ext q0 q1 q2)]; rfl)
 have q1 : a.stores = b.stores := by simpa using h8
 refine Js.skip <| Js.seq <| zS <| Qf fh rfl <| Q0 1 rfl rfl rfl <| Qf fh rfl <| Q0 0 rfl rfl rfl <| Qd rfl rfl <| JL.nil ?_
 refine zi (fun h9 h9' => ?_) fun h9 h9' => ?_
 ·
  have hne : a ≠ b := by rintro rfl; simp at h9
  refine zS <| Qa rfl <| JL.nil ?_
  refine zR (Up.refl _ _) ?_
  first | (rw [decide_eq_false hne]; rfl) | (rw [decide_eq_true (M.pos_ext q0 q1 q2)]; rfl)
 have q2 : a.player = b.player := by simpa using h9
 refine Js.skip <| zS <| Qa rfl <| JL.nil ?_
 refine zR (Up.refl _ _) ?_
 first | (rw [decide_eq_false hne]; rfl) | (rw [decide_eq_true (M.pos_ext q0 q1 q2)]; rfl)
theorem c_laws_eqRules (a : M.Rul) {v_a : Value} (b : M.Rul) {v_b : Value} {w : World} (h_a : (Ty.agg (cRules a)).ok w v_a) (h_b : (Ty.agg (cRules b)).ok w v_b) : RetV Tryz.prog 62 [v_a, v_b] w (.bool (decide (a = b))) := by
 revert v_a; apply opn
 revert v_b; apply opn
 refine enter @Tryz.func62 @Tryz.ntmps62 rfl rfl ?_
 refine zent ?_
 refine zS <| zb rfl fun b1 => zb rfl fun b2 => Qa rfl <| zJ <| zS <| Qf fh rfl <| Q0 1 rfl rfl rfl <| Qf fh rfl <| Q0 0 rfl rfl rfl <| Qd rfl rfl <| JL.nil ?_
 refine zi (fun h3 h3' => ?_) fun h3 h3' => ?_
 ·
  have hne : a ≠ b := by rintro rfl; simp at h3
  refine zS <| Qa rfl <| JL.nil ?_
  refine zR (Up.refl _ _) ?_
  first | (rw [decide_eq_false hne]; rfl) | (rw [decide_eq_true (M.rul_ext q0 q1 q2 q3 q4 q5 q6 q7 q8)]; rfl)
 have q0 : a.pits = b.pits := by simpa using h3
 refine Js.skip <| Js.seq <| zS <| Qf fh rfl <| Q0 1 rfl rfl rfl <| Qf fh rfl <| Q0 0 rfl rfl rfl <| Qd rfl rfl <| JL.nil ?_
 refine zi (fun h4 h4' => ?_) fun h4 h4' => ?_
 ·
  have hne : a ≠ b := by rintro rfl; simp at h4
  refine zS <| Qa rfl <| JL.nil ?_
  refine zR (Up.refl _ _) ?_
  first | (rw [decide_eq_false hne]; rfl) | (rw [decide_eq_true (M.rul_ext q0 q1 q2 q3 q4 q5 q6 q7 q8)]; rfl)
 have q1 : a.seeds = b.seeds := by simpa using h4
 refine Js.skip <| Js.seq <| zS <| Qf fh rfl <| Q0 1 rfl rfl rfl <| Qf fh rfl <| Q0 0 rfl rfl rfl <| Qq (p_neqB und_4 rfl rfl) <| JL.nil ?_
 refine zi (fun h5 h5' => ?_) fun h5 h5' => ?_
 ·
  have hne : a ≠ b := by rintro rfl; simp at h5
  refine zS <| Qa rfl <| JL.nil ?_
  refine zR (Up.refl _ _) ?_
  first | (rw [decide_eq_false hne]; rfl) | (rw [decide_eq_true (M.rul_ext q0 q1 q2 q3 q4 q5 q6 q7 q8)]; rfl)
 have q2 : a.stores = b.stores := by simpa using h5
 refine Js.skip <| Js.seq <| zS <| Qf fh rfl <| Q0 1 rfl rfl rfl <| Qf fh rfl <| Q0 0 rfl rfl rfl <| Qq (p_neqB und_4 rfl rfl) <| JL.nil ?_
 refine zi (fun h6 h6' => ?_) fun h6 h6' => ?_
 ·
  have hne : a ≠ b := by rintro rfl; simp at h6
  refine zS <| Qa rfl <| JL.nil ?_
  refine zR (Up.refl _ _) ?_
  first | (rw [decide_eq_false hne]; rfl) | (rw [decide_eq_true (M.rul_ext q0 q1 q2 q3 q4 q5 q6 q7 q8)]; rfl)
 have q3 : a.skip = b.skip := by simpa using h6
 refine Js.skip <| Js.seq <| zS <| Qf fh rfl <| Q0 1 rfl rfl rfl <| Qf fh rfl <| Q0 0 rfl rfl rfl <| Qq (p_neqB und_4 rfl rfl) <| JL.nil ?_
 refine zi (fun h7 h7' => ?_) fun h7 h7' => ?_
 ·
  have hne : a ≠ b := by rintro rfl; simp at h7
  refine zS <| Qa rfl <| JL.nil ?_
  refine zR (Up.refl _ _) ?_
  first | (rw [decide_eq_false hne]; rfl) | (rw [decide_eq_true (M.rul_ext q0 q1 q2 q3 q4 q5 q6 q7 q8)]; rfl)
 have q4 : a.relay = b.relay := by simpa using h7
 refine Js.skip <| Js.seq <| zS <| Qf fh rfl <| Q0 1 rfl rfl rfl <| Qf fh rfl <| Q0 0 rfl rfl rfl <| Qq (p_neqB und_4 rfl rfl) <| JL.nil ?_
 refine zi (fun h8 h8' => ?_) fun h8 h8' => ?_
 ·
  have hne : a ≠ b := by rintro rfl; simp at h8
  refine zS <| Qa rfl <| JL.nil ?_
  refine zR (Up.refl _ _) ?_
  first | (rw [decide_eq_false hne]; rfl) | (rw [decide_eq_true (M.rul_ext q0 q1 q2 q3 q4 q5 q6 q7 q8)]; rfl)
 have q5 : a.feed = b.feed := by simpa using h8
 refine Js.skip <| Js.seq <| zS <| Qf fh rfl <| Q0 1 rfl rfl rfl <| Qf fh rfl <| Q0 0 rfl rfl rfl <| Qq (p_neqB und_4 rfl rfl) <| JL.nil ?_
 refine zi (fun h9 h9' => ?_) fun h9 h9' => ?_
 ·
  have hne : a ≠ b := by rintro rfl; simp at h9
  refine zS <| Qa rfl <| JL.nil ?_
  refine zR (Up.refl _ _) ?_
  first | (rw [decide_eq_false hne]; rfl) | (rw [decide_eq_true (M.rul_ext q0 q1 q2 q3 q4 q5 q6 q7 q8)]; rfl)
 have q6 : a.again = b.again := by simpa using h9
 refine Js.skip <| Js.seq <| zS <| Qf fh rfl <| Q0 1 rfl rfl rfl <| Qf fh rfl <| Q0 0 rfl rfl rfl <| Qd rfl rfl <| JL.nil ?_
 refine zi (fun h10 h10' => ?_) fun h10 h10' => ?_
 ·
  have hne : a ≠ b := by rintro rfl; simp at h10
  refine zS <| Qa rfl <| JL.nil ?_
  refine zR (Up.refl _ _) ?_
  first | (rw [decide_eq_false hne]; rfl) | (rw [decide_eq_true (M.rul_ext q0 q1 q2 q3 q4 q5 q6 q7 q8)]; rfl)
 have q7 : a.capture = b.capture := by simpa using h10
 refine Js.skip <| Js.seq <| zS <| Qf fh rfl <| Q0 1 rfl rfl rfl <| Qf fh rfl <| Q0 0 rfl rfl rfl <| Qd rfl rfl <| JL.nil ?_
 refine zi (fun h11 h11' => ?_) fun h11 h11' => ?_
 ·
  have hne : a ≠ b := by rintro rfl; simp at h11
  refine zS <| Qa rfl <| JL.nil ?_
  refine zR (Up.refl _ _) ?_
  first | (rw [decide_eq_false hne]; rfl) | (rw [decide_eq_true (M.rul_ext q0 q1 q2 q3 q4 q5 q6 q7 q8)]; rfl)
 have q8 : a.slam = b.slam := by simpa using h11
 refine Js.skip <| zS <| Qa rfl <| JL.nil ?_
 refine zR (Up.refl _ _) ?_
 first | (rw [decide_eq_false hne]; rfl) | (rw [decide_eq_true (M.rul_ext q0 q1 q2 q3 q4 q5 q6 q7 q8)]; rfl)
theorem c_laws_eqGame (a : M.Gam) {v_a : Value} (b : M.Gam) {v_b : Value} {w : World} (h_a : (Ty.agg (cGame a)).ok w v_a) (h_b : (Ty.agg (cGame b)).ok w v_b) (r0 : a.start.pits.length ≤ 4194304 := by exact om_) (r1 : a.start.stores.length ≤ 4194304 := by exact om_) (r2 : a.moves.length ≤ 4194304 := by exact om_) (r3 : a.now.pits.length ≤ 4194304 := by exact om_) (r4 : a.now.stores.length ≤ 4194304 := by exact om_) (r5 : b.start.pits.length ≤ 4194304 := by exact om_) (r6 : b.start.stores.length ≤ 4194304 := by exact om_) (r7 : b.moves.length ≤ 4194304 := by exact om_) (r8 : b.now.pits.length ≤ 4194304 := by exact om_) (r9 : b.now.stores.length ≤ 4194304 := by exact om_) : RetV Tryz.prog 28 [v_a, v_b] w (.bool (decide (a = b))) := by
 revert v_a; apply opn
 intro A1 c1 h1 bl1 bh1 A2 c2 h2 bl2 bh2 A3 c3 h3 bl3 bh3 A4 c4 h4 bl4 bh4 A5 c5 h5 bl5 bh5
 revert v_b; apply opn
 intro A6 c6 h6 bl6 bh6 A7 c7 h7 bl7 bh7 A8 c8 h8 bl8 bh8 A9 c9 h9 bl9 bh9 A10 c10 h10 bl10 bh10
 refine enter @Tryz.func28 @Tryz.ntmps28 rfl rfl ?_
 refine zent ?_
 refine zS <| zb rfl fun b11 => zb rfl fun b12 => Qa rfl <| zJ <| zS <| Qf fh rfl <| Q9 1 rfl rfl ?_
 refine Qf fh rfl <| Q9 0 rfl rfl ?_
 refine zv rfl (fun w hw => c_laws_eqRules a.rules b.rules (ok_ hw) (ok_ hw)) <| Qt rfl <| JL.nil ?_
 refine zi (fun h13 h13' => ?_) fun h13 h13' => ?_
 ·
  have hne : a ≠ b := by rintro rfl; simp at h13
  refine zS <| Qa rfl <| JL.nil ?_
  refine zR (Up.refl _ _) ?_
  first | (rw [decide_eq_false hne]; rfl) | (rw [decide_eq_true (M.gam_ext q0 q1 q2 q3 q4)]; rfl)
 have q0 : a.rules = b.rules := by simpa using h13
 refine Js.skip <| Js.seq <| zS <| Qf fh rfl <| Q9 1 rfl rfl ?_
 refine Qf fh rfl <| Q9 0 rfl rfl ?_
 refine zv rfl (fun w hw => c_laws_eqPosition a.start b.start (ok_ hw) (ok_ hw)) <| Qt rfl <| JL.nil ?_
 refine zi (fun h14 h14' => ?_) fun h14 h14' => ?_
 ·
  have hne : a ≠ b := by rintro rfl; simp at h14
  refine zS <| Qa rfl <| JL.nil ?_
  refine zR (Up.refl _ _) ?_
  first | (rw [decide_eq_false hne]; rfl) | (rw [decide_eq_true (M.gam_ext q0 q1 q2 q3 q4)]; rfl)
 have q1 : a.start = b.start := by simpa using h14
 refine Js.skip <| Js.seq <| zS <| Qf fh rfl <| Q0 1 rfl rfl rfl <| Qf fh rfl <| Q0 0 rfl rfl rfl <| zv rfl (fun w hw => c_laws_eqInt64S a.moves b.moves (ok_ hw) (ok_ hw)) <| Qt rfl <| JL.nil ?_
 refine zi (fun h15 h15' => ?_) fun h15 h15' => ?_
 ·
  have hne : a ≠ b := by rintro rfl; simp at h15
  refine zS <| Qa rfl <| JL.nil ?_
  refine zR (Up.refl _ _) ?_
  first | (rw [decide_eq_false hne]; rfl) | (rw [decide_eq_true (M.gam_ext q0 q1 q2 q3 q4)]; rfl)
 have q2 : a.moves = b.moves := by simpa using h15
 refine Js.skip <| Js.seq <| zS <| Qf fh rfl <| Q9 1 rfl rfl ?_
 refine Qf fh rfl <| Q9 0 rfl rfl ?_
 refine zv rfl (fun w hw => c_laws_eqPosition a.now b.now (ok_ hw) (ok_ hw)) <| Qt rfl <| JL.nil ?_
 refine zi (fun h16 h16' => ?_) fun h16 h16' => ?_
 ·
  have hne : a ≠ b := by rintro rfl; simp at h16
  refine zS <| Qa rfl <| JL.nil ?_
  refine zR (Up.refl _ _) ?_
  first | (rw [decide_eq_false hne]; rfl) | (rw [decide_eq_true (M.gam_ext q0 q1 q2 q3 q4)]; rfl)
 have q3 : a.now = b.now := by simpa using h16
 refine Js.skip <| Js.seq <| zS <| Qf fh rfl <| Q0 1 rfl rfl rfl <| Qf fh rfl <| Q0 0 rfl rfl rfl <| Qd rfl rfl <| JL.nil ?_
 refine zi (fun h17 h17' => ?_) fun h17 h17' => ?_
 ·
  have hne : a ≠ b := by rintro rfl; simp at h17
  refine zS <| Qa rfl <| JL.nil ?_
  refine zR (Up.refl _ _) ?_
  first | (rw [decide_eq_false hne]; rfl) | (rw [decide_eq_true (M.gam_ext q0 q1 q2 q3 q4)]; rfl)
 have q4 : a.resigned = b.resigned := by simpa using h17
 refine Js.skip <| zS <| Qa rfl <| JL.nil ?_
 refine zR (Up.refl _ _) ?_
 first | (rw [decide_eq_false hne]; rfl) | (rw [decide_eq_true (M.gam_ext q0 q1 q2 q3 q4)]; rfl)
theorem c_laws_markInt64S (a : List Int) {Aa_0 : Option Addr} {ca_0 : Nat} {ga_0 : List Nat} (k : Int) {w : World} (hb : Bw w [rowO 2 1 (.slice Aa_0 a.length ca_0) a.length (ints_ a) ga_0]) (bd0 : a.length ≤ ca_0 := by exact om_) (bd1 : ca_0 ≤ 9223372036854775807 := by exact om_) (r0 : a.length ≤ 4194304 := by exact om_) (r1 : 0 ≤ k := by exact om_) (r2 : k ≤ 100000000 := by exact om_) : RetB Tryz.prog 66 [.slice Aa_0 a.length ca_0, .int .i64 k] w [rowO 2 1 (.slice Aa_0 a.length ca_0) a.length (ints_ a) ga_0] (fun v bs' => v = .int .i64 (k + (a.length : Int)) ∧ bs' = [rowO 2 1 (.slice Aa_0 a.length ca_0) a.length (ints_ (M.up k a.length)) ga_0]) := by
 refine enterB hb @Tryz.func66 @Tryz.ntmps66 rfl rfl ?_
 refine zent ?_
 refine Js.trashE ?_
 refine zn ?_
 refine zS <| Qa rfl <| zJ <| zS <| Qa rfl <| JL.nil <| Js.block ?_
 refine zl [0] (fun F U l os u m => ∃ (i : Nat) (kk : Int) (xs : List Int) (G1_1 : List Nat), l = F [(1, .int .i64 kk), (5, .int .i64 (i : Int))] ∧ os = U [some (rowO 2 1 (.slice Aa_0 a.length ca_0) a.length (ints_ xs) ga_0), some (anyO G1_1)] ∧ (xs = M.mkd a k i) ∧ (i ≤ a.length) ∧ (xs.length = a.length) ∧ (kk = k + (i : Int)) ∧ m = a.length - i) ⟨0, k, a, _, rfl, rfl, by exact M.mkd_zero a k, zt, by rfl, by simp, rfl⟩ ?_
 rintro _ _ u1 _ ⟨i, kk, xs, G1_1, rfl, rfl, hX, hi, hl, hkk, rfl⟩ x1
 refine zn ?_
 refine Js.seq <| zS <| Qm rfl <| Qm rfl <| Qz rfl <| Ql rfl rfl <| JL.nil ?_
 refine zi (fun h2 h2' => ?_) fun h2 h2' => ?_
 ·
  refine Js.skip <| Js.seq <| Js.block <| zS <| Qm rfl <| Qm rfl <| Qm rfl ?_
  refine JL.fact (row_some (i := 0) rfl (by omega)) (fun hf4 => ?_)
  obtain ⟨b4, rfl⟩ := hf4
  refine Qq (p_indexAddr el_26 rfl rfl (by omega) (by omega) rfl) ?_
  refine JL.s (e_storeRow (i := 0) (xs' := ints_ (xs.set i kk)) ty_2.h rfl rfl rfl rfl rfl rfl (ints_lt (i := i) (by omega)) (ints_setL (i := i) (by omega))) ?_
  rintro _ _ _ ⟨rfl, rfl⟩ _
  refine znl ?_
  refine zG <| Qm rfl <| Qp rfl rfl <| Qa rfl <| JL.nil <| Js.blockEnd <| Js.region <| Qm rfl <| Qp rfl rfl <| Qa rfl <| JL.nil ?_
  exact zag ⟨i + 1, kk + 1, xs.set i kk, _, rfl, rfl, by rw [hX, hkk]; exact M.mkd_step (by omega), zt, by rw [List.length_set]; exact hl, zt, rfl⟩ x1
 have hi2 : i = a.length := by have := h2'; omega
 have hM : M.up k a.length = xs := by rw [hX]; exact (M.mkd_end hi2).symm
 refine zx ?_
 refine zS <| Qm rfl <| Qa rfl <| JL.nil ?_
 refine zrb [0] hb x1 ?_
 have hE : (.int .i64 kk : Value) = .int .i64 (k + (a.length : Int)) := by first | exact hM | (refine congrArg (Value.int .i64) ?_; omega)
 have hE1 : M.up k a.length = xs := by first | exact hM | (refine congrArg (Value.int .i64) ?_; omega)
 refine ⟨hE, ?_⟩
 · rw [hE1]
theorem c_laws_heldInt64S (a : List Int) {v_a : Value} (k : Int) {w : World} (h_a : (Ty.ints 2 a).ok w v_a) (r0 : a.length ≤ 4194304 := by exact om_) (r1 : 0 ≤ k := by exact om_) (r2 : k ≤ 100000000 := by exact om_) : RetV Tryz.prog 68 [v_a, .int .i64 k] w (.int .i64 (M.held a k)) := by
 revert v_a; apply opn
 intro A1 c1 h1 bl1 bh1
 have h_a := h1
 refine enter @Tryz.func68 @Tryz.ntmps68 rfl rfl ?_
 refine zent ?_
 refine zS <| Qa rfl <| zJ <| zS <| Qa rfl <| JL.nil <| Js.block ?_
 refine zl [0] (fun F U l os u m => ∃ (i : Nat) (kk : Int), l = F [(1, .int .i64 kk), (5, .int .i64 (i : Int))] ∧ os = U [] ∧ (a.take i = M.up k i) ∧ (i ≤ a.length) ∧ (kk = k + (i : Int)) ∧ m = a.length - i) ⟨0, k, rfl, rfl, by rfl, zt, by simp, rfl⟩ ?_
 rintro _ _ u2 _ ⟨i, kk, rfl, rfl, hU, hi, hkk, rfl⟩ x2
 refine zn ?_
 refine Js.seq <| zS <| Qm rfl <| Qm rfl <| Qz rfl <| Ql rfl rfl <| JL.nil ?_
 refine zi (fun h3 h3' => ?_) fun h3 h3' => ?_
 ·
  obtain ⟨b4, o4, he4, hc4⟩ := ints_elem (Ty.mono _ h1 x2.vis) (i := i) (by omega)
  refine Js.skip <| Js.seq <| Js.block <| Js.seq <| zS <| Qm rfl <| Qm rfl <| Qq (p_indexAddr el_26 rfl rfl (by omega) (by omega) he4) <| QC hc4 rfl <| Qm rfl <| Qd rfl rfl <| JL.nil ?_
  refine zi (fun h5 h5' => ?_) fun h5 h5' => ?_
  ·
   have hE := M.held_no (a := a) (k := k) (i := i) (by omega) (by rw [← hkk]; simpa using h5)
   refine zS <| Qa rfl <| JL.nil ?_
   refine zR x2 ?_
   first | (rw [hE]; rfl) | (rw [hE, hkk]; rfl)
  have he : M.nth a i = k + (i : Int) := by rw [← hkk]; simpa using h5
  refine Js.skip <| Js.region <| Qm rfl <| Qp rfl rfl <| Qa rfl <| JL.nil <| Js.blockEnd <| Js.region <| Qm rfl <| Qp rfl rfl <| Qa rfl <| JL.nil ?_
  exact zag ⟨i + 1, kk + 1, rfl, rfl, by exact M.held_step (by omega) hU he, zt, zt, rfl⟩ x2
 have hE := M.held_yes (a := a) (k := k) (i := i) (by have := h3'; omega) hU
 refine zx ?_
 refine zS <| Qm rfl <| Qa rfl <| JL.nil ?_
 refine zR x2 ?_
 first | (rw [hE]; rfl) | (rw [hE, hkk]; rfl)
theorem c_laws_markPosition (a_pits a_stores : List Int) (a_player : Int) {Aa_0 : Option Addr} {ca_0 : Nat} {ga_0 : List Nat} {Aa_1 : Option Addr} {ca_1 : Nat} {ga_1 : List Nat} (k : Int) {w : World} (hb : Bw w [rowO 2 1 (.slice Aa_0 a_pits.length ca_0) a_pits.length (ints_ a_pits) ga_0, rowO 2 1 (.slice Aa_1 a_stores.length ca_1) a_stores.length (ints_ a_stores) ga_1]) (bd0 : a_pits.length ≤ ca_0 := by exact om_) (bd1 : ca_0 ≤ 9223372036854775807 := by exact om_) (bd2 : a_stores.length ≤ ca_1 := by exact om_) (bd3 : ca_1 ≤ 9223372036854775807 := by exact om_) (r0 : a_pits.length ≤ 4194304 := by exact om_) (r1 : a_stores.length ≤ 4194304 := by exact om_) (r2 : 0 ≤ k := by exact om_) (r3 : k ≤ 50000000 := by exact om_) : RetB Tryz.prog 65 [.agg #[.slice Aa_0 a_pits.length ca_0, .slice Aa_1 a_stores.length ca_1, .int .i64 a_player], .int .i64 k] w [rowO 2 1 (.slice Aa_0 a_pits.length ca_0) a_pits.length (ints_ a_pits) ga_0, rowO 2 1 (.slice Aa_1 a_stores.length ca_1) a_stores.length (ints_ a_stores) ga_1] (fun v bs' => v = .int .i64 (k + (a_pits.length : Int) + (a_stores.length : Int)) ∧ bs' = [rowO 2 1 (.slice Aa_0 a_pits.length ca_0) a_pits.length (ints_ (M.up k a_pits.length)) ga_0, rowO 2 1 (.slice Aa_1 a_stores.length ca_1) a_stores.length (ints_ (M.up (k + (a_pits.length : Int)) a_stores.length)) ga_1]) := by
 refine enterB hb @Tryz.func65 @Tryz.ntmps65 rfl rfl ?_
 refine zent ?_
 refine Js.trashE ?_
 refine zn ?_
 refine zS <| zb rfl fun b1 => Qa rfl <| zN <| Qf fh rfl <| Q0 0 rfl rfl rfl <| Qm rfl ?_
 refine zhl [1] ?_
 refine zBB 1 sp_ rfl (fun w hb _ hw => c_laws_markInt64S a_pits k hb) ?_
 rintro _ _ G2 ⟨rfl, rfl⟩
 refine znl ?_
 refine Qa rfl <| zN <| Qf fh rfl <| Q0 2 rfl rfl rfl <| Qm rfl ?_
 refine zhl [3] ?_
 refine zBB 1 sp_ rfl (fun w hb _ hw => c_laws_markInt64S a_stores (k + (a_pits.length : Int)) hb) ?_
 rintro _ _ G3 ⟨rfl, rfl⟩
 refine znl ?_
 refine Qa rfl <| zN <| Qm rfl <| Qa rfl <| JL.nil ?_
 refine zrb [2, 0] hb (Up.refl _ _) ?_
 have hE : (.int .i64 ((k + (a_pits.length : Int)) + (a_stores.length : Int)) : Value) = .int .i64 (k + (a_pits.length : Int) + (a_stores.length : Int)) := by rfl
 exact ⟨hE, rfl⟩
theorem c_laws_markGame (a_rules : M.Rul) (a_start : M.Pos) (a_moves : List Int) (a_now : M.Pos) (a_resigned : Int) {Aa_9 : Option Addr} {ca_9 : Nat} {ga_9 : List Nat} {Aa_10 : Option Addr} {ca_10 : Nat} {ga_10 : List Nat} {Aa_12 : Option Addr} {ca_12 : Nat} {ga_12 : List Nat} {Aa_13 : Option Addr} {ca_13 : Nat} {ga_13 : List Nat} {Aa_14 : Option Addr} {ca_14 : Nat} {ga_14 : List Nat} (k : Int) {w : World} (hb : Bw w [rowO 2 1 (.slice Aa_9 a_start.pits.length ca_9) a_start.pits.length (ints_ a_start.pits) ga_9, rowO 2 1 (.slice Aa_10 a_start.stores.length ca_10) a_start.stores.length (ints_ a_start.stores) ga_10, rowO 2 1 (.slice Aa_12 a_moves.length ca_12) a_moves.length (ints_ a_moves) ga_12, rowO 2 1 (.slice Aa_13 a_now.pits.length ca_13) a_now.pits.length (ints_ a_now.pits) ga_13, rowO 2 1 (.slice Aa_14 a_now.stores.length ca_14) a_now.stores.length (ints_ a_now.stores) ga_14]) (bd0 : a_start.pits.length ≤ ca_9 := by exact om_) (bd1 : ca_9 ≤ 9223372036854775807 := by exact om_) (bd2 : a_start.stores.length ≤ ca_10 := by exact om_) (bd3 : ca_10 ≤ 9223372036854775807 := by exact om_) (bd4 : a_moves.length ≤ ca_12 := by exact om_) (bd5 : ca_12 ≤ 9223372036854775807 := by exact om_) (bd6 : a_now.pits.length ≤ ca_13 := by exact om_) (bd7 : ca_13 ≤ 9223372036854775807 := by exact om_) (bd8 : a_now.stores.length ≤ ca_14 := by exact om_) (bd9 : ca_14 ≤ 9223372036854775807 := by exact om_) (r0 : a_start.pits.length ≤ 4194304 := by exact om_) (r1 : a_start.stores.length ≤ 4194304 := by exact om_) (r2 : a_moves.length ≤ 4194304 := by exact om_) (r3 : a_now.pits.length ≤ 4194304 := by exact om_) (r4 : a_now.stores.length ≤ 4194304 := by exact om_) (r5 : 0 ≤ k := by exact om_) (r6 : k ≤ 10000000 := by exact om_) : RetB Tryz.prog 29 [.agg #[.int .i64 a_rules.pits, .int .i64 a_rules.seeds, .bool a_rules.stores, .bool a_rules.skip, .bool a_rules.relay, .bool a_rules.feed, .bool a_rules.again, .int .i64 a_rules.capture, .int .i64 a_rules.slam, .slice Aa_9 a_start.pits.length ca_9, .slice Aa_10 a_start.stores.length ca_10, .int .i64 a_start.player, .slice Aa_12 a_moves.length ca_12, .slice Aa_13 a_now.pits.length ca_13, .slice Aa_14 a_now.stores.length ca_14, .int .i64 a_now.player, .int .i64 a_resigned], .int .i64 k] w [rowO 2 1 (.slice Aa_9 a_start.pits.length ca_9) a_start.pits.length (ints_ a_start.pits) ga_9, rowO 2 1 (.slice Aa_10 a_start.stores.length ca_10) a_start.stores.length (ints_ a_start.stores) ga_10, rowO 2 1 (.slice Aa_12 a_moves.length ca_12) a_moves.length (ints_ a_moves) ga_12, rowO 2 1 (.slice Aa_13 a_now.pits.length ca_13) a_now.pits.length (ints_ a_now.pits) ga_13, rowO 2 1 (.slice Aa_14 a_now.stores.length ca_14) a_now.stores.length (ints_ a_now.stores) ga_14] (fun v bs' => v = .int .i64 (k + M.szp a_start + (a_moves.length : Int) + M.szp a_now) ∧ bs' = [rowO 2 1 (.slice Aa_9 a_start.pits.length ca_9) a_start.pits.length (ints_ ((M.markP a_start k).pits)) ga_9, rowO 2 1 (.slice Aa_10 a_start.stores.length ca_10) a_start.stores.length (ints_ ((M.markP a_start k).stores)) ga_10, rowO 2 1 (.slice Aa_12 a_moves.length ca_12) a_moves.length (ints_ (M.up (k + M.szp a_start) a_moves.length)) ga_12, rowO 2 1 (.slice Aa_13 a_now.pits.length ca_13) a_now.pits.length (ints_ ((M.markP a_now (k + M.szp a_start + (a_moves.length : Int))).pits)) ga_13, rowO 2 1 (.slice Aa_14 a_now.stores.length ca_14) a_now.stores.length (ints_ ((M.markP a_now (k + M.szp a_start + (a_moves.length : Int))).stores)) ga_14]) := by
 refine enterB hb @Tryz.func29 @Tryz.ntmps29 rfl rfl ?_
 refine zent ?_
 refine Js.trashE ?_
 refine zn ?_
 refine zS <| zb rfl fun b1 => Qa rfl <| zN <| Qf fh rfl <| Q9 0 rfl rfl ?_
 refine Qm rfl ?_
 refine zhl [1, 1] ?_
 refine zBB 2 sp_ rfl (fun w hb _ hw => c_laws_markPosition a_start.pits a_start.stores a_start.player k hb) ?_
 rintro _ _ G2 ⟨rfl, rfl⟩
 refine znl ?_
 refine Qa rfl <| zN <| Qf fh rfl <| Q0 3 rfl rfl rfl <| Qm rfl ?_
 refine zhl [4] ?_
 refine zBB 1 sp_ rfl (fun w hb _ hw => c_laws_markInt64S a_moves (k + (a_start.pits.length : Int) + (a_start.stores.length : Int)) hb) ?_
 rintro _ _ G3 ⟨rfl, rfl⟩
 refine znl ?_
 refine Qa rfl <| zN <| Qf fh rfl <| Q9 5 rfl rfl ?_
 refine Qm rfl ?_
 refine zhl [6, 6] ?_
 refine zBB 2 sp_ rfl (fun w hb _ hw => c_laws_markPosition a_now.pits a_now.stores a_now.player ((k + (a_start.pits.length : Int) + (a_start.stores.length : Int)) + (a_moves.length : Int)) hb) ?_
 rintro _ _ G4 ⟨rfl, rfl⟩
 refine znl ?_
 refine Qa rfl <| zN <| Qm rfl <| Qa rfl <| JL.nil ?_
 refine zrb [5, 5, 3, 0, 0] hb (Up.refl _ _) ?_
 have hE : (.int .i64 (((k + (a_start.pits.length : Int) + (a_start.stores.length : Int)) + (a_moves.length : Int)) + (a_now.pits.length : Int) + (a_now.stores.length : Int)) : Value) = .int .i64 (k + M.szp a_start + (a_moves.length : Int) + M.szp a_now) := by first | rfl | (simp only [M.markP, M.szp, ← Int.add_assoc]; done) | (simp only [M.markP, M.szp, ← Int.add_assoc]; rfl)
 have hE1 : (M.markP a_start k).pits = M.up k a_start.pits.length := by first | rfl | (simp only [M.markP, M.szp, ← Int.add_assoc]; done) | (simp only [M.markP, M.szp, ← Int.add_assoc]; rfl)
 have hE2 : (M.markP a_start k).stores = M.up (k + (a_start.pits.length : Int)) a_start.stores.length := by first | rfl | (simp only [M.markP, M.szp, ← Int.add_assoc]; done) | (simp only [M.markP, M.szp, ← Int.add_assoc]; rfl)
 have hE3 : M.up (k + M.szp a_start) a_moves.length = M.up (k + (a_start.pits.length : Int) + (a_start.stores.length : Int)) a_moves.length := by first | rfl | (simp only [M.markP, M.szp, ← Int.add_assoc]; done) | (simp only [M.markP, M.szp, ← Int.add_assoc]; rfl)
 have hE4 : (M.markP a_now (k + M.szp a_start + (a_moves.length : Int))).pits = M.up ((k + (a_start.pits.length : Int) + (a_start.stores.length : Int)) + (a_moves.length : Int)) a_now.pits.length := by first | rfl | (simp only [M.markP, M.szp, ← Int.add_assoc]; done) | (simp only [M.markP, M.szp, ← Int.add_assoc]; rfl)
 have hE5 : (M.markP a_now (k + M.szp a_start + (a_moves.length : Int))).stores = M.up (((k + (a_start.pits.length : Int) + (a_start.stores.length : Int)) + (a_moves.length : Int)) + (a_now.pits.length : Int)) a_now.stores.length := by first | rfl | (simp only [M.markP, M.szp, ← Int.add_assoc]; done) | (simp only [M.markP, M.szp, ← Int.add_assoc]; rfl)
 refine ⟨hE, ?_⟩
 · rw [hE1, hE2, hE3, hE4, hE5]
theorem c_laws_heldPosition (a : M.Pos) {v_a : Value} (k : Int) {w : World} (h_a : (Ty.agg (cPosition a)).ok w v_a) (r0 : a.pits.length ≤ 4194304 := by exact om_) (r1 : a.stores.length ≤ 4194304 := by exact om_) (r2 : 0 ≤ k := by exact om_) (r3 : k ≤ 50000000 := by exact om_) : RetV Tryz.prog 67 [v_a, .int .i64 k] w (.int .i64 (M.heldP a k)) := by
 have b1 := M.held_bd a.pits r2
 revert v_a; apply opn
 intro A1 c1 h1 bl1 bh1 A2 c2 h2 bl2 bh2
 refine enter @Tryz.func67 @Tryz.ntmps67 rfl rfl ?_
 refine zent ?_
 refine zS <| zb rfl fun b3 => Qa rfl <| zN <| Qf fh rfl <| Q0 0 rfl rfl rfl <| Qm rfl <| zv rfl (fun w hw => c_laws_heldInt64S a.pits k (ok_ hw)) <| Qa rfl <| zJ <| zS <| Qm rfl <| Ql rfl rfl <| JL.nil ?_
 refine zi (fun h4 h4' => ?_) fun h4 h4' => ?_
 ·
  have hE := M.heldP_1 (p := a) (k := k) (by simpa using h4)
  refine zS <| Qa rfl <| JL.nil ?_
  refine zR (Up.refl _ _) ?_
  rw [hE]; rfl
 have q1 : ¬ M.held a.pits k < 0 := by simpa using h4
 refine Js.skip <| zS <| Qf fh rfl <| Q0 0 rfl rfl rfl <| Qm rfl <| zv rfl (fun w hw => c_laws_heldInt64S a.stores (M.held a.pits k) (ok_ hw)) <| Qa rfl <| zJ <| zS <| Qm rfl <| Ql rfl rfl <| JL.nil ?_
 refine zi (fun h5 h5' => ?_) fun h5 h5' => ?_
 ·
  have hE := M.heldP_2 q1 (by simpa using h5)
  refine zS <| Qa rfl <| JL.nil ?_
  refine zR (Up.refl _ _) ?_
  rw [hE]; rfl
 have hE := M.heldP_3 q1 (by simpa using h5)
 refine Js.skip <| zS <| Qm rfl <| Qa rfl <| JL.nil ?_
 refine zR (Up.refl _ _) ?_
 rw [hE]; rfl
theorem c_laws_heldGame (a : M.Gam) {v_a : Value} (k : Int) {w : World} (h_a : (Ty.agg (cGame a)).ok w v_a) (r0 : a.start.pits.length ≤ 4194304 := by exact om_) (r1 : a.start.stores.length ≤ 4194304 := by exact om_) (r2 : a.moves.length ≤ 4194304 := by exact om_) (r3 : a.now.pits.length ≤ 4194304 := by exact om_) (r4 : a.now.stores.length ≤ 4194304 := by exact om_) (r5 : 0 ≤ k := by exact om_) (r6 : k ≤ 10000000 := by exact om_) : RetV Tryz.prog 30 [v_a, .int .i64 k] w (.int .i64 (M.heldG a k)) := by
 have b1 := M.heldP_bd a.start r5
 have b3 : M.szp a.start = a.start.pits.length + a.start.stores.length := rfl
 revert v_a; apply opn
 intro A1 c1 h1 bl1 bh1 A2 c2 h2 bl2 bh2 A3 c3 h3 bl3 bh3 A4 c4 h4 bl4 bh4 A5 c5 h5 bl5 bh5
 refine enter @Tryz.func30 @Tryz.ntmps30 rfl rfl ?_
 refine zent ?_
 refine zS <| zb rfl fun b6 => Qa rfl <| zN <| Qf fh rfl <| Q9 0 rfl rfl ?_
 refine Qm rfl <| zv rfl (fun w hw => c_laws_heldPosition a.start k (ok_ hw)) <| Qa rfl <| zJ <| zS <| Qm rfl <| Ql rfl rfl <| JL.nil ?_
 refine zi (fun h7 h7' => ?_) fun h7 h7' => ?_
 ·
  have hE := M.heldG_1 (g := a) (k := k) (by simpa using h7)
  refine zS <| Qa rfl <| JL.nil ?_
  refine zR (Up.refl _ _) ?_
  rw [hE]; rfl
 have q1 : ¬ M.heldP a.start k < 0 := by simpa using h7
 have b2 := M.held_bd a.moves (k := M.heldP a.start k) (by omega)
 refine Js.skip <| zS <| Qf fh rfl <| Q0 0 rfl rfl rfl <| Qm rfl <| zv rfl (fun w hw => c_laws_heldInt64S a.moves (M.heldP a.start k) (ok_ hw)) <| Qa rfl <| zJ <| zS <| Qm rfl <| Ql rfl rfl <| JL.nil ?_
 refine zi (fun h8 h8' => ?_) fun h8 h8' => ?_
 ·
  have hE := M.heldG_2 q1 (by simpa using h8)
  refine zS <| Qa rfl <| JL.nil ?_
  refine zR (Up.refl _ _) ?_
  rw [hE]; rfl
 have q2 : ¬ M.held a.moves (M.heldP a.start k) < 0 := by simpa using h8
 refine Js.skip <| zS <| Qf fh rfl <| Q9 0 rfl rfl ?_
 refine Qm rfl <| zv rfl (fun w hw => c_laws_heldPosition a.now (M.held a.moves (M.heldP a.start k)) (ok_ hw)) <| Qa rfl <| zJ <| zS <| Qm rfl <| Ql rfl rfl <| JL.nil ?_
 refine zi (fun h9 h9' => ?_) fun h9 h9' => ?_
 ·
  have hE := M.heldG_3 q1 q2 (by simpa using h9)
  refine zS <| Qa rfl <| JL.nil ?_
  refine zR (Up.refl _ _) ?_
  rw [hE]; rfl
 have hE := M.heldG_4 q1 q2 (by simpa using h9)
 refine Js.skip <| zS <| Qm rfl <| Qa rfl <| JL.nil ?_
 refine zR (Up.refl _ _) ?_
 rw [hE]; rfl
theorem c_laws_FnExactReadRecord (aS : List UInt8) {w : World} (h_tab : tabT.ok w undef) : RetV Tryz.prog 5 [.string (sB aS)] w (.bool true) := by
 obtain ⟨w1_, w2_, w3_, w4_, w5_⟩ := M.readG_small aS
 have z3 := M.szp_nn (M.readG aS).1.start
 have z4 := M.szp_nn (M.readG aS).1.now
 refine enter @Tryz.func5 @Tryz.ntmps5 rfl rfl ?_
 refine zent ?_
 refine zS <| Qa rfl <| zJ <| zS <| Qm rfl <| Qq (p_lenS und_9 rfl) <| Qg rfl rfl <| JL.nil ?_
 refine zi (fun h1 h1' => ?_) fun h1 h1' => ?_
 ·
  refine zS <| Qa rfl <| JL.nil ?_
  exact zr (Up.refl _ _)
 refine Js.skip <| zS <| Qm rfl <| zp rfl (fun w hw => c_spec_ReadRecord aS) ?_
 intro u2 x2 A3 c3 h3 bl3 bh3 A4 c4 h4 bl4 bh4 A5 c5 h5 bl5 bh5 A6 c6 h6 bl6 bh6 A7 c7 h7 bl7 bh7
 refine Qm rfl <| Qx rfl rfl <| Qx rfl rfl <| za zeh fun b8 => zw 0 rfl rfl rfl ?_
 refine Qa rfl <| zN <| Qm rfl <| zc rfl (fun w hw => c_impl_ReadRecord aS (ok_ hw)) ?_
 intro A11 c11 bl11 bh11 A12 c12 bl12 bh12 A13 c13 bl13 bh13 A14 c14 bl14 bh14 A15 c15 bl15 bh15
 refine Qm rfl <| Qx rfl rfl <| Qx rfl rfl <| za zeh fun b16 => zw 0 rfl rfl rfl ?_
 refine Qa rfl <| zJ <| zS <| Q9 0 rfl rfl ?_
 refine Q9 6 rfl rfl ?_
 refine zv rfl (fun w hw => c_laws_eqGame ((M.readG aS).1) ((M.readG aS).1) (ok_ hw) (ok_ hw)) <| Qt rfl <| Qm rfl <| zg (Gd.f1 rfl rfl rfl) (fun hc => p_move rfl) <| zg (Gd.f1 rfl rfl rfl) (fun hc => p_move rfl) <| zg (Gd.f1 rfl rfl rfl) (fun hc => p_neqB und_4 (gh hc rfl) (gh hc rfl)) <| Qq (p_pickOr rfl rfl rfl) <| JL.nil ?_
 refine zi (fun h17 h17' => ?_) fun h17 h17' => ?_
 · exact absurd h17 (by simp)
 refine Js.skip <| zS <| Qa rfl <| zN <| Q9 0 rfl rfl ?_
 refine Qm rfl ?_
 refine zhl [5, 4, 3, 2, 1] ?_
 refine zB 5 sp_ rfl (fun w hb hw => c_laws_markGame (((M.readG aS).1).rules) (((M.readG aS).1).start) (((M.readG aS).1).moves) (((M.readG aS).1).now) (((M.readG aS).1).resigned) 1 hb) ?_
 rintro _ _ G18 ⟨rfl, rfl⟩
 refine znl ?_
 refine Qa rfl <| zN <| Qa rfl <| zN <| Q9 6 rfl rfl ?_
 refine Qm rfl <| zv rfl (fun w hw => c_laws_heldGame (M.Gam.mk (((M.readG aS).1).rules) (M.Pos.mk ((M.markP (((M.readG aS).1).start) 1).pits) ((M.markP (((M.readG aS).1).start) 1).stores) ((((M.readG aS).1).start).player)) (M.up (1 + M.szp (((M.readG aS).1).start)) (((M.readG aS).1).moves).length) (M.Pos.mk ((M.markP (((M.readG aS).1).now) (1 + M.szp (((M.readG aS).1).start) + ((((M.readG aS).1).moves).length : Int))).pits) ((M.markP (((M.readG aS).1).now) (1 + M.szp (((M.readG aS).1).start) + ((((M.readG aS).1).moves).length : Int))).stores) ((((M.readG aS).1).now).player)) (((M.readG aS).1).resigned)) 1 (ok_ hw) (r0 := (by simp only [M.markP, M.up_length]; omega)) (r1 := (by simp only [M.markP, M.up_length]; omega)) (r2 := (by simp only [M.markP, M.up_length]; omega)) (r3 := (by simp only [M.markP, M.up_length]; omega)) (r4 := (by simp only [M.markP, M.up_length]; omega))) <| Qa rfl <| zJ <| zS <| Qm rfl <| Ql rfl rfl <| JL.nil ?_
 refine zi (fun h19 h19' => ?_) fun h19 h19' => ?_
 · have h9 : decide (M.heldG (M.markG (M.readG aS).1 1) 1 < 0) = true := h19; rw [M.heldG_mark (M.readG aS).1 (k := 1) (by decide)] at h9; simp only [decide_eq_true_eq] at h9; have h8 := M.szg_nn (M.readG aS).1; omega
 refine Js.skip <| Js.seq <| zS <| Qm rfl <| Qm rfl <| Qd rfl rfl <| JL.nil ?_
 refine zi (fun h20 h20' => ?_) fun h20 h20' => ?_
 · have h9 : (!decide (M.heldG (M.markG (M.readG aS).1 1) 1 = 1 + M.szp (M.readG aS).1.start + ((M.readG aS).1.moves.length : Int) + M.szp (M.readG aS).1.now)) = true := h20; rw [M.heldG_mark (M.readG aS).1 (k := 1) (by decide)] at h9; simp [M.szg, Int.add_assoc] at h9
 refine Js.skip <| zS <| Qm rfl <| zp rfl (fun w hw => c_impl_ReadRecord aS (ok_ hw)) ?_
 intro u21 x21 A22 c22 h22 bl22 bh22 A23 c23 h23 bl23 bh23 A24 c24 h24 bl24 bh24 A25 c25 h25 bl25 bh25 A26 c26 h26 bl26 bh26
 refine Qm rfl <| Qx rfl rfl <| Qx rfl rfl <| za zeh fun b27 => zw 0 rfl rfl rfl ?_
 refine Qa rfl <| zJ <| zS <| Q9 0 rfl rfl ?_
 refine Q9 8 rfl rfl ?_
 refine zv rfl (fun w hw => c_laws_eqGame ((M.readG aS).1) ((M.readG aS).1) (ok_ hw) (ok_ hw)) <| Qt rfl <| Qm rfl <| zg (Gd.f1 rfl rfl rfl) (fun hc => p_move rfl) <| zg (Gd.f1 rfl rfl rfl) (fun hc => p_move rfl) <| zg (Gd.f1 rfl rfl rfl) (fun hc => p_neqB und_4 (gh hc rfl) (gh hc rfl)) <| Qq (p_pickOr rfl rfl rfl) <| JL.nil ?_
 refine Js.condF rfl h17 ?_
 refine Js.skip <| zS <| Qa rfl <| zN <| Q9 7 rfl rfl ?_
 refine Qm rfl <| zv rfl (fun w hw => c_laws_heldGame (M.Gam.mk (((M.readG aS).1).rules) (M.Pos.mk ((M.markP (((M.readG aS).1).start) 1).pits) ((M.markP (((M.readG aS).1).start) 1).stores) ((((M.readG aS).1).start).player)) (M.up (1 + M.szp (((M.readG aS).1).start)) (((M.readG aS).1).moves).length) (M.Pos.mk ((M.markP (((M.readG aS).1).now) (1 + M.szp (((M.readG aS).1).start) + ((((M.readG aS).1).moves).length : Int))).pits) ((M.markP (((M.readG aS).1).now) (1 + M.szp (((M.readG aS).1).start) + ((((M.readG aS).1).moves).length : Int))).stores) ((((M.readG aS).1).now).player)) (((M.readG aS).1).resigned)) 1 (ok_ hw) (r0 := (by simp only [M.markP, M.up_length]; omega)) (r1 := (by simp only [M.markP, M.up_length]; omega)) (r2 := (by simp only [M.markP, M.up_length]; omega)) (r3 := (by simp only [M.markP, M.up_length]; omega)) (r4 := (by simp only [M.markP, M.up_length]; omega))) <| Qa rfl <| zJ <| zS <| Qm rfl <| Ql rfl rfl <| JL.nil ?_
 refine Js.condF rfl h19 ?_
 refine Js.skip <| Js.seq <| zS <| Qm rfl <| Qm rfl <| Qd rfl rfl <| JL.nil ?_
 refine Js.condF rfl h20 ?_
 refine Js.skip <| zS <| Qa rfl <| JL.nil ?_
 exact zr (x2.trans x21)
end Go.Proofs.YtjgohnaobbphpaaGreatDoor

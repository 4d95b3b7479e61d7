/- Walks: D21. -/
import Derived.Test.YtcmfnlleikcpnaaGreatZxA3
import Derived.Test.YtcmfnlleikcpnaaGreatZxA8
import Derived.Test.YtcmfnlleikcpnaaGreatZxA7
import Derived.Test.YtcmfnlleikcpnaaGreatZxA5
set_option linter.unusedSimpArgs false
set_option linter.unusedVariables false
set_option maxRecDepth 100000
attribute [local irreducible] Go.Proofs.YtcmfnlleikcpnaaGreat.gv
set_option maxHeartbeats 16000000
namespace Go.Proofs.YtcmfnlleikcpnaaGreat
open Go.RowKit
theorem c_spec_l20Bent (s_code : Nat) (s_at s_seed : Int) {As_0 : Option Addr} {cs_0 bs : Nat} {w : World} (hb : Bw w [boxO bs [.slice As_0 s_code cs_0, .int .i64 s_at, .int .u64 s_seed] 189]) (hps_0 : (Ty.bytes 5 s_code).ok (offW w (([boxO bs [.slice As_0 s_code cs_0, .int .i64 s_at, .int .u64 s_seed] 189] : List Own).flatMap (·.fp))) (.slice As_0 s_code cs_0)) (r0 : 0 ≤ s_at := by exact om_) (r1 : s_at ≤ 999999100 := by exact om_) (r2 : s_code ≤ 1048576 := by exact om_) : RetB Tryz.prog 92 [.pointer (some ⟨bs, 0, none⟩)] w [boxO bs [.slice As_0 s_code cs_0, .int .i64 s_at, .int .u64 s_seed] 189] (fun v bs' => ∃ (BX : M.Boo) (PX : M.Pos) (AT SD : Int) (Axra_9 : Option Addr) (cxra_9 : Nat) (gxra_9 : List Nat) (vsxra_9 : List Value) (fxra_9 : List Nat) (Axrb_0 : Option Addr) (cxrb_0 : Nat) (gxrb_0 : List Nat) (Axrb_1 : Option Addr) (cxrb_1 : Nat) (gxrb_1 : List Nat), v = .tuple #[.agg #[.int .i64 BX.rules.pits, .int .i64 BX.rules.seeds, .bool BX.rules.stores, .bool BX.rules.skip, .bool BX.rules.relay, .bool BX.rules.feed, .bool BX.rules.again, .int .i64 BX.rules.capture, .int .i64 BX.rules.slam, .slice Axra_9 BX.entries.length cxra_9], .agg #[.slice Axrb_0 PX.pits.length cxrb_0, .slice Axrb_1 PX.stores.length cxrb_1, .int .i64 PX.player]] ∧ bs' = [boxO bs [.slice As_0 s_code cs_0, .int .i64 AT, .int .u64 SD] 189, rowO 89 2 (.slice Axra_9 BX.entries.length cxra_9) BX.entries.length vsxra_9 gxra_9, ownC (lBookEntry BX.entries) vsxra_9 fxra_9, rowO 2 1 (.slice Axrb_0 PX.pits.length cxrb_0) PX.pits.length (ints_ PX.pits) gxrb_0, rowO 2 1 (.slice Axrb_1 PX.stores.length cxrb_1) PX.stores.length (ints_ PX.stores) gxrb_1] ∧ BX.entries.length ≤ cxra_9 ∧ cxra_9 ≤ 9223372036854775807 ∧ PX.pits.length ≤ cxrb_0 ∧ cxrb_0 ≤ 9223372036854775807 ∧ PX.stores.length ≤ cxrb_1 ∧ cxrb_1 ≤ 9223372036854775807 ∧ (BX.entries.length + M.totE BX.entries ≤ 400000) ∧ (PX.pits.length ≤ 16 ∧ PX.stores.length = 2) ∧ (s_at ≤ AT) ∧ (AT ≤ s_at + 900)) := by
 refine enterB hb @Tryz.func92 @Tryz.ntmps92 rfl rfl ?_
 refine zent ?_
 refine Js.trashE ?_
 refine zn ?_
 refine zS <| za zeh fun b1 => za zeh fun b2 => zN <| Qm rfl ?_
 refine zhl [2] ?_
 refine zBB 1 sp_ rfl (fun w hb _ hw => c_spec_l20Draw s_code s_at s_seed hb (ok_ hw)) ?_
 rintro _ _ G3 ⟨X3BX, X3PX, X3AT, X3SD, A3ra_9, c3ra_9, g3ra_9, vs3ra_9, f3ra_9, A3rb_0, c3rb_0, g3rb_0, A3rb_1, c3rb_1, g3rb_1, rfl, rfl, bl3_0, bl3_1, bl3_2, bl3_3, bl3_4, bl3_5, hX3_0, hX3_1, hX3_2, hX3_3⟩
 refine znl ?_
 refine Qm rfl <| Qx rfl rfl <| Qx rfl rfl <| za zeh fun b4 => za zeh fun b5 => zw 1 rfl rfl rfl ?_
 refine zw 0 rfl rfl rfl ?_
 refine JL.nil ?_
 refine zf [0, 0, 0, 0, 0, 0, 0, 1, 1] fun GG6 => ?_
 refine zn ?_
 refine Js.seq <| zS <| Qm rfl ?_
 refine zhl [2] ?_
 refine zBB 1 sp_ rfl (fun w hb _ hw => c_spec_l00Src_one s_code X3AT X3SD 24 hb (ok_ hw)) ?_
 rintro _ _ G7 ⟨X7BX, X7AT, X7SD, rfl, rfl, hX7_0, hX7_1⟩
 refine znl ?_
 refine JL.nil ?_
 refine zf [0, 1, 1, 1, 1, 1, 1, 1, 1] fun GG8 => ?_
 refine zn ?_
 refine zk [0, 2, 3, 4, 5] (fun F U l os u => ∃ (rr : M.Rul) (acc : List M.Ent) (pp : M.Pos) (at5 sd5 : Int) (A9_4_9 : Option Addr) (c9_4_9 : Nat) (g9_4_9 : List Nat) (vs9_4_9 : List Value) (fl9_4_9 : List Nat) (A9_5_0 : Option Addr) (c9_5_0 : Nat) (g9_5_0 : List Nat) (A9_5_1 : Option Addr) (c9_5_1 : Nat) (g9_5_1 : List Nat) (G9_9 : List Nat), l = F [] ∧ os = U [some (boxO bs [.slice As_0 s_code cs_0, .int .i64 at5, .int .u64 sd5] 189), some (boxO b5 [.slice A9_5_0 pp.pits.length c9_5_0, .slice A9_5_1 pp.stores.length c9_5_1, .int .i64 pp.player] 39), some (boxO b4 [.int .i64 rr.pits, .int .i64 rr.seeds, .bool rr.stores, .bool rr.skip, .bool rr.relay, .bool rr.feed, .bool rr.again, .int .i64 rr.capture, .int .i64 rr.slam, .slice A9_4_9 acc.length c9_4_9] 37), some (rowO 89 2 (.slice A9_4_9 acc.length c9_4_9) acc.length vs9_4_9 g9_4_9), some (ownC (lBookEntry acc) vs9_4_9 fl9_4_9), some (rowO 2 1 (.slice A9_5_0 pp.pits.length c9_5_0) pp.pits.length (ints_ pp.pits) g9_5_0), some (rowO 2 1 (.slice A9_5_1 pp.stores.length c9_5_1) pp.stores.length (ints_ pp.stores) g9_5_1), nO, nO, some (anyO G9_9)] ∧ (M.BE 300 acc) ∧ (pp.pits.length ≤ 16 ∧ pp.stores.length = 2) ∧ (s_at ≤ at5) ∧ (at5 ≤ s_at + 820) ∧ (acc.length ≤ c9_4_9) ∧ (c9_4_9 ≤ 9223372036854775807) ∧ (pp.pits.length ≤ c9_5_0) ∧ (c9_5_0 ≤ 9223372036854775807) ∧ (pp.stores.length ≤ c9_5_1) ∧ (c9_5_1 ≤ 9223372036854775807)) ?_ ?_
 ·
  refine zi (fun h10 h10' => ?_) fun h10 h10' => ?_
  ·
   refine zS <| Qm rfl <| zBB 1 sp_ rfl (fun w hb _ hw => c_spec_l00Src_pick s_code X7AT X7SD 2 hb (ok_ hw)) ?_
   rintro _ _ G11 ⟨X11KX, X11AT, X11SD, rfl, rfl, hX11_0, hX11_1, hX11_2, hX11_3⟩
   refine znl ?_
   refine Qp rfl rfl <| zc rfl (fun w hw => c_spec_l20Wide (200 + X11KX)) ?_
   intro X12 hX12 A14 c14 vs14 f14 bl14 bh14
   refine zw 5 rfl rfl rfl ?_
   refine JL.nil ?_
   refine zf [0, 0, 0, 1, 1, 1, 1, 1, 1, 1, 1] fun GG15 => ?_
   refine zn ?_
   refine Js.region <| Qm rfl ?_
   refine zhl [2] ?_
   refine zBB 1 sp_ rfl (fun w hb _ hw => c_spec_l00Src_pick s_code X11AT X11SD 6 hb (ok_ hw)) ?_
   rintro _ _ G16 ⟨X16KX, X16AT, X16SD, rfl, rfl, hX16_0, hX16_1, hX16_2, hX16_3⟩
   refine znl ?_
   refine Qm rfl <| zBB 1 sp_ rfl (fun w hb _ hw => c_spec_l00Src_pick s_code X16AT X16SD 41 hb (ok_ hw)) ?_
   rintro _ _ G17 ⟨X17KX, X17AT, X17SD, rfl, rfl, hX17_0, hX17_1, hX17_2, hX17_3⟩
   refine znl ?_
   refine zbs fun b18 => ?_
   refine zbs fun b20 => ?_
   refine Qb ?_
   refine zw 7 rfl rfl rfl ?_
   refine JL.nil ?_
   refine zf [0, 0, 0, 2, 2, 2, 2, 2, 2, 2, 2, 2, 2] fun GG22 => ?_
   refine zn ?_
   refine zf [2, 4, 4, 2, 2, 1, 0, 4, 4] fun GG23 => ?_
   refine zn ?_
   exact zm ⟨(X12.rules), (X12.entries), ((M.Pos.mk [1, X16KX, X17KX, 0] [0, 0] 0)), (X17AT), (X17SD), _, _, _, _, _, _, _, _, _, _, _, _, rfl, rfl, by first | assumption | exact M.BE.mono (by assumption : M.BE 24 _) (by omega), by first | (constructor <;> omega) | exact ⟨by simp, by simp⟩, by first | assumption | omega | rfl | (dsimp only; omega) | (simp; done), by first | assumption | omega | rfl | (dsimp only; omega) | (simp; done), by first | assumption | omega | rfl | (dsimp only; omega) | (simp; done), by first | assumption | omega | rfl | (dsimp only; omega) | (simp; done), by first | assumption | omega | rfl | (dsimp only; omega) | (simp; done), by first | assumption | omega | rfl | (dsimp only; omega) | (simp; done), by first | assumption | omega | rfl | (dsimp only; omega) | (simp; done), by first | assumption | omega | rfl | (dsimp only; omega) | (simp; done)⟩ (Up.refl _ _)
  refine Js.skip ?_
  exact zm ⟨(X3BX.rules), (X3BX.entries), (X3PX), (X7AT), (X7SD), _, _, _, _, _, _, _, _, _, _, _, _, rfl, rfl, by first | assumption | exact M.BE.mono (by assumption : M.BE 24 _) (by omega), by first | (constructor <;> omega) | exact ⟨by simp, by simp⟩, by first | assumption | omega | rfl | (dsimp only; omega) | (simp; done), by first | assumption | omega | rfl | (dsimp only; omega) | (simp; done), by first | assumption | omega | rfl | (dsimp only; omega) | (simp; done), by first | assumption | omega | rfl | (dsimp only; omega) | (simp; done), by first | assumption | omega | rfl | (dsimp only; omega) | (simp; done), by first | assumption | omega | rfl | (dsimp only; omega) | (simp; done), by first | assumption | omega | rfl | (dsimp only; omega) | (simp; done), by first | assumption | omega | rfl | (dsimp only; omega) | (simp; done)⟩ (Up.refl _ _)
 rintro _ _ u9 ⟨rr, acc, pp, at5, sd5, A9_4_9, c9_4_9, g9_4_9, vs9_4_9, fl9_4_9, A9_5_0, c9_5_0, g9_5_0, A9_5_1, c9_5_1, g9_5_1, G9_9, rfl, rfl, hB, hp9, hc0, hc1, f9_4, f9_5, f9_6, f9_7, f9_8, f9_9⟩ x9
 refine zn ?_
 refine Js.seq <| zS <| Qf fh rfl <| Q0 2 rfl rfl rfl <| Qz rfl <| Qe rfl rfl <| JL.nil ?_
 refine zi (fun h24 h24' => ?_) fun h24 h24' => ?_
 ·
  refine Js.seq ?_
  refine zk [2, 3] (fun F U l os u => l = F [] ∧ os = U [nO, nO, nO, nO, nO, nO, nO, some (boxO b2 [.slice A9_5_0 pp.pits.length c9_5_0, .slice A9_5_1 pp.stores.length c9_5_1, .int .i64 pp.player] 39), some (boxO b1 [.int .i64 rr.pits, .int .i64 rr.seeds, .bool rr.stores, .bool rr.skip, .bool rr.relay, .bool rr.feed, .bool rr.again, .int .i64 rr.capture, .int .i64 rr.slam, .slice A9_4_9 acc.length c9_4_9] 37)]) ?_ ?_
  ·
   refine zdr [2, 3] ?_
   refine JH.q 0 rfl (L9 2 rfl rfl) ?_
   refine y2 1 2 ?_ ?_
   ·
    refine JHo.q rfl (L9 1 rfl rfl) ?_
    refine y1 2 ?_
    refine yst rfl rfl rfl ?_
    refine y1 3 ?_
    refine yst rfl rfl rfl ?_
    refine yd ?_
    exact zm ⟨rfl, rfl⟩ (Up.refl _ _)
   refine yst rfl rfl rfl ?_
   refine y1 1 ?_
   refine JHo.q rfl (L9 1 rfl rfl) ?_
   refine y1 3 ?_
   refine yst rfl rfl rfl ?_
   refine yd ?_
   exact zm ⟨rfl, rfl⟩ (Up.refl _ _)
  rintro _ _ u25 ⟨rfl, rfl⟩ x25
  refine zn ?_
  refine zf [0, 2, 2, 2, 2, 2, 2] fun GG26 => ?_
  refine zn ?_
  refine zrb [0, 0, 0, 0, 0] hb (x9.trans x25) ?_
  refine ⟨((M.Boo.mk rr acc)), (pp), (at5), (sd5), A9_4_9, c9_4_9, g9_4_9, vs9_4_9, fl9_4_9, A9_5_0, c9_5_0, g9_5_0, A9_5_1, c9_5_1, g9_5_1, rfl, ?_, ?_, ?_, ?_, ?_, ?_, ?_, by first | exact M.xb_ hB | trivial | assumption | omega, by first | exact M.xb_ hB | trivial | assumption | omega, by first | exact M.xb_ hB | trivial | assumption | omega, by first | exact M.xb_ hB | trivial | assumption | omega⟩
  · rfl
  all_goals (try dsimp only)
  all_goals (first | (omega) | omega | (simp only [*]; omega))
 have hbl := hB.len
 refine Js.skip <| zS <| Qm rfl <| Qf fh rfl <| Q0 2 rfl rfl rfl <| Qz rfl <| zBB 1 sp_ rfl (fun w hb _ hw => c_spec_l00Src_pick s_code at5 sd5 (acc.length : Int) hb (ok_ hw)) ?_
 rintro _ _ G27 ⟨X27KX, X27AT, X27SD, rfl, rfl, hX27_0, hX27_1, hX27_2, hX27_3⟩
 refine znl ?_
 refine Qa rfl <| JL.nil ?_
 refine zf [0, 1, 1, 1, 1, 1, 1, 1, 1] fun GG28 => ?_
 refine zn ?_
 refine zS <| Qf fh rfl <| Q0 2 rfl rfl rfl <| Qm rfl ?_
 refine JL.fact (row_some (i := 3) rfl (by omega)) (fun hf30 => ?_)
 obtain ⟨b30, rfl⟩ := hf30
 have hy29 : acc[X27KX.toNat]? = some (M.ent acc X27KX.toNat) := M.ent_get len_
 refine JL.fact (fun w hw => elemv_BookEntry (Mem.ownC (i := 4) rfl w hw) hy29) (fun hf29 => ?_)
 obtain ⟨A29_0, c29_0, A29_1, c29_1, he29, bl29_0, bh29_0, bl29_1, bh29_1⟩ := hf29
 have hsz := hB.sz _ (List.mem_of_getElem? hy29)
 refine Qq (p_indexAddr el_35 rfl rfl (by omega) (by omega) rfl) <| Qa rfl <| zJ <| zS <| Qm rfl <| zBB 1 sp_ rfl (fun w hb _ hw => c_spec_l00Src_pick s_code X27AT X27SD 24 hb (ok_ hw)) ?_
 rintro _ _ G31 ⟨X31KX, X31AT, X31SD, rfl, rfl, hX31_0, hX31_1, hX31_2, hX31_3⟩
 refine znl ?_
 refine JL.nil ?_
 refine zf [0, 1, 1, 1, 1, 1, 1, 1, 1] fun GG32 => ?_
 refine zn ?_
 refine Js.block <| zS <| Qe rfl rfl <| Qa rfl <| JL.nil ?_
 refine zi (fun h33 h33' => ?_) fun h33 h33' => ?_
 ·
  refine Js.fact (fun w hw => elem_in cBookEntry (m := 2) (k := X27KX.toNat) (xs := acc) (fun _ => rfl) (Mem.ownC (i := 4) rfl w hw) (by omega)) (fun hl34 => ?_)
  refine Js.ex3 (fun w hw => St.elemS cBookEntry (m := 2) (i := 4) (xs := acc) (fun _ => rfl) rfl hy29 he29 hw) (fun f34_1 f34_2 f34_3 => ?_)
  refine Js.unp 0 ?_
  refine zn ?_
  refine Js.fact (row_some (i := 1) rfl len_) (fun hf35 => ?_)
  obtain ⟨b35, rfl⟩ := hf35
  refine Js.fact (row_some (i := 0) rfl len_) (fun hf36 => ?_)
  obtain ⟨b36, rfl⟩ := hf36
  refine zk [2, 3, 4, 5] (fun F U l os u => ∃ (G39 : List Nat) (b37 : Nat) (X39KX X39AT X39SD : Int), l = F [] ∧ os = [anyO G39, rowO 2 1 (.slice (some ⟨b37, 0, none⟩) 3 3) 3 [.int .i64 0, .int .i64 1000000, .int .i64 1000001] []] ++ U [some (rowO 81 3 (.slice (some ⟨b36, 0, none⟩) (((M.ent acc X27KX.toNat).choices).length) c29_1) (((M.ent acc X27KX.toNat).choices).length) (fltV vcChoice (((M.ent acc X27KX.toNat).choices).set 0 (M.Cho.mk ((M.cho ((M.ent acc X27KX.toNat).choices) 0).move) X39KX ((M.cho ((M.ent acc X27KX.toNat).choices) 0).score)))) []), nO, nO, nO, some (boxO bs [.slice As_0 s_code cs_0, .int .i64 X39AT, .int .u64 X39SD] 189)] ∧ (X39KX ∈ [0, 1000000, 1000001]) ∧ (X31AT ≤ X39AT) ∧ (X39AT ≤ X31AT + 2)) ?_ ?_
  ·
   refine zdr [6, 9] ?_
   refine jM 0 rfl rfl ?_
   refine jN 1 rfl rfl ?_
   refine jF 2 fld_89_1 rfl rfl ?_
   refine jM 4 rfl rfl ?_
   refine y2 3 5 ?_ ?_
   ·
    refine JHo.q rfl (q_load1 ty_67.h rfl (fun w hw => (Mem.rowR' (i := 7) rfl he29 w hw) 1 _ rfl)) ?_
    refine y1 5 ?_
    refine ybs rfl fun b48 => ?_
    refine y1 6 ?_
    refine zhh [5] ?_
    refine yBB 1 sp_ rfl rfl (fun w hb _ hw => c_spec_l00Src_among s_code X31AT X31SD [0, 1000000, 1000001] hb (ok_ hw) (ints_rowok (xs := [0, 1000000, 1000001]) (hw.pr (i := 0) rfl)) (r3 := (by simp)) (r4 := (by simp))) ?_
    rintro _ _ G50 ⟨X50KX, X50AT, X50SD, rfl, rfl, hX50_0, hX50_1, hX50_2⟩
    refine znh ?_
    have hy51 : ((M.ent acc X27KX.toNat).choices)[0]? = some (M.cho ((M.ent acc X27KX.toNat).choices) 0) := M.cho_get len_
    refine jI 7 el_67 rfl rfl rfl rfl ?_
    refine jF 8 fld_81_1 rfl rfl ?_
    refine y1 9 ?_
    refine JHo.s rfl (e_storeRow (i := 3) (xs' := fltV vcChoice (((M.ent acc X27KX.toNat).choices).set 0 (M.Cho.mk ((M.cho ((M.ent acc X27KX.toNat).choices) 0).move) X50KX ((M.cho ((M.ent acc X27KX.toNat).choices) 0).score)))) ty_2.h rfl rfl rfl rfl rfl rfl (fltV_lt (C := vcChoice) (j := 1) (fun _ => rfl) len_ (by decide)) (fltV_cell (C := vcChoice) (j := 1) (y' := (M.Cho.mk ((M.cho ((M.ent acc X27KX.toNat).choices) 0).move) X50KX ((M.cho ((M.ent acc X27KX.toNat).choices) 0).score))) (fun _ => rfl) hy51 (by decide) rfl)) (.inr rfl) ?_
    rintro _ _ _ ⟨rfl, rfl⟩ _
    refine znh ?_
    refine yd ?_
    refine zh [1, 1, 1, 1, 1, 1, 0, 0, 0, 0, 0, 0, 0, 0, 0] ?_
    exact zm ⟨_, _, _, _, _, rfl, rfl, zt, zt, zt⟩ (Up.refl _ _) ⟨rfl, rfl, rfl, rfl, trivial⟩
   refine ybs rfl fun b52 => ?_
   refine y2 3 6 ?_ ?_
   ·
    refine JHo.q rfl (q_load1 ty_67.h rfl (fun w hw => (Mem.rowR' (i := 8) rfl he29 w hw) 1 _ rfl)) ?_
    refine y1 6 ?_
    refine zhh [5] ?_
    refine yBB 1 sp_ rfl rfl (fun w hb _ hw => c_spec_l00Src_among s_code X31AT X31SD [0, 1000000, 1000001] hb (ok_ hw) (ints_rowok (xs := [0, 1000000, 1000001]) (hw.pr (i := 0) rfl)) (r3 := (by simp)) (r4 := (by simp))) ?_
    rintro _ _ G54 ⟨X54KX, X54AT, X54SD, rfl, rfl, hX54_0, hX54_1, hX54_2⟩
    refine znh ?_
    have hy55 : ((M.ent acc X27KX.toNat).choices)[0]? = some (M.cho ((M.ent acc X27KX.toNat).choices) 0) := M.cho_get len_
    refine jI 7 el_67 rfl rfl rfl rfl ?_
    refine jF 8 fld_81_1 rfl rfl ?_
    refine y1 9 ?_
    refine JHo.s rfl (e_storeRow (i := 3) (xs' := fltV vcChoice (((M.ent acc X27KX.toNat).choices).set 0 (M.Cho.mk ((M.cho ((M.ent acc X27KX.toNat).choices) 0).move) X54KX ((M.cho ((M.ent acc X27KX.toNat).choices) 0).score)))) ty_2.h rfl rfl rfl rfl rfl rfl (fltV_lt (C := vcChoice) (j := 1) (fun _ => rfl) len_ (by decide)) (fltV_cell (C := vcChoice) (j := 1) (y' := (M.Cho.mk ((M.cho ((M.ent acc X27KX.toNat).choices) 0).move) X54KX ((M.cho ((M.ent acc X27KX.toNat).choices) 0).score))) (fun _ => rfl) hy55 (by decide) rfl)) (.inr rfl) ?_
    rintro _ _ _ ⟨rfl, rfl⟩ _
    refine znh ?_
    refine yd ?_
    refine zh [1, 1, 1, 1, 1, 1, 0, 0, 0, 0, 0, 0, 0, 0, 0] ?_
    exact zm ⟨_, _, _, _, _, rfl, rfl, zt, zt, zt⟩ (Up.refl _ _) ⟨rfl, rfl, rfl, rfl, trivial⟩
   refine zhh [5] ?_
   refine yBB 1 sp_ rfl rfl (fun w hb _ hw => c_spec_l00Src_among s_code X31AT X31SD [0, 1000000, 1000001] hb (ok_ hw) (ints_rowok (xs := [0, 1000000, 1000001]) (hw.pr (i := 0) rfl)) (r3 := (by simp)) (r4 := (by simp))) ?_
   rintro _ _ G56 ⟨X56KX, X56AT, X56SD, rfl, rfl, hX56_0, hX56_1, hX56_2⟩
   refine znh ?_
   refine y1 3 ?_
   refine JHo.q rfl (q_load1 ty_67.h rfl (fun w hw => (Mem.rowR' (i := 9) rfl he29 w hw) 1 _ rfl)) ?_
   have hy57 : ((M.ent acc X27KX.toNat).choices)[0]? = some (M.cho ((M.ent acc X27KX.toNat).choices) 0) := M.cho_get len_
   refine jI 7 el_67 rfl rfl rfl rfl ?_
   refine jF 8 fld_81_1 rfl rfl ?_
   refine y1 9 ?_
   refine JHo.s rfl (e_storeRow (i := 3) (xs' := fltV vcChoice (((M.ent acc X27KX.toNat).choices).set 0 (M.Cho.mk ((M.cho ((M.ent acc X27KX.toNat).choices) 0).move) X56KX ((M.cho ((M.ent acc X27KX.toNat).choices) 0).score)))) ty_2.h rfl rfl rfl rfl rfl rfl (fltV_lt (C := vcChoice) (j := 1) (fun _ => rfl) len_ (by decide)) (fltV_cell (C := vcChoice) (j := 1) (y' := (M.Cho.mk ((M.cho ((M.ent acc X27KX.toNat).choices) 0).move) X56KX ((M.cho ((M.ent acc X27KX.toNat).choices) 0).score))) (fun _ => rfl) hy57 (by decide) rfl)) (.inr rfl) ?_
   rintro _ _ _ ⟨rfl, rfl⟩ _
   refine znh ?_
   refine yd ?_
   refine zh [1, 1, 1, 1, 1, 1, 0, 0, 0, 0, 0, 0, 0, 0, 0] ?_
   exact zm ⟨_, _, _, _, _, rfl, rfl, zt, zt, zt⟩ (Up.refl _ _) ⟨rfl, rfl, rfl, rfl, trivial⟩
  rintro _ _ u47 ⟨G39, b37, X39KX, X39AT, X39SD, rfl, rfl, f47_0, f47_1, f47_2⟩ x47
  refine zn ?_
  refine zf [2, 2, 2, 2, 2, 2, 2, 2, 2, 2, 2, 2] fun GG58 => ?_
  refine zn ?_
  refine Js.blockEnd <| Js.seq ?_
  refine zk [2, 3] (fun F U l os u => l = F [] ∧ os = U [nO, nO, nO, nO, nO, nO, nO, nO, nO, nO, some (boxO b2 [.slice A9_5_0 pp.pits.length c9_5_0, .slice A9_5_1 pp.stores.length c9_5_1, .int .i64 pp.player] 39), some (boxO b1 [.int .i64 rr.pits, .int .i64 rr.seeds, .bool rr.stores, .bool rr.skip, .bool rr.relay, .bool rr.feed, .bool rr.again, .int .i64 rr.capture, .int .i64 rr.slam, .slice (some ⟨b30, 0, none⟩) acc.length c9_4_9] 37)]) ?_ ?_
  ·
   refine zdr [2, 3] ?_
   refine JH.q 0 rfl (L9 6 rfl rfl) ?_
   refine y2 1 2 ?_ ?_
   ·
    refine JHo.q rfl (L9 5 rfl rfl) ?_
    refine y1 2 ?_
    refine yst rfl rfl rfl ?_
    refine y1 3 ?_
    refine yst rfl rfl rfl ?_
    refine yd ?_
    exact zm ⟨rfl, rfl⟩ (Up.refl _ _)
   refine yst rfl rfl rfl ?_
   refine y1 1 ?_
   refine JHo.q rfl (L9 5 rfl rfl) ?_
   refine y1 3 ?_
   refine yst rfl rfl rfl ?_
   refine yd ?_
   exact zm ⟨rfl, rfl⟩ (Up.refl _ _)
  rintro _ _ u59 ⟨rfl, rfl⟩ x59
  refine zn ?_
  refine zf [0, 0, 0, 0, 0, 2, 2, 2, 2, 2] fun GG60 => ?_
  refine zn ?_
  refine Js.pk (cBookEntry (M.Ent.mk ((M.ent acc X27KX.toNat).pits) (((M.ent acc X27KX.toNat).choices).set 0 (M.Cho.mk ((M.cho ((M.ent acc X27KX.toNat).choices) 0).move) X39KX ((M.cho ((M.ent acc X27KX.toNat).choices) 0).score))))) [.slice (some ⟨b35, 0, none⟩) (((M.ent acc X27KX.toNat).pits).length) c29_0, .slice (some ⟨b36, 0, none⟩) (((M.ent acc X27KX.toNat).choices).length) c29_1] (fun f62 G62 => ?_) (by exact (gv_agg (gvc gv_ (gvc (gv_flat lChoice (xs := (((M.ent acc X27KX.toNat).choices).set 0 (M.Cho.mk ((M.cho ((M.ent acc X27KX.toNat).choices) 0).move) X39KX ((M.cho ((M.ent acc X27KX.toNat).choices) 0).score)))) po_ (by first | rfl | (simp [fltV]; done)) (by first | with_reducible rfl | assumption | rfl)) gvn))))
  refine Js.front (i := 2) rfl ?_
  refine zn ?_
  refine Js.front (i := 1) rfl ?_
  refine zn ?_
  refine Js.front (i := 3) rfl ?_
  refine zn ?_
  refine Js.conv (fun w hw => St.closeE cBookEntry (k := X27KX.toNat) (m := 2) (xs := acc) (y := (M.Ent.mk ((M.ent acc X27KX.toNat).pits) (((M.ent acc X27KX.toNat).choices).set 0 (M.Cho.mk ((M.cho ((M.ent acc X27KX.toNat).choices) 0).move) X39KX ((M.cho ((M.ent acc X27KX.toNat).choices) 0).score))))) (vs := vs9_4_9) (vs' := vs9_4_9) (by omega) rfl (setL_same he29 rfl) hw) ?_
  refine zn ?_
  refine zrb [2, 2, 0, 1, 1] hb ((x9.trans x47).trans x59) ?_
  have hNr0_9 : (acc.set X27KX.toNat (M.Ent.mk ((M.ent acc X27KX.toNat).pits) (((M.ent acc X27KX.toNat).choices).set 0 (M.Cho.mk ((M.cho ((M.ent acc X27KX.toNat).choices) 0).move) X39KX ((M.cho ((M.ent acc X27KX.toNat).choices) 0).score))))).length = acc.length := by first | rfl | assumption | omega | (simp only [List.length_set, M.setI_length]; done) | (simp only [List.length_set, M.setI_length]; first | rfl | assumption | omega) | (simp only [List.length_drop]; first | done | rfl | omega) | (simp; done) | (simp; omega)
  refine ⟨((M.Boo.mk rr (acc.set X27KX.toNat (M.Ent.mk ((M.ent acc X27KX.toNat).pits) (((M.ent acc X27KX.toNat).choices).set 0 (M.Cho.mk ((M.cho ((M.ent acc X27KX.toNat).choices) 0).move) X39KX ((M.cho ((M.ent acc X27KX.toNat).choices) 0).score))))))), (pp), (X39AT), (X39SD), (some ⟨b30, 0, none⟩), c9_4_9, g9_4_9, vs9_4_9, (f34_3 ++ f62 ++ f34_2), A9_5_0, c9_5_0, g9_5_0, A9_5_1, c9_5_1, g9_5_1, (show (.tuple #[.agg #[.int .i64 rr.pits, .int .i64 rr.seeds, .bool rr.stores, .bool rr.skip, .bool rr.relay, .bool rr.feed, .bool rr.again, .int .i64 rr.capture, .int .i64 rr.slam, .slice (some ⟨b30, 0, none⟩) acc.length c9_4_9], .agg #[.slice A9_5_0 pp.pits.length c9_5_0, .slice A9_5_1 pp.stores.length c9_5_1, .int .i64 pp.player]] : Value) = .tuple #[.agg #[.int .i64 rr.pits, .int .i64 rr.seeds, .bool rr.stores, .bool rr.skip, .bool rr.relay, .bool rr.feed, .bool rr.again, .int .i64 rr.capture, .int .i64 rr.slam, .slice (some ⟨b30, 0, none⟩) (acc.set X27KX.toNat (M.Ent.mk ((M.ent acc X27KX.toNat).pits) (((M.ent acc X27KX.toNat).choices).set 0 (M.Cho.mk ((M.cho ((M.ent acc X27KX.toNat).choices) 0).move) X39KX ((M.cho ((M.ent acc X27KX.toNat).choices) 0).score))))).length c9_4_9], .agg #[.slice A9_5_0 pp.pits.length c9_5_0, .slice A9_5_1 pp.stores.length c9_5_1, .int .i64 pp.player]] by rw [hNr0_9]), ?_, ?_, ?_, ?_, ?_, ?_, ?_, by first | exact M.xb_ hB | trivial | assumption | omega, by first | exact M.xb_ hB | trivial | assumption | omega, by first | exact M.xb_ hB | trivial | assumption | omega, by first | exact M.xb_ hB | trivial | assumption | omega⟩
  · exact r5_ hNr0_9
  all_goals (try dsimp only)
  all_goals (first | (rw [hNr0_9]; omega) | omega | (simp only [*]; omega))
 refine zS <| Qe rfl rfl <| Qa rfl <| JL.nil ?_
 refine zi (fun h63 h63' => ?_) fun h63 h63' => ?_
 ·
  refine Js.fact (fun w hw => elem_in cBookEntry (m := 2) (k := X27KX.toNat) (xs := acc) (fun _ => rfl) (Mem.ownC (i := 4) rfl w hw) (by omega)) (fun hl64 => ?_)
  refine Js.ex3 (fun w hw => St.elemS cBookEntry (m := 2) (i := 4) (xs := acc) (fun _ => rfl) rfl hy29 he29 hw) (fun f64_1 f64_2 f64_3 => ?_)
  refine Js.unp 0 ?_
  refine zn ?_
  refine Js.fact (row_some (i := 1) rfl len_) (fun hf65 => ?_)
  obtain ⟨b65, rfl⟩ := hf65
  refine Js.fact (row_some (i := 0) rfl len_) (fun hf66 => ?_)
  obtain ⟨b66, rfl⟩ := hf66
  refine zk [2, 3, 4, 5] (fun F U l os u => ∃ (G71 : List Nat) (b69 : Nat) (X71KX X71AT X71SD : Int), l = F [] ∧ os = [anyO G71, rowO 2 1 (.slice (some ⟨b69, 0, none⟩) 3 3) 3 [.int .i64 (-1), .int .i64 (IntKind.i64.wrap (2 * ((M.cho ((M.ent acc X27KX.toNat).choices) 0).games))), .int .i64 (IntKind.i64.wrap ((IntKind.i64.wrap (2 * ((M.cho ((M.ent acc X27KX.toNat).choices) 0).games))) + 1))] []] ++ U [some (rowO 81 3 (.slice (some ⟨b66, 0, none⟩) (((M.ent acc X27KX.toNat).choices).length) c29_1) (((M.ent acc X27KX.toNat).choices).length) (fltV vcChoice (((M.ent acc X27KX.toNat).choices).set 0 (M.Cho.mk ((M.cho ((M.ent acc X27KX.toNat).choices) 0).move) ((M.cho ((M.ent acc X27KX.toNat).choices) 0).games) X71KX))) []), nO, nO, nO, some (boxO bs [.slice As_0 s_code cs_0, .int .i64 X71AT, .int .u64 X71SD] 189)] ∧ (X71KX ∈ [(-1), (IntKind.i64.wrap (2 * ((M.cho ((M.ent acc X27KX.toNat).choices) 0).games))), (IntKind.i64.wrap ((IntKind.i64.wrap (2 * ((M.cho ((M.ent acc X27KX.toNat).choices) 0).games))) + 1))]) ∧ (X31AT ≤ X71AT) ∧ (X71AT ≤ X31AT + 2)) ?_ ?_
  ·
   refine zdr [23, 26] ?_
   refine jM 0 rfl rfl ?_
   refine jN 1 rfl rfl ?_
   refine jF 2 fld_89_1 rfl rfl ?_
   refine jM 4 rfl rfl ?_
   refine jM 5 rfl rfl ?_
   refine jN 6 rfl rfl ?_
   refine jF 7 fld_89_1 rfl rfl ?_
   refine JH.q 8 rfl (q_load1 ty_67.h rfl (fun w hw => (Mem.rowR' (i := 7) rfl he29 w hw) 1 _ rfl)) ?_
   have hy80 : ((M.ent acc X27KX.toNat).choices)[0]? = some (M.cho ((M.ent acc X27KX.toNat).choices) 0) := M.cho_get len_
   refine jI 9 el_67 rfl rfl rfl rfl ?_
   refine jF 10 fld_81_1 rfl rfl ?_
   refine JH.q 11 rfl (q_load1 ty_2.h rfl (fun w hw => (Mem.rowR' (i := 0) rfl (fltV_at (C := vcChoice) (fun _ => rfl) hy80) w hw) 1 _ rfl)) ?_
   refine JH.p 12 rfl (p_mul rfl rfl rfl) ?_
   refine jM 13 rfl rfl ?_
   refine jN 14 rfl rfl ?_
   refine jF 15 fld_89_1 rfl rfl ?_
   refine JH.q 16 rfl (q_load1 ty_67.h rfl (fun w hw => (Mem.rowR' (i := 7) rfl he29 w hw) 1 _ rfl)) ?_
   have hy81 : ((M.ent acc X27KX.toNat).choices)[0]? = some (M.cho ((M.ent acc X27KX.toNat).choices) 0) := M.cho_get len_
   refine jI 17 el_67 rfl rfl rfl rfl ?_
   refine jF 18 fld_81_1 rfl rfl ?_
   refine JH.q 19 rfl (q_load1 ty_2.h rfl (fun w hw => (Mem.rowR' (i := 0) rfl (fltV_at (C := vcChoice) (fun _ => rfl) hy81) w hw) 1 _ rfl)) ?_
   refine JH.p 20 rfl (p_mul rfl rfl rfl) ?_
   refine JH.p 21 rfl (p_add rfl rfl rfl) ?_
   refine y2 3 22 ?_ ?_
   ·
    refine JHo.q rfl (q_load1 ty_67.h rfl (fun w hw => (Mem.rowR' (i := 7) rfl he29 w hw) 1 _ rfl)) ?_
    refine y1 22 ?_
    refine ybs rfl fun b82 => ?_
    refine y1 23 ?_
    refine zhh [5] ?_
    refine yBB 1 sp_ rfl rfl (fun w hb _ hw => c_spec_l00Src_among s_code X31AT X31SD [(-1), (IntKind.i64.wrap (2 * ((M.cho ((M.ent acc X27KX.toNat).choices) 0).games))), (IntKind.i64.wrap ((IntKind.i64.wrap (2 * ((M.cho ((M.ent acc X27KX.toNat).choices) 0).games))) + 1))] hb (ok_ hw) (ints_rowok (xs := [(-1), (IntKind.i64.wrap (2 * ((M.cho ((M.ent acc X27KX.toNat).choices) 0).games))), (IntKind.i64.wrap ((IntKind.i64.wrap (2 * ((M.cho ((M.ent acc X27KX.toNat).choices) 0).games))) + 1))]) (hw.pr (i := 0) rfl)) (r3 := (by simp)) (r4 := (by simp))) ?_
    rintro _ _ G84 ⟨X84KX, X84AT, X84SD, rfl, rfl, hX84_0, hX84_1, hX84_2⟩
    refine znh ?_
    have hy85 : ((M.ent acc X27KX.toNat).choices)[0]? = some (M.cho ((M.ent acc X27KX.toNat).choices) 0) := M.cho_get len_
    refine jI 24 el_67 rfl rfl rfl rfl ?_
    refine jF 25 fld_81_2 rfl rfl ?_
    refine y1 26 ?_
    refine JHo.s rfl (e_storeRow (i := 3) (xs' := fltV vcChoice (((M.ent acc X27KX.toNat).choices).set 0 (M.Cho.mk ((M.cho ((M.ent acc X27KX.toNat).choices) 0).move) ((M.cho ((M.ent acc X27KX.toNat).choices) 0).games) X84KX))) ty_2.h rfl rfl rfl rfl rfl rfl (fltV_lt (C := vcChoice) (j := 2) (fun _ => rfl) len_ (by decide)) (fltV_cell (C := vcChoice) (j := 2) (y' := (M.Cho.mk ((M.cho ((M.ent acc X27KX.toNat).choices) 0).move) ((M.cho ((M.ent acc X27KX.toNat).choices) 0).games) X84KX)) (fun _ => rfl) hy85 (by decide) rfl)) (.inr rfl) ?_
    rintro _ _ _ ⟨rfl, rfl⟩ _
    refine znh ?_
    refine yd ?_
    refine zh [1, 1, 1, 1, 1, 1, 0, 0, 0, 0, 0, 0, 0, 0, 0] ?_
    exact zm ⟨_, _, _, _, _, rfl, rfl, zt, zt, zt⟩ (Up.refl _ _) ⟨rfl, rfl, rfl, rfl, trivial⟩
   refine ybs rfl fun b86 => ?_
   refine y2 3 23 ?_ ?_
   ·
    refine JHo.q rfl (q_load1 ty_67.h rfl (fun w hw => (Mem.rowR' (i := 8) rfl he29 w hw) 1 _ rfl)) ?_
    refine y1 23 ?_
    refine zhh [5] ?_
    refine yBB 1 sp_ rfl rfl (fun w hb _ hw => c_spec_l00Src_among s_code X31AT X31SD [(-1), (IntKind.i64.wrap (2 * ((M.cho ((M.ent acc X27KX.toNat).choices) 0).games))), (IntKind.i64.wrap ((IntKind.i64.wrap (2 * ((M.cho ((M.ent acc X27KX.toNat).choices) 0).games))) + 1))] hb (ok_ hw) (ints_rowok (xs := [(-1), (IntKind.i64.wrap (2 * ((M.cho ((M.ent acc X27KX.toNat).choices) 0).games))), (IntKind.i64.wrap ((IntKind.i64.wrap (2 * ((M.cho ((M.ent acc X27KX.toNat).choices) 0).games))) + 1))]) (hw.pr (i := 0) rfl)) (r3 := (by simp)) (r4 := (by simp))) ?_
    rintro _ _ G88 ⟨X88KX, X88AT, X88SD, rfl, rfl, hX88_0, hX88_1, hX88_2⟩
    refine znh ?_
    have hy89 : ((M.ent acc X27KX.toNat).choices)[0]? = some (M.cho ((M.ent acc X27KX.toNat).choices) 0) := M.cho_get len_
    refine jI 24 el_67 rfl rfl rfl rfl ?_
    refine jF 25 fld_81_2 rfl rfl ?_
    refine y1 26 ?_
    refine JHo.s rfl (e_storeRow (i := 3) (xs' := fltV vcChoice (((M.ent acc X27KX.toNat).choices).set 0 (M.Cho.mk ((M.cho ((M.ent acc X27KX.toNat).choices) 0).move) ((M.cho ((M.ent acc X27KX.toNat).choices) 0).games) X88KX))) ty_2.h rfl rfl rfl rfl rfl rfl (fltV_lt (C := vcChoice) (j := 2) (fun _ => rfl) len_ (by decide)) (fltV_cell (C := vcChoice) (j := 2) (y' := (M.Cho.mk ((M.cho ((M.ent acc X27KX.toNat).choices) 0).move) ((M.cho ((M.ent acc X27KX.toNat).choices) 0).games) X88KX)) (fun _ => rfl) hy89 (by decide) rfl)) (.inr rfl) ?_
    rintro _ _ _ ⟨rfl, rfl⟩ _
    refine znh ?_
    refine yd ?_
    refine zh [1, 1, 1, 1, 1, 1, 0, 0, 0, 0, 0, 0, 0, 0, 0] ?_
    exact zm ⟨_, _, _, _, _, rfl, rfl, zt, zt, zt⟩ (Up.refl _ _) ⟨rfl, rfl, rfl, rfl, trivial⟩
   refine zhh [5] ?_
   refine yBB 1 sp_ rfl rfl (fun w hb _ hw => c_spec_l00Src_among s_code X31AT X31SD [(-1), (IntKind.i64.wrap (2 * ((M.cho ((M.ent acc X27KX.toNat).choices) 0).games))), (IntKind.i64.wrap ((IntKind.i64.wrap (2 * ((M.cho ((M.ent acc X27KX.toNat).choices) 0).games))) + 1))] hb (ok_ hw) (ints_rowok (xs := [(-1), (IntKind.i64.wrap (2 * ((M.cho ((M.ent acc X27KX.toNat).choices) 0).games))), (IntKind.i64.wrap ((IntKind.i64.wrap (2 * ((M.cho ((M.ent acc X27KX.toNat).choices) 0).games))) + 1))]) (hw.pr (i := 0) rfl)) (r3 := (by simp)) (r4 := (by simp))) ?_
   rintro _ _ G90 ⟨X90KX, X90AT, X90SD, rfl, rfl, hX90_0, hX90_1, hX90_2⟩
   refine znh ?_
   refine y1 3 ?_
   refine JHo.q rfl (q_load1 ty_67.h rfl (fun w hw => (Mem.rowR' (i := 9) rfl he29 w hw) 1 _ rfl)) ?_
   have hy91 : ((M.ent acc X27KX.toNat).choices)[0]? = some (M.cho ((M.ent acc X27KX.toNat).choices) 0) := M.cho_get len_
   refine jI 24 el_67 rfl rfl rfl rfl ?_
   refine jF 25 fld_81_2 rfl rfl ?_
   refine y1 26 ?_
   refine JHo.s rfl (e_storeRow (i := 3) (xs' := fltV vcChoice (((M.ent acc X27KX.toNat).choices).set 0 (M.Cho.mk ((M.cho ((M.ent acc X27KX.toNat).choices) 0).move) ((M.cho ((M.ent acc X27KX.toNat).choices) 0).games) X90KX))) ty_2.h rfl rfl rfl rfl rfl rfl (fltV_lt (C := vcChoice) (j := 2) (fun _ => rfl) len_ (by decide)) (fltV_cell (C := vcChoice) (j := 2) (y' := (M.Cho.mk ((M.cho ((M.ent acc X27KX.toNat).choices) 0).move) ((M.cho ((M.ent acc X27KX.toNat).choices) 0).games) X90KX)) (fun _ => rfl) hy91 (by decide) rfl)) (.inr rfl) ?_
   rintro _ _ _ ⟨rfl, rfl⟩ _
   refine znh ?_
   refine yd ?_
   refine zh [1, 1, 1, 1, 1, 1, 0, 0, 0, 0, 0, 0, 0, 0, 0] ?_
   exact zm ⟨_, _, _, _, _, rfl, rfl, zt, zt, zt⟩ (Up.refl _ _) ⟨rfl, rfl, rfl, rfl, trivial⟩
  rintro _ _ u79 ⟨G71, b69, X71KX, X71AT, X71SD, rfl, rfl, f79_0, f79_1, f79_2⟩ x79
  refine zn ?_
  refine zf [2, 2, 2, 2, 2, 2, 2, 2, 2, 2, 2, 2] fun GG92 => ?_
  refine zn ?_
  refine Js.blockEnd <| Js.seq ?_
  refine zk [2, 3] (fun F U l os u => l = F [] ∧ os = U [nO, nO, nO, nO, nO, nO, nO, nO, nO, nO, some (boxO b2 [.slice A9_5_0 pp.pits.length c9_5_0, .slice A9_5_1 pp.stores.length c9_5_1, .int .i64 pp.player] 39), some (boxO b1 [.int .i64 rr.pits, .int .i64 rr.seeds, .bool rr.stores, .bool rr.skip, .bool rr.relay, .bool rr.feed, .bool rr.again, .int .i64 rr.capture, .int .i64 rr.slam, .slice (some ⟨b30, 0, none⟩) acc.length c9_4_9] 37)]) ?_ ?_
  ·
   refine zdr [2, 3] ?_
   refine JH.q 0 rfl (L9 6 rfl rfl) ?_
   refine y2 1 2 ?_ ?_
   ·
    refine JHo.q rfl (L9 5 rfl rfl) ?_
    refine y1 2 ?_
    refine yst rfl rfl rfl ?_
    refine y1 3 ?_
    refine yst rfl rfl rfl ?_
    refine yd ?_
    exact zm ⟨rfl, rfl⟩ (Up.refl _ _)
   refine yst rfl rfl rfl ?_
   refine y1 1 ?_
   refine JHo.q rfl (L9 5 rfl rfl) ?_
   refine y1 3 ?_
   refine yst rfl rfl rfl ?_
   refine yd ?_
   exact zm ⟨rfl, rfl⟩ (Up.refl _ _)
  rintro _ _ u93 ⟨rfl, rfl⟩ x93
  refine zn ?_
  refine zf [0, 0, 0, 0, 0, 2, 2, 2, 2, 2] fun GG94 => ?_
  refine zn ?_
  refine Js.pk (cBookEntry (M.Ent.mk ((M.ent acc X27KX.toNat).pits) (((M.ent acc X27KX.toNat).choices).set 0 (M.Cho.mk ((M.cho ((M.ent acc X27KX.toNat).choices) 0).move) ((M.cho ((M.ent acc X27KX.toNat).choices) 0).games) X71KX)))) [.slice (some ⟨b65, 0, none⟩) (((M.ent acc X27KX.toNat).pits).length) c29_0, .slice (some ⟨b66, 0, none⟩) (((M.ent acc X27KX.toNat).choices).length) c29_1] (fun f96 G96 => ?_) (by exact (gv_agg (gvc gv_ (gvc (gv_flat lChoice (xs := (((M.ent acc X27KX.toNat).choices).set 0 (M.Cho.mk ((M.cho ((M.ent acc X27KX.toNat).choices) 0).move) ((M.cho ((M.ent acc X27KX.toNat).choices) 0).games) X71KX))) po_ (by first | rfl | (simp [fltV]; done)) (by first | with_reducible rfl | assumption | rfl)) gvn))))
  refine Js.front (i := 2) rfl ?_
  refine zn ?_
  refine Js.front (i := 1) rfl ?_
  refine zn ?_
  refine Js.front (i := 3) rfl ?_
  refine zn ?_
  refine Js.conv (fun w hw => St.closeE cBookEntry (k := X27KX.toNat) (m := 2) (xs := acc) (y := (M.Ent.mk ((M.ent acc X27KX.toNat).pits) (((M.ent acc X27KX.toNat).choices).set 0 (M.Cho.mk ((M.cho ((M.ent acc X27KX.toNat).choices) 0).move) ((M.cho ((M.ent acc X27KX.toNat).choices) 0).games) X71KX)))) (vs := vs9_4_9) (vs' := vs9_4_9) (by omega) rfl (setL_same he29 rfl) hw) ?_
  refine zn ?_
  refine zrb [2, 2, 0, 1, 1] hb ((x9.trans x79).trans x93) ?_
  have hNr0_9 : (acc.set X27KX.toNat (M.Ent.mk ((M.ent acc X27KX.toNat).pits) (((M.ent acc X27KX.toNat).choices).set 0 (M.Cho.mk ((M.cho ((M.ent acc X27KX.toNat).choices) 0).move) ((M.cho ((M.ent acc X27KX.toNat).choices) 0).games) X71KX)))).length = acc.length := by first | rfl | assumption | omega | (simp only [List.length_set, M.setI_length]; done) | (simp only [List.length_set, M.setI_length]; first | rfl | assumption | omega) | (simp only [List.length_drop]; first | done | rfl | omega) | (simp; done) | (simp; omega)
  refine ⟨((M.Boo.mk rr (acc.set X27KX.toNat (M.Ent.mk ((M.ent acc X27KX.toNat).pits) (((M.ent acc X27KX.toNat).choices).set 0 (M.Cho.mk ((M.cho ((M.ent acc X27KX.toNat).choices) 0).move) ((M.cho ((M.ent acc X27KX.toNat).choices) 0).games) X71KX)))))), (pp), (X71AT), (X71SD), (some ⟨b30, 0, none⟩), c9_4_9, g9_4_9, vs9_4_9, (f64_3 ++ f96 ++ f64_2), A9_5_0, c9_5_0, g9_5_0, A9_5_1, c9_5_1, g9_5_1, (show (.tuple #[.agg #[.int .i64 rr.pits, .int .i64 rr.seeds, .bool rr.stores, .bool rr.skip, .bool rr.relay, .bool rr.feed, .bool rr.again, .int .i64 rr.capture, .int .i64 rr.slam, .slice (some ⟨b30, 0, none⟩) acc.length c9_4_9], .agg #[.slice A9_5_0 pp.pits.length c9_5_0, .slice A9_5_1 pp.stores.length c9_5_1, .int .i64 pp.player]] : Value) = .tuple #[.agg #[.int .i64 rr.pits, .int .i64 rr.seeds, .bool rr.stores, .bool rr.skip, .bool rr.relay, .bool rr.feed, .bool rr.again, .int .i64 rr.capture, .int .i64 rr.slam, .slice (some ⟨b30, 0, none⟩) (acc.set X27KX.toNat (M.Ent.mk ((M.ent acc X27KX.toNat).pits) (((M.ent acc X27KX.toNat).choices).set 0 (M.Cho.mk ((M.cho ((M.ent acc X27KX.toNat).choices) 0).move) ((M.cho ((M.ent acc X27KX.toNat).choices) 0).games) X71KX)))).length c9_4_9], .agg #[.slice A9_5_0 pp.pits.length c9_5_0, .slice A9_5_1 pp.stores.length c9_5_1, .int .i64 pp.player]] by rw [hNr0_9]), ?_, ?_, ?_, ?_, ?_, ?_, ?_, by first | exact M.xb_ hB | trivial | assumption | omega, by first | exact M.xb_ hB | trivial | assumption | omega, by first | exact M.xb_ hB | trivial | assumption | omega, by first | exact M.xb_ hB | trivial | assumption | omega⟩
  · exact r5_ hNr0_9
  all_goals (try dsimp only)
  all_goals (first | (rw [hNr0_9]; omega) | omega | (simp only [*]; omega))
 refine zS <| Qe rfl rfl <| Qa rfl <| JL.nil ?_
 refine zi (fun h97 h97' => ?_) fun h97 h97' => ?_
 ·
  refine Js.fact (fun w hw => elem_in cBookEntry (m := 2) (k := X27KX.toNat) (xs := acc) (fun _ => rfl) (Mem.ownC (i := 4) rfl w hw) (by omega)) (fun hl98 => ?_)
  refine Js.ex3 (fun w hw => St.elemS cBookEntry (m := 2) (i := 4) (xs := acc) (fun _ => rfl) rfl hy29 he29 hw) (fun f98_1 f98_2 f98_3 => ?_)
  refine Js.unp 0 ?_
  refine zn ?_
  refine Js.fact (row_some (i := 1) rfl len_) (fun hf99 => ?_)
  obtain ⟨b99, rfl⟩ := hf99
  refine Js.fact (row_some (i := 0) rfl len_) (fun hf100 => ?_)
  obtain ⟨b100, rfl⟩ := hf100
  refine zk [2, 3, 4, 5] (fun F U l os u => ∃ (G101 : List Nat) (X101KX X101AT X101SD : Int), l = F [] ∧ os = [anyO G101] ++ U [some (rowO 81 3 (.slice (some ⟨b100, 0, none⟩) (((M.ent acc X27KX.toNat).choices).length) c29_1) (((M.ent acc X27KX.toNat).choices).length) (fltV vcChoice (((M.ent acc X27KX.toNat).choices).set 0 (M.Cho.mk (X101KX - 1) ((M.cho ((M.ent acc X27KX.toNat).choices) 0).games) ((M.cho ((M.ent acc X27KX.toNat).choices) 0).score)))) []), nO, nO, nO, some (boxO bs [.slice As_0 s_code cs_0, .int .i64 X101AT, .int .u64 X101SD] 189)] ∧ (0 ≤ X101KX) ∧ (X101KX = 0 ∨ X101KX < 10) ∧ (X31AT ≤ X101AT) ∧ (X101AT ≤ X31AT + 2)) ?_ ?_
  ·
   refine zdr [5, 9] ?_
   refine jM 0 rfl rfl ?_
   refine jN 1 rfl rfl ?_
   refine jF 2 fld_89_1 rfl rfl ?_
   refine jM 4 rfl rfl ?_
   refine y2 3 5 ?_ ?_
   ·
    refine JHo.q rfl (q_load1 ty_67.h rfl (fun w hw => (Mem.rowR' (i := 7) rfl he29 w hw) 1 _ rfl)) ?_
    refine y1 5 ?_
    refine zhh [4] ?_
    refine yBB 1 sp_ rfl rfl (fun w hb _ hw => c_spec_l00Src_pick s_code X31AT X31SD 10 hb (ok_ hw)) ?_
    rintro _ _ G106 ⟨X106KX, X106AT, X106SD, rfl, rfl, hX106_0, hX106_1, hX106_2, hX106_3⟩
    refine znh ?_
    refine JH.p 6 rfl (p_sub rfl rfl (IntWalk.i64_in _ (by omega))) ?_
    have hy107 : ((M.ent acc X27KX.toNat).choices)[0]? = some (M.cho ((M.ent acc X27KX.toNat).choices) 0) := M.cho_get len_
    refine jI 7 el_67 rfl rfl rfl rfl ?_
    refine jF 8 fld_81_0 rfl rfl ?_
    refine y1 9 ?_
    refine JHo.s rfl (e_storeRow (i := 2) (xs' := fltV vcChoice (((M.ent acc X27KX.toNat).choices).set 0 (M.Cho.mk (X106KX - 1) ((M.cho ((M.ent acc X27KX.toNat).choices) 0).games) ((M.cho ((M.ent acc X27KX.toNat).choices) 0).score)))) ty_2.h rfl rfl rfl rfl rfl rfl (fltV_lt (C := vcChoice) (j := 0) (fun _ => rfl) len_ (by decide)) (fltV_cell (C := vcChoice) (j := 0) (y' := (M.Cho.mk (X106KX - 1) ((M.cho ((M.ent acc X27KX.toNat).choices) 0).games) ((M.cho ((M.ent acc X27KX.toNat).choices) 0).score))) (fun _ => rfl) hy107 (by decide) rfl)) (.inr rfl) ?_
    rintro _ _ _ ⟨rfl, rfl⟩ _
    refine znh ?_
    refine yd ?_
    refine zh [1, 1, 1, 1, 1, 0, 0, 0, 0, 0, 0, 0, 0, 0] ?_
    exact zm ⟨_, _, _, _, rfl, rfl, zt, zt, zt, zt⟩ (Up.refl _ _) ⟨rfl, rfl, rfl, rfl, trivial⟩
   refine zhh [4] ?_
   refine yBB 1 sp_ rfl rfl (fun w hb _ hw => c_spec_l00Src_pick s_code X31AT X31SD 10 hb (ok_ hw)) ?_
   rintro _ _ G108 ⟨X108KX, X108AT, X108SD, rfl, rfl, hX108_0, hX108_1, hX108_2, hX108_3⟩
   refine znh ?_
   refine JH.p 6 rfl (p_sub rfl rfl (IntWalk.i64_in _ (by omega))) ?_
   refine y1 3 ?_
   refine JHo.q rfl (q_load1 ty_67.h rfl (fun w hw => (Mem.rowR' (i := 8) rfl he29 w hw) 1 _ rfl)) ?_
   have hy109 : ((M.ent acc X27KX.toNat).choices)[0]? = some (M.cho ((M.ent acc X27KX.toNat).choices) 0) := M.cho_get len_
   refine jI 7 el_67 rfl rfl rfl rfl ?_
   refine jF 8 fld_81_0 rfl rfl ?_
   refine y1 9 ?_
   refine JHo.s rfl (e_storeRow (i := 2) (xs' := fltV vcChoice (((M.ent acc X27KX.toNat).choices).set 0 (M.Cho.mk (X108KX - 1) ((M.cho ((M.ent acc X27KX.toNat).choices) 0).games) ((M.cho ((M.ent acc X27KX.toNat).choices) 0).score)))) ty_2.h rfl rfl rfl rfl rfl rfl (fltV_lt (C := vcChoice) (j := 0) (fun _ => rfl) len_ (by decide)) (fltV_cell (C := vcChoice) (j := 0) (y' := (M.Cho.mk (X108KX - 1) ((M.cho ((M.ent acc X27KX.toNat).choices) 0).games) ((M.cho ((M.ent acc X27KX.toNat).choices) 0).score))) (fun _ => rfl) hy109 (by decide) rfl)) (.inr rfl) ?_
   rintro _ _ _ ⟨rfl, rfl⟩ _
   refine znh ?_
   refine yd ?_
   refine zh [1, 1, 1, 1, 1, 0, 0, 0, 0, 0, 0, 0, 0, 0] ?_
   exact zm ⟨_, _, _, _, rfl, rfl, zt, zt, zt, zt⟩ (Up.refl _ _) ⟨rfl, rfl, rfl, rfl, trivial⟩
  rintro _ _ u105 ⟨G101, X101KX, X101AT, X101SD, rfl, rfl, f105_0, f105_1, f105_2, f105_3⟩ x105
  refine zn ?_
  refine zf [1, 1, 1, 1, 1, 1, 1, 1, 1, 1, 1, 1] fun GG110 => ?_
  refine zn ?_
  refine Js.blockEnd <| Js.seq ?_
  refine zk [2, 3] (fun F U l os u => l = F [] ∧ os = U [nO, nO, nO, nO, nO, nO, nO, nO, nO, nO, some (boxO b2 [.slice A9_5_0 pp.pits.length c9_5_0, .slice A9_5_1 pp.stores.length c9_5_1, .int .i64 pp.player] 39), some (boxO b1 [.int .i64 rr.pits, .int .i64 rr.seeds, .bool rr.stores, .bool rr.skip, .bool rr.relay, .bool rr.feed, .bool rr.again, .int .i64 rr.capture, .int .i64 rr.slam, .slice (some ⟨b30, 0, none⟩) acc.length c9_4_9] 37)]) ?_ ?_
  ·
   refine zdr [2, 3] ?_
   refine JH.q 0 rfl (L9 6 rfl rfl) ?_
   refine y2 1 2 ?_ ?_
   ·
    refine JHo.q rfl (L9 5 rfl rfl) ?_
    refine y1 2 ?_
    refine yst rfl rfl rfl ?_
    refine y1 3 ?_
    refine yst rfl rfl rfl ?_
    refine yd ?_
    exact zm ⟨rfl, rfl⟩ (Up.refl _ _)
   refine yst rfl rfl rfl ?_
   refine y1 1 ?_
   refine JHo.q rfl (L9 5 rfl rfl) ?_
   refine y1 3 ?_
   refine yst rfl rfl rfl ?_
   refine yd ?_
   exact zm ⟨rfl, rfl⟩ (Up.refl _ _)
  rintro _ _ u111 ⟨rfl, rfl⟩ x111
  refine zn ?_
  refine zf [0, 0, 0, 0, 0, 2, 2, 2, 2, 2] fun GG112 => ?_
  refine zn ?_
  refine Js.pk (cBookEntry (M.Ent.mk ((M.ent acc X27KX.toNat).pits) (((M.ent acc X27KX.toNat).choices).set 0 (M.Cho.mk (X101KX - 1) ((M.cho ((M.ent acc X27KX.toNat).choices) 0).games) ((M.cho ((M.ent acc X27KX.toNat).choices) 0).score))))) [.slice (some ⟨b99, 0, none⟩) (((M.ent acc X27KX.toNat).pits).length) c29_0, .slice (some ⟨b100, 0, none⟩) (((M.ent acc X27KX.toNat).choices).length) c29_1] (fun f114 G114 => ?_) (by exact (gv_agg (gvc gv_ (gvc (gv_flat lChoice (xs := (((M.ent acc X27KX.toNat).choices).set 0 (M.Cho.mk (X101KX - 1) ((M.cho ((M.ent acc X27KX.toNat).choices) 0).games) ((M.cho ((M.ent acc X27KX.toNat).choices) 0).score)))) po_ (by first | rfl | (simp [fltV]; done)) (by first | with_reducible rfl | assumption | rfl)) gvn))))
  refine Js.front (i := 2) rfl ?_
  refine zn ?_
  refine Js.front (i := 1) rfl ?_
  refine zn ?_
  refine Js.front (i := 3) rfl ?_
  refine zn ?_
  refine Js.conv (fun w hw => St.closeE cBookEntry (k := X27KX.toNat) (m := 2) (xs := acc) (y := (M.Ent.mk ((M.ent acc X27KX.toNat).pits) (((M.ent acc X27KX.toNat).choices).set 0 (M.Cho.mk (X101KX - 1) ((M.cho ((M.ent acc X27KX.toNat).choices) 0).games) ((M.cho ((M.ent acc X27KX.toNat).choices) 0).score))))) (vs := vs9_4_9) (vs' := vs9_4_9) (by omega) rfl (setL_same he29 rfl) hw) ?_
  refine zn ?_
  refine zrb [2, 2, 0, 1, 1] hb ((x9.trans x105).trans x111) ?_
  have hNr0_9 : (acc.set X27KX.toNat (M.Ent.mk ((M.ent acc X27KX.toNat).pits) (((M.ent acc X27KX.toNat).choices).set 0 (M.Cho.mk (X101KX - 1) ((M.cho ((M.ent acc X27KX.toNat).choices) 0).games) ((M.cho ((M.ent acc X27KX.toNat).choices) 0).score))))).length = acc.length := by first | rfl | assumption | omega | (simp only [List.length_set, M.setI_length]; done) | (simp only [List.length_set, M.setI_length]; first | rfl | assumption | omega) | (simp only [List.length_drop]; first | done | rfl | omega) | (simp; done) | (simp; omega)
  refine ⟨((M.Boo.mk rr (acc.set X27KX.toNat (M.Ent.mk ((M.ent acc X27KX.toNat).pits) (((M.ent acc X27KX.toNat).choices).set 0 (M.Cho.mk (X101KX - 1) ((M.cho ((M.ent acc X27KX.toNat).choices) 0).games) ((M.cho ((M.ent acc X27KX.toNat).choices) 0).score))))))), (pp), (X101AT), (X101SD), (some ⟨b30, 0, none⟩), c9_4_9, g9_4_9, vs9_4_9, (f98_3 ++ f114 ++ f98_2), A9_5_0, c9_5_0, g9_5_0, A9_5_1, c9_5_1, g9_5_1, (show (.tuple #[.agg #[.int .i64 rr.pits, .int .i64 rr.seeds, .bool rr.stores, .bool rr.skip, .bool rr.relay, .bool rr.feed, .bool rr.again, .int .i64 rr.capture, .int .i64 rr.slam, .slice (some ⟨b30, 0, none⟩) acc.length c9_4_9], .agg #[.slice A9_5_0 pp.pits.length c9_5_0, .slice A9_5_1 pp.stores.length c9_5_1, .int .i64 pp.player]] : Value) = .tuple #[.agg #[.int .i64 rr.pits, .int .i64 rr.seeds, .bool rr.stores, .bool rr.skip, .bool rr.relay, .bool rr.feed, .bool rr.again, .int .i64 rr.capture, .int .i64 rr.slam, .slice (some ⟨b30, 0, none⟩) (acc.set X27KX.toNat (M.Ent.mk ((M.ent acc X27KX.toNat).pits) (((M.ent acc X27KX.toNat).choices).set 0 (M.Cho.mk (X101KX - 1) ((M.cho ((M.ent acc X27KX.toNat).choices) 0).games) ((M.cho ((M.ent acc X27KX.toNat).choices) 0).score))))).length c9_4_9], .agg #[.slice A9_5_0 pp.pits.length c9_5_0, .slice A9_5_1 pp.stores.length c9_5_1, .int .i64 pp.player]] by rw [hNr0_9]), ?_, ?_, ?_, ?_, ?_, ?_, ?_, by first | exact M.xb_ hB | trivial | assumption | omega, by first | exact M.xb_ hB | trivial | assumption | omega, by first | exact M.xb_ hB | trivial | assumption | omega, by first | exact M.xb_ hB | trivial | assumption | omega⟩
  · exact r5_ hNr0_9
  all_goals (try dsimp only)
  all_goals (first | (rw [hNr0_9]; omega) | omega | (simp only [*]; omega))
 refine zS <| Qe rfl rfl <| Qa rfl <| JL.nil ?_
 refine zi (fun h115 h115' => ?_) fun h115 h115' => ?_
 ·
  refine Js.fact (fun w hw => elem_in cBookEntry (m := 2) (k := X27KX.toNat) (xs := acc) (fun _ => rfl) (Mem.ownC (i := 4) rfl w hw) (by omega)) (fun hl116 => ?_)
  refine Js.ex3 (fun w hw => St.elemS cBookEntry (m := 2) (i := 4) (xs := acc) (fun _ => rfl) rfl hy29 he29 hw) (fun f116_1 f116_2 f116_3 => ?_)
  refine Js.unp 0 ?_
  refine zn ?_
  refine Js.fact (row_some (i := 1) rfl len_) (fun hf117 => ?_)
  obtain ⟨b117, rfl⟩ := hf117
  refine Js.fact (row_some (i := 0) rfl len_) (fun hf118 => ?_)
  obtain ⟨b118, rfl⟩ := hf118
  refine zk [2, 3, 4, 5] (fun F U l os u => ∃ (G121 : List Nat) (b119 : Nat) (X121KX X121AT X121SD : Int), l = F [] ∧ os = [anyO G121, rowO 2 1 (.slice (some ⟨b119, 0, none⟩) 3 3) 3 [.int .i64 (-1), .int .i64 0, .int .i64 97] []] ++ U [nO, some (rowO 2 1 (.slice (some ⟨b117, 0, none⟩) (((M.ent acc X27KX.toNat).pits).length) c29_0) (((M.ent acc X27KX.toNat).pits).length) (ints_ (((M.ent acc X27KX.toNat).pits).set 0 X121KX)) []), nO, nO, some (boxO bs [.slice As_0 s_code cs_0, .int .i64 X121AT, .int .u64 X121SD] 189)] ∧ (X121KX ∈ [(-1), 0, 97]) ∧ (X31AT ≤ X121AT) ∧ (X121AT ≤ X31AT + 2)) ?_ ?_
  ·
   refine zdr [6, 8] ?_
   refine jM 0 rfl rfl ?_
   refine jN 1 rfl rfl ?_
   refine jF 2 fld_89_0 rfl rfl ?_
   refine jM 4 rfl rfl ?_
   refine y2 3 5 ?_ ?_
   ·
    refine JHo.q rfl (q_load1 ty_27.h rfl (fun w hw => (Mem.rowR' (i := 7) rfl he29 w hw) 0 _ rfl)) ?_
    refine y1 5 ?_
    refine ybs rfl fun b130 => ?_
    refine y1 6 ?_
    refine zhh [5] ?_
    refine yBB 1 sp_ rfl rfl (fun w hb _ hw => c_spec_l00Src_among s_code X31AT X31SD [(-1), 0, 97] hb (ok_ hw) (ints_rowok (xs := [(-1), 0, 97]) (hw.pr (i := 0) rfl)) (r3 := (by simp)) (r4 := (by simp))) ?_
    rintro _ _ G132 ⟨X132KX, X132AT, X132SD, rfl, rfl, hX132_0, hX132_1, hX132_2⟩
    refine znh ?_
    refine jI 7 el_27 rfl rfl rfl rfl ?_
    refine y1 8 ?_
    refine JHo.s rfl (e_storeRow (i := 4) (xs' := ints_ (((M.ent acc X27KX.toNat).pits).set 0 X132KX)) ty_2.h rfl rfl rfl rfl rfl rfl (ints_lt (i := 0) (by omega)) (ints_setL (i := 0) (by omega))) (.inr rfl) ?_
    rintro _ _ _ ⟨rfl, rfl⟩ _
    refine znh ?_
    refine yd ?_
    refine zh [1, 1, 1, 1, 1, 1, 0, 0, 0, 0, 0, 0, 0, 0, 0] ?_
    exact zm ⟨_, _, _, _, _, rfl, rfl, zt, zt, zt⟩ (Up.refl _ _) ⟨rfl, rfl, rfl, rfl, trivial⟩
   refine ybs rfl fun b134 => ?_
   refine y2 3 6 ?_ ?_
   ·
    refine JHo.q rfl (q_load1 ty_27.h rfl (fun w hw => (Mem.rowR' (i := 8) rfl he29 w hw) 0 _ rfl)) ?_
    refine y1 6 ?_
    refine zhh [5] ?_
    refine yBB 1 sp_ rfl rfl (fun w hb _ hw => c_spec_l00Src_among s_code X31AT X31SD [(-1), 0, 97] hb (ok_ hw) (ints_rowok (xs := [(-1), 0, 97]) (hw.pr (i := 0) rfl)) (r3 := (by simp)) (r4 := (by simp))) ?_
    rintro _ _ G136 ⟨X136KX, X136AT, X136SD, rfl, rfl, hX136_0, hX136_1, hX136_2⟩
    refine znh ?_
    refine jI 7 el_27 rfl rfl rfl rfl ?_
    refine y1 8 ?_
    refine JHo.s rfl (e_storeRow (i := 4) (xs' := ints_ (((M.ent acc X27KX.toNat).pits).set 0 X136KX)) ty_2.h rfl rfl rfl rfl rfl rfl (ints_lt (i := 0) (by omega)) (ints_setL (i := 0) (by omega))) (.inr rfl) ?_
    rintro _ _ _ ⟨rfl, rfl⟩ _
    refine znh ?_
    refine yd ?_
    refine zh [1, 1, 1, 1, 1, 1, 0, 0, 0, 0, 0, 0, 0, 0, 0] ?_
    exact zm ⟨_, _, _, _, _, rfl, rfl, zt, zt, zt⟩ (Up.refl _ _) ⟨rfl, rfl, rfl, rfl, trivial⟩
   refine zhh [5] ?_
   refine yBB 1 sp_ rfl rfl (fun w hb _ hw => c_spec_l00Src_among s_code X31AT X31SD [(-1), 0, 97] hb (ok_ hw) (ints_rowok (xs := [(-1), 0, 97]) (hw.pr (i := 0) rfl)) (r3 := (by simp)) (r4 := (by simp))) ?_
   rintro _ _ G138 ⟨X138KX, X138AT, X138SD, rfl, rfl, hX138_0, hX138_1, hX138_2⟩
   refine znh ?_
   refine y1 3 ?_
   refine JHo.q rfl (q_load1 ty_27.h rfl (fun w hw => (Mem.rowR' (i := 9) rfl he29 w hw) 0 _ rfl)) ?_
   refine jI 7 el_27 rfl rfl rfl rfl ?_
   refine y1 8 ?_
   refine JHo.s rfl (e_storeRow (i := 4) (xs' := ints_ (((M.ent acc X27KX.toNat).pits).set 0 X138KX)) ty_2.h rfl rfl rfl rfl rfl rfl (ints_lt (i := 0) (by omega)) (ints_setL (i := 0) (by omega))) (.inr rfl) ?_
   rintro _ _ _ ⟨rfl, rfl⟩ _
   refine znh ?_
   refine yd ?_
   refine zh [1, 1, 1, 1, 1, 1, 0, 0, 0, 0, 0, 0, 0, 0, 0] ?_
   exact zm ⟨_, _, _, _, _, rfl, rfl, zt, zt, zt⟩ (Up.refl _ _) ⟨rfl, rfl, rfl, rfl, trivial⟩
  rintro _ _ u129 ⟨G121, b119, X121KX, X121AT, X121SD, rfl, rfl, f129_0, f129_1, f129_2⟩ x129
  refine zn ?_
  refine zf [2, 2, 2, 2, 2, 2, 2, 2, 2, 2, 2, 2] fun GG140 => ?_
  refine zn ?_
  refine Js.blockEnd <| Js.seq ?_
  refine zk [2, 3] (fun F U l os u => l = F [] ∧ os = U [nO, nO, nO, nO, nO, nO, nO, nO, nO, nO, some (boxO b2 [.slice A9_5_0 pp.pits.length c9_5_0, .slice A9_5_1 pp.stores.length c9_5_1, .int .i64 pp.player] 39), some (boxO b1 [.int .i64 rr.pits, .int .i64 rr.seeds, .bool rr.stores, .bool rr.skip, .bool rr.relay, .bool rr.feed, .bool rr.again, .int .i64 rr.capture, .int .i64 rr.slam, .slice (some ⟨b30, 0, none⟩) acc.length c9_4_9] 37)]) ?_ ?_
  ·
   refine zdr [2, 3] ?_
   refine JH.q 0 rfl (L9 6 rfl rfl) ?_
   refine y2 1 2 ?_ ?_
   ·
    refine JHo.q rfl (L9 5 rfl rfl) ?_
    refine y1 2 ?_
    refine yst rfl rfl rfl ?_
    refine y1 3 ?_
    refine yst rfl rfl rfl ?_
    refine yd ?_
    exact zm ⟨rfl, rfl⟩ (Up.refl _ _)
   refine yst rfl rfl rfl ?_
   refine y1 1 ?_
   refine JHo.q rfl (L9 5 rfl rfl) ?_
   refine y1 3 ?_
   refine yst rfl rfl rfl ?_
   refine yd ?_
   exact zm ⟨rfl, rfl⟩ (Up.refl _ _)
  rintro _ _ u141 ⟨rfl, rfl⟩ x141
  refine zn ?_
  refine zf [0, 0, 0, 0, 0, 2, 2, 2, 2, 2] fun GG142 => ?_
  refine zn ?_
  refine Js.pk (cBookEntry (M.Ent.mk (((M.ent acc X27KX.toNat).pits).set 0 X121KX) ((M.ent acc X27KX.toNat).choices))) [.slice (some ⟨b117, 0, none⟩) (((M.ent acc X27KX.toNat).pits).length) c29_0, .slice (some ⟨b118, 0, none⟩) (((M.ent acc X27KX.toNat).choices).length) c29_1] (fun f144 G144 => ?_) (by exact (gv_agg (gvc gv_ (gvc (gv_flat lChoice (xs := ((M.ent acc X27KX.toNat).choices)) po_ (by first | rfl | (simp [fltV]; done)) (by first | with_reducible rfl | assumption | rfl)) gvn))))
  refine Js.front (i := 2) rfl ?_
  refine zn ?_
  refine Js.front (i := 1) rfl ?_
  refine zn ?_
  refine Js.front (i := 3) rfl ?_
  refine zn ?_
  refine Js.conv (fun w hw => St.closeE cBookEntry (k := X27KX.toNat) (m := 2) (xs := acc) (y := (M.Ent.mk (((M.ent acc X27KX.toNat).pits).set 0 X121KX) ((M.ent acc X27KX.toNat).choices))) (vs := vs9_4_9) (vs' := vs9_4_9) (by omega) rfl (setL_same he29 rfl) hw) ?_
  refine zn ?_
  refine zrb [2, 2, 0, 1, 1] hb ((x9.trans x129).trans x141) ?_
  have hNr0_9 : (acc.set X27KX.toNat (M.Ent.mk (((M.ent acc X27KX.toNat).pits).set 0 X121KX) ((M.ent acc X27KX.toNat).choices))).length = acc.length := by first | rfl | assumption | omega | (simp only [List.length_set, M.setI_length]; done) | (simp only [List.length_set, M.setI_length]; first | rfl | assumption | omega) | (simp only [List.length_drop]; first | done | rfl | omega) | (simp; done) | (simp; omega)
  refine ⟨((M.Boo.mk rr (acc.set X27KX.toNat (M.Ent.mk (((M.ent acc X27KX.toNat).pits).set 0 X121KX) ((M.ent acc X27KX.toNat).choices))))), (pp), (X121AT), (X121SD), (some ⟨b30, 0, none⟩), c9_4_9, g9_4_9, vs9_4_9, (f116_3 ++ f144 ++ f116_2), A9_5_0, c9_5_0, g9_5_0, A9_5_1, c9_5_1, g9_5_1, (show (.tuple #[.agg #[.int .i64 rr.pits, .int .i64 rr.seeds, .bool rr.stores, .bool rr.skip, .bool rr.relay, .bool rr.feed, .bool rr.again, .int .i64 rr.capture, .int .i64 rr.slam, .slice (some ⟨b30, 0, none⟩) acc.length c9_4_9], .agg #[.slice A9_5_0 pp.pits.length c9_5_0, .slice A9_5_1 pp.stores.length c9_5_1, .int .i64 pp.player]] : Value) = .tuple #[.agg #[.int .i64 rr.pits, .int .i64 rr.seeds, .bool rr.stores, .bool rr.skip, .bool rr.relay, .bool rr.feed, .bool rr.again, .int .i64 rr.capture, .int .i64 rr.slam, .slice (some ⟨b30, 0, none⟩) (acc.set X27KX.toNat (M.Ent.mk (((M.ent acc X27KX.toNat).pits).set 0 X121KX) ((M.ent acc X27KX.toNat).choices))).length c9_4_9], .agg #[.slice A9_5_0 pp.pits.length c9_5_0, .slice A9_5_1 pp.stores.length c9_5_1, .int .i64 pp.player]] by rw [hNr0_9]), ?_, ?_, ?_, ?_, ?_, ?_, ?_, by first | exact M.xb_ hB | trivial | assumption | omega, by first | exact M.xb_ hB | trivial | assumption | omega, by first | exact M.xb_ hB | trivial | assumption | omega, by first | exact M.xb_ hB | trivial | assumption | omega⟩
  · exact r5_ hNr0_9
  all_goals (try dsimp only)
  all_goals (first | (rw [hNr0_9]; omega) | omega | (simp only [*]; omega))
 refine zS <| Qe rfl rfl <| Qa rfl <| JL.nil ?_
 refine zi (fun h145 h145' => ?_) fun h145 h145' => ?_
 ·
  refine Js.fact (fun w hw => elem_in cBookEntry (m := 2) (k := X27KX.toNat) (xs := acc) (fun _ => rfl) (Mem.ownC (i := 4) rfl w hw) (by omega)) (fun hl146 => ?_)
  refine Js.ex3 (fun w hw => St.elemS cBookEntry (m := 2) (i := 4) (xs := acc) (fun _ => rfl) rfl hy29 he29 hw) (fun f146_1 f146_2 f146_3 => ?_)
  refine Js.unp 0 ?_
  refine zn ?_
  refine Js.fact (row_some (i := 1) rfl len_) (fun hf147 => ?_)
  obtain ⟨b147, rfl⟩ := hf147
  refine Js.fact (row_some (i := 0) rfl len_) (fun hf148 => ?_)
  obtain ⟨b148, rfl⟩ := hf148
  refine Js.region <| Qm rfl <| Qc rfl <| Qf fh rfl ?_
  refine JL.s (e_storeRow (i := 7) (xs' := setL vs9_4_9 (0 + X27KX.toNat * 2) [.slice (some ⟨b147, 0, none⟩) (((M.ent acc X27KX.toNat).pits).length) c29_0, .slice none 0 0]) ty_67.h rfl rfl rfl rfl rfl rfl (by omega) (setL_at (j := 1) he29 (by decide) hl146 rfl)) ?_
  rintro _ _ _ ⟨rfl, rfl⟩ _
  refine znl ?_
  refine JL.nil <| Js.blockEnd <| Js.seq ?_
  refine zk [2, 3] (fun F U l os u => l = F [] ∧ os = U [nO, nO, nO, nO, nO, nO, nO, nO, nO, nO, some (boxO b2 [.slice A9_5_0 pp.pits.length c9_5_0, .slice A9_5_1 pp.stores.length c9_5_1, .int .i64 pp.player] 39), some (boxO b1 [.int .i64 rr.pits, .int .i64 rr.seeds, .bool rr.stores, .bool rr.skip, .bool rr.relay, .bool rr.feed, .bool rr.again, .int .i64 rr.capture, .int .i64 rr.slam, .slice (some ⟨b30, 0, none⟩) acc.length c9_4_9] 37)]) ?_ ?_
  ·
   refine zdr [2, 3] ?_
   refine JH.q 0 rfl (L9 6 rfl rfl) ?_
   refine y2 1 2 ?_ ?_
   ·
    refine JHo.q rfl (L9 5 rfl rfl) ?_
    refine y1 2 ?_
    refine yst rfl rfl rfl ?_
    refine y1 3 ?_
    refine yst rfl rfl rfl ?_
    refine yd ?_
    exact zm ⟨rfl, rfl⟩ (Up.refl _ _)
   refine yst rfl rfl rfl ?_
   refine y1 1 ?_
   refine JHo.q rfl (L9 5 rfl rfl) ?_
   refine y1 3 ?_
   refine yst rfl rfl rfl ?_
   refine yd ?_
   exact zm ⟨rfl, rfl⟩ (Up.refl _ _)
  rintro _ _ u149 ⟨rfl, rfl⟩ x149
  refine zn ?_
  refine zf [0, 0, 0, 0, 0, 2, 2, 2, 2, 2] fun GG150 => ?_
  refine zn ?_
  refine Js.pk (cBookEntry (M.Ent.mk ((M.ent acc X27KX.toNat).pits) [])) [.slice (some ⟨b147, 0, none⟩) (((M.ent acc X27KX.toNat).pits).length) c29_0, .slice none 0 0] (fun f152 G152 => ?_)
  refine Js.front (i := 3) rfl ?_
  refine zn ?_
  refine Js.front (i := 1) rfl ?_
  refine zn ?_
  refine Js.front (i := 4) rfl ?_
  refine zn ?_
  refine Js.conv (fun w hw => St.closeE cBookEntry (k := X27KX.toNat) (m := 2) (xs := acc) (y := (M.Ent.mk ((M.ent acc X27KX.toNat).pits) [])) (vs := vs9_4_9) (vs' := (setL vs9_4_9 (0 + X27KX.toNat * 2) [.slice (some ⟨b147, 0, none⟩) (((M.ent acc X27KX.toNat).pits).length) c29_0, .slice none 0 0])) (by omega) rfl rfl hw) ?_
  refine zn ?_
  refine zrb [3, 3, 0, 2, 2] hb (x9.trans x149) ?_
  have hNr0_9 : (acc.set X27KX.toNat (M.Ent.mk ((M.ent acc X27KX.toNat).pits) [])).length = acc.length := by first | rfl | assumption | omega | (simp only [List.length_set, M.setI_length]; done) | (simp only [List.length_set, M.setI_length]; first | rfl | assumption | omega) | (simp only [List.length_drop]; first | done | rfl | omega) | (simp; done) | (simp; omega)
  refine ⟨((M.Boo.mk rr (acc.set X27KX.toNat (M.Ent.mk ((M.ent acc X27KX.toNat).pits) [])))), (pp), (X31AT), (X31SD), (some ⟨b30, 0, none⟩), c9_4_9, g9_4_9, (setL vs9_4_9 (0 + X27KX.toNat * 2) [.slice (some ⟨b147, 0, none⟩) (((M.ent acc X27KX.toNat).pits).length) c29_0, .slice none 0 0]), (f146_3 ++ f152 ++ f146_2), A9_5_0, c9_5_0, g9_5_0, A9_5_1, c9_5_1, g9_5_1, (show (.tuple #[.agg #[.int .i64 rr.pits, .int .i64 rr.seeds, .bool rr.stores, .bool rr.skip, .bool rr.relay, .bool rr.feed, .bool rr.again, .int .i64 rr.capture, .int .i64 rr.slam, .slice (some ⟨b30, 0, none⟩) acc.length c9_4_9], .agg #[.slice A9_5_0 pp.pits.length c9_5_0, .slice A9_5_1 pp.stores.length c9_5_1, .int .i64 pp.player]] : Value) = .tuple #[.agg #[.int .i64 rr.pits, .int .i64 rr.seeds, .bool rr.stores, .bool rr.skip, .bool rr.relay, .bool rr.feed, .bool rr.again, .int .i64 rr.capture, .int .i64 rr.slam, .slice (some ⟨b30, 0, none⟩) (acc.set X27KX.toNat (M.Ent.mk ((M.ent acc X27KX.toNat).pits) [])).length c9_4_9], .agg #[.slice A9_5_0 pp.pits.length c9_5_0, .slice A9_5_1 pp.stores.length c9_5_1, .int .i64 pp.player]] by rw [hNr0_9]), ?_, ?_, ?_, ?_, ?_, ?_, ?_, by first | exact M.xb_ hB | trivial | assumption | omega, by first | exact M.xb_ hB | trivial | assumption | omega, by first | exact M.xb_ hB | trivial | assumption | omega, by first | exact M.xb_ hB | trivial | assumption | omega⟩
  · exact r5_ hNr0_9
  all_goals (try dsimp only)
  all_goals (first | (rw [hNr0_9]; omega) | omega | (simp only [*]; omega))
 refine zS <| Qe rfl rfl <| Qa rfl <| JL.nil ?_
 refine zi (fun h153 h153' => ?_) fun h153 h153' => ?_
 ·
  refine zdr [5, 7] ?_
  refine jF 0 fld_37_1 rfl rfl ?_
  refine jB 1 2 ty_35 rfl rfl rfl rfl ?_
  refine jM 2 rfl rfl ?_
  refine y1 3 ?_
  refine yc rfl rfl (fun w hw => c_spec_l20Own (M.ent acc X27KX.toNat) ⟨_, _, [.slice A29_0 (((M.ent acc X27KX.toNat).pits).length) c29_0, .slice A29_1 (((M.ent acc X27KX.toNat).choices).length) c29_1], rfl, ⟨(elemOk cBookEntry (m := 2) (k := X27KX.toNat) (xs := acc) (fun _ => rfl) (Mem.ownC (i := 4) rfl w hw) hy29 he29).1, (elemOk cBookEntry (m := 2) (k := X27KX.toNat) (xs := acc) (fun _ => rfl) (Mem.ownC (i := 4) rfl w hw) hy29 he29).2.1, trivial⟩, (Mem.rowR' (i := 3) rfl he29 w hw)⟩) ?_
  intro A155 c155 bl155 bh155 A156 c156 bl156 bh156
  refine y1 4 ?_
  refine ybs rfl fun b157 => ?_
  refine y1 5 ?_
  refine JHo.e rfl (e_append (i := 6) (n' := (acc ++ [(M.ent acc X27KX.toNat)]).length) (vs' := vs9_4_9 ++ [.slice A155 (((M.ent acc X27KX.toNat).pits).length) c155, .slice A156 (((M.ent acc X27KX.toNat).choices).length) c156]) el_35 rfl rfl rfl rfl (src_row (i := 0) und_35 rfl rfl) (by omega) (by omega) ln2_ (rfl)) (.inr rfl) ?_
  rintro v159 _ _ ⟨⟨g160, rfl⟩, rfl⟩ _
  refine JH.fact (row_form' (i := 6) rfl) (fun hf161 => ?_)
  obtain ⟨A161, c161, rfl, bl161, bh161⟩ := hf161
  refine znh ?_
  refine jF 6 fld_37_1 rfl rfl ?_
  refine y1 7 ?_
  refine yst rfl rfl rfl ?_
  refine yd ?_
  refine Js.pk (cBookEntry (M.ent acc X27KX.toNat)) [.slice A155 (((M.ent acc X27KX.toNat).pits).length) c155, .slice A156 (((M.ent acc X27KX.toNat).choices).length) c156] (fun f163 G163 => ?_) (by exact (gv_agg (gvc gv_ (gvc (gv_flat lChoice (xs := ((M.ent acc X27KX.toNat).choices)) po_ (by first | rfl | (simp [fltV]; done)) (by first | with_reducible rfl | assumption | rfl)) gvn))))
  refine zn ?_
  refine Js.joinL (i := 7) (j := 0) (Vs := lBookEntry (acc ++ [(M.ent acc X27KX.toNat)])) rfl rfl (lBookEntry_snoc _ _) (fun f164 => ?_)
  refine zn ?_
  refine zf [0, 2, 2, 2, 2, 2, 2, 2, 2] fun GG165 => ?_
  refine zn ?_
  refine Js.blockEnd <| Js.seq ?_
  refine zk [2, 3] (fun F U l os u => l = F [] ∧ os = U [nO, nO, nO, nO, nO, nO, nO, some (boxO b2 [.slice A9_5_0 pp.pits.length c9_5_0, .slice A9_5_1 pp.stores.length c9_5_1, .int .i64 pp.player] 39), some (boxO b1 [.int .i64 rr.pits, .int .i64 rr.seeds, .bool rr.stores, .bool rr.skip, .bool rr.relay, .bool rr.feed, .bool rr.again, .int .i64 rr.capture, .int .i64 rr.slam, .slice A161 ((acc ++ [(M.ent acc X27KX.toNat)]).length) c161] 37)]) ?_ ?_
  ·
   refine zdr [2, 3] ?_
   refine JH.q 0 rfl (L9 3 rfl rfl) ?_
   refine y2 1 2 ?_ ?_
   ·
    refine JHo.q rfl (L9 2 rfl rfl) ?_
    refine y1 2 ?_
    refine yst rfl rfl rfl ?_
    refine y1 3 ?_
    refine yst rfl rfl rfl ?_
    refine yd ?_
    exact zm ⟨rfl, rfl⟩ (Up.refl _ _)
   refine yst rfl rfl rfl ?_
   refine y1 1 ?_
   refine JHo.q rfl (L9 2 rfl rfl) ?_
   refine y1 3 ?_
   refine yst rfl rfl rfl ?_
   refine yd ?_
   exact zm ⟨rfl, rfl⟩ (Up.refl _ _)
  rintro _ _ u166 ⟨rfl, rfl⟩ x166
  refine zn ?_
  refine zf [0, 0, 2, 2, 2, 2, 2] fun GG167 => ?_
  refine zn ?_
  refine zrb [1, 1, 0, 0, 0] hb (x9.trans x166) ?_
  refine ⟨((M.Boo.mk rr (acc ++ [(M.ent acc X27KX.toNat)]))), (pp), (X31AT), (X31SD), A161, c161, g160, (vs9_4_9 ++ [.slice A155 (((M.ent acc X27KX.toNat).pits).length) c155, .slice A156 (((M.ent acc X27KX.toNat).choices).length) c156]), f164, A9_5_0, c9_5_0, g9_5_0, A9_5_1, c9_5_1, g9_5_1, rfl, ?_, ?_, ?_, ?_, ?_, ?_, ?_, by first | exact M.xb_ hB | trivial | assumption | omega, by first | exact M.xb_ hB | trivial | assumption | omega, by first | exact M.xb_ hB | trivial | assumption | omega, by first | exact M.xb_ hB | trivial | assumption | omega⟩
  · rfl
  all_goals (try dsimp only)
  all_goals (first | (omega) | omega | (simp only [*]; omega))
 refine Js.skip <| Js.blockEnd <| Js.seq ?_
 refine zk [2, 3] (fun F U l os u => l = F [] ∧ os = U [nO, nO, nO, nO, nO, nO, nO, some (boxO b2 [.slice A9_5_0 pp.pits.length c9_5_0, .slice A9_5_1 pp.stores.length c9_5_1, .int .i64 pp.player] 39), some (boxO b1 [.int .i64 rr.pits, .int .i64 rr.seeds, .bool rr.stores, .bool rr.skip, .bool rr.relay, .bool rr.feed, .bool rr.again, .int .i64 rr.capture, .int .i64 rr.slam, .slice (some ⟨b30, 0, none⟩) acc.length c9_4_9] 37)]) ?_ ?_
 ·
  refine zdr [2, 3] ?_
  refine JH.q 0 rfl (L9 2 rfl rfl) ?_
  refine y2 1 2 ?_ ?_
  ·
   refine JHo.q rfl (L9 1 rfl rfl) ?_
   refine y1 2 ?_
   refine yst rfl rfl rfl ?_
   refine y1 3 ?_
   refine yst rfl rfl rfl ?_
   refine yd ?_
   exact zm ⟨rfl, rfl⟩ (Up.refl _ _)
  refine yst rfl rfl rfl ?_
  refine y1 1 ?_
  refine JHo.q rfl (L9 1 rfl rfl) ?_
  refine y1 3 ?_
  refine yst rfl rfl rfl ?_
  refine yd ?_
  exact zm ⟨rfl, rfl⟩ (Up.refl _ _)
 rintro _ _ u168 ⟨rfl, rfl⟩ x168
 refine zn ?_
 refine zf [0, 2, 2, 2, 2, 2, 2] fun GG169 => ?_
 refine zn ?_
 refine zrb [0, 0, 0, 0, 0] hb (x9.trans x168) ?_
 refine ⟨((M.Boo.mk rr acc)), (pp), (X31AT), (X31SD), (some ⟨b30, 0, none⟩), c9_4_9, g9_4_9, vs9_4_9, fl9_4_9, A9_5_0, c9_5_0, g9_5_0, A9_5_1, c9_5_1, g9_5_1, rfl, ?_, ?_, ?_, ?_, ?_, ?_, ?_, by first | exact M.xb_ hB | trivial | assumption | omega, by first | exact M.xb_ hB | trivial | assumption | omega, by first | exact M.xb_ hB | trivial | assumption | omega, by first | exact M.xb_ hB | trivial | assumption | omega⟩
 · rfl
 all_goals (try dsimp only)
 all_goals (first | (omega) | omega | (simp only [*]; omega))
theorem c_spec_DrawAddGame (code : Nat) {v_code : Value} {w : World} (h_code : (Ty.bytes 5 code).ok w v_code) (r0 : code ≤ 1048576 := by exact om_) : Ret Tryz.prog 46 [v_code] w (Ty.tup [Ty.ex (fun (BX : M.Boo) => (BX.entries.length + M.totE BX.entries ≤ 1000000)) (fun BX => Ty.agg (cBook BX)), Ty.ex (fun (GX : M.Gam) => (GX.start.pits.length ≤ 4194304 ∧ GX.start.stores.length ≤ 4194304 ∧ GX.moves.length ≤ 4194304 ∧ GX.now.pits.length ≤ 4194304 ∧ GX.now.stores.length ≤ 4194304)) (fun GX => Ty.agg (cGame GX))]) := by
 revert v_code; apply opn
 intro A1 c1 h1 bl1 bh1
 have h_code := h1
 refine enter @Tryz.func46 @Tryz.ntmps46 rfl rfl ?_
 refine zent ?_
 refine zS <| za zeh fun b2 => za zeh fun b3 => zN <| Qm rfl <| zcs rfl (fun w hw => c_spec_l00From code (ok_ hw)) ?_
 intro b4
 refine Qa rfl <| zN <| Qm rfl <| zB 1 sp_ rfl (fun w hb hw => c_spec_l20Bent code 0 0 hb (ok_ hw)) ?_
 rintro _ _ G5 ⟨X5BX, X5PX, X5AT, X5SD, A5ra_9, c5ra_9, g5ra_9, vs5ra_9, f5ra_9, A5rb_0, c5rb_0, g5rb_0, A5rb_1, c5rb_1, g5rb_1, rfl, rfl, bl5_0, bl5_1, bl5_2, bl5_3, bl5_4, bl5_5, hX5_0, hX5_1, hX5_2, hX5_3⟩
 refine znl ?_
 refine Qm rfl <| Qx rfl rfl <| Qx rfl rfl <| za zeh fun b6 => za zeh fun b7 => zw 1 rfl rfl rfl ?_
 refine zw 0 rfl rfl rfl ?_
 refine zJ <| zS <| Qm rfl ?_
 refine zhl [2] ?_
 refine zB 1 sp_ rfl (fun w hb hw => c_spec_l00Src_one code X5AT X5SD 6 hb (ok_ hw)) ?_
 rintro _ _ G8 ⟨X8BX, X8AT, X8SD, rfl, rfl, hX8_0, hX8_1⟩
 refine znl ?_
 refine Qm rfl <| zg (Gd.f1 rfl rfl rfl) (fun hc => p_fieldAddr fld_37_0.h rfl) <| zgv (Gd.f1 rfl rfl rfl) (fun hc => (opds_2 (gh hc rfl) rfl)) (fun hc => (fun w hw => c_spec_l04Ok X5BX.rules X5PX ⟨_, _, [.int .i64 X5BX.rules.pits, .int .i64 X5BX.rules.seeds, .bool X5BX.rules.stores, .bool X5BX.rules.skip, .bool X5BX.rules.relay, .bool X5BX.rules.feed, .bool X5BX.rules.again, .int .i64 X5BX.rules.capture, .int .i64 X5BX.rules.slam], rfl, ⟨rfl, rfl, rfl, rfl, rfl, rfl, rfl, rfl, rfl, trivial⟩, Mem.boxR (i := 3) rfl 0 9 _ hw⟩ (ok_ hw) (r0 := (by have hc9 := hc; (try simp only [Bool.not_eq_true'] at hc9); omega)) (r1 := (by have hc9 := hc; (try simp only [Bool.not_eq_true'] at hc9); omega)))) ?_
 refine zg (Gd.f1 rfl rfl rfl) (fun hc => p_not (gh hc rfl)) <| Qq (p_pickOr rfl rfl rfl) <| JL.nil ?_
 refine zi (fun h9 h9' => ?_) fun h9 h9' => ?_
 ·
  refine Js.seq ?_
  refine zk [2, 3] (fun F U l os u => ∃ (A10r_9 : Option Addr) (X10GX : M.Gam) (c10r_9 : Nat) (g10r_9 : List Nat) (A10r_10 : Option Addr) (c10r_10 : Nat) (g10r_10 : List Nat) (A10r_12 : Option Addr) (c10r_12 : Nat) (g10r_12 : List Nat) (A10r_13 : Option Addr) (c10r_13 : Nat) (g10r_13 : List Nat) (A10r_14 : Option Addr) (c10r_14 : Nat) (g10r_14 G10 : List Nat) (X10AT X10SD : Int), l = F [] ∧ os = [rowO 2 1 (.slice A10r_9 X10GX.start.pits.length c10r_9) X10GX.start.pits.length (ints_ X10GX.start.pits) g10r_9, rowO 2 1 (.slice A10r_10 X10GX.start.stores.length c10r_10) X10GX.start.stores.length (ints_ X10GX.start.stores) g10r_10, rowO 2 1 (.slice A10r_12 X10GX.moves.length c10r_12) X10GX.moves.length (ints_ X10GX.moves) g10r_12, rowO 2 1 (.slice A10r_13 X10GX.now.pits.length c10r_13) X10GX.now.pits.length (ints_ X10GX.now.pits) g10r_13, rowO 2 1 (.slice A10r_14 X10GX.now.stores.length c10r_14) X10GX.now.stores.length (ints_ X10GX.now.stores) g10r_14, anyO G10] ++ U [some (boxO b4 [.slice A1 code c1, .int .i64 X10AT, .int .u64 X10SD] 189), nO, nO, nO, nO, nO, nO, nO, nO, some (boxO b3 [.int .i64 X10GX.rules.pits, .int .i64 X10GX.rules.seeds, .bool X10GX.rules.stores, .bool X10GX.rules.skip, .bool X10GX.rules.relay, .bool X10GX.rules.feed, .bool X10GX.rules.again, .int .i64 X10GX.rules.capture, .int .i64 X10GX.rules.slam, .slice A10r_9 X10GX.start.pits.length c10r_9, .slice A10r_10 X10GX.start.stores.length c10r_10, .int .i64 X10GX.start.player, .slice A10r_12 X10GX.moves.length c10r_12, .slice A10r_13 X10GX.now.pits.length c10r_13, .slice A10r_14 X10GX.now.stores.length c10r_14, .int .i64 X10GX.now.player, .int .i64 X10GX.resigned] 56), some (boxO b2 [.int .i64 X5BX.rules.pits, .int .i64 X5BX.rules.seeds, .bool X5BX.rules.stores, .bool X5BX.rules.skip, .bool X5BX.rules.relay, .bool X5BX.rules.feed, .bool X5BX.rules.again, .int .i64 X5BX.rules.capture, .int .i64 X5BX.rules.slam, .slice A5ra_9 X5BX.entries.length c5ra_9] 37)] ∧ (X10GX.start.pits.length ≤ c10r_9) ∧ (c10r_9 ≤ 9223372036854775807) ∧ (X10GX.start.stores.length ≤ c10r_10) ∧ (c10r_10 ≤ 9223372036854775807) ∧ (X10GX.moves.length ≤ c10r_12) ∧ (c10r_12 ≤ 9223372036854775807) ∧ (X10GX.now.pits.length ≤ c10r_13) ∧ (c10r_13 ≤ 9223372036854775807) ∧ (X10GX.now.stores.length ≤ c10r_14) ∧ (c10r_14 ≤ 9223372036854775807) ∧ (X10GX.start.pits.length ≤ 4194304 ∧ X10GX.start.stores.length ≤ 4194304 ∧ X10GX.moves.length ≤ 122 ∧ X10GX.now.pits.length ≤ 4194304 ∧ X10GX.now.stores.length = 2) ∧ (X8AT ≤ X10AT) ∧ (X10AT ≤ X8AT + 2000)) ?_ ?_
  ·
   refine zdr [2, 3, 4] ?_
   refine jM 1 rfl rfl ?_
   refine y2 0 2 ?_ ?_
   ·
    refine JHo.q rfl (L9 3 rfl rfl) ?_
    refine y1 2 ?_
    refine yB 1 sp_ rfl rfl (fun w hb hw => c_spec_l08Bent code X8AT X8SD hb (ok_ hw)) ?_
    rintro _ _ G13 ⟨X13GX, X13AT, X13SD, A13r_9, c13r_9, g13r_9, A13r_10, c13r_10, g13r_10, A13r_12, c13r_12, g13r_12, A13r_13, c13r_13, g13r_13, A13r_14, c13r_14, g13r_14, rfl, rfl, bl13_0, bl13_1, bl13_2, bl13_3, bl13_4, bl13_5, bl13_6, bl13_7, bl13_8, bl13_9, hX13_0, hX13_1, hX13_2⟩
    refine znh ?_
    refine y1 3 ?_
    refine yst rfl rfl rfl ?_
    refine y1 4 ?_
    refine yst rfl rfl rfl ?_
    refine yd ?_
    refine zh [1, 1, 1, 1, 1, 1, 0, 0, 0, 0, 0, 0, 0, 0, 0, 0, 0] ?_
    exact zm ⟨_, _, _, _, _, _, _, _, _, _, _, _, _, _, _, _, _, _, _, rfl, rfl, zt, zt, zt, zt, zt, zt, zt, zt, zt, zt, zt, zt, zt⟩ (Up.refl _ _) ⟨rfl, rfl, trivial⟩
   refine yB 1 sp_ rfl rfl (fun w hb hw => c_spec_l08Bent code X8AT X8SD hb (ok_ hw)) ?_
   rintro _ _ G14 ⟨X14GX, X14AT, X14SD, A14r_9, c14r_9, g14r_9, A14r_10, c14r_10, g14r_10, A14r_12, c14r_12, g14r_12, A14r_13, c14r_13, g14r_13, A14r_14, c14r_14, g14r_14, rfl, rfl, bl14_0, bl14_1, bl14_2, bl14_3, bl14_4, bl14_5, bl14_6, bl14_7, bl14_8, bl14_9, hX14_0, hX14_1, hX14_2⟩
   refine znh ?_
   refine y1 0 ?_
   refine JHo.q rfl (L9 9 rfl rfl) ?_
   refine y1 3 ?_
   refine yst rfl rfl rfl ?_
   refine y1 4 ?_
   refine yst rfl rfl rfl ?_
   refine yd ?_
   refine zh [1, 1, 1, 1, 1, 1, 0, 0, 0, 0, 0, 0, 0, 0, 0, 0, 0] ?_
   exact zm ⟨_, _, _, _, _, _, _, _, _, _, _, _, _, _, _, _, _, _, _, rfl, rfl, zt, zt, zt, zt, zt, zt, zt, zt, zt, zt, zt, zt, zt⟩ (Up.refl _ _) ⟨rfl, rfl, trivial⟩
  rintro _ _ u12 ⟨A10r_9, X10GX, c10r_9, g10r_9, A10r_10, c10r_10, g10r_10, A10r_12, c10r_12, g10r_12, A10r_13, c10r_13, g10r_13, A10r_14, c10r_14, g10r_14, G10, X10AT, X10SD, rfl, rfl, f12_0, f12_1, f12_2, f12_3, f12_4, f12_5, f12_6, f12_7, f12_8, f12_9, f12_10, f12_11, f12_12⟩ x12
  refine zn ?_
  exact zro x12 (g := by exact (gv_tup (gvc (gv_ex X5BX (by first | trivial | assumption | omega | (refine ⟨?_, ?_, ?_, ?_, ?_⟩ <;> dsimp only <;> omega)) gv_) (gvc (gv_ex X10GX (by first | trivial | assumption | omega | (refine ⟨?_, ?_, ?_, ?_, ?_⟩ <;> dsimp only <;> omega)) gv_) gvn))))
 refine Js.skip <| zS <| Qf fh rfl <| zc rfl (fun w hw => c_spec_l08New X5BX.rules X5PX ⟨_, _, [.int .i64 X5BX.rules.pits, .int .i64 X5BX.rules.seeds, .bool X5BX.rules.stores, .bool X5BX.rules.skip, .bool X5BX.rules.relay, .bool X5BX.rules.feed, .bool X5BX.rules.again, .int .i64 X5BX.rules.capture, .int .i64 X5BX.rules.slam], rfl, ⟨rfl, rfl, rfl, rfl, rfl, rfl, rfl, rfl, rfl, trivial⟩, Mem.boxR (i := 3) rfl 0 9 _ hw⟩ (ok_ hw)) ?_
 intro A16 c16 bl16 bh16 A17 c17 bl17 bh17 A18 c18 bl18 bh18 A19 c19 bl19 bh19 A20 c20 bl20 bh20
 refine za zeh fun b21 => zw 0 rfl rfl rfl ?_
 refine zJ <| zS <| Qm rfl ?_
 refine zhl [6] ?_
 refine zB 1 sp_ rfl (fun w hb hw => c_spec_l00Src_pick code X8AT X8SD 40 hb (ok_ hw)) ?_
 rintro _ _ G22 ⟨X22KX, X22AT, X22SD, rfl, rfl, hX22_0, hX22_1, hX22_2, hX22_3⟩
 refine znl ?_
 refine Qa rfl <| JL.nil <| Js.block ?_
 refine zl [2, 3, 4, 5, 7] (fun F U l os u m => ∃ (j at1 sd1 : Int) (gk : M.Gam) (A23_7_9 : Option Addr) (c23_7_9 : Nat) (g23_7_9 : List Nat) (A23_7_10 : Option Addr) (c23_7_10 : Nat) (g23_7_10 : List Nat) (A23_7_12 : Option Addr) (c23_7_12 : Nat) (g23_7_12 : List Nat) (A23_7_13 : Option Addr) (c23_7_13 : Nat) (g23_7_13 : List Nat) (A23_7_14 : Option Addr) (c23_7_14 : Nat) (g23_7_14 : List Nat) (G23_1 : List Nat) (G23_8 : List Nat) (G23_15 : List Nat), l = F [(8, .int .i64 j)] ∧ os = U [some (boxO b4 [.slice A1 code c1, .int .i64 at1, .int .u64 sd1] 189), some (anyO G23_1), some (boxO b21 [.int .i64 gk.rules.pits, .int .i64 gk.rules.seeds, .bool gk.rules.stores, .bool gk.rules.skip, .bool gk.rules.relay, .bool gk.rules.feed, .bool gk.rules.again, .int .i64 gk.rules.capture, .int .i64 gk.rules.slam, .slice A23_7_9 gk.start.pits.length c23_7_9, .slice A23_7_10 gk.start.stores.length c23_7_10, .int .i64 gk.start.player, .slice A23_7_12 gk.moves.length c23_7_12, .slice A23_7_13 gk.now.pits.length c23_7_13, .slice A23_7_14 gk.now.stores.length c23_7_14, .int .i64 gk.now.player, .int .i64 gk.resigned] 56), some (rowO 2 1 (.slice A23_7_14 gk.now.stores.length c23_7_14) gk.now.stores.length (ints_ gk.now.stores) g23_7_14), some (rowO 2 1 (.slice A23_7_13 gk.now.pits.length c23_7_13) gk.now.pits.length (ints_ gk.now.pits) g23_7_13), some (rowO 2 1 (.slice A23_7_12 gk.moves.length c23_7_12) gk.moves.length (ints_ gk.moves) g23_7_12), some (rowO 2 1 (.slice A23_7_10 gk.start.stores.length c23_7_10) gk.start.stores.length (ints_ gk.start.stores) g23_7_10), some (rowO 2 1 (.slice A23_7_9 gk.start.pits.length c23_7_9) gk.start.pits.length (ints_ gk.start.pits) g23_7_9), some (anyO G23_8), nO, nO, nO, nO, nO, nO, some (anyO G23_15)] ∧ (0 ≤ j ∧ j ≤ 40) ∧ (M.Small gk) ∧ (gk.moves.length ≤ 120) ∧ (0 ≤ at1) ∧ (at1 + 8 * j ≤ 100000) ∧ (gk.start.pits.length ≤ c23_7_9) ∧ (c23_7_9 ≤ 9223372036854775807) ∧ (gk.start.stores.length ≤ c23_7_10) ∧ (c23_7_10 ≤ 9223372036854775807) ∧ (gk.moves.length ≤ c23_7_12) ∧ (c23_7_12 ≤ 9223372036854775807) ∧ (gk.now.pits.length ≤ c23_7_13) ∧ (c23_7_13 ≤ 9223372036854775807) ∧ (gk.now.stores.length ≤ c23_7_14) ∧ (c23_7_14 ≤ 9223372036854775807) ∧ m = j.toNat) ⟨X22KX, X22AT, X22SD, (M.Gam.mk X5BX.rules X5PX [] X5PX (-1)), _, _, _, _, _, _, _, _, _, _, _, _, _, _, _, _, _, _, rfl, rfl, zt, by exact ⟨by dsimp only; omega, by dsimp only; omega, by simp, by dsimp only; omega, by dsimp only; omega⟩, by simp, zt, zt, zu, zu, zu, zu, zu, zu, zu, zu, zu, zu, rfl⟩ ?_
 rintro _ _ u23 _ ⟨j, at1, sd1, gk, A23_7_9, c23_7_9, g23_7_9, A23_7_10, c23_7_10, g23_7_10, A23_7_12, c23_7_12, g23_7_12, A23_7_13, c23_7_13, g23_7_13, A23_7_14, c23_7_14, g23_7_14, G23_1, G23_8, G23_15, rfl, rfl, hj, hs, hm, ha0, ha1, f23_5, f23_6, f23_7, f23_8, f23_9, f23_10, f23_11, f23_12, f23_13, f23_14, rfl⟩ x23
 refine zn ?_
 have s1 := hs.sp
 have s2 := hs.ss
 have s3 := hs.m
 have s4 := hs.np
 have s5 := hs.ns
 refine Js.seq <| zS <| Qm rfl <| Qg rfl rfl <| JL.nil ?_
 refine zi (fun h24 h24' => ?_) fun h24 h24' => ?_
 ·
  refine Js.skip <| Js.seq <| Js.block <| zS <| Qm rfl <| zB 1 sp_ rfl (fun w hb hw => c_spec_l08Legal code at1 sd1 gk hb (ok_ hw) (ok_ hw)) ?_
  rintro _ _ G25 ⟨X25KX, X25AT, X25SD, rfl, rfl, hX25_0, hX25_1⟩
  refine znl ?_
  refine Qa rfl <| zJ <| zS <| Qm rfl <| Ql rfl rfl <| JL.nil ?_
  refine zi (fun h26 h26' => ?_) fun h26 h26' => ?_
  ·
   refine zx ?_
   refine Js.seq <| zS <| Qm rfl <| zB 1 sp_ rfl (fun w hb hw => c_spec_l00Src_one code X25AT X25SD 3 hb (ok_ hw)) ?_
   rintro _ _ G27 ⟨X27BX, X27AT, X27SD, rfl, rfl, hX27_0, hX27_1⟩
   refine znl ?_
   refine Qt rfl <| JL.nil ?_
   refine zi (fun h28 h28' => ?_) fun h28 h28' => ?_
   ·
    refine Js.region <| Qm rfl <| zB 1 sp_ rfl (fun w hb hw => c_spec_l00Src_pick code X27AT X27SD 2 hb (ok_ hw)) ?_
    rintro _ _ G29 ⟨X29KX, X29AT, X29SD, rfl, rfl, hX29_0, hX29_1, hX29_2, hX29_3⟩
    refine znl ?_
    refine Qf fh rfl <| zw 5 rfl rfl rfl ?_
    refine zJ ?_
    refine zk [2, 3] (fun F U l os u => l = F [] ∧ os = U [nO, nO, nO, nO, nO, nO, nO, nO, nO, nO, nO, nO, nO, nO, nO, nO, nO, nO, nO, some (boxO b3 [.int .i64 gk.rules.pits, .int .i64 gk.rules.seeds, .bool gk.rules.stores, .bool gk.rules.skip, .bool gk.rules.relay, .bool gk.rules.feed, .bool gk.rules.again, .int .i64 gk.rules.capture, .int .i64 gk.rules.slam, .slice A23_7_9 gk.start.pits.length c23_7_9, .slice A23_7_10 gk.start.stores.length c23_7_10, .int .i64 gk.start.player, .slice A23_7_12 gk.moves.length c23_7_12, .slice A23_7_13 gk.now.pits.length c23_7_13, .slice A23_7_14 gk.now.stores.length c23_7_14, .int .i64 gk.now.player, .int .i64 X29KX] 56), some (boxO b2 [.int .i64 X5BX.rules.pits, .int .i64 X5BX.rules.seeds, .bool X5BX.rules.stores, .bool X5BX.rules.skip, .bool X5BX.rules.relay, .bool X5BX.rules.feed, .bool X5BX.rules.again, .int .i64 X5BX.rules.capture, .int .i64 X5BX.rules.slam, .slice A5ra_9 X5BX.entries.length c5ra_9] 37)]) ?_ ?_
    ·
     refine zdr [2, 3] ?_
     refine JH.q 0 rfl (L9 13 rfl rfl) ?_
     refine y2 1 2 ?_ ?_
     ·
      refine JHo.q rfl (L9 5 rfl rfl) ?_
      refine y1 2 ?_
      refine yst rfl rfl rfl ?_
      refine y1 3 ?_
      refine yst rfl rfl rfl ?_
      refine yd ?_
      exact zm ⟨rfl, rfl⟩ (Up.refl _ _)
     refine yst rfl rfl rfl ?_
     refine y1 1 ?_
     refine JHo.q rfl (L9 5 rfl rfl) ?_
     refine y1 3 ?_
     refine yst rfl rfl rfl ?_
     refine yd ?_
     exact zm ⟨rfl, rfl⟩ (Up.refl _ _)
    rintro _ _ u30 ⟨rfl, rfl⟩ x30
    refine zn ?_
    exact zro (x23.trans x30) (g := by exact (gv_tup (gvc (gv_ex X5BX (by first | trivial | assumption | omega | (refine ⟨?_, ?_, ?_, ?_, ?_⟩ <;> dsimp only <;> omega)) gv_) (gvc (gv_ex (M.Gam.mk gk.rules gk.start gk.moves gk.now X29KX) (by first | trivial | assumption | omega | (refine ⟨?_, ?_, ?_, ?_, ?_⟩ <;> dsimp only <;> omega)) gv_) gvn))))
   refine Js.skip <| Js.seq ?_
   refine zk [2, 3] (fun F U l os u => l = F [] ∧ os = U [nO, nO, nO, nO, nO, nO, nO, nO, nO, nO, nO, nO, nO, nO, nO, nO, nO, nO, some (boxO b3 [.int .i64 gk.rules.pits, .int .i64 gk.rules.seeds, .bool gk.rules.stores, .bool gk.rules.skip, .bool gk.rules.relay, .bool gk.rules.feed, .bool gk.rules.again, .int .i64 gk.rules.capture, .int .i64 gk.rules.slam, .slice A23_7_9 gk.start.pits.length c23_7_9, .slice A23_7_10 gk.start.stores.length c23_7_10, .int .i64 gk.start.player, .slice A23_7_12 gk.moves.length c23_7_12, .slice A23_7_13 gk.now.pits.length c23_7_13, .slice A23_7_14 gk.now.stores.length c23_7_14, .int .i64 gk.now.player, .int .i64 gk.resigned] 56), some (boxO b2 [.int .i64 X5BX.rules.pits, .int .i64 X5BX.rules.seeds, .bool X5BX.rules.stores, .bool X5BX.rules.skip, .bool X5BX.rules.relay, .bool X5BX.rules.feed, .bool X5BX.rules.again, .int .i64 X5BX.rules.capture, .int .i64 X5BX.rules.slam, .slice A5ra_9 X5BX.entries.length c5ra_9] 37)]) ?_ ?_
   ·
    refine zdr [2, 3] ?_
    refine JH.q 0 rfl (L9 12 rfl rfl) ?_
    refine y2 1 2 ?_ ?_
    ·
     refine JHo.q rfl (L9 4 rfl rfl) ?_
     refine y1 2 ?_
     refine yst rfl rfl rfl ?_
     refine y1 3 ?_
     refine yst rfl rfl rfl ?_
     refine yd ?_
     exact zm ⟨rfl, rfl⟩ (Up.refl _ _)
    refine yst rfl rfl rfl ?_
    refine y1 1 ?_
    refine JHo.q rfl (L9 4 rfl rfl) ?_
    refine y1 3 ?_
    refine yst rfl rfl rfl ?_
    refine yd ?_
    exact zm ⟨rfl, rfl⟩ (Up.refl _ _)
   rintro _ _ u31 ⟨rfl, rfl⟩ x31
   refine zn ?_
   exact zro (x23.trans x31) (g := by exact (gv_tup (gvc (gv_ex X5BX (by first | trivial | assumption | omega | (refine ⟨?_, ?_, ?_, ?_, ?_⟩ <;> dsimp only <;> omega)) gv_) (gvc (gv_ex gk (by first | trivial | assumption | omega | (refine ⟨?_, ?_, ?_, ?_, ?_⟩ <;> dsimp only <;> omega)) gv_) gvn))))
  refine Js.skip <| zS <| Qm rfl <| zc rfl (fun w hw => c_spec_l08Play gk X25KX (ok_ hw)) ?_
  intro A34 c34 bl34 bh34 A35 c35 bl35 bh35 A36 c36 bl36 bh36 A37 c37 bl37 bh37 A38 c38 bl38 bh38
  refine Qm rfl <| Qx rfl rfl <| Qx rfl rfl <| za zeh fun b39 => zw 0 rfl rfl rfl ?_
  refine Qa rfl <| zN <| Qm rfl <| Qe rfl rfl <| JL.nil ?_
  refine zi (fun h40 h40' => ?_) fun h40 h40' => ?_
  ·
   have hz : (M.play gk X25KX).2 = 0 := by simpa using h40
   refine Js.region <| Q9 0 rfl rfl ?_
   refine zw 9 rfl rfl rfl ?_
   refine JL.nil <| Js.blockEnd <| Js.region <| Qm rfl <| Qs rfl rfl <| Qa rfl <| JL.nil ?_
   refine zd [6, 7, 7, 1, 1, 1, 1, 1, 7, 7, 7, 7, 7, 7, 7, 7, 7, 7] rfl fun u41 x41 => ?_
   exact zag ⟨j - 1, X25AT, X25SD, ((M.play gk X25KX).1), _, _, _, _, _, _, _, _, _, _, _, _, _, _, _, _, _, _, rfl, rfl, zt, by first | exact hs | exact hs.play hz, by first | exact hm | exact M.play_120 hm hz, zt, zt, zu, zu, zu, zu, zu, zu, zu, zu, zu, zu, rfl⟩ (x23.trans x41)
  refine Js.skip <| Js.blockEnd <| Js.region <| Qm rfl <| Qs rfl rfl <| Qa rfl <| JL.nil ?_
  refine zd [6, 7, 7, 7, 7, 7, 7, 7, 7, 7, 7, 7, 7, 7, 7, 7, 7, 7] rfl fun u42 x42 => ?_
  exact zag ⟨j - 1, X25AT, X25SD, gk, _, _, _, _, _, _, _, _, _, _, _, _, _, _, _, _, _, _, rfl, rfl, zt, by first | exact hs | exact hs.play hz, by first | exact hm | exact M.play_120 hm hz, zt, zt, zu, zu, zu, zu, zu, zu, zu, zu, zu, zu, rfl⟩ (x23.trans x42)
 refine zx ?_
 refine Js.seq <| zS <| Qm rfl <| zB 1 sp_ rfl (fun w hb hw => c_spec_l00Src_one code at1 sd1 3 hb (ok_ hw)) ?_
 rintro _ _ G43 ⟨X43BX, X43AT, X43SD, rfl, rfl, hX43_0, hX43_1⟩
 refine znl ?_
 refine Qt rfl <| JL.nil ?_
 refine zi (fun h44 h44' => ?_) fun h44 h44' => ?_
 ·
  refine Js.region <| Qm rfl <| zB 1 sp_ rfl (fun w hb hw => c_spec_l00Src_pick code X43AT X43SD 2 hb (ok_ hw)) ?_
  rintro _ _ G45 ⟨X45KX, X45AT, X45SD, rfl, rfl, hX45_0, hX45_1, hX45_2, hX45_3⟩
  refine znl ?_
  refine Qf fh rfl <| zw 4 rfl rfl rfl ?_
  refine zJ ?_
  refine zk [2, 3] (fun F U l os u => l = F [] ∧ os = U [nO, nO, nO, nO, nO, nO, nO, nO, nO, nO, nO, nO, nO, nO, nO, nO, nO, nO, some (boxO b3 [.int .i64 gk.rules.pits, .int .i64 gk.rules.seeds, .bool gk.rules.stores, .bool gk.rules.skip, .bool gk.rules.relay, .bool gk.rules.feed, .bool gk.rules.again, .int .i64 gk.rules.capture, .int .i64 gk.rules.slam, .slice A23_7_9 gk.start.pits.length c23_7_9, .slice A23_7_10 gk.start.stores.length c23_7_10, .int .i64 gk.start.player, .slice A23_7_12 gk.moves.length c23_7_12, .slice A23_7_13 gk.now.pits.length c23_7_13, .slice A23_7_14 gk.now.stores.length c23_7_14, .int .i64 gk.now.player, .int .i64 X45KX] 56), some (boxO b2 [.int .i64 X5BX.rules.pits, .int .i64 X5BX.rules.seeds, .bool X5BX.rules.stores, .bool X5BX.rules.skip, .bool X5BX.rules.relay, .bool X5BX.rules.feed, .bool X5BX.rules.again, .int .i64 X5BX.rules.capture, .int .i64 X5BX.rules.slam, .slice A5ra_9 X5BX.entries.length c5ra_9] 37)]) ?_ ?_
  ·
   refine zdr [2, 3] ?_
   refine JH.q 0 rfl (L9 12 rfl rfl) ?_
   refine y2 1 2 ?_ ?_
   ·
    refine JHo.q rfl (L9 4 rfl rfl) ?_
    refine y1 2 ?_
    refine yst rfl rfl rfl ?_
    refine y1 3 ?_
    refine yst rfl rfl rfl ?_
    refine yd ?_
    exact zm ⟨rfl, rfl⟩ (Up.refl _ _)
   refine yst rfl rfl rfl ?_
   refine y1 1 ?_
   refine JHo.q rfl (L9 4 rfl rfl) ?_
   refine y1 3 ?_
   refine yst rfl rfl rfl ?_
   refine yd ?_
   exact zm ⟨rfl, rfl⟩ (Up.refl _ _)
  rintro _ _ u46 ⟨rfl, rfl⟩ x46
  refine zn ?_
  exact zro (x23.trans x46) (g := by exact (gv_tup (gvc (gv_ex X5BX (by first | trivial | assumption | omega | (refine ⟨?_, ?_, ?_, ?_, ?_⟩ <;> dsimp only <;> omega)) gv_) (gvc (gv_ex (M.Gam.mk gk.rules gk.start gk.moves gk.now X45KX) (by first | trivial | assumption | omega | (refine ⟨?_, ?_, ?_, ?_, ?_⟩ <;> dsimp only <;> omega)) gv_) gvn))))
 refine Js.skip <| Js.seq ?_
 refine zk [2, 3] (fun F U l os u => l = F [] ∧ os = U [nO, nO, nO, nO, nO, nO, nO, nO, nO, nO, nO, nO, nO, nO, nO, nO, nO, some (boxO b3 [.int .i64 gk.rules.pits, .int .i64 gk.rules.seeds, .bool gk.rules.stores, .bool gk.rules.skip, .bool gk.rules.relay, .bool gk.rules.feed, .bool gk.rules.again, .int .i64 gk.rules.capture, .int .i64 gk.rules.slam, .slice A23_7_9 gk.start.pits.length c23_7_9, .slice A23_7_10 gk.start.stores.length c23_7_10, .int .i64 gk.start.player, .slice A23_7_12 gk.moves.length c23_7_12, .slice A23_7_13 gk.now.pits.length c23_7_13, .slice A23_7_14 gk.now.stores.length c23_7_14, .int .i64 gk.now.player, .int .i64 gk.resigned] 56), some (boxO b2 [.int .i64 X5BX.rules.pits, .int .i64 X5BX.rules.seeds, .bool X5BX.rules.stores, .bool X5BX.rules.skip, .bool X5BX.rules.relay, .bool X5BX.rules.feed, .bool X5BX.rules.again, .int .i64 X5BX.rules.capture, .int .i64 X5BX.rules.slam, .slice A5ra_9 X5BX.entries.length c5ra_9] 37)]) ?_ ?_
 ·
  refine zdr [2, 3] ?_
  refine JH.q 0 rfl (L9 11 rfl rfl) ?_
  refine y2 1 2 ?_ ?_
  ·
   refine JHo.q rfl (L9 3 rfl rfl) ?_
   refine y1 2 ?_
   refine yst rfl rfl rfl ?_
   refine y1 3 ?_
   refine yst rfl rfl rfl ?_
   refine yd ?_
   exact zm ⟨rfl, rfl⟩ (Up.refl _ _)
  refine yst rfl rfl rfl ?_
  refine y1 1 ?_
  refine JHo.q rfl (L9 3 rfl rfl) ?_
  refine y1 3 ?_
  refine yst rfl rfl rfl ?_
  refine yd ?_
  exact zm ⟨rfl, rfl⟩ (Up.refl _ _)
 rintro _ _ u47 ⟨rfl, rfl⟩ x47
 refine zn ?_
 exact zro (x23.trans x47) (g := by exact (gv_tup (gvc (gv_ex X5BX (by first | trivial | assumption | omega | (refine ⟨?_, ?_, ?_, ?_, ?_⟩ <;> dsimp only <;> omega)) gv_) (gvc (gv_ex gk (by first | trivial | assumption | omega | (refine ⟨?_, ?_, ?_, ?_, ?_⟩ <;> dsimp only <;> omega)) gv_) gvn))))
theorem c_spec_DrawPruneBook (code : Nat) {v_code : Value} {w : World} (h_code : (Ty.bytes 5 code).ok w v_code) (r0 : code ≤ 1048576 := by exact om_) : Ret Tryz.prog 47 [v_code] w (Ty.tup [Ty.ex (fun (BX : M.Boo) => (BX.entries.length + M.totE BX.entries ≤ 1000000)) (fun BX => Ty.agg (cBook BX)), Ty.ex (fun (KX : Int) => True) (fun KX => Ty.int KX)]) := by
 revert v_code; apply opn
 intro A1 c1 h1 bl1 bh1
 have h_code := h1
 refine enter @Tryz.func47 @Tryz.ntmps47 rfl rfl ?_
 refine zent ?_
 refine zS <| za zeh fun b2 => Qa rfl <| zN <| Qm rfl <| zcs rfl (fun w hw => c_spec_l00From code (ok_ hw)) ?_
 intro b3
 refine Qa rfl <| zN <| Qm rfl <| zB 1 sp_ rfl (fun w hb hw => c_spec_l20Bent code 0 0 hb (ok_ hw)) ?_
 rintro _ _ G4 ⟨X4BX, X4PX, X4AT, X4SD, A4ra_9, c4ra_9, g4ra_9, vs4ra_9, f4ra_9, A4rb_0, c4rb_0, g4rb_0, A4rb_1, c4rb_1, g4rb_1, rfl, rfl, bl4_0, bl4_1, bl4_2, bl4_3, bl4_4, bl4_5, hX4_0, hX4_1, hX4_2, hX4_3⟩
 refine znl ?_
 refine Qm rfl <| Qx rfl rfl <| Qx rfl rfl <| za zeh fun b5 => za zeh fun b6 => zw 1 rfl rfl rfl ?_
 refine zw 0 rfl rfl rfl ?_
 refine zN <| Qm rfl ?_
 refine zhl [2] ?_
 refine zB 1 sp_ rfl (fun w hb hw => c_spec_l00Src_pick code X4AT X4SD 5 hb (ok_ hw)) ?_
 rintro _ _ G7 ⟨X7KX, X7AT, X7SD, rfl, rfl, hX7_0, hX7_1, hX7_2, hX7_3⟩
 refine znl ?_
 refine Qa rfl <| zJ <| zS <| Qm rfl <| zB 1 sp_ rfl (fun w hb hw => c_spec_l00Src_one code X7AT X7SD 10 hb (ok_ hw)) ?_
 rintro _ _ G8 ⟨X8BX, X8AT, X8SD, rfl, rfl, hX8_0, hX8_1⟩
 refine znl ?_
 refine JL.nil ?_
 refine zi (fun h9 h9' => ?_) fun h9 h9' => ?_
 ·
  refine Js.region <| Qm rfl <| zbs fun b10 => ?_
  refine zhl [1] ?_
  refine zB 1 sp_ rfl (fun w hb hw => c_spec_l00Src_among code X8AT X8SD [(-1), 1000000, 1000001] hb (ok_ hw) (ints_rowok (xs := [(-1), 1000000, 1000001]) (hw.pr (i := 0) rfl)) (r3 := (by simp)) (r4 := (by simp))) ?_
  rintro _ _ G12 ⟨X12KX, X12AT, X12SD, rfl, rfl, hX12_0, hX12_1, hX12_2⟩
  refine znl ?_
  refine Qa rfl <| zN <| Q9 6 rfl rfl ?_
  refine Qm rfl <| zw 12 rfl rfl rfl ?_
  refine Qa rfl <| JL.nil ?_
  exact zro (Up.refl _ _) (g := by exact (gv_tup (gvc (gv_ex X4BX (by first | trivial | assumption | omega) gv_) (gvc (gv_ex X12KX (by first | trivial | assumption | omega) gv_) gvn))))
 refine Js.skip <| zS <| Q9 4 rfl rfl ?_
 refine Qm rfl <| zw 10 rfl rfl rfl ?_
 refine Qa rfl <| JL.nil ?_
 exact zro (Up.refl _ _) (g := by exact (gv_tup (gvc (gv_ex X4BX (by first | trivial | assumption | omega) gv_) (gvc (gv_ex X7KX (by first | trivial | assumption | omega) gv_) gvn))))
theorem c_impl_newSowing (r : M.Rul) {v_r : Value} (p : M.Pos) {v_p : Value} {w : World} (h_r : (Ty.agg (cRules r)).ok w v_r) (h_p : (Ty.agg (cPosition p)).ok w v_p) (r0 : p.pits.length ≤ 4194304 := by exact om_) (r1 : p.stores.length ≤ 4194304 := by exact om_) : Ret Tryz.prog 184 [v_r, v_p] w (Ty.box 216 (csowing (M.Sow.mk r p.player (M.Sw.mk p.pits p.stores 0 0) []))) := by
 revert v_r; apply opn
 revert v_p; apply opn
 intro A1 c1 h1 bl1 bh1 A2 c2 h2 bl2 bh2
 refine enter @Tryz.func184 @Tryz.ntmps184 rfl rfl ?_
 refine zent ?_
 refine zS <| zb rfl fun b3 => zb rfl fun b4 => Qa rfl <| zN <| Q9 0 rfl rfl ?_
 refine zc rfl (fun w hw => c_impl_Position_copied p (ok_ hw)) ?_
 intro A6 c6 bl6 bh6 A7 c7 bl7 bh7
 refine za zeh fun b8 => zw 0 rfl rfl rfl ?_
 refine zN <| Q9 4 rfl rfl ?_
 refine Qf fh rfl <| Q0 3 rfl rfl rfl <| Qf fh rfl <| Q0 0 rfl rfl rfl <| Qf fh rfl <| Q0 0 rfl rfl rfl <| Qb ?_
 refine zbs fun b9 => ?_
 refine Qb ?_
 refine zb rfl fun b11 => Qa rfl <| JL.nil ?_
 exact zro (Up.refl _ _)
theorem c_impl_sowing_lap (s_rules : M.Rul) (s_player : Int) (s_sown : M.Sw) (s_path : List Int) {As_10 : Option Addr} {cs_10 : Nat} {gs_10 : List Nat} {As_11 : Option Addr} {cs_11 : Nat} {gs_11 : List Nat} {As_14 : Option Addr} {cs_14 : Nat} {gs_14 : List Nat} (from_ : Int) {bs : Nat} {w : World} (hb : Bw w [boxO bs [.int .i64 s_rules.pits, .int .i64 s_rules.seeds, .bool s_rules.stores, .bool s_rules.skip, .bool s_rules.relay, .bool s_rules.feed, .bool s_rules.again, .int .i64 s_rules.capture, .int .i64 s_rules.slam, .int .i64 s_player, .slice As_10 s_sown.pits.length cs_10, .slice As_11 s_sown.stores.length cs_11, .int .i64 s_sown.last, .int .i64 s_sown.laps, .slice As_14 s_path.length cs_14] 216, rowO 2 1 (.slice As_10 s_sown.pits.length cs_10) s_sown.pits.length (ints_ s_sown.pits) gs_10, rowO 2 1 (.slice As_11 s_sown.stores.length cs_11) s_sown.stores.length (ints_ s_sown.stores) gs_11, rowO 2 1 (.slice As_14 s_path.length cs_14) s_path.length (ints_ s_path) gs_14]) (bd0 : s_sown.pits.length ≤ cs_10 := by exact om_) (bd1 : cs_10 ≤ 9223372036854775807 := by exact om_) (bd2 : s_sown.stores.length ≤ cs_11 := by exact om_) (bd3 : cs_11 ≤ 9223372036854775807 := by exact om_) (bd4 : s_path.length ≤ cs_14 := by exact om_) (bd5 : cs_14 ≤ 9223372036854775807 := by exact om_) (r0 : 2 ≤ s_rules.pits := by exact om_) (r1 : s_rules.pits ≤ 8 := by exact om_) (r2 : s_player = 0 ∨ s_player = 1 := by exact om_) (r3 : 0 ≤ from_ := by exact om_) (r4 : from_ < 2 * s_rules.pits := by exact om_) (r5 : M.Good s_rules s_sown.pits s_sown.stores 0 := by exact om_) (r6 : 0 < (M.getI s_sown.pits from_) := by exact om_) (r7 : 0 ≤ s_sown.laps := by exact om_) (r8 : s_sown.laps ≤ 99 := by exact om_) (r9 : s_path.length ≤ 10000 := by exact om_) : RetB Tryz.prog 197 [.pointer (some ⟨bs, 0, none⟩), .int .i64 from_] w [boxO bs [.int .i64 s_rules.pits, .int .i64 s_rules.seeds, .bool s_rules.stores, .bool s_rules.skip, .bool s_rules.relay, .bool s_rules.feed, .bool s_rules.again, .int .i64 s_rules.capture, .int .i64 s_rules.slam, .int .i64 s_player, .slice As_10 s_sown.pits.length cs_10, .slice As_11 s_sown.stores.length cs_11, .int .i64 s_sown.last, .int .i64 s_sown.laps, .slice As_14 s_path.length cs_14] 216, rowO 2 1 (.slice As_10 s_sown.pits.length cs_10) s_sown.pits.length (ints_ s_sown.pits) gs_10, rowO 2 1 (.slice As_11 s_sown.stores.length cs_11) s_sown.stores.length (ints_ s_sown.stores) gs_11, rowO 2 1 (.slice As_14 s_path.length cs_14) s_path.length (ints_ s_path) gs_14] (fun v bs' => ∃ (Axs_10 : Option Addr) (cxs_10 : Nat) (gxs_10 : List Nat) (Axs_11 : Option Addr) (cxs_11 : Nat) (gxs_11 : List Nat) (Axs_14 : Option Addr) (cxs_14 : Nat) (gxs_14 : List Nat), v = .bool (M.more s_rules (M.lap s_rules s_player from_ s_sown s_path).1) ∧ bs' = [boxO bs [.int .i64 s_rules.pits, .int .i64 s_rules.seeds, .bool s_rules.stores, .bool s_rules.skip, .bool s_rules.relay, .bool s_rules.feed, .bool s_rules.again, .int .i64 s_rules.capture, .int .i64 s_rules.slam, .int .i64 s_player, .slice Axs_10 ((((M.lap s_rules s_player from_ s_sown s_path).1).pits).length) cxs_10, .slice Axs_11 ((((M.lap s_rules s_player from_ s_sown s_path).1).stores).length) cxs_11, .int .i64 (((M.lap s_rules s_player from_ s_sown s_path).1).last), .int .i64 (((M.lap s_rules s_player from_ s_sown s_path).1).laps), .slice Axs_14 (((M.lap s_rules s_player from_ s_sown s_path).2).length) cxs_14] 216, rowO 2 1 (.slice Axs_10 ((((M.lap s_rules s_player from_ s_sown s_path).1).pits).length) cxs_10) ((((M.lap s_rules s_player from_ s_sown s_path).1).pits).length) (ints_ (((M.lap s_rules s_player from_ s_sown s_path).1).pits)) gxs_10, rowO 2 1 (.slice Axs_11 ((((M.lap s_rules s_player from_ s_sown s_path).1).stores).length) cxs_11) ((((M.lap s_rules s_player from_ s_sown s_path).1).stores).length) (ints_ (((M.lap s_rules s_player from_ s_sown s_path).1).stores)) gxs_11, rowO 2 1 (.slice Axs_14 (((M.lap s_rules s_player from_ s_sown s_path).2).length) cxs_14) (((M.lap s_rules s_player from_ s_sown s_path).2).length) (ints_ ((M.lap s_rules s_player from_ s_sown s_path).2)) gxs_14] ∧ (((M.lap s_rules s_player from_ s_sown s_path).1).pits).length ≤ cxs_10 ∧ cxs_10 ≤ 9223372036854775807 ∧ (((M.lap s_rules s_player from_ s_sown s_path).1).stores).length ≤ cxs_11 ∧ cxs_11 ≤ 9223372036854775807 ∧ ((M.lap s_rules s_player from_ s_sown s_path).2).length ≤ cxs_14 ∧ cxs_14 ≤ 9223372036854775807) := by
 have l1 := r5.lp
 have l2 := r5.ls
 have hk0 := r5.pit from_
 refine enterB hb @Tryz.func197 @Tryz.ntmps197 rfl rfl ?_
 refine zent ?_
 refine Js.trashE ?_
 refine zn ?_
 refine Js.fact (row_some (i := 1) rfl (by omega)) (fun hf1 => ?_)
 obtain ⟨b1, rfl⟩ := hf1
 refine Js.fact (row_some (i := 2) rfl (by omega)) (fun hf2 => ?_)
 obtain ⟨b2, rfl⟩ := hf2
 refine zS <| Qa rfl <| zN <| Qm rfl <| Qc rfl <| Qf fh rfl <| Qf fh rfl <| Q0 0 rfl rfl rfl <| Qm rfl <| Qq (p_indexAddr el_27 rfl rfl (by omega) (by omega) rfl) <| Qw (q_load1 ty_2.h rfl (Mem.row (i := 1) rfl (ints_getI (i := from_) (by omega)))) <| Qm rfl <| Qa rfl <| Qa rfl ?_
 refine Qa rfl <| zN <| Qm rfl <| Qc rfl <| Qf fh rfl <| Qf fh rfl <| Q0 0 rfl rfl rfl <| Qm rfl <| Qq (p_indexAddr el_27 rfl rfl (by omega) (by omega) rfl) ?_
 refine JL.s (e_storeRow (i := 1) (xs' := ints_ (M.setI s_sown.pits from_ 0)) ty_2.h rfl rfl rfl rfl rfl rfl (ints_lt (i := from_.toNat) (by omega)) (ints_setL (i := from_.toNat) (by omega))) ?_
 rintro _ _ _ ⟨rfl, rfl⟩ _
 refine znl ?_
 refine zJ <| Js.block ?_
 refine zl [0, 1] (fun F U l os u m => ∃ (k place before : Int) (ps ss path : List Int) (A5_0_14 : Option Addr) (c5_0_14 : Nat) (g5_0_14 : List Nat) (G5_4 : List Nat), l = F [(5, .int .i64 k), (6, .int .i64 place), (7, .int .i64 before)] ∧ os = U [some (boxO bs [.int .i64 s_rules.pits, .int .i64 s_rules.seeds, .bool s_rules.stores, .bool s_rules.skip, .bool s_rules.relay, .bool s_rules.feed, .bool s_rules.again, .int .i64 s_rules.capture, .int .i64 s_rules.slam, .int .i64 s_player, .slice (some ⟨b1, 0, none⟩) s_sown.pits.length cs_10, .slice (some ⟨b2, 0, none⟩) s_sown.stores.length cs_11, .int .i64 s_sown.last, .int .i64 s_sown.laps, .slice A5_0_14 path.length c5_0_14] 216), some (rowO 2 1 (.slice (some ⟨b1, 0, none⟩) s_sown.pits.length cs_10) s_sown.pits.length (ints_ ps) gs_10), some (rowO 2 1 (.slice (some ⟨b2, 0, none⟩) s_sown.stores.length cs_11) s_sown.stores.length (ints_ ss) gs_11), some (rowO 2 1 (.slice A5_0_14 path.length c5_0_14) path.length (ints_ path) g5_0_14), some (anyO G5_4)] ∧ (M.sow s_rules s_player from_ k.toNat place ps ss path = M.sow s_rules s_player from_ (M.getI s_sown.pits from_).toNat from_ (M.setI s_sown.pits from_ 0) s_sown.stores s_path) ∧ (M.Good s_rules ps ss k) ∧ (-1 ≤ place) ∧ (place < 2 * s_rules.pits) ∧ ((path.length : Int) + k = s_path.length + (M.getI s_sown.pits from_)) ∧ (k = (M.getI s_sown.pits from_) ∨ (0 ≤ place → M.getI ps place = before + 1)) ∧ (path.length ≤ c5_0_14) ∧ (c5_0_14 ≤ 9223372036854775807) ∧ m = k.toNat) ⟨M.getI s_sown.pits from_, from_, 0, M.setI s_sown.pits from_ 0, s_sown.stores, s_path, _, _, _, _, rfl, rfl, by rfl, by exact r5.takeUp r3 r4, zt, zt, zt, by exact .inl rfl, zu, zu, rfl⟩ ?_
 rintro _ _ u5 _ ⟨k, place, before, ps, ss, path, A5_0_14, c5_0_14, g5_0_14, G5_4, rfl, rfl, hS, hG, p0, p1, hl, hB, f5_6, f5_7, rfl⟩ x5
 refine zn ?_
 have l3 := hG.lp
 have l4 := hG.ls
 have hs0 := hG.store s_player
 have k0 := hG.n0
 refine Js.seq <| zS <| Qm rfl <| Qg rfl rfl <| JL.nil ?_
 refine zi (fun h6 h6' => ?_) fun h6 h6' => ?_
 ·
  refine Js.skip <| Js.seq <| Js.block <| Js.seq ?_
  refine zdr [] ?_
  refine jM 0 rfl rfl ?_
  refine jN 1 rfl rfl ?_
  refine jF 2 fld_216_0 rfl rfl ?_
  refine JH.q 3 rfl (L9 0 rfl rfl) ?_
  refine jM 4 rfl rfl ?_
  refine jN 5 rfl rfl ?_
  refine jF 6 fld_216_1 rfl rfl ?_
  refine jB 7 0 ty_2 rfl rfl rfl rfl ?_
  refine jM 8 rfl rfl ?_
  refine y1 9 ?_
  refine yv rfl rfl (fun w hw => c_impl_Rules_after s_rules s_player place (ok_ hw)) ?_
  refine jA 10 rfl rfl ?_
  refine yd ?_
  refine Js.seq <| zS <| Qm rfl <| Qc rfl <| Qf fh rfl <| Qf fh rfl <| Q0 0 rfl rfl rfl <| Qm rfl <| zg (Gd.t1 rfl rfl rfl) (fun hc => p_move rfl) <| zg (Gd.t1 rfl rfl rfl) (fun hc => p_move rfl) <| zg (Gd.t1 rfl rfl rfl) (fun hc => p_eql (gh hc rfl) (gh hc rfl)) <| Qq (p_pickAnd rfl rfl rfl) <| JL.nil ?_
  refine zi (fun h7 h7' => ?_) fun h7 h7' => ?_
  ·
   have hc : s_rules.skip = true ∧ M.after s_rules s_player place = from_ := by simpa using h7
   have hq : M.nxt s_rules s_player from_ place = M.after s_rules s_player (M.after s_rules s_player place) := by rw [M.nxt_yes hc, hc.2]
   have ha := M.after_bd s_rules r1 r0 r2 p0
   refine zdr [] ?_
   refine jM 0 rfl rfl ?_
   refine jN 1 rfl rfl ?_
   refine jF 2 fld_216_0 rfl rfl ?_
   refine JH.q 3 rfl (L9 0 rfl rfl) ?_
   refine jM 4 rfl rfl ?_
   refine jN 5 rfl rfl ?_
   refine jF 6 fld_216_1 rfl rfl ?_
   refine jB 7 0 ty_2 rfl rfl rfl rfl ?_
   refine jM 8 rfl rfl ?_
   refine y1 9 ?_
   refine yv rfl rfl (fun w hw => c_impl_Rules_after s_rules s_player (M.after s_rules s_player place) (ok_ hw)) ?_
   refine jA 10 rfl rfl ?_
   refine yd ?_
   have hqb := M.nxt_bd s_rules (frm := from_) r1 r0 r2 p0 r3
   rw [hq] at hqb
   refine Js.seq <| zS <| Qm rfl <| Ql rfl rfl <| JL.nil ?_
   refine zi (fun h8 h8' => ?_) fun h8 h8' => ?_
   ·
    have hS2 : M.sow s_rules s_player from_ (k - 1).toNat (M.after s_rules s_player (M.after s_rules s_player place)) ps (M.setI ss s_player (M.getI ss s_player + 1)) (path ++ [(M.after s_rules s_player (M.after s_rules s_player place))]) = M.sow s_rules s_player from_ (M.getI s_sown.pits from_).toNat from_ (M.setI s_sown.pits from_ 0) s_sown.stores s_path := by rw [← hS, show k.toNat = (k - 1).toNat + 1 by omega, M.sow_succ hq, if_pos (by omega)]
    have hG2 := hG.putStore (k := s_player) (by omega) (by omega) (by omega)
    have hB2 : 0 ≤ (M.after s_rules s_player (M.after s_rules s_player place)) → M.getI ps (M.after s_rules s_player (M.after s_rules s_player place)) = before + 1 := fun h => by omega
    refine zdr [13] ?_
    refine jM 0 rfl rfl ?_
    refine jN 1 rfl rfl ?_
    refine jF 2 fld_216_2 rfl rfl ?_
    refine jF 3 fld_162_1 rfl rfl ?_
    refine jB 4 0 ty_27 rfl rfl rfl rfl ?_
    refine jM 5 rfl rfl ?_
    refine jN 6 rfl rfl ?_
    refine jF 7 fld_216_1 rfl rfl ?_
    refine jB 8 0 ty_2 rfl rfl rfl rfl ?_
    refine jI 9 el_27 rfl rfl rfl rfl ?_
    refine JH.q 10 rfl (q_load1 ty_2.h rfl (Mem.row (i := 2) rfl (ints_getI (i := s_player) (by omega)))) ?_
    refine JH.p 11 rfl (p_add rfl rfl (IntWalk.i64_in _ (by omega))) ?_
    refine jI 12 el_27 rfl rfl rfl rfl ?_
    refine y1 13 ?_
    refine JHo.s rfl (e_storeRow (i := 2) (xs' := ints_ (M.setI ss s_player ((M.getI ss s_player) + 1))) ty_2.h rfl rfl rfl rfl rfl rfl (ints_lt (i := s_player.toNat) (by omega)) (ints_setL (i := s_player.toNat) (by omega))) (.inr rfl) ?_
    rintro _ _ _ ⟨rfl, rfl⟩ _
    refine znh ?_
    refine yd ?_
    refine Js.region <| Qm rfl <| Qm rfl <| Qc rfl <| Qf fh rfl <| Q0 0 rfl rfl rfl <| Qm rfl <| zbs fun b11 => ?_
    refine JL.e (e_append (i := 4) (n' := (path ++ [(M.after s_rules s_player (M.after s_rules s_player place))]).length) (vs' := ints_ (path ++ [(M.after s_rules s_player (M.after s_rules s_player place))])) el_27 rfl rfl rfl rfl (src_row (i := 0) und_27 rfl rfl) (by omega) (by omega) ln2_ (by simp [ints_])) ?_
    rintro v13 _ _ ⟨⟨g14, rfl⟩, rfl⟩ _
    refine JL.fact (row_form' (i := 4) rfl) (fun hf15 => ?_)
    obtain ⟨A15, c15, rfl, bl15, bh15⟩ := hf15
    refine znl ?_
    refine Qc rfl <| Qf fh rfl <| zw 1 rfl rfl rfl ?_
    refine JL.nil <| Js.blockEnd <| Js.region <| Qm rfl <| Qs rfl rfl <| Qa rfl <| JL.nil ?_
    refine zf [1, 1, 1, 1] fun GG16 => ?_
    refine zn ?_
    exact zag ⟨k - 1, M.after s_rules s_player (M.after s_rules s_player place), before, ps, M.setI ss s_player ((M.getI ss s_player) + 1), path ++ [(M.after s_rules s_player (M.after s_rules s_player place))], _, _, _, _, rfl, rfl, by exact hS2, by exact hG2, zt, zt, by simp only [List.length_append, List.length_cons, List.length_nil]; omega, by exact .inr hB2, zu, zu, rfl⟩ x5
   have hS2 : M.sow s_rules s_player from_ (k - 1).toNat (M.after s_rules s_player (M.after s_rules s_player place)) (M.setI ps (M.after s_rules s_player (M.after s_rules s_player place)) (M.getI ps (M.after s_rules s_player (M.after s_rules s_player place)) + 1)) ss (path ++ [(M.after s_rules s_player (M.after s_rules s_player place))]) = M.sow s_rules s_player from_ (M.getI s_sown.pits from_).toNat from_ (M.setI s_sown.pits from_ 0) s_sown.stores s_path := by rw [← hS, show k.toNat = (k - 1).toNat + 1 by omega, M.sow_succ hq, if_neg (by omega)]
   have hG2 := hG.putPit (k := (M.after s_rules s_player (M.after s_rules s_player place))) (by omega) (by omega) hqb.2
   have hpq := hG.pit (M.after s_rules s_player (M.after s_rules s_player place))
   have hB2 : 0 ≤ (M.after s_rules s_player (M.after s_rules s_player place)) → M.getI (M.setI ps (M.after s_rules s_player (M.after s_rules s_player place)) (M.getI ps (M.after s_rules s_player (M.after s_rules s_player place)) + 1)) (M.after s_rules s_player (M.after s_rules s_player place)) = M.getI ps (M.after s_rules s_player (M.after s_rules s_player place)) + 1 := fun h => M.getI_setI_same h (by omega) _
   refine zS <| Qm rfl <| Qc rfl <| Qf fh rfl <| Qf fh rfl <| Q0 0 rfl rfl rfl <| Qm rfl <| Qq (p_indexAddr el_27 rfl rfl (by omega) (by omega) rfl) <| Qw (q_load1 ty_2.h rfl (Mem.row (i := 1) rfl (ints_getI (i := M.after s_rules s_player (M.after s_rules s_player place)) (by omega)))) <| Qa rfl <| zG <| Qm rfl <| Qc rfl <| Qf fh rfl ?_
   refine Qf fh rfl <| Q0 0 rfl rfl rfl <| Qm rfl <| Qq (p_indexAddr el_27 rfl rfl (by omega) (by omega) rfl) <| Qw (q_load1 ty_2.h rfl (Mem.row (i := 1) rfl (ints_getI (i := M.after s_rules s_player (M.after s_rules s_player place)) (by omega)))) <| Qp rfl rfl <| Qq (p_indexAddr el_27 rfl rfl (by omega) (by omega) rfl) ?_
   refine JL.s (e_storeRow (i := 1) (xs' := ints_ (M.setI ps (M.after s_rules s_player (M.after s_rules s_player place)) ((M.getI ps (M.after s_rules s_player (M.after s_rules s_player place))) + 1))) ty_2.h rfl rfl rfl rfl rfl rfl (ints_lt (i := (M.after s_rules s_player (M.after s_rules s_player place)).toNat) (by omega)) (ints_setL (i := (M.after s_rules s_player (M.after s_rules s_player place)).toNat) (by omega))) ?_
   rintro _ _ _ ⟨rfl, rfl⟩ _
   refine znl ?_
   refine zG <| Qm rfl <| Qm rfl <| Qc rfl <| Qf fh rfl <| Q0 0 rfl rfl rfl <| Qm rfl <| zbs fun b20 => ?_
   refine JL.e (e_append (i := 4) (n' := (path ++ [(M.after s_rules s_player (M.after s_rules s_player place))]).length) (vs' := ints_ (path ++ [(M.after s_rules s_player (M.after s_rules s_player place))])) el_27 rfl rfl rfl rfl (src_row (i := 0) und_27 rfl rfl) (by omega) (by omega) ln2_ (by simp [ints_])) ?_
   rintro v22 _ _ ⟨⟨g23, rfl⟩, rfl⟩ _
   refine JL.fact (row_form' (i := 4) rfl) (fun hf24 => ?_)
   obtain ⟨A24, c24, rfl, bl24, bh24⟩ := hf24
   refine znl ?_
   refine Qc rfl <| Qf fh rfl <| zw 1 rfl rfl rfl ?_
   refine JL.nil <| Js.blockEnd <| Js.region <| Qm rfl <| Qs rfl rfl <| Qa rfl <| JL.nil ?_
   refine zf [1, 1, 1, 1] fun GG25 => ?_
   refine zn ?_
   exact zag ⟨k - 1, M.after s_rules s_player (M.after s_rules s_player place), M.getI ps (M.after s_rules s_player (M.after s_rules s_player place)), M.setI ps (M.after s_rules s_player (M.after s_rules s_player place)) ((M.getI ps (M.after s_rules s_player (M.after s_rules s_player place))) + 1), ss, path ++ [(M.after s_rules s_player (M.after s_rules s_player place))], _, _, _, _, rfl, rfl, by exact hS2, by exact hG2, zt, zt, by simp only [List.length_append, List.length_cons, List.length_nil]; omega, by exact .inr hB2, zu, zu, rfl⟩ x5
  have hc : ¬(s_rules.skip = true ∧ M.after s_rules s_player place = from_) := by simpa using h7
  have hq := M.nxt_no hc
  have hqb := M.nxt_bd s_rules (frm := from_) r1 r0 r2 p0 r3
  rw [hq] at hqb
  refine Js.skip <| Js.seq <| zS <| Qm rfl <| Ql rfl rfl <| JL.nil ?_
  refine zi (fun h26 h26' => ?_) fun h26 h26' => ?_
  ·
   have hS2 : M.sow s_rules s_player from_ (k - 1).toNat (M.after s_rules s_player place) ps (M.setI ss s_player (M.getI ss s_player + 1)) (path ++ [(M.after s_rules s_player place)]) = M.sow s_rules s_player from_ (M.getI s_sown.pits from_).toNat from_ (M.setI s_sown.pits from_ 0) s_sown.stores s_path := by rw [← hS, show k.toNat = (k - 1).toNat + 1 by omega, M.sow_succ hq, if_pos (by omega)]
   have hG2 := hG.putStore (k := s_player) (by omega) (by omega) (by omega)
   have hB2 : 0 ≤ (M.after s_rules s_player place) → M.getI ps (M.after s_rules s_player place) = before + 1 := fun h => by omega
   refine zdr [13] ?_
   refine jM 0 rfl rfl ?_
   refine jN 1 rfl rfl ?_
   refine jF 2 fld_216_2 rfl rfl ?_
   refine jF 3 fld_162_1 rfl rfl ?_
   refine jB 4 0 ty_27 rfl rfl rfl rfl ?_
   refine jM 5 rfl rfl ?_
   refine jN 6 rfl rfl ?_
   refine jF 7 fld_216_1 rfl rfl ?_
   refine jB 8 0 ty_2 rfl rfl rfl rfl ?_
   refine jI 9 el_27 rfl rfl rfl rfl ?_
   refine JH.q 10 rfl (q_load1 ty_2.h rfl (Mem.row (i := 2) rfl (ints_getI (i := s_player) (by omega)))) ?_
   refine JH.p 11 rfl (p_add rfl rfl (IntWalk.i64_in _ (by omega))) ?_
   refine jI 12 el_27 rfl rfl rfl rfl ?_
   refine y1 13 ?_
   refine JHo.s rfl (e_storeRow (i := 2) (xs' := ints_ (M.setI ss s_player ((M.getI ss s_player) + 1))) ty_2.h rfl rfl rfl rfl rfl rfl (ints_lt (i := s_player.toNat) (by omega)) (ints_setL (i := s_player.toNat) (by omega))) (.inr rfl) ?_
   rintro _ _ _ ⟨rfl, rfl⟩ _
   refine znh ?_
   refine yd ?_
   refine Js.region <| Qm rfl <| Qm rfl <| Qc rfl <| Qf fh rfl <| Q0 0 rfl rfl rfl <| Qm rfl <| zbs fun b29 => ?_
   refine JL.e (e_append (i := 4) (n' := (path ++ [(M.after s_rules s_player place)]).length) (vs' := ints_ (path ++ [(M.after s_rules s_player place)])) el_27 rfl rfl rfl rfl (src_row (i := 0) und_27 rfl rfl) (by omega) (by omega) ln2_ (by simp [ints_])) ?_
   rintro v31 _ _ ⟨⟨g32, rfl⟩, rfl⟩ _
   refine JL.fact (row_form' (i := 4) rfl) (fun hf33 => ?_)
   obtain ⟨A33, c33, rfl, bl33, bh33⟩ := hf33
   refine znl ?_
   refine Qc rfl <| Qf fh rfl <| zw 1 rfl rfl rfl ?_
   refine JL.nil <| Js.blockEnd <| Js.region <| Qm rfl <| Qs rfl rfl <| Qa rfl <| JL.nil ?_
   refine zf [1, 1, 1, 1] fun GG34 => ?_
   refine zn ?_
   exact zag ⟨k - 1, M.after s_rules s_player place, before, ps, M.setI ss s_player ((M.getI ss s_player) + 1), path ++ [(M.after s_rules s_player place)], _, _, _, _, rfl, rfl, by exact hS2, by exact hG2, zt, zt, by simp only [List.length_append, List.length_cons, List.length_nil]; omega, by exact .inr hB2, zu, zu, rfl⟩ x5
  have hS2 : M.sow s_rules s_player from_ (k - 1).toNat (M.after s_rules s_player place) (M.setI ps (M.after s_rules s_player place) (M.getI ps (M.after s_rules s_player place) + 1)) ss (path ++ [(M.after s_rules s_player place)]) = M.sow s_rules s_player from_ (M.getI s_sown.pits from_).toNat from_ (M.setI s_sown.pits from_ 0) s_sown.stores s_path := by rw [← hS, show k.toNat = (k - 1).toNat + 1 by omega, M.sow_succ hq, if_neg (by omega)]
  have hG2 := hG.putPit (k := (M.after s_rules s_player place)) (by omega) (by omega) hqb.2
  have hpq := hG.pit (M.after s_rules s_player place)
  have hB2 : 0 ≤ (M.after s_rules s_player place) → M.getI (M.setI ps (M.after s_rules s_player place) (M.getI ps (M.after s_rules s_player place) + 1)) (M.after s_rules s_player place) = M.getI ps (M.after s_rules s_player place) + 1 := fun h => M.getI_setI_same h (by omega) _
  refine zS <| Qm rfl <| Qc rfl <| Qf fh rfl <| Qf fh rfl <| Q0 0 rfl rfl rfl <| Qm rfl <| Qq (p_indexAddr el_27 rfl rfl (by omega) (by omega) rfl) <| Qw (q_load1 ty_2.h rfl (Mem.row (i := 1) rfl (ints_getI (i := M.after s_rules s_player place) (by omega)))) <| Qa rfl <| zG <| Qm rfl <| Qc rfl <| Qf fh rfl ?_
  refine Qf fh rfl <| Q0 0 rfl rfl rfl <| Qm rfl <| Qq (p_indexAddr el_27 rfl rfl (by omega) (by omega) rfl) <| Qw (q_load1 ty_2.h rfl (Mem.row (i := 1) rfl (ints_getI (i := M.after s_rules s_player place) (by omega)))) <| Qp rfl rfl <| Qq (p_indexAddr el_27 rfl rfl (by omega) (by omega) rfl) ?_
  refine JL.s (e_storeRow (i := 1) (xs' := ints_ (M.setI ps (M.after s_rules s_player place) ((M.getI ps (M.after s_rules s_player place)) + 1))) ty_2.h rfl rfl rfl rfl rfl rfl (ints_lt (i := (M.after s_rules s_player place).toNat) (by omega)) (ints_setL (i := (M.after s_rules s_player place).toNat) (by omega))) ?_
  rintro _ _ _ ⟨rfl, rfl⟩ _
  refine znl ?_
  refine zG <| Qm rfl <| Qm rfl <| Qc rfl <| Qf fh rfl <| Q0 0 rfl rfl rfl <| Qm rfl <| zbs fun b38 => ?_
  refine JL.e (e_append (i := 4) (n' := (path ++ [(M.after s_rules s_player place)]).length) (vs' := ints_ (path ++ [(M.after s_rules s_player place)])) el_27 rfl rfl rfl rfl (src_row (i := 0) und_27 rfl rfl) (by omega) (by omega) ln2_ (by simp [ints_])) ?_
  rintro v40 _ _ ⟨⟨g41, rfl⟩, rfl⟩ _
  refine JL.fact (row_form' (i := 4) rfl) (fun hf42 => ?_)
  obtain ⟨A42, c42, rfl, bl42, bh42⟩ := hf42
  refine znl ?_
  refine Qc rfl <| Qf fh rfl <| zw 1 rfl rfl rfl ?_
  refine JL.nil <| Js.blockEnd <| Js.region <| Qm rfl <| Qs rfl rfl <| Qa rfl <| JL.nil ?_
  refine zf [1, 1, 1, 1] fun GG43 => ?_
  refine zn ?_
  exact zag ⟨k - 1, M.after s_rules s_player place, M.getI ps (M.after s_rules s_player place), M.setI ps (M.after s_rules s_player place) ((M.getI ps (M.after s_rules s_player place)) + 1), ss, path ++ [(M.after s_rules s_player place)], _, _, _, _, rfl, rfl, by exact hS2, by exact hG2, zt, zt, by simp only [List.length_append, List.length_cons, List.length_nil]; omega, by exact .inr hB2, zu, zu, rfl⟩ x5
 have hL : M.lap s_rules s_player from_ s_sown s_path = (⟨ps, ss, place, s_sown.laps + 1⟩, path) := by unfold M.lap; rw [← hS]; simp [show k.toNat = 0 by omega, M.sow]
 have hB3 := hB.resolve_left (by omega)
 refine zx ?_
 refine zS <| Qm rfl <| Qm rfl <| Qc rfl <| Qf fh rfl <| Qf fh rfl <| zw 0 rfl rfl rfl ?_
 refine zN <| Qm rfl <| Qc rfl <| Qf fh rfl <| Qf fh rfl <| Q0 0 rfl rfl rfl <| Qp rfl rfl <| Qc rfl <| Qf fh rfl <| Qf fh rfl <| zw 0 rfl rfl rfl ?_
 refine zN <| Qm rfl <| Qc rfl <| Qf fh rfl <| Qf fh rfl <| Q0 0 rfl rfl rfl <| Qm rfl <| zg (Gd.t1 rfl rfl rfl) (fun hc => p_move rfl) <| zg (Gd.t1 rfl rfl rfl) (fun hc => p_geq (gh hc rfl) rfl) <| Qq (p_pickAnd rfl rfl rfl) <| Qm rfl <| zg (Gd.t1 rfl rfl rfl) (fun hc => p_move rfl) <| zg (Gd.t1 rfl rfl rfl) (fun hc => p_gtr (gh hc rfl) rfl) <| Qq (p_pickAnd rfl rfl rfl) ?_
 refine Qa rfl <| JL.nil ?_
 refine zrb [0, 0, 0, 0] hb x5 ?_
 have e5 : 0 ≤ place → (1 < M.getI ps place ↔ 0 < before) := fun h => by rw [hB3 h]; omega
 clear hS
 have hE : (.bool ((s_rules.relay && (decide (0 ≤ place))) && (decide (0 < before))) : Value) = .bool (M.more s_rules (M.lap s_rules s_player from_ s_sown s_path).1) := by rw [hL]; by_cases hp : 0 ≤ place <;> simp [M.more, hp, e5]
 have hN11 : (((M.lap s_rules s_player from_ s_sown s_path).1).pits).length = s_sown.pits.length := by first | (rw [hL]; done) | (rw [hL]; show ps.length = _; omega) | (rw [hL]; show ss.length = _; omega)
 have hE11 : ((M.lap s_rules s_player from_ s_sown s_path).1).pits = ps := by rw [hL]
 have hN12 : (((M.lap s_rules s_player from_ s_sown s_path).1).stores).length = s_sown.stores.length := by first | (rw [hL]; done) | (rw [hL]; show ps.length = _; omega) | (rw [hL]; show ss.length = _; omega)
 have hE12 : ((M.lap s_rules s_player from_ s_sown s_path).1).stores = ss := by rw [hL]
 have hE13 : ((M.lap s_rules s_player from_ s_sown s_path).1).last = place := by rw [hL]
 have hE14 : ((M.lap s_rules s_player from_ s_sown s_path).1).laps = (s_sown.laps + 1) := by rw [hL]
 have hN15 : ((M.lap s_rules s_player from_ s_sown s_path).2).length = path.length := by first | (rw [hL]; done) | (rw [hL]; show ps.length = _; omega) | (rw [hL]; show ss.length = _; omega)
 have hE15 : (M.lap s_rules s_player from_ s_sown s_path).2 = path := by rw [hL]
 refine ⟨(some ⟨b1, 0, none⟩), cs_10, gs_10, (some ⟨b2, 0, none⟩), cs_11, gs_11, A5_0_14, c5_0_14, g5_0_14, hE, ?_, ?_, ?_, ?_, ?_, ?_, ?_⟩
 · rw [hN11, hE11, hN12, hE12, hE13, hE14, hN15, hE15]
 all_goals (first | (rw [hN11, hE11, hN12, hE12, hE13, hE14, hN15, hE15]; omega) | omega | (simp only [*]; omega))
theorem c_impl_sowing_move (s_rules : M.Rul) (s_player : Int) (s_sown : M.Sw) (s_path : List Int) {As_10 : Option Addr} {cs_10 : Nat} {gs_10 : List Nat} {As_11 : Option Addr} {cs_11 : Nat} {gs_11 : List Nat} {As_14 : Option Addr} {cs_14 : Nat} {gs_14 : List Nat} (from_ : Int) {bs : Nat} {w : World} (hb : Bw w [boxO bs [.int .i64 s_rules.pits, .int .i64 s_rules.seeds, .bool s_rules.stores, .bool s_rules.skip, .bool s_rules.relay, .bool s_rules.feed, .bool s_rules.again, .int .i64 s_rules.capture, .int .i64 s_rules.slam, .int .i64 s_player, .slice As_10 s_sown.pits.length cs_10, .slice As_11 s_sown.stores.length cs_11, .int .i64 s_sown.last, .int .i64 s_sown.laps, .slice As_14 s_path.length cs_14] 216, rowO 2 1 (.slice As_10 s_sown.pits.length cs_10) s_sown.pits.length (ints_ s_sown.pits) gs_10, rowO 2 1 (.slice As_11 s_sown.stores.length cs_11) s_sown.stores.length (ints_ s_sown.stores) gs_11, rowO 2 1 (.slice As_14 s_path.length cs_14) s_path.length (ints_ s_path) gs_14]) (bd0 : s_sown.pits.length ≤ cs_10 := by exact om_) (bd1 : cs_10 ≤ 9223372036854775807 := by exact om_) (bd2 : s_sown.stores.length ≤ cs_11 := by exact om_) (bd3 : cs_11 ≤ 9223372036854775807 := by exact om_) (bd4 : s_path.length ≤ cs_14 := by exact om_) (bd5 : cs_14 ≤ 9223372036854775807 := by exact om_) (r0 : 2 ≤ s_rules.pits := by exact om_) (r1 : s_rules.pits ≤ 8 := by exact om_) (r2 : s_player = 0 ∨ s_player = 1 := by exact om_) (r3 : 0 ≤ from_ := by exact om_) (r4 : from_ < 2 * s_rules.pits := by exact om_) (r5 : M.Good s_rules s_sown.pits s_sown.stores 0 := by exact om_) (r6 : 0 < (M.getI s_sown.pits from_) := by exact om_) (r7 : s_sown.laps = 0 := by exact om_) (r8 : s_path.length = 0 := by exact om_) : RetB Tryz.prog 185 [.pointer (some ⟨bs, 0, none⟩), .int .i64 from_] w [boxO bs [.int .i64 s_rules.pits, .int .i64 s_rules.seeds, .bool s_rules.stores, .bool s_rules.skip, .bool s_rules.relay, .bool s_rules.feed, .bool s_rules.again, .int .i64 s_rules.capture, .int .i64 s_rules.slam, .int .i64 s_player, .slice As_10 s_sown.pits.length cs_10, .slice As_11 s_sown.stores.length cs_11, .int .i64 s_sown.last, .int .i64 s_sown.laps, .slice As_14 s_path.length cs_14] 216, rowO 2 1 (.slice As_10 s_sown.pits.length cs_10) s_sown.pits.length (ints_ s_sown.pits) gs_10, rowO 2 1 (.slice As_11 s_sown.stores.length cs_11) s_sown.stores.length (ints_ s_sown.stores) gs_11, rowO 2 1 (.slice As_14 s_path.length cs_14) s_path.length (ints_ s_path) gs_14] (fun v bs' => ∃ (Axs_10 : Option Addr) (cxs_10 : Nat) (gxs_10 : List Nat) (Axs_11 : Option Addr) (cxs_11 : Nat) (gxs_11 : List Nat) (Axs_14 : Option Addr) (cxs_14 : Nat) (gxs_14 : List Nat), v = .bool ((M.mvT s_rules s_player 100 from_ s_sown s_path).1) ∧ bs' = [boxO bs [.int .i64 s_rules.pits, .int .i64 s_rules.seeds, .bool s_rules.stores, .bool s_rules.skip, .bool s_rules.relay, .bool s_rules.feed, .bool s_rules.again, .int .i64 s_rules.capture, .int .i64 s_rules.slam, .int .i64 s_player, .slice Axs_10 ((((M.mvT s_rules s_player 100 from_ s_sown s_path).2.1).pits).length) cxs_10, .slice Axs_11 ((((M.mvT s_rules s_player 100 from_ s_sown s_path).2.1).stores).length) cxs_11, .int .i64 (((M.mvT s_rules s_player 100 from_ s_sown s_path).2.1).last), .int .i64 (((M.mvT s_rules s_player 100 from_ s_sown s_path).2.1).laps), .slice Axs_14 (((M.mvT s_rules s_player 100 from_ s_sown s_path).2.2).length) cxs_14] 216, rowO 2 1 (.slice Axs_10 ((((M.mvT s_rules s_player 100 from_ s_sown s_path).2.1).pits).length) cxs_10) ((((M.mvT s_rules s_player 100 from_ s_sown s_path).2.1).pits).length) (ints_ (((M.mvT s_rules s_player 100 from_ s_sown s_path).2.1).pits)) gxs_10, rowO 2 1 (.slice Axs_11 ((((M.mvT s_rules s_player 100 from_ s_sown s_path).2.1).stores).length) cxs_11) ((((M.mvT s_rules s_player 100 from_ s_sown s_path).2.1).stores).length) (ints_ (((M.mvT s_rules s_player 100 from_ s_sown s_path).2.1).stores)) gxs_11, rowO 2 1 (.slice Axs_14 (((M.mvT s_rules s_player 100 from_ s_sown s_path).2.2).length) cxs_14) (((M.mvT s_rules s_player 100 from_ s_sown s_path).2.2).length) (ints_ ((M.mvT s_rules s_player 100 from_ s_sown s_path).2.2)) gxs_14] ∧ (((M.mvT s_rules s_player 100 from_ s_sown s_path).2.1).pits).length ≤ cxs_10 ∧ cxs_10 ≤ 9223372036854775807 ∧ (((M.mvT s_rules s_player 100 from_ s_sown s_path).2.1).stores).length ≤ cxs_11 ∧ cxs_11 ≤ 9223372036854775807 ∧ ((M.mvT s_rules s_player 100 from_ s_sown s_path).2.2).length ≤ cxs_14 ∧ cxs_14 ≤ 9223372036854775807) := by
 refine enterB hb @Tryz.func185 @Tryz.ntmps185 rfl rfl ?_
 refine zent ?_
 refine Js.trashE ?_
 refine zn ?_
 refine zS <| Qa rfl <| zJ <| Js.block ?_
 refine zl [0] (fun F U l os u m => ∃ (frm : Int) (sw : M.Sw) (path : List Int) (A1_0_10 : Option Addr) (c1_0_10 : Nat) (g1_0_10 : List Nat) (A1_0_11 : Option Addr) (c1_0_11 : Nat) (g1_0_11 : List Nat) (A1_0_14 : Option Addr) (c1_0_14 : Nat) (g1_0_14 : List Nat) (G1_4 : List Nat), l = F [(1, .int .i64 frm)] ∧ os = U [some (boxO bs [.int .i64 s_rules.pits, .int .i64 s_rules.seeds, .bool s_rules.stores, .bool s_rules.skip, .bool s_rules.relay, .bool s_rules.feed, .bool s_rules.again, .int .i64 s_rules.capture, .int .i64 s_rules.slam, .int .i64 s_player, .slice A1_0_10 sw.pits.length c1_0_10, .slice A1_0_11 sw.stores.length c1_0_11, .int .i64 sw.last, .int .i64 sw.laps, .slice A1_0_14 path.length c1_0_14] 216), some (rowO 2 1 (.slice A1_0_10 sw.pits.length c1_0_10) sw.pits.length (ints_ sw.pits) g1_0_10), some (rowO 2 1 (.slice A1_0_11 sw.stores.length c1_0_11) sw.stores.length (ints_ sw.stores) g1_0_11), some (rowO 2 1 (.slice A1_0_14 path.length c1_0_14) path.length (ints_ path) g1_0_14), some (anyO G1_4)] ∧ (M.mvT s_rules s_player (100 - sw.laps).toNat frm sw path = M.mvT s_rules s_player 100 from_ s_sown s_path) ∧ (M.Good s_rules sw.pits sw.stores 0) ∧ (0 ≤ frm) ∧ (frm < 2 * s_rules.pits) ∧ (0 < M.getI sw.pits frm) ∧ (0 ≤ sw.laps) ∧ (sw.laps ≤ 99) ∧ (path.length ≤ 96 * sw.laps) ∧ (sw.pits.length ≤ c1_0_10) ∧ (c1_0_10 ≤ 9223372036854775807) ∧ (sw.stores.length ≤ c1_0_11) ∧ (c1_0_11 ≤ 9223372036854775807) ∧ (path.length ≤ c1_0_14) ∧ (c1_0_14 ≤ 9223372036854775807) ∧ m = (100 - sw.laps).toNat) ⟨from_, s_sown, s_path, _, _, _, _, _, _, _, _, _, _, rfl, rfl, by rw [r7]; rfl, by exact r5, zt, zt, by exact r6, zt, zt, zt, zu, zu, zu, zu, zu, zu, rfl⟩ ?_
 rintro _ _ u1 _ ⟨frm, sw, path, A1_0_10, c1_0_10, g1_0_10, A1_0_11, c1_0_11, g1_0_11, A1_0_14, c1_0_14, g1_0_14, G1_4, rfl, rfl, hS, hG, f0, f1, hg, la0, la1, hl, f1_8, f1_9, f1_10, f1_11, f1_12, f1_13, rfl⟩ x1
 refine zn ?_
 obtain ⟨ha, hb1, hc, hd, he, hf⟩ := M.lap_keeps s_rules path r1 r0 r2 f0 f1 hG
 refine Js.seq <| zS <| Qm rfl <| Qm rfl <| zBB 4 sp_ rfl (fun w hb _ hw => c_impl_sowing_lap s_rules s_player sw path frm hb) ?_
 rintro _ _ G2 ⟨A2s_10, c2s_10, g2s_10, A2s_11, c2s_11, g2s_11, A2s_14, c2s_14, g2s_14, rfl, rfl, bl2_0, bl2_1, bl2_2, bl2_3, bl2_4, bl2_5⟩
 refine znl ?_
 refine JL.nil ?_
 refine zi (fun h3 h3' => ?_) fun h3 h3' => ?_
 ·
  have hm2 := M.more_get h3
  refine Js.skip <| Js.block <| Js.seq <| zS <| Qm rfl <| Qc rfl <| Qf fh rfl <| Qf fh rfl <| Q0 0 rfl rfl rfl <| Qe rfl rfl <| JL.nil ?_
  refine zi (fun h4 h4' => ?_) fun h4 h4' => ?_
  ·
   have hL : M.mvT s_rules s_player 100 from_ s_sown s_path = (false, (M.lap s_rules s_player frm sw path).1, (M.lap s_rules s_player frm sw path).2) := by rw [← hS, show (100 - sw.laps).toNat = 0 + 1 by omega, M.mvT_yes (by assumption)]; rfl
   refine zS <| Qa rfl <| JL.nil ?_
   refine zrb [0, 0, 0, 0] hb x1 ?_
   have hE : (.bool false : Value) = .bool ((M.mvT s_rules s_player 100 from_ s_sown s_path).1) := by rw [hL]
   have hN11 : (((M.mvT s_rules s_player 100 from_ s_sown s_path).2.1).pits).length = (((M.lap s_rules s_player frm sw path).1).pits).length := by rw [hL]
   have hE11 : ((M.mvT s_rules s_player 100 from_ s_sown s_path).2.1).pits = (((M.lap s_rules s_player frm sw path).1).pits) := by rw [hL]
   have hN12 : (((M.mvT s_rules s_player 100 from_ s_sown s_path).2.1).stores).length = (((M.lap s_rules s_player frm sw path).1).stores).length := by rw [hL]
   have hE12 : ((M.mvT s_rules s_player 100 from_ s_sown s_path).2.1).stores = (((M.lap s_rules s_player frm sw path).1).stores) := by rw [hL]
   have hE13 : ((M.mvT s_rules s_player 100 from_ s_sown s_path).2.1).last = (((M.lap s_rules s_player frm sw path).1).last) := by rw [hL]
   have hE14 : ((M.mvT s_rules s_player 100 from_ s_sown s_path).2.1).laps = (((M.lap s_rules s_player frm sw path).1).laps) := by rw [hL]
   have hN15 : ((M.mvT s_rules s_player 100 from_ s_sown s_path).2.2).length = ((M.lap s_rules s_player frm sw path).2).length := by rw [hL]
   have hE15 : (M.mvT s_rules s_player 100 from_ s_sown s_path).2.2 = ((M.lap s_rules s_player frm sw path).2) := by rw [hL]
   refine ⟨A2s_10, c2s_10, g2s_10, A2s_11, c2s_11, g2s_11, A2s_14, c2s_14, g2s_14, hE, ?_, ?_, ?_, ?_, ?_, ?_, ?_⟩
   · rw [hN11, hE11, hN12, hE12, hE13, hE14, hN15, hE15]
   all_goals (first | (rw [hN11, hE11, hN12, hE12, hE13, hE14, hN15, hE15]; omega) | omega | (simp only [*]; omega))
  have hS2 : M.mvT s_rules s_player (100 - (M.lap s_rules s_player frm sw path).1.laps).toNat (M.lap s_rules s_player frm sw path).1.last (M.lap s_rules s_player frm sw path).1 (M.lap s_rules s_player frm sw path).2 = M.mvT s_rules s_player 100 from_ s_sown s_path := by rw [← hS, hf, show (100 - sw.laps).toNat = (100 - (sw.laps + 1)).toNat + 1 by omega, M.mvT_yes (by assumption)]
  refine Js.skip <| Js.region <| Qm rfl <| Qc rfl <| Qf fh rfl <| Qf fh rfl <| Q0 0 rfl rfl rfl <| Qa rfl <| JL.nil <| Js.blockEnd ?_
  refine zf [0, 0, 0, 0] fun GG5 => ?_
  refine zn ?_
  exact zag ⟨((M.lap s_rules s_player frm sw path).1).last, (M.lap s_rules s_player frm sw path).1, (M.lap s_rules s_player frm sw path).2, _, _, _, _, _, _, _, _, _, _, rfl, rfl, by exact hS2, by exact ha, by exact hm2.1, by exact hc, by omega, by omega, by omega, by omega, zu, zu, zu, zu, zu, zu, rfl⟩ x1
 have hL : M.mvT s_rules s_player 100 from_ s_sown s_path = (true, (M.lap s_rules s_player frm sw path).1, (M.lap s_rules s_player frm sw path).2) := by rw [← hS, show (100 - sw.laps).toNat = (99 - sw.laps).toNat + 1 by omega, M.mvT_no h3]
 refine zx ?_
 refine zS <| Qa rfl <| JL.nil ?_
 refine zrb [0, 0, 0, 0] hb x1 ?_
 have hE : (.bool true : Value) = .bool ((M.mvT s_rules s_player 100 from_ s_sown s_path).1) := by rw [hL]
 have hN11 : (((M.mvT s_rules s_player 100 from_ s_sown s_path).2.1).pits).length = (((M.lap s_rules s_player frm sw path).1).pits).length := by rw [hL]
 have hE11 : ((M.mvT s_rules s_player 100 from_ s_sown s_path).2.1).pits = (((M.lap s_rules s_player frm sw path).1).pits) := by rw [hL]
 have hN12 : (((M.mvT s_rules s_player 100 from_ s_sown s_path).2.1).stores).length = (((M.lap s_rules s_player frm sw path).1).stores).length := by rw [hL]
 have hE12 : ((M.mvT s_rules s_player 100 from_ s_sown s_path).2.1).stores = (((M.lap s_rules s_player frm sw path).1).stores) := by rw [hL]
 have hE13 : ((M.mvT s_rules s_player 100 from_ s_sown s_path).2.1).last = (((M.lap s_rules s_player frm sw path).1).last) := by rw [hL]
 have hE14 : ((M.mvT s_rules s_player 100 from_ s_sown s_path).2.1).laps = (((M.lap s_rules s_player frm sw path).1).laps) := by rw [hL]
 have hN15 : ((M.mvT s_rules s_player 100 from_ s_sown s_path).2.2).length = ((M.lap s_rules s_player frm sw path).2).length := by rw [hL]
 have hE15 : (M.mvT s_rules s_player 100 from_ s_sown s_path).2.2 = ((M.lap s_rules s_player frm sw path).2) := by rw [hL]
 refine ⟨A2s_10, c2s_10, g2s_10, A2s_11, c2s_11, g2s_11, A2s_14, c2s_14, g2s_14, hE, ?_, ?_, ?_, ?_, ?_, ?_, ?_⟩
 · rw [hN11, hE11, hN12, hE12, hE13, hE14, hN15, hE15]
 all_goals (first | (rw [hN11, hE11, hN12, hE12, hE13, hE14, hN15, hE15]; omega) | omega | (simp only [*]; omega))
theorem c_impl_sowMove (r : M.Rul) {v_r : Value} (p : M.Pos) {v_p : Value} (move : Int) {w : World} (h_r : (Ty.agg (cRules r)).ok w v_r) (h_p : (Ty.agg (cPosition p)).ok w v_p) (r0 : p.pits.length ≤ 4194304 := by exact om_) (r1 : p.stores.length ≤ 4194304 := by exact om_) : Ret Tryz.prog 166 [v_r, v_p, .int .i64 move] w (Ty.tup [Ty.opt (decide ((M.sowMove r p move).1 = 0)) (Ty.box 216 (csowing (M.Sow.mk r p.player (M.sowMove r p move).2.1 (M.sowMove r p move).2.2))), Ty.int ((M.sowMove r p move).1)]) := by
 revert v_r; apply opn
 revert v_p; apply opn
 intro A1 c1 h1 bl1 bh1 A2 c2 h2 bl2 bh2
 refine enter @Tryz.func166 @Tryz.ntmps166 rfl rfl ?_
 refine zent ?_
 refine zS <| zb rfl fun b3 => zb rfl fun b4 => Qa rfl <| Qa rfl <| zJ <| zS <| Q9 1 rfl rfl ?_
 refine Q9 0 rfl rfl ?_
 refine Qm rfl <| zv rfl (fun w hw => c_impl_sowCode r p move (ok_ hw) (ok_ hw)) <| Qa rfl <| zN <| Qm rfl <| Qd rfl rfl <| JL.nil ?_
 refine zi (fun h5 h5' => ?_) fun h5 h5' => ?_
 ·
  have hn : M.sowCode r p move ≠ 0 := by simpa using h5
  have hM := M.sowMove_code hn
  have hM0 : ¬ M.sowCode r p move = 0 := hn
  have hq0 : (decide ((M.sowMove r p move).1 = 0)) = false := by rw [hM]; simpa using hM0
  have hq1 : (M.sowCode r p move) = (M.sowMove r p move).1 := by rw [hM]
  refine zS <| Qm rfl <| Qa rfl <| Qa rfl <| JL.nil ?_
  exact zro (Up.refl _ _)
 have hc0 : M.sowCode r p move = 0 := by simpa using h5
 obtain ⟨hok, m0, m1, hg0⟩ := M.sowCode_ok hc0
 obtain ⟨g1, g2, g3, g4, g5, g6, g7⟩ := M.okP_bd hok
 have hq := M.mul_bd g7 g1 g2
 have hG := M.Good.of_ok hok
 refine Js.skip <| zS <| Q9 1 rfl rfl ?_
 refine Q9 0 rfl rfl ?_
 refine zcs rfl (fun w hw => c_impl_newSowing r p (ok_ hw) (ok_ hw)) ?_
 intro b6 A7 c7 bl7 bh7 A8 c8 bl8 bh8 A9 c9 bl9 bh9
 refine Qa rfl <| zJ <| zS <| Qm rfl <| Q9 5 rfl rfl ?_
 refine Qf fh rfl <| Q0 4 rfl rfl rfl <| Qm rfl <| zv rfl (fun w hw => c_impl_Rules_pitOf r p.player move (ok_ hw)) ?_
 refine zhl [0, 2, 1, 0] ?_
 refine zB 4 sp_ rfl (fun w hb hw => c_impl_sowing_move r p.player (M.Sw.mk p.pits p.stores 0 0) [] (p.player * r.pits + move) hb (r5 := hG) (r6 := hg0) (r7 := rfl) (r8 := rfl)) ?_
 rintro _ _ G10 ⟨A10s_10, c10s_10, g10s_10, A10s_11, c10s_11, g10s_11, A10s_14, c10s_14, g10s_14, rfl, rfl, bl10_0, bl10_1, bl10_2, bl10_3, bl10_4, bl10_5⟩
 refine znl ?_
 refine Qt rfl <| JL.nil ?_
 refine zi (fun h11 h11' => ?_) fun h11 h11' => ?_
 ·
  have hM := M.sowMove_end hc0 (by simpa using h11)
  have hq0 : (decide ((M.sowMove r p move).1 = 0)) = false := by rw [hM]; rfl
  have hq1 : 10 = (M.sowMove r p move).1 := by rw [hM]
  refine zS <| Qa rfl <| Qa rfl <| JL.nil ?_
  exact zro (Up.refl _ _)
 have hM := M.sowMove_yes hc0 (by simpa using h11)
 have hq0 : (decide ((M.sowMove r p move).1 = 0)) = true := by rw [hM]; rfl
 have hq1 : (((M.mvT r p.player 100 (p.player * r.pits + move) (M.Sw.mk p.pits p.stores 0 0) []).2.1).pits) = ((M.sowMove r p move).2.1).pits := by rw [hM]
 have hq2 : (((M.mvT r p.player 100 (p.player * r.pits + move) (M.Sw.mk p.pits p.stores 0 0) []).2.1).stores) = ((M.sowMove r p move).2.1).stores := by rw [hM]
 have hq3 : (((M.mvT r p.player 100 (p.player * r.pits + move) (M.Sw.mk p.pits p.stores 0 0) []).2.1).last) = ((M.sowMove r p move).2.1).last := by rw [hM]
 have hq4 : (((M.mvT r p.player 100 (p.player * r.pits + move) (M.Sw.mk p.pits p.stores 0 0) []).2.1).laps) = ((M.sowMove r p move).2.1).laps := by rw [hM]
 have hq5 : ((M.mvT r p.player 100 (p.player * r.pits + move) (M.Sw.mk p.pits p.stores 0 0) []).2.2) = (M.sowMove r p move).2.2 := by rw [hM]
 have hq6 : 0 = (M.sowMove r p move).1 := by rw [hM]
 refine Js.skip <| zS <| Qm rfl <| Qa rfl <| Qa rfl <| JL.nil ?_
 exact zro (Up.refl _ _)
end Go.Proofs.YtcmfnlleikcpnaaGreat

/- Walks: D26. -/
import Derived.Test.YtmgnckfhghibeaaZdA3
import Derived.Test.YtmgnckfhghibeaaZdA6
import Derived.Test.YtmgnckfhghibeaaZdA7
set_option linter.unusedSimpArgs false
set_option linter.unusedVariables false
set_option maxRecDepth 100000
attribute [local irreducible] Go.Proofs.Ytmgnckfhghibeaa.gv
set_option maxHeartbeats 16000000
namespace Go.Proofs.Ytmgnckfhghibeaa
open Go.RowKit
theorem c_spec_l16Draw (s_code : Nat) (s_at s_seed : Int) {As_0 : Option Addr} {cs_0 bs : Nat} {w : World} (hb : Bw w [boxO bs [.slice As_0 s_code cs_0, .int .i64 s_at, .int .u64 s_seed] 91]) (hps_0 : (Ty.bytes 5 s_code).ok (offW w (([boxO bs [.slice As_0 s_code cs_0, .int .i64 s_at, .int .u64 s_seed] 91] : List Own).flatMap (·.fp))) (.slice As_0 s_code cs_0)) (r0 : 0 ≤ s_at := by exact om_) (r1 : s_at ≤ 999994700 := by exact om_) (r2 : s_code ≤ 1048576 := by exact om_) : RetB Try.prog 54 [.pointer (some ⟨bs, 0, none⟩)] w [boxO bs [.slice As_0 s_code cs_0, .int .i64 s_at, .int .u64 s_seed] 91] (fun v bs' => ∃ (MX : M.Mem) (PX : M.Pos) (AT SD : Int) (Axra_9 : Option Addr) (cxra_9 : Nat) (gxra_9 : List Nat) (vsxra_9 : List Value) (fxra_9 : List Nat) (Axrb_0 : Option Addr) (cxrb_0 : Nat) (Axrb_1 : Option Addr) (cxrb_1 : Nat) (gxrb_1 : List Nat), v = .tuple #[.agg #[.int .i64 MX.rules.pits, .int .i64 MX.rules.seeds, .bool MX.rules.stores, .bool MX.rules.skip, .bool MX.rules.relay, .bool MX.rules.feed, .bool MX.rules.again, .int .i64 MX.rules.capture, .int .i64 MX.rules.slam, .slice Axra_9 MX.slots.length cxra_9], .agg #[.slice Axrb_0 PX.pits.length cxrb_0, .slice Axrb_1 PX.stores.length cxrb_1, .int .i64 PX.player]] ∧ bs' = [boxO bs [.slice As_0 s_code cs_0, .int .i64 AT, .int .u64 SD] 91, rowO 45 6 (.slice Axra_9 MX.slots.length cxra_9) MX.slots.length vsxra_9 gxra_9, ownC (lSlot MX.slots) vsxra_9 fxra_9, rxO 2 (.slice Axrb_0 PX.pits.length cxrb_0) PX.pits.length (ints_ PX.pits), rowO 2 1 (.slice Axrb_1 PX.stores.length cxrb_1) PX.stores.length (ints_ PX.stores) gxrb_1] ∧ MX.slots.length ≤ cxra_9 ∧ cxra_9 ≤ 9223372036854775807 ∧ PX.pits.length ≤ cxrb_0 ∧ cxrb_0 ≤ 9223372036854775807 ∧ PX.stores.length ≤ cxrb_1 ∧ cxrb_1 ≤ 9223372036854775807 ∧ (MX.slots.length ≤ 64 ∧ M.SzM 16 MX.slots) ∧ (PX.pits.length ≤ 4194304 ∧ PX.stores.length ≤ 4194304) ∧ (s_at ≤ AT) ∧ (AT ≤ s_at + 5300)) := by
 refine enterB hb @Try.func54 @Try.ntmps54 rfl rfl ?_
 refine zent ?_
 refine Js.trashE ?_
 refine zn ?_
 refine zS <| za zeh fun b1 => za zeh fun b2 => zN <| Qm rfl ?_
 refine zhl [2] ?_
 refine zBB 1 sp_ rfl (fun w hb _ hw => c_spec_l15Draw s_code s_at s_seed hb (ok_ hw)) ?_
 rintro _ _ G3 ⟨X3RX, X3PX, X3AT, X3SD, A3rb_0, c3rb_0, A3rb_1, c3rb_1, g3rb_1, rfl, rfl, bl3_0, bl3_1, bl3_2, bl3_3, hX3_0, hX3_1, hX3_2, hX3_3⟩
 refine znl ?_
 refine Qm rfl <| Qx rfl rfl <| Qx rfl rfl <| za zeh fun b4 => za zeh fun b5 => zw 1 rfl rfl rfl ?_
 refine zw 0 rfl rfl rfl ?_
 refine JL.nil ?_
 refine zf [0, 0, 0, 0, 0, 1, 1] fun GG6 => ?_
 refine zn ?_
 refine Js.seq ?_
 refine zk [0, 2, 3, 4, 5] (fun F U l os u => ∃ (b11 : Nat) (X7KX : Int) (A10 : Option Addr) (c10 : Nat) (vs10 : List Value) (f10 G7 : List Nat) (X7AT X7SD : Int), l = F [(6, .pointer (some ⟨b11, 0, none⟩))] ∧ os = [boxO b11 [.int .i64 ((((M.newM X3RX (1 + X7KX)).1).rules).pits), .int .i64 ((((M.newM X3RX (1 + X7KX)).1).rules).seeds), .bool ((((M.newM X3RX (1 + X7KX)).1).rules).stores), .bool ((((M.newM X3RX (1 + X7KX)).1).rules).skip), .bool ((((M.newM X3RX (1 + X7KX)).1).rules).relay), .bool ((((M.newM X3RX (1 + X7KX)).1).rules).feed), .bool ((((M.newM X3RX (1 + X7KX)).1).rules).again), .int .i64 ((((M.newM X3RX (1 + X7KX)).1).rules).capture), .int .i64 ((((M.newM X3RX (1 + X7KX)).1).rules).slam), .slice A10 ((((M.newM X3RX (1 + X7KX)).1).slots).length) c10] 28, rowO 45 6 (.slice A10 ((((M.newM X3RX (1 + X7KX)).1).slots).length) c10) ((((M.newM X3RX (1 + X7KX)).1).slots).length) vs10 [], ownC (lSlot (((M.newM X3RX (1 + X7KX)).1).slots)) vs10 f10, anyO G7] ++ U [nO, nO, some (boxO bs [.slice As_0 s_code cs_0, .int .i64 X7AT, .int .u64 X7SD] 91)] ∧ ((((M.newM X3RX (1 + X7KX)).1).slots).length ≤ c10) ∧ (c10 ≤ 9223372036854775807) ∧ (0 ≤ X7KX) ∧ (X7KX = 0 ∨ X7KX < 24) ∧ (X3AT ≤ X7AT) ∧ (X7AT ≤ X3AT + 2)) ?_ ?_
 ·
  refine zdr [2, 9] ?_
  refine jM 1 rfl rfl ?_
  refine y3 0 2 8 ?_ ?_ ?_
  ·
   refine JHo.q rfl (L9 1 rfl rfl) ?_
   refine y2 2 8 ?_ ?_
   ·
    refine zhh [2] ?_
    refine yBB 1 sp_ rfl rfl (fun w hb _ hw => c_spec_l00Src_pick s_code X3AT X3SD 24 hb (ok_ hw)) ?_
    rintro _ _ G44 ⟨X44KX, X44AT, X44SD, rfl, rfl, hX44_0, hX44_1, hX44_2, hX44_3⟩
    refine znh ?_
    refine JH.p 3 rfl (p_add rfl rfl (IntWalk.i64_in _ (by omega))) ?_
    refine y2 4 8 ?_ ?_
    ·
     refine yc rfl rfl (fun w hw => c_spec_NewMemory X3RX (1 + X44KX) (okx_ hw)) ?_
     intro A47 c47 vs47 f47 bl47 bh47
     refine jM 5 rfl rfl ?_
     refine JH.p 6 rfl (p_extract rfl rfl) ?_
     refine JH.p 7 rfl (p_extract rfl rfl) ?_
     refine y1 8 ?_
     refine ya rfl fun b48 => ?_
     refine y1 9 ?_
     refine yst rfl rfl rfl ?_
     refine jA 10 rfl rfl ?_
     refine yd ?_
     refine zh [0, 0, 0, 1, 1, 1, 0, 0, 0, 0, 0, 0] ?_
     exact zm ⟨_, _, _, _, _, _, _, _, _, rfl, rfl, zt, zt, zt, zt, zt, zt⟩ (Up.refl _ _) ⟨rfl, rfl, rfl, rfl, rfl, rfl, trivial⟩
    refine ya rfl fun b49 => ?_
    refine y1 4 ?_
    refine yc rfl rfl (fun w hw => c_spec_NewMemory X3RX (1 + X44KX) (okx_ hw)) ?_
    intro A52 c52 vs52 f52 bl52 bh52
    refine jM 5 rfl rfl ?_
    refine JH.p 6 rfl (p_extract rfl rfl) ?_
    refine JH.p 7 rfl (p_extract rfl rfl) ?_
    refine y1 9 ?_
    refine yst rfl rfl rfl ?_
    refine jA 10 rfl rfl ?_
    refine yd ?_
    refine zh [2, 0, 0, 1, 1, 1, 0, 0, 0, 0, 0, 0] ?_
    exact zm ⟨_, _, _, _, _, _, _, _, _, rfl, rfl, zt, zt, zt, zt, zt, zt⟩ (Up.refl _ _) ⟨rfl, rfl, rfl, rfl, rfl, rfl, trivial⟩
   refine ya rfl fun b53 => ?_
   refine y1 2 ?_
   refine zhh [3] ?_
   refine yBB 1 sp_ rfl rfl (fun w hb _ hw => c_spec_l00Src_pick s_code X3AT X3SD 24 hb (ok_ hw)) ?_
   rintro _ _ G54 ⟨X54KX, X54AT, X54SD, rfl, rfl, hX54_0, hX54_1, hX54_2, hX54_3⟩
   refine znh ?_
   refine JH.p 3 rfl (p_add rfl rfl (IntWalk.i64_in _ (by omega))) ?_
   refine y1 4 ?_
   refine yc rfl rfl (fun w hw => c_spec_NewMemory X3RX (1 + X54KX) (okx_ hw)) ?_
   intro A57 c57 vs57 f57 bl57 bh57
   refine jM 5 rfl rfl ?_
   refine JH.p 6 rfl (p_extract rfl rfl) ?_
   refine JH.p 7 rfl (p_extract rfl rfl) ?_
   refine y1 9 ?_
   refine yst rfl rfl rfl ?_
   refine jA 10 rfl rfl ?_
   refine yd ?_
   refine zh [4, 0, 0, 1, 1, 1, 0, 0, 0, 0, 0, 0] ?_
   exact zm ⟨_, _, _, _, _, _, _, _, _, rfl, rfl, zt, zt, zt, zt, zt, zt⟩ (Up.refl _ _) ⟨rfl, rfl, rfl, rfl, rfl, rfl, trivial⟩
  ·
   refine zhh [2] ?_
   refine yBB 1 sp_ rfl rfl (fun w hb _ hw => c_spec_l00Src_pick s_code X3AT X3SD 24 hb (ok_ hw)) ?_
   rintro _ _ G58 ⟨X58KX, X58AT, X58SD, rfl, rfl, hX58_0, hX58_1, hX58_2, hX58_3⟩
   refine znh ?_
   refine JH.p 3 rfl (p_add rfl rfl (IntWalk.i64_in _ (by omega))) ?_
   refine y2 0 8 ?_ ?_
   ·
    refine JHo.q rfl (L9 3 rfl rfl) ?_
    refine y2 4 8 ?_ ?_
    ·
     refine yc rfl rfl (fun w hw => c_spec_NewMemory X3RX (1 + X58KX) (okx_ hw)) ?_
     intro A61 c61 vs61 f61 bl61 bh61
     refine jM 5 rfl rfl ?_
     refine JH.p 6 rfl (p_extract rfl rfl) ?_
     refine JH.p 7 rfl (p_extract rfl rfl) ?_
     refine y1 8 ?_
     refine ya rfl fun b62 => ?_
     refine y1 9 ?_
     refine yst rfl rfl rfl ?_
     refine jA 10 rfl rfl ?_
     refine yd ?_
     refine zh [0, 0, 0, 1, 1, 1, 0, 0, 0, 0, 0, 0] ?_
     exact zm ⟨_, _, _, _, _, _, _, _, _, rfl, rfl, zt, zt, zt, zt, zt, zt⟩ (Up.refl _ _) ⟨rfl, rfl, rfl, rfl, rfl, rfl, trivial⟩
    refine ya rfl fun b63 => ?_
    refine y1 4 ?_
    refine yc rfl rfl (fun w hw => c_spec_NewMemory X3RX (1 + X58KX) (okx_ hw)) ?_
    intro A66 c66 vs66 f66 bl66 bh66
    refine jM 5 rfl rfl ?_
    refine JH.p 6 rfl (p_extract rfl rfl) ?_
    refine JH.p 7 rfl (p_extract rfl rfl) ?_
    refine y1 9 ?_
    refine yst rfl rfl rfl ?_
    refine jA 10 rfl rfl ?_
    refine yd ?_
    refine zh [2, 0, 0, 1, 1, 1, 0, 0, 0, 0, 0, 0] ?_
    exact zm ⟨_, _, _, _, _, _, _, _, _, rfl, rfl, zt, zt, zt, zt, zt, zt⟩ (Up.refl _ _) ⟨rfl, rfl, rfl, rfl, rfl, rfl, trivial⟩
   refine ya rfl fun b67 => ?_
   refine y1 0 ?_
   refine JHo.q rfl (L9 4 rfl rfl) ?_
   refine y1 4 ?_
   refine yc rfl rfl (fun w hw => c_spec_NewMemory X3RX (1 + X58KX) (okx_ hw)) ?_
   intro A70 c70 vs70 f70 bl70 bh70
   refine jM 5 rfl rfl ?_
   refine JH.p 6 rfl (p_extract rfl rfl) ?_
   refine JH.p 7 rfl (p_extract rfl rfl) ?_
   refine y1 9 ?_
   refine yst rfl rfl rfl ?_
   refine jA 10 rfl rfl ?_
   refine yd ?_
   refine zh [2, 0, 0, 1, 1, 1, 0, 0, 0, 0, 0, 0] ?_
   exact zm ⟨_, _, _, _, _, _, _, _, _, rfl, rfl, zt, zt, zt, zt, zt, zt⟩ (Up.refl _ _) ⟨rfl, rfl, rfl, rfl, rfl, rfl, trivial⟩
  refine ya rfl fun b71 => ?_
  refine y2 0 2 ?_ ?_
  ·
   refine JHo.q rfl (L9 2 rfl rfl) ?_
   refine y1 2 ?_
   refine zhh [3] ?_
   refine yBB 1 sp_ rfl rfl (fun w hb _ hw => c_spec_l00Src_pick s_code X3AT X3SD 24 hb (ok_ hw)) ?_
   rintro _ _ G72 ⟨X72KX, X72AT, X72SD, rfl, rfl, hX72_0, hX72_1, hX72_2, hX72_3⟩
   refine znh ?_
   refine JH.p 3 rfl (p_add rfl rfl (IntWalk.i64_in _ (by omega))) ?_
   refine y1 4 ?_
   refine yc rfl rfl (fun w hw => c_spec_NewMemory X3RX (1 + X72KX) (okx_ hw)) ?_
   intro A75 c75 vs75 f75 bl75 bh75
   refine jM 5 rfl rfl ?_
   refine JH.p 6 rfl (p_extract rfl rfl) ?_
   refine JH.p 7 rfl (p_extract rfl rfl) ?_
   refine y1 9 ?_
   refine yst rfl rfl rfl ?_
   refine jA 10 rfl rfl ?_
   refine yd ?_
   refine zh [4, 0, 0, 1, 1, 1, 0, 0, 0, 0, 0, 0] ?_
   exact zm ⟨_, _, _, _, _, _, _, _, _, rfl, rfl, zt, zt, zt, zt, zt, zt⟩ (Up.refl _ _) ⟨rfl, rfl, rfl, rfl, rfl, rfl, trivial⟩
  refine zhh [3] ?_
  refine yBB 1 sp_ rfl rfl (fun w hb _ hw => c_spec_l00Src_pick s_code X3AT X3SD 24 hb (ok_ hw)) ?_
  rintro _ _ G76 ⟨X76KX, X76AT, X76SD, rfl, rfl, hX76_0, hX76_1, hX76_2, hX76_3⟩
  refine znh ?_
  refine JH.p 3 rfl (p_add rfl rfl (IntWalk.i64_in _ (by omega))) ?_
  refine y1 0 ?_
  refine JHo.q rfl (L9 4 rfl rfl) ?_
  refine y1 4 ?_
  refine yc rfl rfl (fun w hw => c_spec_NewMemory X3RX (1 + X76KX) (okx_ hw)) ?_
  intro A79 c79 vs79 f79 bl79 bh79
  refine jM 5 rfl rfl ?_
  refine JH.p 6 rfl (p_extract rfl rfl) ?_
  refine JH.p 7 rfl (p_extract rfl rfl) ?_
  refine y1 9 ?_
  refine yst rfl rfl rfl ?_
  refine jA 10 rfl rfl ?_
  refine yd ?_
  refine zh [4, 0, 0, 1, 1, 1, 0, 0, 0, 0, 0, 0] ?_
  exact zm ⟨_, _, _, _, _, _, _, _, _, rfl, rfl, zt, zt, zt, zt, zt, zt⟩ (Up.refl _ _) ⟨rfl, rfl, rfl, rfl, rfl, rfl, trivial⟩
 rintro _ _ u43 ⟨b11, X7KX, A10, c10, vs10, f10, G7, X7AT, X7SD, rfl, rfl, f43_0, f43_1, f43_2, f43_3, f43_4, f43_5⟩ x43
 refine zn ?_
 refine zf [0, 0, 0, 1, 1, 1, 1, 1, 1, 1] fun GG80 => ?_
 refine zn ?_
 refine Js.seq <| zS <| Qm rfl ?_
 refine zhl [5] ?_
 refine zBB 1 sp_ rfl (fun w hb _ hw => c_spec_l00Src_pick s_code X7AT X7SD 3 hb (ok_ hw)) ?_
 rintro _ _ G81 ⟨X81KX, X81AT, X81SD, rfl, rfl, hX81_0, hX81_1, hX81_2, hX81_3⟩
 refine znl ?_
 refine Qa rfl <| JL.nil ?_
 refine zf [0, 1, 1, 1, 1, 1, 1, 1, 1, 1] fun GG82 => ?_
 refine zn ?_
 refine Js.block ?_
 refine zl [0, 2, 3, 4, 5, 6] (fun F U l os u m => ∃ (k at1 sd1 : Int) (mr : M.Rul) (sl : List M.Slo) (ps ss : List Int) (pl : Int) (A83_6_9 : Option Addr) (c83_6_9 : Nat) (g83_6_9 : List Nat) (vs83_6_9 : List Value) (fl83_6_9 : List Nat) (A83_5_0 : Option Addr) (c83_5_0 : Nat) (A83_5_1 : Option Addr) (c83_5_1 : Nat) (g83_5_1 : List Nat) (G83_10 : List Nat), l = F [(8, .int .i64 k)] ∧ os = U [some (boxO bs [.slice As_0 s_code cs_0, .int .i64 at1, .int .u64 sd1] 91), some (boxO b11 [.int .i64 mr.pits, .int .i64 mr.seeds, .bool mr.stores, .bool mr.skip, .bool mr.relay, .bool mr.feed, .bool mr.again, .int .i64 mr.capture, .int .i64 mr.slam, .slice A83_6_9 sl.length c83_6_9] 28), some (rowO 45 6 (.slice A83_6_9 sl.length c83_6_9) sl.length vs83_6_9 g83_6_9), some (ownC (lSlot sl) vs83_6_9 fl83_6_9), some (boxO b5 [.slice A83_5_0 ps.length c83_5_0, .slice A83_5_1 ss.length c83_5_1, .int .i64 pl] 31), nO, some (rxO 2 (.slice A83_5_0 ps.length c83_5_0) ps.length (ints_ ps)), some (rowO 2 1 (.slice A83_5_1 ss.length c83_5_1) ss.length (ints_ ss) g83_5_1), nO, nO, some (anyO G83_10)] ∧ (0 ≤ k ∧ k ≤ 2) ∧ (s_at ≤ at1) ∧ (at1 + 12 * k ≤ s_at + 5280) ∧ (sl.length ≤ 64) ∧ (M.SzM 16 sl) ∧ (ps.length ≤ 4194304) ∧ (ss.length ≤ 4194304) ∧ (sl.length ≤ c83_6_9) ∧ (c83_6_9 ≤ 9223372036854775807) ∧ (ps.length ≤ c83_5_0) ∧ (c83_5_0 ≤ 9223372036854775807) ∧ (ss.length ≤ c83_5_1) ∧ (c83_5_1 ≤ 9223372036854775807) ∧ m = k.toNat) ⟨X81KX, X81AT, X81SD, (((M.newM X3RX (1 + X7KX)).1).rules), ((M.newM X3RX (1 + X7KX)).1).slots, X3PX.pits, X3PX.stores, X3PX.player, _, _, _, _, _, _, _, _, _, _, _, rfl, rfl, zt, zt, zt, by exact (M.newM_sz _ _).1, by exact (M.newM_sz _ _).2, zt, zt, zu, zu, zu, zu, zu, zu, rfl⟩ ?_
 rintro _ _ u83 _ ⟨k, at1, sd1, mr, sl, ps, ss, pl, A83_6_9, c83_6_9, g83_6_9, vs83_6_9, fl83_6_9, A83_5_0, c83_5_0, A83_5_1, c83_5_1, g83_5_1, G83_10, rfl, rfl, hk, ha0, ha1, hsl, hsz, hp1, hp2, f83_7, f83_8, f83_9, f83_10, f83_11, f83_12, rfl⟩ x83
 refine zn ?_
 refine Js.seq <| zS <| Qm rfl <| Qg rfl rfl <| JL.nil ?_
 refine zi (fun h84 h84' => ?_) fun h84 h84' => ?_
 ·
  refine Js.skip <| Js.seq <| Js.block <| zS <| Qm rfl <| zBB 1 sp_ rfl (fun w hb _ hw => c_spec_l00Src_pick s_code at1 sd1 3 hb (ok_ hw)) ?_
  rintro _ _ G85 ⟨X85KX, X85AT, X85SD, rfl, rfl, hX85_0, hX85_1, hX85_2, hX85_3⟩
  refine znl ?_
  refine Qp rfl rfl <| Qa rfl <| JL.nil ?_
  refine zf [0, 1, 1, 1, 1, 1, 1, 1, 1, 1] fun GG86 => ?_
  refine zn ?_
  refine zS <| Q9 1 rfl rfl ?_
  refine Q9 4 rfl rfl ?_
  refine Qm rfl <| zc rfl (fun w hw => c_spec_SearchWith (M.Mem.mk mr sl) (M.Pos.mk ps ss pl) (1 + X85KX) (by exact ⟨_, rfl, ⟨rfl, rfl, rfl, rfl, rfl, rfl, rfl, rfl, rfl, (srow_ok lSlot (xs := sl) (hw.pr (i := 2) rfl) (hw.pr (i := 3) rfl) (lSlot_length _)), trivial⟩⟩) (okx_ hw) (r1 := (hsz.mono (by omega)))) ?_
  intro A89 c89 vs89 f89 bl89 bh89
  refine Qm rfl <| Qx rfl rfl <| Qx rfl rfl <| Qx rfl rfl <| Qx rfl rfl <| za zeh fun b90 => Qa rfl <| Qa rfl <| zw 0 rfl rfl rfl ?_
  refine Qa rfl <| zJ <| zS <| Qm rfl <| Qe rfl rfl <| JL.nil ?_
  refine zi (fun h91 h91' => ?_) fun h91 h91' => ?_
  ·
   refine Js.region <| Q9 0 rfl rfl ?_
   refine zw 4 rfl rfl rfl ?_
   refine JL.nil ?_
   refine zf [1, 1, 1, 1, 3, 3, 3, 3, 3, 3] fun GG92 => ?_
   refine zn ?_
   refine zS <| zcs rfl (fun w hw => c_spec_l07AllL X3RX (M.Pos.mk ps ss pl) (okx_ hw) (okx_ hw)) ?_
   intro A93 c93 vs93 f93 bl93 bh93
   refine Qa rfl <| zJ ?_
   rcases Bool.eq_false_or_eq_true (decide (0 < (((M.results X3RX (M.Pos.mk ps ss pl)).length) : Int))) with h94 | h94
   ·
    have h94' := h94; simp only [decide_eq_true_eq, Int.not_lt, Int.not_le] at h94'
    refine Js.region <| Qm rfl <| Qz rfl <| Qg rfl rfl <| Qm rfl <| zT (Gd.t1 rfl rfl rfl) (show (decide (0 < (((M.results X3RX (M.Pos.mk ps ss pl)).length) : Int))) = true by first | exact h94 | (rw [h94]; rfl) | simp [h94]) <| Qm rfl <| zT (Gd.t1 rfl rfl rfl) (show (decide (0 < (((M.results X3RX (M.Pos.mk ps ss pl)).length) : Int))) = true by first | exact h94 | (rw [h94]; rfl) | simp [h94]) ?_
    refine zhl [4] ?_
    refine zBB 1 sp_ rfl (fun w hb _ hw => c_spec_l00Src_one s_code X85AT X85SD 2 hb (ok_ hw)) ?_
    rintro _ _ G95 ⟨X95BX, X95AT, X95SD, rfl, rfl, hX95_0, hX95_1⟩
    refine znl ?_
    refine Qq (p_pickAnd2 rfl rfl rfl) <| JL.nil ?_
    refine zf [0, 1, 1, 1, 1, 1, 1, 1, 1, 1, 1, 1] fun GG96 => ?_
    refine zn ?_
    refine zi (fun h97 h97' => ?_) fun h97 h97' => ?_
    ·
     have hr8 := M.results_9 (r := X3RX) (p := M.Pos.mk ps ss pl) (by omega)
     refine Js.region <| Qm rfl <| Qm rfl <| Qm rfl <| Qz rfl <| zBB 1 sp_ rfl (fun w hb _ hw => c_spec_l00Src_pick s_code X95AT X95SD (((M.results X3RX (M.Pos.mk ps ss pl)).length) : Int) hb (ok_ hw)) ?_
     rintro _ _ G98 ⟨X98KX, X98AT, X98SD, rfl, rfl, hX98_0, hX98_1, hX98_2, hX98_3⟩
     refine znl ?_
     refine JL.fact (row_some (i := 2) rfl (by omega)) (fun hf100 => ?_)
     obtain ⟨b100, rfl⟩ := hf100
     obtain ⟨y99, hy99⟩ : ∃ x, (M.results X3RX (M.Pos.mk ps ss pl))[X98KX.toNat]? = some x := ⟨_, List.getElem?_eq_getElem (by omega)⟩
     refine JL.fact (fun w hw => elemv_Result (Mem.ownC (i := 3) rfl w hw) hy99) (fun hf99 => ?_)
     obtain ⟨A99_3, c99_3, A99_4, c99_4, he99, bl99_3, bh99_3, bl99_4, bh99_4⟩ := hf99
     refine Qq (p_indexAddr el_107 rfl rfl (by omega) (by omega) rfl) <| Qf fh rfl <| Qw (q_loadN ty_31.h rfl (fun w hw => (Mem.rowR' (i := 2) rfl he99 w hw).sub 3 3) rfl rfl) <| zw 7 rfl rfl rfl ?_
     refine JL.nil ?_
     refine zf [0, 1, 1, 1, 1, 1, 1, 1, 3, 3] fun GG101 => ?_
     refine zn ?_
     refine Js.fact (fun w hw => elem_in cResult (m := 6) (k := X98KX.toNat) (xs := (M.results X3RX (M.Pos.mk ps ss pl))) (fun _ => rfl) (Mem.ownC (i := 2) rfl w hw) (by omega)) (fun hl102 => ?_)
     refine Js.ex3 (fun w hw => St.elemS cResult (m := 6) (i := 2) (xs := (M.results X3RX (M.Pos.mk ps ss pl))) (fun _ => rfl) rfl hy99 he99 hw) (fun f102_1 f102_2 f102_3 => ?_)
     refine Js.conv (fun w hw => St.unpack2 (i := 0) (o1 := rowO 2 1 (.slice A99_3 y99.next.pits.length c99_3) y99.next.pits.length (ints_ y99.next.pits) []) (o2 := rowO 2 1 (.slice A99_4 y99.next.stores.length c99_4) y99.next.stores.length (ints_ y99.next.stores) []) rfl (fun w h => unpack_Result h) hw) ?_
     refine zn ?_
     have hyl9 := M.okP_len (M.results_ok (M.results_get0 hy99))
     refine Js.blockEnd <| Js.region <| Qm rfl <| Qs rfl rfl <| Qa rfl <| JL.nil ?_
     refine zf [0, 0, 2, 3, 3, 3, 3, 3, 3, 3] fun GG103 => ?_
     refine zn ?_
     refine Js.conv (fun w hw => St.toRx (i := 0) rfl hw) ?_
     refine zn ?_
     refine zf [3, 5, 3, 3, 3, 3, 0, 1, 1, 1] fun GG104 => ?_
     refine zn ?_
     exact zag ⟨k - 1, X98AT, X98SD, (((M.swM (M.Mem.mk mr sl) (M.Pos.mk ps ss pl) (1 + X85KX)).2.2.1).rules), ((M.swM (M.Mem.mk mr sl) (M.Pos.mk ps ss pl) (1 + X85KX)).2.2.1).slots, y99.next.pits, y99.next.stores, y99.next.player, _, _, _, _, _, _, _, _, _, _, _, rfl, rfl, zt, zt, zt, by first | exact hsl | exact (M.swM_sz _ _ _).1, by first | exact hsz | exact (M.swM_sz _ _ _).2, by first | exact hp1 | omega, by first | exact hp2 | omega, zu, zu, zu, zu, zu, zu, rfl⟩ x83
    refine Js.skip <| Js.blockEnd <| Js.region <| Qm rfl <| Qs rfl rfl <| Qa rfl <| JL.nil ?_
    refine zf [0, 2, 2, 2, 2, 2, 2, 2, 2, 2] fun GG105 => ?_
    refine zn ?_
    refine zf [0, 2, 0, 0, 0, 0, 0, 0, 0, 0] fun GG106 => ?_
    refine zn ?_
    exact zag ⟨k - 1, X95AT, X95SD, (((M.swM (M.Mem.mk mr sl) (M.Pos.mk ps ss pl) (1 + X85KX)).2.2.1).rules), ((M.swM (M.Mem.mk mr sl) (M.Pos.mk ps ss pl) (1 + X85KX)).2.2.1).slots, ps, ss, pl, _, _, _, _, _, _, _, _, _, _, _, rfl, rfl, zt, zt, zt, by first | exact hsl | exact (M.swM_sz _ _ _).1, by first | exact hsz | exact (M.swM_sz _ _ _).2, by first | exact hp1 | omega, by first | exact hp2 | omega, zu, zu, zu, zu, zu, zu, rfl⟩ x83
   have h94' := h94; simp only [decide_eq_false_iff_not, Int.not_lt, Int.not_le] at h94'
   refine Js.region <| Qm rfl <| Qz rfl <| Qg rfl rfl <| Qm rfl ?_
   refine JL.g (v := undef) (Gd.t1 rfl rfl rfl) (fun hc => absurd hc (by first | (rw [h94]; simp; done) | simp [h94])) ?_
   refine JL.g (v := .bool false) (Gd.t1 rfl rfl rfl) (fun hc => absurd hc (by first | (rw [h94]; simp; done) | simp [h94])) ?_
   refine Qq (p_pickAnd rfl rfl rfl) <| JL.nil ?_
   -- known
   refine Js.condF rfl (by rw [h94]; rfl) ?_
   refine Js.skip <| Js.blockEnd <| Js.region <| Qm rfl <| Qs rfl rfl <| Qa rfl <| JL.nil ?_
   refine zf [2, 2, 2, 2, 2, 2, 2, 2, 2, 2] fun GG107 => ?_
   refine zn ?_
   refine zf [2, 2, 0, 0, 0, 0, 0, 0, 0, 0] fun GG108 => ?_
   refine zn ?_
   exact zag ⟨k - 1, X85AT, X85SD, (((M.swM (M.Mem.mk mr sl) (M.Pos.mk ps ss pl) (1 + X85KX)).2.2.1).rules), ((M.swM (M.Mem.mk mr sl) (M.Pos.mk ps ss pl) (1 + X85KX)).2.2.1).slots, ps, ss, pl, _, _, _, _, _, _, _, _, _, _, _, rfl, rfl, zt, zt, zt, by first | exact hsl | exact (M.swM_sz _ _ _).1, by first | exact hsz | exact (M.swM_sz _ _ _).2, by first | exact hp1 | omega, by first | exact hp2 | omega, zu, zu, zu, zu, zu, zu, rfl⟩ x83
  refine Js.skip <| zS <| zcs rfl (fun w hw => c_spec_l07AllL X3RX (M.Pos.mk ps ss pl) (okx_ hw) (okx_ hw)) ?_
  intro A109 c109 vs109 f109 bl109 bh109
  refine Qa rfl <| JL.nil ?_
  refine zf [0, 0, 3, 3, 3, 3, 3, 3, 3, 3, 3, 3] fun GG110 => ?_
  refine zn ?_
  refine Js.seq ?_
  rcases Bool.eq_false_or_eq_true (decide (0 < (((M.results X3RX (M.Pos.mk ps ss pl)).length) : Int))) with h111 | h111
  ·
   have h111' := h111; simp only [decide_eq_true_eq, Int.not_lt, Int.not_le] at h111'
   refine Js.region <| Qm rfl <| Qz rfl <| Qg rfl rfl <| Qm rfl <| zT (Gd.t1 rfl rfl rfl) (show (decide (0 < (((M.results X3RX (M.Pos.mk ps ss pl)).length) : Int))) = true by first | exact h111 | (rw [h111]; rfl) | simp [h111]) <| Qm rfl <| zT (Gd.t1 rfl rfl rfl) (show (decide (0 < (((M.results X3RX (M.Pos.mk ps ss pl)).length) : Int))) = true by first | exact h111 | (rw [h111]; rfl) | simp [h111]) ?_
   refine zhl [2] ?_
   refine zBB 1 sp_ rfl (fun w hb _ hw => c_spec_l00Src_one s_code X85AT X85SD 2 hb (ok_ hw)) ?_
   rintro _ _ G112 ⟨X112BX, X112AT, X112SD, rfl, rfl, hX112_0, hX112_1⟩
   refine znl ?_
   refine Qq (p_pickAnd2 rfl rfl rfl) <| JL.nil ?_
   refine zf [0, 1, 1, 1, 1, 1, 1, 1, 1, 1, 1, 1] fun GG113 => ?_
   refine zn ?_
   refine zi (fun h114 h114' => ?_) fun h114 h114' => ?_
   ·
    have hr8 := M.results_9 (r := X3RX) (p := M.Pos.mk ps ss pl) (by omega)
    refine Js.region <| Qm rfl <| Qm rfl <| Qm rfl <| Qz rfl <| zBB 1 sp_ rfl (fun w hb _ hw => c_spec_l00Src_pick s_code X112AT X112SD (((M.results X3RX (M.Pos.mk ps ss pl)).length) : Int) hb (ok_ hw)) ?_
    rintro _ _ G115 ⟨X115KX, X115AT, X115SD, rfl, rfl, hX115_0, hX115_1, hX115_2, hX115_3⟩
    refine znl ?_
    refine JL.fact (row_some (i := 2) rfl (by omega)) (fun hf117 => ?_)
    obtain ⟨b117, rfl⟩ := hf117
    obtain ⟨y116, hy116⟩ : ∃ x, (M.results X3RX (M.Pos.mk ps ss pl))[X115KX.toNat]? = some x := ⟨_, List.getElem?_eq_getElem (by omega)⟩
    refine JL.fact (fun w hw => elemv_Result (Mem.ownC (i := 3) rfl w hw) hy116) (fun hf116 => ?_)
    obtain ⟨A116_3, c116_3, A116_4, c116_4, he116, bl116_3, bh116_3, bl116_4, bh116_4⟩ := hf116
    refine Qq (p_indexAddr el_107 rfl rfl (by omega) (by omega) rfl) <| Qf fh rfl <| Qw (q_loadN ty_31.h rfl (fun w hw => (Mem.rowR' (i := 2) rfl he116 w hw).sub 3 3) rfl rfl) <| zw 7 rfl rfl rfl ?_
    refine JL.nil ?_
    refine zf [0, 1, 1, 1, 1, 1, 1, 1, 3, 3] fun GG118 => ?_
    refine zn ?_
    refine Js.fact (fun w hw => elem_in cResult (m := 6) (k := X115KX.toNat) (xs := (M.results X3RX (M.Pos.mk ps ss pl))) (fun _ => rfl) (Mem.ownC (i := 2) rfl w hw) (by omega)) (fun hl119 => ?_)
    refine Js.ex3 (fun w hw => St.elemS cResult (m := 6) (i := 2) (xs := (M.results X3RX (M.Pos.mk ps ss pl))) (fun _ => rfl) rfl hy116 he116 hw) (fun f119_1 f119_2 f119_3 => ?_)
    refine Js.conv (fun w hw => St.unpack2 (i := 0) (o1 := rowO 2 1 (.slice A116_3 y116.next.pits.length c116_3) y116.next.pits.length (ints_ y116.next.pits) []) (o2 := rowO 2 1 (.slice A116_4 y116.next.stores.length c116_4) y116.next.stores.length (ints_ y116.next.stores) []) rfl (fun w h => unpack_Result h) hw) ?_
    refine zn ?_
    have hyl9 := M.okP_len (M.results_ok (M.results_get0 hy116))
    refine Js.blockEnd <| Js.region <| Qm rfl <| Qs rfl rfl <| Qa rfl <| JL.nil ?_
    refine zf [0, 0, 2, 3, 3, 3, 3, 3, 3, 3] fun GG120 => ?_
    refine zn ?_
    refine Js.conv (fun w hw => St.toRx (i := 0) rfl hw) ?_
    refine zn ?_
    refine zf [3, 3, 3, 3, 3, 3, 0, 1, 1, 1] fun GG121 => ?_
    refine zn ?_
    exact zag ⟨k - 1, X115AT, X115SD, mr, sl, y116.next.pits, y116.next.stores, y116.next.player, _, _, _, _, _, _, _, _, _, _, _, rfl, rfl, zt, zt, zt, by first | exact hsl | exact (M.swM_sz _ _ _).1, by first | exact hsz | exact (M.swM_sz _ _ _).2, by first | exact hp1 | omega, by first | exact hp2 | omega, zu, zu, zu, zu, zu, zu, rfl⟩ x83
   refine Js.skip <| Js.blockEnd <| Js.region <| Qm rfl <| Qs rfl rfl <| Qa rfl <| JL.nil ?_
   refine zf [0, 2, 2, 2, 2, 2, 2, 2, 2, 2] fun GG122 => ?_
   refine zn ?_
   exact zag ⟨k - 1, X112AT, X112SD, mr, sl, ps, ss, pl, _, _, _, _, _, _, _, _, _, _, _, rfl, rfl, zt, zt, zt, by first | exact hsl | exact (M.swM_sz _ _ _).1, by first | exact hsz | exact (M.swM_sz _ _ _).2, by first | exact hp1 | omega, by first | exact hp2 | omega, zu, zu, zu, zu, zu, zu, rfl⟩ x83
  have h111' := h111; simp only [decide_eq_false_iff_not, Int.not_lt, Int.not_le] at h111'
  refine Js.region <| Qm rfl <| Qz rfl <| Qg rfl rfl <| Qm rfl ?_
  refine JL.g (v := undef) (Gd.t1 rfl rfl rfl) (fun hc => absurd hc (by first | (rw [h111]; simp; done) | simp [h111])) ?_
  refine JL.g (v := .bool false) (Gd.t1 rfl rfl rfl) (fun hc => absurd hc (by first | (rw [h111]; simp; done) | simp [h111])) ?_
  refine Qq (p_pickAnd rfl rfl rfl) <| JL.nil ?_
  -- known
  refine Js.condF rfl (by rw [h111]; rfl) ?_
  refine Js.skip <| Js.blockEnd <| Js.region <| Qm rfl <| Qs rfl rfl <| Qa rfl <| JL.nil ?_
  refine zf [2, 2, 2, 2, 2, 2, 2, 2, 2, 2] fun GG123 => ?_
  refine zn ?_
  exact zag ⟨k - 1, X85AT, X85SD, mr, sl, ps, ss, pl, _, _, _, _, _, _, _, _, _, _, _, rfl, rfl, zt, zt, zt, by first | exact hsl | exact (M.swM_sz _ _ _).1, by first | exact hsz | exact (M.swM_sz _ _ _).2, by first | exact hp1 | omega, by first | exact hp2 | omega, zu, zu, zu, zu, zu, zu, rfl⟩ x83
 refine zx ?_
 refine Js.seq ?_
 refine zk [2, 3] (fun F U l os u => l = F [] ∧ os = U [nO, nO, nO, nO, nO, nO, nO, nO, some (boxO b2 [.slice A83_5_0 ps.length c83_5_0, .slice A83_5_1 ss.length c83_5_1, .int .i64 pl] 31), some (boxO b1 [.int .i64 mr.pits, .int .i64 mr.seeds, .bool mr.stores, .bool mr.skip, .bool mr.relay, .bool mr.feed, .bool mr.again, .int .i64 mr.capture, .int .i64 mr.slam, .slice A83_6_9 sl.length c83_6_9] 28)]) ?_ ?_
 ·
  refine zdr [2, 3] ?_
  refine JH.q 0 rfl (L9 1 rfl rfl) ?_
  refine y2 1 2 ?_ ?_
  ·
   refine JHo.q rfl (L9 4 rfl rfl) ?_
   refine y1 2 ?_
   refine yst rfl rfl rfl ?_
   refine y1 3 ?_
   refine yst rfl rfl rfl ?_
   refine yd ?_
   exact zm ⟨rfl, rfl⟩ (Up.refl _ _)
  refine yst rfl rfl rfl ?_
  refine y1 1 ?_
  refine JHo.q rfl (L9 4 rfl rfl) ?_
  refine y1 3 ?_
  refine yst rfl rfl rfl ?_
  refine yd ?_
  exact zm ⟨rfl, rfl⟩ (Up.refl _ _)
 rintro _ _ u124 ⟨rfl, rfl⟩ x124
 refine zn ?_
 refine zf [0, 1, 1, 3, 3, 3, 3] fun GG125 => ?_
 refine zn ?_
 refine zrb [0, 0, 0, 0, 0] hb ((x43.trans x83).trans x124) ?_
 refine ⟨((M.Mem.mk mr sl)), ((M.Pos.mk ps ss pl)), (at1), (sd1), A83_6_9, c83_6_9, g83_6_9, vs83_6_9, fl83_6_9, A83_5_0, c83_5_0, A83_5_1, c83_5_1, g83_5_1, rfl, ?_, ?_, ?_, ?_, ?_, ?_, ?_, by first | trivial | assumption | omega | (dsimp only; omega) | (constructor <;> first | assumption | omega) | (dsimp only; constructor <;> first | assumption | omega | (simp; done)), by first | trivial | assumption | omega | (dsimp only; omega) | (constructor <;> first | assumption | omega) | (dsimp only; constructor <;> first | assumption | omega | (simp; done)), by first | trivial | assumption | omega | (dsimp only; omega) | (constructor <;> first | assumption | omega) | (dsimp only; constructor <;> first | assumption | omega | (simp; done)), by first | trivial | assumption | omega | (dsimp only; omega) | (constructor <;> first | assumption | omega) | (dsimp only; constructor <;> first | assumption | omega | (simp; done))⟩
 · rfl
 all_goals (try dsimp only)
 all_goals (first | (omega) | omega | (simp only [*]; omega) | (simp; done))
theorem c_spec_l16Bent (s_code : Nat) (s_at s_seed : Int) {As_0 : Option Addr} {cs_0 bs : Nat} {w : World} (hb : Bw w [boxO bs [.slice As_0 s_code cs_0, .int .i64 s_at, .int .u64 s_seed] 91]) (hps_0 : (Ty.bytes 5 s_code).ok (offW w (([boxO bs [.slice As_0 s_code cs_0, .int .i64 s_at, .int .u64 s_seed] 91] : List Own).flatMap (·.fp))) (.slice As_0 s_code cs_0)) (r0 : 0 ≤ s_at := by exact om_) (r1 : s_at ≤ 999994600 := by exact om_) (r2 : s_code ≤ 1048576 := by exact om_) : RetB Try.prog 29 [.pointer (some ⟨bs, 0, none⟩)] w [boxO bs [.slice As_0 s_code cs_0, .int .i64 s_at, .int .u64 s_seed] 91] (fun v bs' => ∃ (MX : M.Mem) (PX : M.Pos) (AT SD : Int) (Axra_9 : Option Addr) (cxra_9 : Nat) (gxra_9 : List Nat) (vsxra_9 : List Value) (fxra_9 : List Nat) (Axrb_0 : Option Addr) (cxrb_0 : Nat) (Axrb_1 : Option Addr) (cxrb_1 : Nat) (gxrb_1 : List Nat), v = .tuple #[.agg #[.int .i64 MX.rules.pits, .int .i64 MX.rules.seeds, .bool MX.rules.stores, .bool MX.rules.skip, .bool MX.rules.relay, .bool MX.rules.feed, .bool MX.rules.again, .int .i64 MX.rules.capture, .int .i64 MX.rules.slam, .slice Axra_9 MX.slots.length cxra_9], .agg #[.slice Axrb_0 PX.pits.length cxrb_0, .slice Axrb_1 PX.stores.length cxrb_1, .int .i64 PX.player]] ∧ bs' = [boxO bs [.slice As_0 s_code cs_0, .int .i64 AT, .int .u64 SD] 91, rowO 45 6 (.slice Axra_9 MX.slots.length cxra_9) MX.slots.length vsxra_9 gxra_9, ownC (lSlot MX.slots) vsxra_9 fxra_9, rxO 2 (.slice Axrb_0 PX.pits.length cxrb_0) PX.pits.length (ints_ PX.pits), rowO 2 1 (.slice Axrb_1 PX.stores.length cxrb_1) PX.stores.length (ints_ PX.stores) gxrb_1] ∧ MX.slots.length ≤ cxra_9 ∧ cxra_9 ≤ 9223372036854775807 ∧ PX.pits.length ≤ cxrb_0 ∧ cxrb_0 ≤ 9223372036854775807 ∧ PX.stores.length ≤ cxrb_1 ∧ cxrb_1 ≤ 9223372036854775807 ∧ (MX.slots.length ≤ 65 ∧ M.SzM 16 MX.slots) ∧ (PX.pits.length ≤ 4194304 ∧ PX.stores.length ≤ 4194304) ∧ (s_at ≤ AT) ∧ (AT ≤ s_at + 5400)) := by
 refine enterB hb @Try.func29 @Try.ntmps29 rfl rfl ?_
 refine zent ?_
 refine Js.trashE ?_
 refine zn ?_
 refine zS <| za zeh fun b1 => za zeh fun b2 => zN <| Qm rfl ?_
 refine zhl [2] ?_
 refine zBB 1 sp_ rfl (fun w hb _ hw => c_spec_l16Draw s_code s_at s_seed hb (ok_ hw)) ?_
 rintro _ _ G3 ⟨X3MX, X3PX, X3AT, X3SD, A3ra_9, c3ra_9, g3ra_9, vs3ra_9, f3ra_9, A3rb_0, c3rb_0, A3rb_1, c3rb_1, g3rb_1, rfl, rfl, bl3_0, bl3_1, bl3_2, bl3_3, bl3_4, bl3_5, hX3_0, hX3_1, hX3_2, hX3_3⟩
 refine znl ?_
 refine Qm rfl <| Qx rfl rfl <| Qx rfl rfl <| za zeh fun b4 => za zeh fun b5 => zw 1 rfl rfl rfl ?_
 refine zw 0 rfl rfl rfl ?_
 refine JL.nil ?_
 refine zf [0, 0, 0, 0, 0, 0, 0, 1, 1] fun GG6 => ?_
 refine zn ?_
 obtain ⟨hs64, hsz⟩ := (by assumption : X3MX.slots.length ≤ 64 ∧ M.SzM 16 X3MX.slots)
 refine Js.seq <| zS <| Qf fh rfl <| Q0 1 rfl rfl rfl <| Qz rfl <| Qe rfl rfl <| JL.nil ?_
 refine zi (fun h7 h7' => ?_) fun h7 h7' => ?_
 ·
  refine Js.seq ?_
  refine zk [2, 3] (fun F U l os u => l = F [] ∧ os = U [nO, nO, nO, nO, nO, nO, nO, some (boxO b2 [.slice A3rb_0 X3PX.pits.length c3rb_0, .slice A3rb_1 X3PX.stores.length c3rb_1, .int .i64 X3PX.player] 31), some (boxO b1 [.int .i64 X3MX.rules.pits, .int .i64 X3MX.rules.seeds, .bool X3MX.rules.stores, .bool X3MX.rules.skip, .bool X3MX.rules.relay, .bool X3MX.rules.feed, .bool X3MX.rules.again, .int .i64 X3MX.rules.capture, .int .i64 X3MX.rules.slam, .slice A3ra_9 X3MX.slots.length c3ra_9] 28)]) ?_ ?_
  ·
   refine zdr [2, 3] ?_
   refine JH.q 0 rfl (L9 1 rfl rfl) ?_
   refine y2 1 2 ?_ ?_
   ·
    refine JHo.q rfl (L9 0 rfl rfl) ?_
    refine y1 2 ?_
    refine yst rfl rfl rfl ?_
    refine y1 3 ?_
    refine yst rfl rfl rfl ?_
    refine yd ?_
    exact zm ⟨rfl, rfl⟩ (Up.refl _ _)
   refine yst rfl rfl rfl ?_
   refine y1 1 ?_
   refine JHo.q rfl (L9 0 rfl rfl) ?_
   refine y1 3 ?_
   refine yst rfl rfl rfl ?_
   refine yd ?_
   exact zm ⟨rfl, rfl⟩ (Up.refl _ _)
  rintro _ _ u8 ⟨rfl, rfl⟩ x8
  refine zn ?_
  refine zf [2, 2, 2, 2, 2, 2, 2] fun GG9 => ?_
  refine zn ?_
  refine zrb [0, 0, 0, 0, 0] hb x8 ?_
  refine ⟨(X3MX), (X3PX), (X3AT), (X3SD), A3ra_9, c3ra_9, g3ra_9, vs3ra_9, f3ra_9, A3rb_0, c3rb_0, A3rb_1, c3rb_1, g3rb_1, rfl, ?_, ?_, ?_, ?_, ?_, ?_, ?_, by first | trivial | assumption | omega | (dsimp only; omega) | (constructor <;> first | assumption | omega) | (refine ⟨by (try simp only [List.length_set, List.length_take]); omega, ?_⟩; first | exact hsz | exact hsz.take _ | exact hsz.set hse | exact M.SzM.rep ‹_›) | (dsimp only; refine ⟨by (try simp only [List.length_set, List.length_take]); omega, ?_⟩; first | exact hsz | exact hsz.take _ | exact hsz.set hse | (simp only [*]; exact M.SzM.zero _ _)), by first | trivial | assumption | omega | (dsimp only; omega) | (constructor <;> first | assumption | omega) | (refine ⟨by (try simp only [List.length_set, List.length_take]); omega, ?_⟩; first | exact hsz | exact hsz.take _ | exact hsz.set hse | exact M.SzM.rep ‹_›) | (dsimp only; refine ⟨by (try simp only [List.length_set, List.length_take]); omega, ?_⟩; first | exact hsz | exact hsz.take _ | exact hsz.set hse | (simp only [*]; exact M.SzM.zero _ _)), by first | trivial | assumption | omega | (dsimp only; omega) | (constructor <;> first | assumption | omega) | (refine ⟨by (try simp only [List.length_set, List.length_take]); omega, ?_⟩; first | exact hsz | exact hsz.take _ | exact hsz.set hse | exact M.SzM.rep ‹_›) | (dsimp only; refine ⟨by (try simp only [List.length_set, List.length_take]); omega, ?_⟩; first | exact hsz | exact hsz.take _ | exact hsz.set hse | (simp only [*]; exact M.SzM.zero _ _)), by first | trivial | assumption | omega | (dsimp only; omega) | (constructor <;> first | assumption | omega) | (refine ⟨by (try simp only [List.length_set, List.length_take]); omega, ?_⟩; first | exact hsz | exact hsz.take _ | exact hsz.set hse | exact M.SzM.rep ‹_›) | (dsimp only; refine ⟨by (try simp only [List.length_set, List.length_take]); omega, ?_⟩; first | exact hsz | exact hsz.take _ | exact hsz.set hse | (simp only [*]; exact M.SzM.zero _ _))⟩
  · rfl
  all_goals (try dsimp only)
  all_goals (first | (omega) | omega | (simp only [*]; omega) | (simp; done))
 refine Js.skip <| zS <| Qm rfl <| Qf fh rfl <| Q0 1 rfl rfl rfl <| Qz rfl ?_
 refine zhl [2] ?_
 refine zBB 1 sp_ rfl (fun w hb _ hw => c_spec_l00Src_pick s_code X3AT X3SD (X3MX.slots.length : Int) hb (ok_ hw)) ?_
 rintro _ _ G10 ⟨X10KX, X10AT, X10SD, rfl, rfl, hX10_0, hX10_1, hX10_2, hX10_3⟩
 refine znl ?_
 refine Qa rfl <| JL.nil ?_
 refine zf [0, 1, 1, 1, 1, 1, 1, 1, 1] fun GG11 => ?_
 refine zn ?_
 refine zS <| Qf fh rfl <| Q0 2 rfl rfl rfl <| Qm rfl ?_
 refine JL.fact (row_some (i := 3) rfl (by omega)) (fun hf13 => ?_)
 obtain ⟨b13, rfl⟩ := hf13
 have hy12 : X3MX.slots[X10KX.toNat]? = some (M.slo X3MX.slots X10KX.toNat) := M.slo_get len_
 refine JL.fact (fun w hw => elemv_Slot (Mem.ownC (i := 4) rfl w hw) hy12) (fun hf12 => ?_)
 obtain ⟨A12_1, c12_1, he12, bl12_1, bh12_1⟩ := hf12
 have hse := hsz _ (List.mem_of_getElem? hy12)
 refine Qq (p_indexAddr el_26 rfl rfl (by omega) (by omega) rfl) <| Qa rfl <| zJ <| zS <| Qm rfl <| zBB 1 sp_ rfl (fun w hb _ hw => c_spec_l00Src_pick s_code X10AT X10SD 24 hb (ok_ hw)) ?_
 rintro _ _ G14 ⟨X14KX, X14AT, X14SD, rfl, rfl, hX14_0, hX14_1, hX14_2, hX14_3⟩
 refine znl ?_
 refine JL.nil ?_
 refine zf [0, 1, 1, 1, 1, 1, 1, 1, 1] fun GG15 => ?_
 refine zn ?_
 refine Js.block <| zS <| Qe rfl rfl <| Qa rfl <| JL.nil ?_
 refine zi (fun h16 h16' => ?_) fun h16 h16' => ?_
 ·
  refine Js.fact (fun w hw => elem_in cSlot (m := 6) (k := X10KX.toNat) (xs := X3MX.slots) (fun _ => rfl) (Mem.ownC (i := 4) rfl w hw) (by omega)) (fun hl17 => ?_)
  refine Js.ex3 (fun w hw => St.elemS cSlot (m := 6) (i := 4) (xs := X3MX.slots) (fun _ => rfl) rfl hy12 he12 hw) (fun f17_1 f17_2 f17_3 => ?_)
  refine Js.unp 0 ?_
  refine zn ?_
  refine Js.region <| Qm rfl <| Qm rfl <| Qc rfl <| Qf fh rfl <| Qw (q_load1 ty_4.h rfl (fun w hw => (Mem.rowR' (i := 6) rfl he12 w hw) 0 _ rfl)) <| Qt rfl <| Qc rfl <| Qf fh rfl ?_
  refine JL.s (e_storeRow (i := 6) (xs' := setL vs3ra_9 (0 + X10KX.toNat * 6) [.bool (!((M.slo X3MX.slots X10KX.toNat).used)), .slice A12_1 (((M.slo X3MX.slots X10KX.toNat).pits).length) c12_1, .int .i64 ((M.slo X3MX.slots X10KX.toNat).player), .int .i64 ((M.slo X3MX.slots X10KX.toNat).depth), .int .i64 ((M.slo X3MX.slots X10KX.toNat).value), .int .i64 ((M.slo X3MX.slots X10KX.toNat).bound)]) ty_4.h rfl rfl rfl rfl rfl rfl (by omega) (setL_at (j := 0) he12 (by decide) hl17 rfl)) ?_
  rintro _ _ _ ⟨rfl, rfl⟩ _
  refine znl ?_
  refine JL.nil <| Js.blockEnd <| Js.seq ?_
  refine zk [2, 3] (fun F U l os u => l = F [] ∧ os = U [nO, nO, nO, nO, nO, nO, nO, nO, nO, some (boxO b2 [.slice A3rb_0 X3PX.pits.length c3rb_0, .slice A3rb_1 X3PX.stores.length c3rb_1, .int .i64 X3PX.player] 31), some (boxO b1 [.int .i64 X3MX.rules.pits, .int .i64 X3MX.rules.seeds, .bool X3MX.rules.stores, .bool X3MX.rules.skip, .bool X3MX.rules.relay, .bool X3MX.rules.feed, .bool X3MX.rules.again, .int .i64 X3MX.rules.capture, .int .i64 X3MX.rules.slam, .slice (some ⟨b13, 0, none⟩) X3MX.slots.length c3ra_9] 28)]) ?_ ?_
  ·
   refine zdr [2, 3] ?_
   refine JH.q 0 rfl (L9 5 rfl rfl) ?_
   refine y2 1 2 ?_ ?_
   ·
    refine JHo.q rfl (L9 4 rfl rfl) ?_
    refine y1 2 ?_
    refine yst rfl rfl rfl ?_
    refine y1 3 ?_
    refine yst rfl rfl rfl ?_
    refine yd ?_
    exact zm ⟨rfl, rfl⟩ (Up.refl _ _)
   refine yst rfl rfl rfl ?_
   refine y1 1 ?_
   refine JHo.q rfl (L9 4 rfl rfl) ?_
   refine y1 3 ?_
   refine yst rfl rfl rfl ?_
   refine yd ?_
   exact zm ⟨rfl, rfl⟩ (Up.refl _ _)
  rintro _ _ u18 ⟨rfl, rfl⟩ x18
  refine zn ?_
  refine zf [0, 0, 0, 0, 2, 2, 2, 2, 2] fun GG19 => ?_
  refine zn ?_
  refine Js.pk (cSlot (M.Slo.mk (!((M.slo X3MX.slots X10KX.toNat).used)) ((M.slo X3MX.slots X10KX.toNat).pits) ((M.slo X3MX.slots X10KX.toNat).player) ((M.slo X3MX.slots X10KX.toNat).depth) ((M.slo X3MX.slots X10KX.toNat).value) ((M.slo X3MX.slots X10KX.toNat).bound))) [.bool (!((M.slo X3MX.slots X10KX.toNat).used)), .slice A12_1 (((M.slo X3MX.slots X10KX.toNat).pits).length) c12_1, .int .i64 ((M.slo X3MX.slots X10KX.toNat).player), .int .i64 ((M.slo X3MX.slots X10KX.toNat).depth), .int .i64 ((M.slo X3MX.slots X10KX.toNat).value), .int .i64 ((M.slo X3MX.slots X10KX.toNat).bound)] (fun f21 G21 => ?_)
  refine Js.front (i := 2) rfl ?_
  refine zn ?_
  refine Js.front (i := 1) rfl ?_
  refine zn ?_
  refine Js.front (i := 3) rfl ?_
  refine zn ?_
  refine Js.conv (fun w hw => St.closeE cSlot (k := X10KX.toNat) (m := 6) (xs := X3MX.slots) (y := (M.Slo.mk (!((M.slo X3MX.slots X10KX.toNat).used)) ((M.slo X3MX.slots X10KX.toNat).pits) ((M.slo X3MX.slots X10KX.toNat).player) ((M.slo X3MX.slots X10KX.toNat).depth) ((M.slo X3MX.slots X10KX.toNat).value) ((M.slo X3MX.slots X10KX.toNat).bound))) (vs := vs3ra_9) (vs' := (setL vs3ra_9 (0 + X10KX.toNat * 6) [.bool (!((M.slo X3MX.slots X10KX.toNat).used)), .slice A12_1 (((M.slo X3MX.slots X10KX.toNat).pits).length) c12_1, .int .i64 ((M.slo X3MX.slots X10KX.toNat).player), .int .i64 ((M.slo X3MX.slots X10KX.toNat).depth), .int .i64 ((M.slo X3MX.slots X10KX.toNat).value), .int .i64 ((M.slo X3MX.slots X10KX.toNat).bound)])) (by omega) rfl rfl hw) ?_
  refine zn ?_
  refine zrb [2, 2, 0, 1, 1] hb x18 ?_
  have hNr0_9 : (X3MX.slots.set X10KX.toNat (M.Slo.mk (!((M.slo X3MX.slots X10KX.toNat).used)) ((M.slo X3MX.slots X10KX.toNat).pits) ((M.slo X3MX.slots X10KX.toNat).player) ((M.slo X3MX.slots X10KX.toNat).depth) ((M.slo X3MX.slots X10KX.toNat).value) ((M.slo X3MX.slots X10KX.toNat).bound))).length = X3MX.slots.length := by first | rfl | assumption | omega | (simp only [List.length_set, M.setI_length]; done) | (simp only [List.length_set, M.setI_length]; first | rfl | assumption | omega) | (simp only [List.length_drop]; first | done | rfl | omega) | (simp; done) | (simp; omega)
  refine ⟨((M.Mem.mk X3MX.rules (X3MX.slots.set X10KX.toNat (M.Slo.mk (!((M.slo X3MX.slots X10KX.toNat).used)) ((M.slo X3MX.slots X10KX.toNat).pits) ((M.slo X3MX.slots X10KX.toNat).player) ((M.slo X3MX.slots X10KX.toNat).depth) ((M.slo X3MX.slots X10KX.toNat).value) ((M.slo X3MX.slots X10KX.toNat).bound))))), (X3PX), (X14AT), (X14SD), (some ⟨b13, 0, none⟩), c3ra_9, g3ra_9, (setL vs3ra_9 (0 + X10KX.toNat * 6) [.bool (!((M.slo X3MX.slots X10KX.toNat).used)), .slice A12_1 (((M.slo X3MX.slots X10KX.toNat).pits).length) c12_1, .int .i64 ((M.slo X3MX.slots X10KX.toNat).player), .int .i64 ((M.slo X3MX.slots X10KX.toNat).depth), .int .i64 ((M.slo X3MX.slots X10KX.toNat).value), .int .i64 ((M.slo X3MX.slots X10KX.toNat).bound)]), (f17_3 ++ f21 ++ f17_2), A3rb_0, c3rb_0, A3rb_1, c3rb_1, g3rb_1, (show (.tuple #[.agg #[.int .i64 X3MX.rules.pits, .int .i64 X3MX.rules.seeds, .bool X3MX.rules.stores, .bool X3MX.rules.skip, .bool X3MX.rules.relay, .bool X3MX.rules.feed, .bool X3MX.rules.again, .int .i64 X3MX.rules.capture, .int .i64 X3MX.rules.slam, .slice (some ⟨b13, 0, none⟩) X3MX.slots.length c3ra_9], .agg #[.slice A3rb_0 X3PX.pits.length c3rb_0, .slice A3rb_1 X3PX.stores.length c3rb_1, .int .i64 X3PX.player]] : Value) = .tuple #[.agg #[.int .i64 X3MX.rules.pits, .int .i64 X3MX.rules.seeds, .bool X3MX.rules.stores, .bool X3MX.rules.skip, .bool X3MX.rules.relay, .bool X3MX.rules.feed, .bool X3MX.rules.again, .int .i64 X3MX.rules.capture, .int .i64 X3MX.rules.slam, .slice (some ⟨b13, 0, none⟩) (X3MX.slots.set X10KX.toNat (M.Slo.mk (!((M.slo X3MX.slots X10KX.toNat).used)) ((M.slo X3MX.slots X10KX.toNat).pits) ((M.slo X3MX.slots X10KX.toNat).player) ((M.slo X3MX.slots X10KX.toNat).depth) ((M.slo X3MX.slots X10KX.toNat).value) ((M.slo X3MX.slots X10KX.toNat).bound))).length c3ra_9], .agg #[.slice A3rb_0 X3PX.pits.length c3rb_0, .slice A3rb_1 X3PX.stores.length c3rb_1, .int .i64 X3PX.player]] by rw [hNr0_9]), ?_, ?_, ?_, ?_, ?_, ?_, ?_, by first | trivial | assumption | omega | (dsimp only; omega) | (constructor <;> first | assumption | omega) | (refine ⟨by (try simp only [List.length_set, List.length_take]); omega, ?_⟩; first | exact hsz | exact hsz.take _ | exact hsz.set hse | exact M.SzM.rep ‹_›) | (dsimp only; refine ⟨by (try simp only [List.length_set, List.length_take]); omega, ?_⟩; first | exact hsz | exact hsz.take _ | exact hsz.set hse | (simp only [*]; exact M.SzM.zero _ _)), by first | trivial | assumption | omega | (dsimp only; omega) | (constructor <;> first | assumption | omega) | (refine ⟨by (try simp only [List.length_set, List.length_take]); omega, ?_⟩; first | exact hsz | exact hsz.take _ | exact hsz.set hse | exact M.SzM.rep ‹_›) | (dsimp only; refine ⟨by (try simp only [List.length_set, List.length_take]); omega, ?_⟩; first | exact hsz | exact hsz.take _ | exact hsz.set hse | (simp only [*]; exact M.SzM.zero _ _)), by first | trivial | assumption | omega | (dsimp only; omega) | (constructor <;> first | assumption | omega) | (refine ⟨by (try simp only [List.length_set, List.length_take]); omega, ?_⟩; first | exact hsz | exact hsz.take _ | exact hsz.set hse | exact M.SzM.rep ‹_›) | (dsimp only; refine ⟨by (try simp only [List.length_set, List.length_take]); omega, ?_⟩; first | exact hsz | exact hsz.take _ | exact hsz.set hse | (simp only [*]; exact M.SzM.zero _ _)), by first | trivial | assumption | omega | (dsimp only; omega) | (constructor <;> first | assumption | omega) | (refine ⟨by (try simp only [List.length_set, List.length_take]); omega, ?_⟩; first | exact hsz | exact hsz.take _ | exact hsz.set hse | exact M.SzM.rep ‹_›) | (dsimp only; refine ⟨by (try simp only [List.length_set, List.length_take]); omega, ?_⟩; first | exact hsz | exact hsz.take _ | exact hsz.set hse | (simp only [*]; exact M.SzM.zero _ _))⟩
  · exact r5_ hNr0_9
  all_goals (try dsimp only)
  all_goals (first | (rw [hNr0_9]; omega) | omega | (simp only [*]; omega) | (simp; done))
 refine zS <| Qe rfl rfl <| Qa rfl <| JL.nil ?_
 refine zi (fun h22 h22' => ?_) fun h22 h22' => ?_
 ·
  refine Js.fact (fun w hw => elem_in cSlot (m := 6) (k := X10KX.toNat) (xs := X3MX.slots) (fun _ => rfl) (Mem.ownC (i := 4) rfl w hw) (by omega)) (fun hl23 => ?_)
  refine Js.ex3 (fun w hw => St.elemS cSlot (m := 6) (i := 4) (xs := X3MX.slots) (fun _ => rfl) rfl hy12 he12 hw) (fun f23_1 f23_2 f23_3 => ?_)
  refine Js.unp 0 ?_
  refine zn ?_
  refine Js.region <| Qm rfl <| Qm rfl <| zbs fun b24 => ?_
  refine zhl [4] ?_
  refine zBB 1 sp_ rfl (fun w hb _ hw => c_spec_l00Src_among s_code X14AT X14SD [0, 8, 9] hb (ok_ hw) (ints_rowok (xs := [0, 8, 9]) (hw.pr (i := 0) rfl)) (r3 := (by simp)) (r4 := (by simp))) ?_
  rintro _ _ G26 ⟨X26KX, X26AT, X26SD, rfl, rfl, hX26_0, hX26_1, hX26_2⟩
  refine znl ?_
  refine Qc rfl <| Qf fh rfl ?_
  refine JL.s (e_storeRow (i := 8) (xs' := setL vs3ra_9 (0 + X10KX.toNat * 6) [.bool ((M.slo X3MX.slots X10KX.toNat).used), .slice A12_1 (((M.slo X3MX.slots X10KX.toNat).pits).length) c12_1, .int .i64 ((M.slo X3MX.slots X10KX.toNat).player), .int .i64 X26KX, .int .i64 ((M.slo X3MX.slots X10KX.toNat).value), .int .i64 ((M.slo X3MX.slots X10KX.toNat).bound)]) ty_2.h rfl rfl rfl rfl rfl rfl (by omega) (setL_at (j := 3) he12 (by decide) hl23 rfl)) ?_
  rintro _ _ _ ⟨rfl, rfl⟩ _
  refine znl ?_
  refine JL.nil ?_
  refine zf [0, 2, 2, 2, 2, 2, 2, 2, 2, 2, 2] fun GG27 => ?_
  refine zn ?_
  refine Js.blockEnd <| Js.seq ?_
  refine zk [2, 3] (fun F U l os u => l = F [] ∧ os = U [nO, nO, nO, nO, nO, nO, nO, nO, nO, some (boxO b2 [.slice A3rb_0 X3PX.pits.length c3rb_0, .slice A3rb_1 X3PX.stores.length c3rb_1, .int .i64 X3PX.player] 31), some (boxO b1 [.int .i64 X3MX.rules.pits, .int .i64 X3MX.rules.seeds, .bool X3MX.rules.stores, .bool X3MX.rules.skip, .bool X3MX.rules.relay, .bool X3MX.rules.feed, .bool X3MX.rules.again, .int .i64 X3MX.rules.capture, .int .i64 X3MX.rules.slam, .slice (some ⟨b13, 0, none⟩) X3MX.slots.length c3ra_9] 28)]) ?_ ?_
  ·
   refine zdr [2, 3] ?_
   refine JH.q 0 rfl (L9 5 rfl rfl) ?_
   refine y2 1 2 ?_ ?_
   ·
    refine JHo.q rfl (L9 4 rfl rfl) ?_
    refine y1 2 ?_
    refine yst rfl rfl rfl ?_
    refine y1 3 ?_
    refine yst rfl rfl rfl ?_
    refine yd ?_
    exact zm ⟨rfl, rfl⟩ (Up.refl _ _)
   refine yst rfl rfl rfl ?_
   refine y1 1 ?_
   refine JHo.q rfl (L9 4 rfl rfl) ?_
   refine y1 3 ?_
   refine yst rfl rfl rfl ?_
   refine yd ?_
   exact zm ⟨rfl, rfl⟩ (Up.refl _ _)
  rintro _ _ u28 ⟨rfl, rfl⟩ x28
  refine zn ?_
  refine zf [0, 0, 0, 0, 2, 2, 2, 2, 2] fun GG29 => ?_
  refine zn ?_
  refine Js.pk (cSlot (M.Slo.mk ((M.slo X3MX.slots X10KX.toNat).used) ((M.slo X3MX.slots X10KX.toNat).pits) ((M.slo X3MX.slots X10KX.toNat).player) X26KX ((M.slo X3MX.slots X10KX.toNat).value) ((M.slo X3MX.slots X10KX.toNat).bound))) [.bool ((M.slo X3MX.slots X10KX.toNat).used), .slice A12_1 (((M.slo X3MX.slots X10KX.toNat).pits).length) c12_1, .int .i64 ((M.slo X3MX.slots X10KX.toNat).player), .int .i64 X26KX, .int .i64 ((M.slo X3MX.slots X10KX.toNat).value), .int .i64 ((M.slo X3MX.slots X10KX.toNat).bound)] (fun f31 G31 => ?_)
  refine Js.front (i := 3) rfl ?_
  refine zn ?_
  refine Js.front (i := 1) rfl ?_
  refine zn ?_
  refine Js.front (i := 4) rfl ?_
  refine zn ?_
  refine Js.conv (fun w hw => St.closeE cSlot (k := X10KX.toNat) (m := 6) (xs := X3MX.slots) (y := (M.Slo.mk ((M.slo X3MX.slots X10KX.toNat).used) ((M.slo X3MX.slots X10KX.toNat).pits) ((M.slo X3MX.slots X10KX.toNat).player) X26KX ((M.slo X3MX.slots X10KX.toNat).value) ((M.slo X3MX.slots X10KX.toNat).bound))) (vs := vs3ra_9) (vs' := (setL vs3ra_9 (0 + X10KX.toNat * 6) [.bool ((M.slo X3MX.slots X10KX.toNat).used), .slice A12_1 (((M.slo X3MX.slots X10KX.toNat).pits).length) c12_1, .int .i64 ((M.slo X3MX.slots X10KX.toNat).player), .int .i64 X26KX, .int .i64 ((M.slo X3MX.slots X10KX.toNat).value), .int .i64 ((M.slo X3MX.slots X10KX.toNat).bound)])) (by omega) rfl rfl hw) ?_
  refine zn ?_
  refine zrb [2, 2, 0, 1, 1] hb x28 ?_
  have hNr0_9 : (X3MX.slots.set X10KX.toNat (M.Slo.mk ((M.slo X3MX.slots X10KX.toNat).used) ((M.slo X3MX.slots X10KX.toNat).pits) ((M.slo X3MX.slots X10KX.toNat).player) X26KX ((M.slo X3MX.slots X10KX.toNat).value) ((M.slo X3MX.slots X10KX.toNat).bound))).length = X3MX.slots.length := by first | rfl | assumption | omega | (simp only [List.length_set, M.setI_length]; done) | (simp only [List.length_set, M.setI_length]; first | rfl | assumption | omega) | (simp only [List.length_drop]; first | done | rfl | omega) | (simp; done) | (simp; omega)
  refine ⟨((M.Mem.mk X3MX.rules (X3MX.slots.set X10KX.toNat (M.Slo.mk ((M.slo X3MX.slots X10KX.toNat).used) ((M.slo X3MX.slots X10KX.toNat).pits) ((M.slo X3MX.slots X10KX.toNat).player) X26KX ((M.slo X3MX.slots X10KX.toNat).value) ((M.slo X3MX.slots X10KX.toNat).bound))))), (X3PX), (X26AT), (X26SD), (some ⟨b13, 0, none⟩), c3ra_9, g3ra_9, (setL vs3ra_9 (0 + X10KX.toNat * 6) [.bool ((M.slo X3MX.slots X10KX.toNat).used), .slice A12_1 (((M.slo X3MX.slots X10KX.toNat).pits).length) c12_1, .int .i64 ((M.slo X3MX.slots X10KX.toNat).player), .int .i64 X26KX, .int .i64 ((M.slo X3MX.slots X10KX.toNat).value), .int .i64 ((M.slo X3MX.slots X10KX.toNat).bound)]), (f23_3 ++ f31 ++ f23_2), A3rb_0, c3rb_0, A3rb_1, c3rb_1, g3rb_1, (show (.tuple #[.agg #[.int .i64 X3MX.rules.pits, .int .i64 X3MX.rules.seeds, .bool X3MX.rules.stores, .bool X3MX.rules.skip, .bool X3MX.rules.relay, .bool X3MX.rules.feed, .bool X3MX.rules.again, .int .i64 X3MX.rules.capture, .int .i64 X3MX.rules.slam, .slice (some ⟨b13, 0, none⟩) X3MX.slots.length c3ra_9], .agg #[.slice A3rb_0 X3PX.pits.length c3rb_0, .slice A3rb_1 X3PX.stores.length c3rb_1, .int .i64 X3PX.player]] : Value) = .tuple #[.agg #[.int .i64 X3MX.rules.pits, .int .i64 X3MX.rules.seeds, .bool X3MX.rules.stores, .bool X3MX.rules.skip, .bool X3MX.rules.relay, .bool X3MX.rules.feed, .bool X3MX.rules.again, .int .i64 X3MX.rules.capture, .int .i64 X3MX.rules.slam, .slice (some ⟨b13, 0, none⟩) (X3MX.slots.set X10KX.toNat (M.Slo.mk ((M.slo X3MX.slots X10KX.toNat).used) ((M.slo X3MX.slots X10KX.toNat).pits) ((M.slo X3MX.slots X10KX.toNat).player) X26KX ((M.slo X3MX.slots X10KX.toNat).value) ((M.slo X3MX.slots X10KX.toNat).bound))).length c3ra_9], .agg #[.slice A3rb_0 X3PX.pits.length c3rb_0, .slice A3rb_1 X3PX.stores.length c3rb_1, .int .i64 X3PX.player]] by rw [hNr0_9]), ?_, ?_, ?_, ?_, ?_, ?_, ?_, by first | trivial | assumption | omega | (dsimp only; omega) | (constructor <;> first | assumption | omega) | (refine ⟨by (try simp only [List.length_set, List.length_take]); omega, ?_⟩; first | exact hsz | exact hsz.take _ | exact hsz.set hse | exact M.SzM.rep ‹_›) | (dsimp only; refine ⟨by (try simp only [List.length_set, List.length_take]); omega, ?_⟩; first | exact hsz | exact hsz.take _ | exact hsz.set hse | (simp only [*]; exact M.SzM.zero _ _)), by first | trivial | assumption | omega | (dsimp only; omega) | (constructor <;> first | assumption | omega) | (refine ⟨by (try simp only [List.length_set, List.length_take]); omega, ?_⟩; first | exact hsz | exact hsz.take _ | exact hsz.set hse | exact M.SzM.rep ‹_›) | (dsimp only; refine ⟨by (try simp only [List.length_set, List.length_take]); omega, ?_⟩; first | exact hsz | exact hsz.take _ | exact hsz.set hse | (simp only [*]; exact M.SzM.zero _ _)), by first | trivial | assumption | omega | (dsimp only; omega) | (constructor <;> first | assumption | omega) | (refine ⟨by (try simp only [List.length_set, List.length_take]); omega, ?_⟩; first | exact hsz | exact hsz.take _ | exact hsz.set hse | exact M.SzM.rep ‹_›) | (dsimp only; refine ⟨by (try simp only [List.length_set, List.length_take]); omega, ?_⟩; first | exact hsz | exact hsz.take _ | exact hsz.set hse | (simp only [*]; exact M.SzM.zero _ _)), by first | trivial | assumption | omega | (dsimp only; omega) | (constructor <;> first | assumption | omega) | (refine ⟨by (try simp only [List.length_set, List.length_take]); omega, ?_⟩; first | exact hsz | exact hsz.take _ | exact hsz.set hse | exact M.SzM.rep ‹_›) | (dsimp only; refine ⟨by (try simp only [List.length_set, List.length_take]); omega, ?_⟩; first | exact hsz | exact hsz.take _ | exact hsz.set hse | (simp only [*]; exact M.SzM.zero _ _))⟩
  · exact r5_ hNr0_9
  all_goals (try dsimp only)
  all_goals (first | (rw [hNr0_9]; omega) | omega | (simp only [*]; omega) | (simp; done))
 refine zS <| Qe rfl rfl <| Qa rfl <| JL.nil ?_
 refine zi (fun h32 h32' => ?_) fun h32 h32' => ?_
 ·
  refine Js.fact (fun w hw => elem_in cSlot (m := 6) (k := X10KX.toNat) (xs := X3MX.slots) (fun _ => rfl) (Mem.ownC (i := 4) rfl w hw) (by omega)) (fun hl33 => ?_)
  refine Js.ex3 (fun w hw => St.elemS cSlot (m := 6) (i := 4) (xs := X3MX.slots) (fun _ => rfl) rfl hy12 he12 hw) (fun f33_1 f33_2 f33_3 => ?_)
  refine Js.unp 0 ?_
  refine zn ?_
  refine Js.region <| Qm rfl <| Qm rfl <| zbs fun b34 => ?_
  refine zhl [4] ?_
  refine zBB 1 sp_ rfl (fun w hb _ hw => c_spec_l00Src_among s_code X14AT X14SD [(-97), (-96), 96, 97] hb (ok_ hw) (ints_rowok (xs := [(-97), (-96), 96, 97]) (hw.pr (i := 0) rfl)) (r3 := (by simp)) (r4 := (by simp))) ?_
  rintro _ _ G36 ⟨X36KX, X36AT, X36SD, rfl, rfl, hX36_0, hX36_1, hX36_2⟩
  refine znl ?_
  refine Qc rfl <| Qf fh rfl ?_
  refine JL.s (e_storeRow (i := 8) (xs' := setL vs3ra_9 (0 + X10KX.toNat * 6) [.bool ((M.slo X3MX.slots X10KX.toNat).used), .slice A12_1 (((M.slo X3MX.slots X10KX.toNat).pits).length) c12_1, .int .i64 ((M.slo X3MX.slots X10KX.toNat).player), .int .i64 ((M.slo X3MX.slots X10KX.toNat).depth), .int .i64 X36KX, .int .i64 ((M.slo X3MX.slots X10KX.toNat).bound)]) ty_2.h rfl rfl rfl rfl rfl rfl (by omega) (setL_at (j := 4) he12 (by decide) hl33 rfl)) ?_
  rintro _ _ _ ⟨rfl, rfl⟩ _
  refine znl ?_
  refine JL.nil ?_
  refine zf [0, 2, 2, 2, 2, 2, 2, 2, 2, 2, 2] fun GG37 => ?_
  refine zn ?_
  refine Js.blockEnd <| Js.seq ?_
  refine zk [2, 3] (fun F U l os u => l = F [] ∧ os = U [nO, nO, nO, nO, nO, nO, nO, nO, nO, some (boxO b2 [.slice A3rb_0 X3PX.pits.length c3rb_0, .slice A3rb_1 X3PX.stores.length c3rb_1, .int .i64 X3PX.player] 31), some (boxO b1 [.int .i64 X3MX.rules.pits, .int .i64 X3MX.rules.seeds, .bool X3MX.rules.stores, .bool X3MX.rules.skip, .bool X3MX.rules.relay, .bool X3MX.rules.feed, .bool X3MX.rules.again, .int .i64 X3MX.rules.capture, .int .i64 X3MX.rules.slam, .slice (some ⟨b13, 0, none⟩) X3MX.slots.length c3ra_9] 28)]) ?_ ?_
  ·
   refine zdr [2, 3] ?_
   refine JH.q 0 rfl (L9 5 rfl rfl) ?_
   refine y2 1 2 ?_ ?_
   ·
    refine JHo.q rfl (L9 4 rfl rfl) ?_
    refine y1 2 ?_
    refine yst rfl rfl rfl ?_
    refine y1 3 ?_
    refine yst rfl rfl rfl ?_
    refine yd ?_
    exact zm ⟨rfl, rfl⟩ (Up.refl _ _)
   refine yst rfl rfl rfl ?_
   refine y1 1 ?_
   refine JHo.q rfl (L9 4 rfl rfl) ?_
   refine y1 3 ?_
   refine yst rfl rfl rfl ?_
   refine yd ?_
   exact zm ⟨rfl, rfl⟩ (Up.refl _ _)
  rintro _ _ u38 ⟨rfl, rfl⟩ x38
  refine zn ?_
  refine zf [0, 0, 0, 0, 2, 2, 2, 2, 2] fun GG39 => ?_
  refine zn ?_
  refine Js.pk (cSlot (M.Slo.mk ((M.slo X3MX.slots X10KX.toNat).used) ((M.slo X3MX.slots X10KX.toNat).pits) ((M.slo X3MX.slots X10KX.toNat).player) ((M.slo X3MX.slots X10KX.toNat).depth) X36KX ((M.slo X3MX.slots X10KX.toNat).bound))) [.bool ((M.slo X3MX.slots X10KX.toNat).used), .slice A12_1 (((M.slo X3MX.slots X10KX.toNat).pits).length) c12_1, .int .i64 ((M.slo X3MX.slots X10KX.toNat).player), .int .i64 ((M.slo X3MX.slots X10KX.toNat).depth), .int .i64 X36KX, .int .i64 ((M.slo X3MX.slots X10KX.toNat).bound)] (fun f41 G41 => ?_)
  refine Js.front (i := 3) rfl ?_
  refine zn ?_
  refine Js.front (i := 1) rfl ?_
  refine zn ?_
  refine Js.front (i := 4) rfl ?_
  refine zn ?_
  refine Js.conv (fun w hw => St.closeE cSlot (k := X10KX.toNat) (m := 6) (xs := X3MX.slots) (y := (M.Slo.mk ((M.slo X3MX.slots X10KX.toNat).used) ((M.slo X3MX.slots X10KX.toNat).pits) ((M.slo X3MX.slots X10KX.toNat).player) ((M.slo X3MX.slots X10KX.toNat).depth) X36KX ((M.slo X3MX.slots X10KX.toNat).bound))) (vs := vs3ra_9) (vs' := (setL vs3ra_9 (0 + X10KX.toNat * 6) [.bool ((M.slo X3MX.slots X10KX.toNat).used), .slice A12_1 (((M.slo X3MX.slots X10KX.toNat).pits).length) c12_1, .int .i64 ((M.slo X3MX.slots X10KX.toNat).player), .int .i64 ((M.slo X3MX.slots X10KX.toNat).depth), .int .i64 X36KX, .int .i64 ((M.slo X3MX.slots X10KX.toNat).bound)])) (by omega) rfl rfl hw) ?_
  refine zn ?_
  refine zrb [2, 2, 0, 1, 1] hb x38 ?_
  have hNr0_9 : (X3MX.slots.set X10KX.toNat (M.Slo.mk ((M.slo X3MX.slots X10KX.toNat).used) ((M.slo X3MX.slots X10KX.toNat).pits) ((M.slo X3MX.slots X10KX.toNat).player) ((M.slo X3MX.slots X10KX.toNat).depth) X36KX ((M.slo X3MX.slots X10KX.toNat).bound))).length = X3MX.slots.length := by first | rfl | assumption | omega | (simp only [List.length_set, M.setI_length]; done) | (simp only [List.length_set, M.setI_length]; first | rfl | assumption | omega) | (simp only [List.length_drop]; first | done | rfl | omega) | (simp; done) | (simp; omega)
  refine ⟨((M.Mem.mk X3MX.rules (X3MX.slots.set X10KX.toNat (M.Slo.mk ((M.slo X3MX.slots X10KX.toNat).used) ((M.slo X3MX.slots X10KX.toNat).pits) ((M.slo X3MX.slots X10KX.toNat).player) ((M.slo X3MX.slots X10KX.toNat).depth) X36KX ((M.slo X3MX.slots X10KX.toNat).bound))))), (X3PX), (X36AT), (X36SD), (some ⟨b13, 0, none⟩), c3ra_9, g3ra_9, (setL vs3ra_9 (0 + X10KX.toNat * 6) [.bool ((M.slo X3MX.slots X10KX.toNat).used), .slice A12_1 (((M.slo X3MX.slots X10KX.toNat).pits).length) c12_1, .int .i64 ((M.slo X3MX.slots X10KX.toNat).player), .int .i64 ((M.slo X3MX.slots X10KX.toNat).depth), .int .i64 X36KX, .int .i64 ((M.slo X3MX.slots X10KX.toNat).bound)]), (f33_3 ++ f41 ++ f33_2), A3rb_0, c3rb_0, A3rb_1, c3rb_1, g3rb_1, (show (.tuple #[.agg #[.int .i64 X3MX.rules.pits, .int .i64 X3MX.rules.seeds, .bool X3MX.rules.stores, .bool X3MX.rules.skip, .bool X3MX.rules.relay, .bool X3MX.rules.feed, .bool X3MX.rules.again, .int .i64 X3MX.rules.capture, .int .i64 X3MX.rules.slam, .slice (some ⟨b13, 0, none⟩) X3MX.slots.length c3ra_9], .agg #[.slice A3rb_0 X3PX.pits.length c3rb_0, .slice A3rb_1 X3PX.stores.length c3rb_1, .int .i64 X3PX.player]] : Value) = .tuple #[.agg #[.int .i64 X3MX.rules.pits, .int .i64 X3MX.rules.seeds, .bool X3MX.rules.stores, .bool X3MX.rules.skip, .bool X3MX.rules.relay, .bool X3MX.rules.feed, .bool X3MX.rules.again, .int .i64 X3MX.rules.capture, .int .i64 X3MX.rules.slam, .slice (some ⟨b13, 0, none⟩) (X3MX.slots.set X10KX.toNat (M.Slo.mk ((M.slo X3MX.slots X10KX.toNat).used) ((M.slo X3MX.slots X10KX.toNat).pits) ((M.slo X3MX.slots X10KX.toNat).player) ((M.slo X3MX.slots X10KX.toNat).depth) X36KX ((M.slo X3MX.slots X10KX.toNat).bound))).length c3ra_9], .agg #[.slice A3rb_0 X3PX.pits.length c3rb_0, .slice A3rb_1 X3PX.stores.length c3rb_1, .int .i64 X3PX.player]] by rw [hNr0_9]), ?_, ?_, ?_, ?_, ?_, ?_, ?_, by first | trivial | assumption | omega | (dsimp only; omega) | (constructor <;> first | assumption | omega) | (refine ⟨by (try simp only [List.length_set, List.length_take]); omega, ?_⟩; first | exact hsz | exact hsz.take _ | exact hsz.set hse | exact M.SzM.rep ‹_›) | (dsimp only; refine ⟨by (try simp only [List.length_set, List.length_take]); omega, ?_⟩; first | exact hsz | exact hsz.take _ | exact hsz.set hse | (simp only [*]; exact M.SzM.zero _ _)), by first | trivial | assumption | omega | (dsimp only; omega) | (constructor <;> first | assumption | omega) | (refine ⟨by (try simp only [List.length_set, List.length_take]); omega, ?_⟩; first | exact hsz | exact hsz.take _ | exact hsz.set hse | exact M.SzM.rep ‹_›) | (dsimp only; refine ⟨by (try simp only [List.length_set, List.length_take]); omega, ?_⟩; first | exact hsz | exact hsz.take _ | exact hsz.set hse | (simp only [*]; exact M.SzM.zero _ _)), by first | trivial | assumption | omega | (dsimp only; omega) | (constructor <;> first | assumption | omega) | (refine ⟨by (try simp only [List.length_set, List.length_take]); omega, ?_⟩; first | exact hsz | exact hsz.take _ | exact hsz.set hse | exact M.SzM.rep ‹_›) | (dsimp only; refine ⟨by (try simp only [List.length_set, List.length_take]); omega, ?_⟩; first | exact hsz | exact hsz.take _ | exact hsz.set hse | (simp only [*]; exact M.SzM.zero _ _)), by first | trivial | assumption | omega | (dsimp only; omega) | (constructor <;> first | assumption | omega) | (refine ⟨by (try simp only [List.length_set, List.length_take]); omega, ?_⟩; first | exact hsz | exact hsz.take _ | exact hsz.set hse | exact M.SzM.rep ‹_›) | (dsimp only; refine ⟨by (try simp only [List.length_set, List.length_take]); omega, ?_⟩; first | exact hsz | exact hsz.take _ | exact hsz.set hse | (simp only [*]; exact M.SzM.zero _ _))⟩
  · exact r5_ hNr0_9
  all_goals (try dsimp only)
  all_goals (first | (rw [hNr0_9]; omega) | omega | (simp only [*]; omega) | (simp; done))
 refine zS <| Qe rfl rfl <| Qa rfl <| JL.nil ?_
 refine zi (fun h42 h42' => ?_) fun h42 h42' => ?_
 ·
  refine Js.fact (fun w hw => elem_in cSlot (m := 6) (k := X10KX.toNat) (xs := X3MX.slots) (fun _ => rfl) (Mem.ownC (i := 4) rfl w hw) (by omega)) (fun hl43 => ?_)
  refine Js.ex3 (fun w hw => St.elemS cSlot (m := 6) (i := 4) (xs := X3MX.slots) (fun _ => rfl) rfl hy12 he12 hw) (fun f43_1 f43_2 f43_3 => ?_)
  refine Js.unp 0 ?_
  refine zn ?_
  refine Js.region <| Qm rfl <| Qm rfl ?_
  refine zhl [3] ?_
  refine zBB 1 sp_ rfl (fun w hb _ hw => c_spec_l00Src_pick s_code X14AT X14SD 5 hb (ok_ hw)) ?_
  rintro _ _ G44 ⟨X44KX, X44AT, X44SD, rfl, rfl, hX44_0, hX44_1, hX44_2, hX44_3⟩
  refine znl ?_
  refine Qq (p_sub rfl rfl rfl) <| Qc rfl <| Qf fh rfl ?_
  refine JL.s (e_storeRow (i := 7) (xs' := setL vs3ra_9 (0 + X10KX.toNat * 6) [.bool ((M.slo X3MX.slots X10KX.toNat).used), .slice A12_1 (((M.slo X3MX.slots X10KX.toNat).pits).length) c12_1, .int .i64 ((M.slo X3MX.slots X10KX.toNat).player), .int .i64 ((M.slo X3MX.slots X10KX.toNat).depth), .int .i64 ((M.slo X3MX.slots X10KX.toNat).value), .int .i64 (IntKind.i64.wrap (X44KX - 1))]) ty_2.h rfl rfl rfl rfl rfl rfl (by omega) (setL_at (j := 5) he12 (by decide) hl43 rfl)) ?_
  rintro _ _ _ ⟨rfl, rfl⟩ _
  refine znl ?_
  refine JL.nil ?_
  refine zf [0, 1, 1, 1, 1, 1, 1, 1, 1, 1, 1] fun GG45 => ?_
  refine zn ?_
  refine Js.blockEnd <| Js.seq ?_
  refine zk [2, 3] (fun F U l os u => l = F [] ∧ os = U [nO, nO, nO, nO, nO, nO, nO, nO, nO, some (boxO b2 [.slice A3rb_0 X3PX.pits.length c3rb_0, .slice A3rb_1 X3PX.stores.length c3rb_1, .int .i64 X3PX.player] 31), some (boxO b1 [.int .i64 X3MX.rules.pits, .int .i64 X3MX.rules.seeds, .bool X3MX.rules.stores, .bool X3MX.rules.skip, .bool X3MX.rules.relay, .bool X3MX.rules.feed, .bool X3MX.rules.again, .int .i64 X3MX.rules.capture, .int .i64 X3MX.rules.slam, .slice (some ⟨b13, 0, none⟩) X3MX.slots.length c3ra_9] 28)]) ?_ ?_
  ·
   refine zdr [2, 3] ?_
   refine JH.q 0 rfl (L9 5 rfl rfl) ?_
   refine y2 1 2 ?_ ?_
   ·
    refine JHo.q rfl (L9 4 rfl rfl) ?_
    refine y1 2 ?_
    refine yst rfl rfl rfl ?_
    refine y1 3 ?_
    refine yst rfl rfl rfl ?_
    refine yd ?_
    exact zm ⟨rfl, rfl⟩ (Up.refl _ _)
   refine yst rfl rfl rfl ?_
   refine y1 1 ?_
   refine JHo.q rfl (L9 4 rfl rfl) ?_
   refine y1 3 ?_
   refine yst rfl rfl rfl ?_
   refine yd ?_
   exact zm ⟨rfl, rfl⟩ (Up.refl _ _)
  rintro _ _ u46 ⟨rfl, rfl⟩ x46
  refine zn ?_
  refine zf [0, 0, 0, 0, 2, 2, 2, 2, 2] fun GG47 => ?_
  refine zn ?_
  refine Js.pk (cSlot (M.Slo.mk ((M.slo X3MX.slots X10KX.toNat).used) ((M.slo X3MX.slots X10KX.toNat).pits) ((M.slo X3MX.slots X10KX.toNat).player) ((M.slo X3MX.slots X10KX.toNat).depth) ((M.slo X3MX.slots X10KX.toNat).value) (IntKind.i64.wrap (X44KX - 1)))) [.bool ((M.slo X3MX.slots X10KX.toNat).used), .slice A12_1 (((M.slo X3MX.slots X10KX.toNat).pits).length) c12_1, .int .i64 ((M.slo X3MX.slots X10KX.toNat).player), .int .i64 ((M.slo X3MX.slots X10KX.toNat).depth), .int .i64 ((M.slo X3MX.slots X10KX.toNat).value), .int .i64 (IntKind.i64.wrap (X44KX - 1))] (fun f49 G49 => ?_)
  refine Js.front (i := 3) rfl ?_
  refine zn ?_
  refine Js.front (i := 1) rfl ?_
  refine zn ?_
  refine Js.front (i := 4) rfl ?_
  refine zn ?_
  refine Js.conv (fun w hw => St.closeE cSlot (k := X10KX.toNat) (m := 6) (xs := X3MX.slots) (y := (M.Slo.mk ((M.slo X3MX.slots X10KX.toNat).used) ((M.slo X3MX.slots X10KX.toNat).pits) ((M.slo X3MX.slots X10KX.toNat).player) ((M.slo X3MX.slots X10KX.toNat).depth) ((M.slo X3MX.slots X10KX.toNat).value) (IntKind.i64.wrap (X44KX - 1)))) (vs := vs3ra_9) (vs' := (setL vs3ra_9 (0 + X10KX.toNat * 6) [.bool ((M.slo X3MX.slots X10KX.toNat).used), .slice A12_1 (((M.slo X3MX.slots X10KX.toNat).pits).length) c12_1, .int .i64 ((M.slo X3MX.slots X10KX.toNat).player), .int .i64 ((M.slo X3MX.slots X10KX.toNat).depth), .int .i64 ((M.slo X3MX.slots X10KX.toNat).value), .int .i64 (IntKind.i64.wrap (X44KX - 1))])) (by omega) rfl rfl hw) ?_
  refine zn ?_
  refine zrb [2, 2, 0, 1, 1] hb x46 ?_
  have hNr0_9 : (X3MX.slots.set X10KX.toNat (M.Slo.mk ((M.slo X3MX.slots X10KX.toNat).used) ((M.slo X3MX.slots X10KX.toNat).pits) ((M.slo X3MX.slots X10KX.toNat).player) ((M.slo X3MX.slots X10KX.toNat).depth) ((M.slo X3MX.slots X10KX.toNat).value) (IntKind.i64.wrap (X44KX - 1)))).length = X3MX.slots.length := by first | rfl | assumption | omega | (simp only [List.length_set, M.setI_length]; done) | (simp only [List.length_set, M.setI_length]; first | rfl | assumption | omega) | (simp only [List.length_drop]; first | done | rfl | omega) | (simp; done) | (simp; omega)
  refine ⟨((M.Mem.mk X3MX.rules (X3MX.slots.set X10KX.toNat (M.Slo.mk ((M.slo X3MX.slots X10KX.toNat).used) ((M.slo X3MX.slots X10KX.toNat).pits) ((M.slo X3MX.slots X10KX.toNat).player) ((M.slo X3MX.slots X10KX.toNat).depth) ((M.slo X3MX.slots X10KX.toNat).value) (IntKind.i64.wrap (X44KX - 1)))))), (X3PX), (X44AT), (X44SD), (some ⟨b13, 0, none⟩), c3ra_9, g3ra_9, (setL vs3ra_9 (0 + X10KX.toNat * 6) [.bool ((M.slo X3MX.slots X10KX.toNat).used), .slice A12_1 (((M.slo X3MX.slots X10KX.toNat).pits).length) c12_1, .int .i64 ((M.slo X3MX.slots X10KX.toNat).player), .int .i64 ((M.slo X3MX.slots X10KX.toNat).depth), .int .i64 ((M.slo X3MX.slots X10KX.toNat).value), .int .i64 (IntKind.i64.wrap (X44KX - 1))]), (f43_3 ++ f49 ++ f43_2), A3rb_0, c3rb_0, A3rb_1, c3rb_1, g3rb_1, (show (.tuple #[.agg #[.int .i64 X3MX.rules.pits, .int .i64 X3MX.rules.seeds, .bool X3MX.rules.stores, .bool X3MX.rules.skip, .bool X3MX.rules.relay, .bool X3MX.rules.feed, .bool X3MX.rules.again, .int .i64 X3MX.rules.capture, .int .i64 X3MX.rules.slam, .slice (some ⟨b13, 0, none⟩) X3MX.slots.length c3ra_9], .agg #[.slice A3rb_0 X3PX.pits.length c3rb_0, .slice A3rb_1 X3PX.stores.length c3rb_1, .int .i64 X3PX.player]] : Value) = .tuple #[.agg #[.int .i64 X3MX.rules.pits, .int .i64 X3MX.rules.seeds, .bool X3MX.rules.stores, .bool X3MX.rules.skip, .bool X3MX.rules.relay, .bool X3MX.rules.feed, .bool X3MX.rules.again, .int .i64 X3MX.rules.capture, .int .i64 X3MX.rules.slam, .slice (some ⟨b13, 0, none⟩) (X3MX.slots.set X10KX.toNat (M.Slo.mk ((M.slo X3MX.slots X10KX.toNat).used) ((M.slo X3MX.slots X10KX.toNat).pits) ((M.slo X3MX.slots X10KX.toNat).player) ((M.slo X3MX.slots X10KX.toNat).depth) ((M.slo X3MX.slots X10KX.toNat).value) (IntKind.i64.wrap (X44KX - 1)))).length c3ra_9], .agg #[.slice A3rb_0 X3PX.pits.length c3rb_0, .slice A3rb_1 X3PX.stores.length c3rb_1, .int .i64 X3PX.player]] by rw [hNr0_9]), ?_, ?_, ?_, ?_, ?_, ?_, ?_, by first | trivial | assumption | omega | (dsimp only; omega) | (constructor <;> first | assumption | omega) | (refine ⟨by (try simp only [List.length_set, List.length_take]); omega, ?_⟩; first | exact hsz | exact hsz.take _ | exact hsz.set hse | exact M.SzM.rep ‹_›) | (dsimp only; refine ⟨by (try simp only [List.length_set, List.length_take]); omega, ?_⟩; first | exact hsz | exact hsz.take _ | exact hsz.set hse | (simp only [*]; exact M.SzM.zero _ _)), by first | trivial | assumption | omega | (dsimp only; omega) | (constructor <;> first | assumption | omega) | (refine ⟨by (try simp only [List.length_set, List.length_take]); omega, ?_⟩; first | exact hsz | exact hsz.take _ | exact hsz.set hse | exact M.SzM.rep ‹_›) | (dsimp only; refine ⟨by (try simp only [List.length_set, List.length_take]); omega, ?_⟩; first | exact hsz | exact hsz.take _ | exact hsz.set hse | (simp only [*]; exact M.SzM.zero _ _)), by first | trivial | assumption | omega | (dsimp only; omega) | (constructor <;> first | assumption | omega) | (refine ⟨by (try simp only [List.length_set, List.length_take]); omega, ?_⟩; first | exact hsz | exact hsz.take _ | exact hsz.set hse | exact M.SzM.rep ‹_›) | (dsimp only; refine ⟨by (try simp only [List.length_set, List.length_take]); omega, ?_⟩; first | exact hsz | exact hsz.take _ | exact hsz.set hse | (simp only [*]; exact M.SzM.zero _ _)), by first | trivial | assumption | omega | (dsimp only; omega) | (constructor <;> first | assumption | omega) | (refine ⟨by (try simp only [List.length_set, List.length_take]); omega, ?_⟩; first | exact hsz | exact hsz.take _ | exact hsz.set hse | exact M.SzM.rep ‹_›) | (dsimp only; refine ⟨by (try simp only [List.length_set, List.length_take]); omega, ?_⟩; first | exact hsz | exact hsz.take _ | exact hsz.set hse | (simp only [*]; exact M.SzM.zero _ _))⟩
  · exact r5_ hNr0_9
  all_goals (try dsimp only)
  all_goals (first | (rw [hNr0_9]; omega) | omega | (simp only [*]; omega) | (simp; done))
 refine zS <| Qe rfl rfl <| Qa rfl <| JL.nil ?_
 refine zi (fun h50 h50' => ?_) fun h50 h50' => ?_
 ·
  refine Js.region <| Qm rfl <| zBB 1 sp_ rfl (fun w hb _ hw => c_spec_l00Src_pick s_code X14AT X14SD 2 hb (ok_ hw)) ?_
  rintro _ _ G51 ⟨X51KX, X51AT, X51SD, rfl, rfl, hX51_0, hX51_1, hX51_2, hX51_3⟩
  refine znl ?_
  refine Qp rfl rfl <| zmkL cSlot lSlot M.Slo.zero (a0 := 64 + X51KX) (m := (64 + X51KX).toNat) (by omega) (by omega) zown_Slot ?_
  intro b52 xs53 hx53
  have hl53 : xs53.length = (64 + X51KX).toNat := by rw [hx53]; exact List.length_replicate
  refine Qf fh rfl <| zw 5 rfl rfl rfl ?_
  refine JL.nil ?_
  refine zf [0, 0, 0, 1, 1, 3, 3, 3, 3] fun GG54 => ?_
  refine zn ?_
  refine Js.blockEnd <| Js.seq ?_
  refine zk [2, 3] (fun F U l os u => l = F [] ∧ os = U [nO, nO, nO, nO, nO, nO, nO, some (boxO b2 [.slice A3rb_0 X3PX.pits.length c3rb_0, .slice A3rb_1 X3PX.stores.length c3rb_1, .int .i64 X3PX.player] 31), some (boxO b1 [.int .i64 X3MX.rules.pits, .int .i64 X3MX.rules.seeds, .bool X3MX.rules.stores, .bool X3MX.rules.skip, .bool X3MX.rules.relay, .bool X3MX.rules.feed, .bool X3MX.rules.again, .int .i64 X3MX.rules.capture, .int .i64 X3MX.rules.slam, .slice (some ⟨b52, 0, none⟩) xs53.length xs53.length] 28)]) ?_ ?_
  ·
   refine zdr [2, 3] ?_
   refine JH.q 0 rfl (L9 4 rfl rfl) ?_
   refine y2 1 2 ?_ ?_
   ·
    refine JHo.q rfl (L9 3 rfl rfl) ?_
    refine y1 2 ?_
    refine yst rfl rfl rfl ?_
    refine y1 3 ?_
    refine yst rfl rfl rfl ?_
    refine yd ?_
    exact zm ⟨rfl, rfl⟩ (Up.refl _ _)
   refine yst rfl rfl rfl ?_
   refine y1 1 ?_
   refine JHo.q rfl (L9 3 rfl rfl) ?_
   refine y1 3 ?_
   refine yst rfl rfl rfl ?_
   refine yd ?_
   exact zm ⟨rfl, rfl⟩ (Up.refl _ _)
  rintro _ _ u55 ⟨rfl, rfl⟩ x55
  refine zn ?_
  refine zf [0, 0, 0, 2, 2, 2, 2] fun GG56 => ?_
  refine zn ?_
  refine zrb [2, 0, 0, 0, 0] hb x55 ?_
  refine ⟨((M.Mem.mk X3MX.rules xs53)), (X3PX), (X51AT), (X51SD), (some ⟨b52, 0, none⟩), xs53.length, [], (repL [.bool false, .slice none 0 0, .int .i64 0, .int .i64 0, .int .i64 0, .int .i64 0] xs53.length), [], A3rb_0, c3rb_0, A3rb_1, c3rb_1, g3rb_1, rfl, ?_, ?_, ?_, ?_, ?_, ?_, ?_, by first | trivial | assumption | omega | (dsimp only; omega) | (constructor <;> first | assumption | omega) | (refine ⟨by (try simp only [List.length_set, List.length_take]); omega, ?_⟩; first | exact hsz | exact hsz.take _ | exact hsz.set hse | exact M.SzM.rep ‹_›) | (dsimp only; refine ⟨by (try simp only [List.length_set, List.length_take]); omega, ?_⟩; first | exact hsz | exact hsz.take _ | exact hsz.set hse | (simp only [*]; exact M.SzM.zero _ _)), by first | trivial | assumption | omega | (dsimp only; omega) | (constructor <;> first | assumption | omega) | (refine ⟨by (try simp only [List.length_set, List.length_take]); omega, ?_⟩; first | exact hsz | exact hsz.take _ | exact hsz.set hse | exact M.SzM.rep ‹_›) | (dsimp only; refine ⟨by (try simp only [List.length_set, List.length_take]); omega, ?_⟩; first | exact hsz | exact hsz.take _ | exact hsz.set hse | (simp only [*]; exact M.SzM.zero _ _)), by first | trivial | assumption | omega | (dsimp only; omega) | (constructor <;> first | assumption | omega) | (refine ⟨by (try simp only [List.length_set, List.length_take]); omega, ?_⟩; first | exact hsz | exact hsz.take _ | exact hsz.set hse | exact M.SzM.rep ‹_›) | (dsimp only; refine ⟨by (try simp only [List.length_set, List.length_take]); omega, ?_⟩; first | exact hsz | exact hsz.take _ | exact hsz.set hse | (simp only [*]; exact M.SzM.zero _ _)), by first | trivial | assumption | omega | (dsimp only; omega) | (constructor <;> first | assumption | omega) | (refine ⟨by (try simp only [List.length_set, List.length_take]); omega, ?_⟩; first | exact hsz | exact hsz.take _ | exact hsz.set hse | exact M.SzM.rep ‹_›) | (dsimp only; refine ⟨by (try simp only [List.length_set, List.length_take]); omega, ?_⟩; first | exact hsz | exact hsz.take _ | exact hsz.set hse | (simp only [*]; exact M.SzM.zero _ _))⟩
  · rfl
  all_goals (try dsimp only)
  all_goals (first | (omega) | omega | (simp only [*]; omega) | (simp; done))
 refine zS <| Qe rfl rfl <| Qa rfl <| JL.nil ?_
 refine zi (fun h57 h57' => ?_) fun h57 h57' => ?_
 ·
  refine Js.region <| Qf fh rfl <| Q0 2 rfl rfl rfl <| Qm rfl <| Qq (p_slice (lo' := 0) (hi' := X10KX.toNat) (mx' := c3ra_9) el_26 rfl rfl ⟨_, by rw [Int.toNat_of_nonneg (by omega)]; exact rfl, by omega⟩ rfl) <| Qf fh rfl <| zw 2 rfl rfl rfl ?_
  refine JL.nil ?_
  refine Js.ex3 (fun w hw => St.cutN cSlot (i := 3) (j := 3) (k := X10KX.toNat) (fun _ => rfl) rfl rfl (by omega) hw) (fun f58_1 f58_2 f58_3 => ?_)
  refine Js.fold2 (lSlot (X3MX.slots.take X10KX.toNat)) rfl ?_
  refine zn ?_
  refine Js.blockEnd <| Js.seq ?_
  refine zk [2, 3] (fun F U l os u => l = F [] ∧ os = U [nO, nO, nO, nO, nO, nO, nO, nO, some (boxO b2 [.slice A3rb_0 X3PX.pits.length c3rb_0, .slice A3rb_1 X3PX.stores.length c3rb_1, .int .i64 X3PX.player] 31), some (boxO b1 [.int .i64 X3MX.rules.pits, .int .i64 X3MX.rules.seeds, .bool X3MX.rules.stores, .bool X3MX.rules.skip, .bool X3MX.rules.relay, .bool X3MX.rules.feed, .bool X3MX.rules.again, .int .i64 X3MX.rules.capture, .int .i64 X3MX.rules.slam, .slice (cutA 6 (some ⟨b13, 0, none⟩) 0 c3ra_9) (X10KX.toNat - 0) (c3ra_9 - 0)] 28)]) ?_ ?_
  ·
   refine zdr [2, 3] ?_
   refine JH.q 0 rfl (L9 5 rfl rfl) ?_
   refine y2 1 2 ?_ ?_
   ·
    refine JHo.q rfl (L9 4 rfl rfl) ?_
    refine y1 2 ?_
    refine yst rfl rfl rfl ?_
    refine y1 3 ?_
    refine yst rfl rfl rfl ?_
    refine yd ?_
    exact zm ⟨rfl, rfl⟩ (Up.refl _ _)
   refine yst rfl rfl rfl ?_
   refine y1 1 ?_
   refine JHo.q rfl (L9 4 rfl rfl) ?_
   refine y1 3 ?_
   refine yst rfl rfl rfl ?_
   refine yd ?_
   exact zm ⟨rfl, rfl⟩ (Up.refl _ _)
  rintro _ _ u59 ⟨rfl, rfl⟩ x59
  refine zn ?_
  refine zf [0, 0, 1, 3, 3, 3, 3] fun GG60 => ?_
  refine zn ?_
  refine zrb [2, 0, 0, 0, 0] hb x59 ?_
  have hNr0_9 : (X3MX.slots.take X10KX.toNat).length = X10KX.toNat - 0 := by first | rfl | assumption | omega | (simp only [List.length_set, M.setI_length]; done) | (simp only [List.length_set, M.setI_length]; first | rfl | assumption | omega) | (simp only [List.length_drop]; first | done | rfl | omega) | (simp; done) | (simp; omega)
  refine ⟨((M.Mem.mk X3MX.rules (X3MX.slots.take X10KX.toNat))), (X3PX), (X14AT), (X14SD), (cutA 6 (some ⟨b13, 0, none⟩) 0 c3ra_9), (c3ra_9 - 0), g3ra_9, (vs3ra_9.take (X10KX.toNat * 6)), f58_1, A3rb_0, c3rb_0, A3rb_1, c3rb_1, g3rb_1, (show (.tuple #[.agg #[.int .i64 X3MX.rules.pits, .int .i64 X3MX.rules.seeds, .bool X3MX.rules.stores, .bool X3MX.rules.skip, .bool X3MX.rules.relay, .bool X3MX.rules.feed, .bool X3MX.rules.again, .int .i64 X3MX.rules.capture, .int .i64 X3MX.rules.slam, .slice (cutA 6 (some ⟨b13, 0, none⟩) 0 c3ra_9) (X10KX.toNat - 0) (c3ra_9 - 0)], .agg #[.slice A3rb_0 X3PX.pits.length c3rb_0, .slice A3rb_1 X3PX.stores.length c3rb_1, .int .i64 X3PX.player]] : Value) = .tuple #[.agg #[.int .i64 X3MX.rules.pits, .int .i64 X3MX.rules.seeds, .bool X3MX.rules.stores, .bool X3MX.rules.skip, .bool X3MX.rules.relay, .bool X3MX.rules.feed, .bool X3MX.rules.again, .int .i64 X3MX.rules.capture, .int .i64 X3MX.rules.slam, .slice (cutA 6 (some ⟨b13, 0, none⟩) 0 c3ra_9) (X3MX.slots.take X10KX.toNat).length (c3ra_9 - 0)], .agg #[.slice A3rb_0 X3PX.pits.length c3rb_0, .slice A3rb_1 X3PX.stores.length c3rb_1, .int .i64 X3PX.player]] by rw [hNr0_9]), ?_, ?_, ?_, ?_, ?_, ?_, ?_, by first | trivial | assumption | omega | (dsimp only; omega) | (constructor <;> first | assumption | omega) | (refine ⟨by (try simp only [List.length_set, List.length_take]); omega, ?_⟩; first | exact hsz | exact hsz.take _ | exact hsz.set hse | exact M.SzM.rep ‹_›) | (dsimp only; refine ⟨by (try simp only [List.length_set, List.length_take]); omega, ?_⟩; first | exact hsz | exact hsz.take _ | exact hsz.set hse | (simp only [*]; exact M.SzM.zero _ _)), by first | trivial | assumption | omega | (dsimp only; omega) | (constructor <;> first | assumption | omega) | (refine ⟨by (try simp only [List.length_set, List.length_take]); omega, ?_⟩; first | exact hsz | exact hsz.take _ | exact hsz.set hse | exact M.SzM.rep ‹_›) | (dsimp only; refine ⟨by (try simp only [List.length_set, List.length_take]); omega, ?_⟩; first | exact hsz | exact hsz.take _ | exact hsz.set hse | (simp only [*]; exact M.SzM.zero _ _)), by first | trivial | assumption | omega | (dsimp only; omega) | (constructor <;> first | assumption | omega) | (refine ⟨by (try simp only [List.length_set, List.length_take]); omega, ?_⟩; first | exact hsz | exact hsz.take _ | exact hsz.set hse | exact M.SzM.rep ‹_›) | (dsimp only; refine ⟨by (try simp only [List.length_set, List.length_take]); omega, ?_⟩; first | exact hsz | exact hsz.take _ | exact hsz.set hse | (simp only [*]; exact M.SzM.zero _ _)), by first | trivial | assumption | omega | (dsimp only; omega) | (constructor <;> first | assumption | omega) | (refine ⟨by (try simp only [List.length_set, List.length_take]); omega, ?_⟩; first | exact hsz | exact hsz.take _ | exact hsz.set hse | exact M.SzM.rep ‹_›) | (dsimp only; refine ⟨by (try simp only [List.length_set, List.length_take]); omega, ?_⟩; first | exact hsz | exact hsz.take _ | exact hsz.set hse | (simp only [*]; exact M.SzM.zero _ _))⟩
  · exact r5_ hNr0_9
  all_goals (try dsimp only)
  all_goals (first | (rw [hNr0_9]; omega) | omega | (simp only [*]; omega) | (simp; done))
 refine zS <| Qe rfl rfl <| Qa rfl <| JL.nil ?_
 refine zi (fun h61 h61' => ?_) fun h61 h61' => ?_
 ·
  refine Js.fact (fun w hw => elem_in cSlot (m := 6) (k := X10KX.toNat) (xs := X3MX.slots) (fun _ => rfl) (Mem.ownC (i := 4) rfl w hw) (by omega)) (fun hl62 => ?_)
  refine Js.ex3 (fun w hw => St.elemS cSlot (m := 6) (i := 4) (xs := X3MX.slots) (fun _ => rfl) rfl hy12 he12 hw) (fun f62_1 f62_2 f62_3 => ?_)
  refine Js.unp 0 ?_
  refine zn ?_
  refine Js.region <| Qm rfl <| Qm rfl <| Qc rfl <| Qf fh rfl <| Qw (q_load1 ty_2.h rfl (fun w hw => (Mem.rowR' (i := 6) rfl he12 w hw) 2 _ rfl)) <| Qq (p_sub rfl rfl rfl) <| Qc rfl <| Qf fh rfl ?_
  refine JL.s (e_storeRow (i := 6) (xs' := setL vs3ra_9 (0 + X10KX.toNat * 6) [.bool ((M.slo X3MX.slots X10KX.toNat).used), .slice A12_1 (((M.slo X3MX.slots X10KX.toNat).pits).length) c12_1, .int .i64 (IntKind.i64.wrap (1 - ((M.slo X3MX.slots X10KX.toNat).player))), .int .i64 ((M.slo X3MX.slots X10KX.toNat).depth), .int .i64 ((M.slo X3MX.slots X10KX.toNat).value), .int .i64 ((M.slo X3MX.slots X10KX.toNat).bound)]) ty_2.h rfl rfl rfl rfl rfl rfl (by omega) (setL_at (j := 2) he12 (by decide) hl62 rfl)) ?_
  rintro _ _ _ ⟨rfl, rfl⟩ _
  refine znl ?_
  refine JL.nil <| Js.blockEnd <| Js.seq ?_
  refine zk [2, 3] (fun F U l os u => l = F [] ∧ os = U [nO, nO, nO, nO, nO, nO, nO, nO, nO, some (boxO b2 [.slice A3rb_0 X3PX.pits.length c3rb_0, .slice A3rb_1 X3PX.stores.length c3rb_1, .int .i64 X3PX.player] 31), some (boxO b1 [.int .i64 X3MX.rules.pits, .int .i64 X3MX.rules.seeds, .bool X3MX.rules.stores, .bool X3MX.rules.skip, .bool X3MX.rules.relay, .bool X3MX.rules.feed, .bool X3MX.rules.again, .int .i64 X3MX.rules.capture, .int .i64 X3MX.rules.slam, .slice (some ⟨b13, 0, none⟩) X3MX.slots.length c3ra_9] 28)]) ?_ ?_
  ·
   refine zdr [2, 3] ?_
   refine JH.q 0 rfl (L9 5 rfl rfl) ?_
   refine y2 1 2 ?_ ?_
   ·
    refine JHo.q rfl (L9 4 rfl rfl) ?_
    refine y1 2 ?_
    refine yst rfl rfl rfl ?_
    refine y1 3 ?_
    refine yst rfl rfl rfl ?_
    refine yd ?_
    exact zm ⟨rfl, rfl⟩ (Up.refl _ _)
   refine yst rfl rfl rfl ?_
   refine y1 1 ?_
   refine JHo.q rfl (L9 4 rfl rfl) ?_
   refine y1 3 ?_
   refine yst rfl rfl rfl ?_
   refine yd ?_
   exact zm ⟨rfl, rfl⟩ (Up.refl _ _)
  rintro _ _ u63 ⟨rfl, rfl⟩ x63
  refine zn ?_
  refine zf [0, 0, 0, 0, 2, 2, 2, 2, 2] fun GG64 => ?_
  refine zn ?_
  refine Js.pk (cSlot (M.Slo.mk ((M.slo X3MX.slots X10KX.toNat).used) ((M.slo X3MX.slots X10KX.toNat).pits) (IntKind.i64.wrap (1 - ((M.slo X3MX.slots X10KX.toNat).player))) ((M.slo X3MX.slots X10KX.toNat).depth) ((M.slo X3MX.slots X10KX.toNat).value) ((M.slo X3MX.slots X10KX.toNat).bound))) [.bool ((M.slo X3MX.slots X10KX.toNat).used), .slice A12_1 (((M.slo X3MX.slots X10KX.toNat).pits).length) c12_1, .int .i64 (IntKind.i64.wrap (1 - ((M.slo X3MX.slots X10KX.toNat).player))), .int .i64 ((M.slo X3MX.slots X10KX.toNat).depth), .int .i64 ((M.slo X3MX.slots X10KX.toNat).value), .int .i64 ((M.slo X3MX.slots X10KX.toNat).bound)] (fun f66 G66 => ?_)
  refine Js.front (i := 2) rfl ?_
  refine zn ?_
  refine Js.front (i := 1) rfl ?_
  refine zn ?_
  refine Js.front (i := 3) rfl ?_
  refine zn ?_
  refine Js.conv (fun w hw => St.closeE cSlot (k := X10KX.toNat) (m := 6) (xs := X3MX.slots) (y := (M.Slo.mk ((M.slo X3MX.slots X10KX.toNat).used) ((M.slo X3MX.slots X10KX.toNat).pits) (IntKind.i64.wrap (1 - ((M.slo X3MX.slots X10KX.toNat).player))) ((M.slo X3MX.slots X10KX.toNat).depth) ((M.slo X3MX.slots X10KX.toNat).value) ((M.slo X3MX.slots X10KX.toNat).bound))) (vs := vs3ra_9) (vs' := (setL vs3ra_9 (0 + X10KX.toNat * 6) [.bool ((M.slo X3MX.slots X10KX.toNat).used), .slice A12_1 (((M.slo X3MX.slots X10KX.toNat).pits).length) c12_1, .int .i64 (IntKind.i64.wrap (1 - ((M.slo X3MX.slots X10KX.toNat).player))), .int .i64 ((M.slo X3MX.slots X10KX.toNat).depth), .int .i64 ((M.slo X3MX.slots X10KX.toNat).value), .int .i64 ((M.slo X3MX.slots X10KX.toNat).bound)])) (by omega) rfl rfl hw) ?_
  refine zn ?_
  refine zrb [2, 2, 0, 1, 1] hb x63 ?_
  have hNr0_9 : (X3MX.slots.set X10KX.toNat (M.Slo.mk ((M.slo X3MX.slots X10KX.toNat).used) ((M.slo X3MX.slots X10KX.toNat).pits) (IntKind.i64.wrap (1 - ((M.slo X3MX.slots X10KX.toNat).player))) ((M.slo X3MX.slots X10KX.toNat).depth) ((M.slo X3MX.slots X10KX.toNat).value) ((M.slo X3MX.slots X10KX.toNat).bound))).length = X3MX.slots.length := by first | rfl | assumption | omega | (simp only [List.length_set, M.setI_length]; done) | (simp only [List.length_set, M.setI_length]; first | rfl | assumption | omega) | (simp only [List.length_drop]; first | done | rfl | omega) | (simp; done) | (simp; omega)
  refine ⟨((M.Mem.mk X3MX.rules (X3MX.slots.set X10KX.toNat (M.Slo.mk ((M.slo X3MX.slots X10KX.toNat).used) ((M.slo X3MX.slots X10KX.toNat).pits) (IntKind.i64.wrap (1 - ((M.slo X3MX.slots X10KX.toNat).player))) ((M.slo X3MX.slots X10KX.toNat).depth) ((M.slo X3MX.slots X10KX.toNat).value) ((M.slo X3MX.slots X10KX.toNat).bound))))), (X3PX), (X14AT), (X14SD), (some ⟨b13, 0, none⟩), c3ra_9, g3ra_9, (setL vs3ra_9 (0 + X10KX.toNat * 6) [.bool ((M.slo X3MX.slots X10KX.toNat).used), .slice A12_1 (((M.slo X3MX.slots X10KX.toNat).pits).length) c12_1, .int .i64 (IntKind.i64.wrap (1 - ((M.slo X3MX.slots X10KX.toNat).player))), .int .i64 ((M.slo X3MX.slots X10KX.toNat).depth), .int .i64 ((M.slo X3MX.slots X10KX.toNat).value), .int .i64 ((M.slo X3MX.slots X10KX.toNat).bound)]), (f62_3 ++ f66 ++ f62_2), A3rb_0, c3rb_0, A3rb_1, c3rb_1, g3rb_1, (show (.tuple #[.agg #[.int .i64 X3MX.rules.pits, .int .i64 X3MX.rules.seeds, .bool X3MX.rules.stores, .bool X3MX.rules.skip, .bool X3MX.rules.relay, .bool X3MX.rules.feed, .bool X3MX.rules.again, .int .i64 X3MX.rules.capture, .int .i64 X3MX.rules.slam, .slice (some ⟨b13, 0, none⟩) X3MX.slots.length c3ra_9], .agg #[.slice A3rb_0 X3PX.pits.length c3rb_0, .slice A3rb_1 X3PX.stores.length c3rb_1, .int .i64 X3PX.player]] : Value) = .tuple #[.agg #[.int .i64 X3MX.rules.pits, .int .i64 X3MX.rules.seeds, .bool X3MX.rules.stores, .bool X3MX.rules.skip, .bool X3MX.rules.relay, .bool X3MX.rules.feed, .bool X3MX.rules.again, .int .i64 X3MX.rules.capture, .int .i64 X3MX.rules.slam, .slice (some ⟨b13, 0, none⟩) (X3MX.slots.set X10KX.toNat (M.Slo.mk ((M.slo X3MX.slots X10KX.toNat).used) ((M.slo X3MX.slots X10KX.toNat).pits) (IntKind.i64.wrap (1 - ((M.slo X3MX.slots X10KX.toNat).player))) ((M.slo X3MX.slots X10KX.toNat).depth) ((M.slo X3MX.slots X10KX.toNat).value) ((M.slo X3MX.slots X10KX.toNat).bound))).length c3ra_9], .agg #[.slice A3rb_0 X3PX.pits.length c3rb_0, .slice A3rb_1 X3PX.stores.length c3rb_1, .int .i64 X3PX.player]] by rw [hNr0_9]), ?_, ?_, ?_, ?_, ?_, ?_, ?_, by first | trivial | assumption | omega | (dsimp only; omega) | (constructor <;> first | assumption | omega) | (refine ⟨by (try simp only [List.length_set, List.length_take]); omega, ?_⟩; first | exact hsz | exact hsz.take _ | exact hsz.set hse | exact M.SzM.rep ‹_›) | (dsimp only; refine ⟨by (try simp only [List.length_set, List.length_take]); omega, ?_⟩; first | exact hsz | exact hsz.take _ | exact hsz.set hse | (simp only [*]; exact M.SzM.zero _ _)), by first | trivial | assumption | omega | (dsimp only; omega) | (constructor <;> first | assumption | omega) | (refine ⟨by (try simp only [List.length_set, List.length_take]); omega, ?_⟩; first | exact hsz | exact hsz.take _ | exact hsz.set hse | exact M.SzM.rep ‹_›) | (dsimp only; refine ⟨by (try simp only [List.length_set, List.length_take]); omega, ?_⟩; first | exact hsz | exact hsz.take _ | exact hsz.set hse | (simp only [*]; exact M.SzM.zero _ _)), by first | trivial | assumption | omega | (dsimp only; omega) | (constructor <;> first | assumption | omega) | (refine ⟨by (try simp only [List.length_set, List.length_take]); omega, ?_⟩; first | exact hsz | exact hsz.take _ | exact hsz.set hse | exact M.SzM.rep ‹_›) | (dsimp only; refine ⟨by (try simp only [List.length_set, List.length_take]); omega, ?_⟩; first | exact hsz | exact hsz.take _ | exact hsz.set hse | (simp only [*]; exact M.SzM.zero _ _)), by first | trivial | assumption | omega | (dsimp only; omega) | (constructor <;> first | assumption | omega) | (refine ⟨by (try simp only [List.length_set, List.length_take]); omega, ?_⟩; first | exact hsz | exact hsz.take _ | exact hsz.set hse | exact M.SzM.rep ‹_›) | (dsimp only; refine ⟨by (try simp only [List.length_set, List.length_take]); omega, ?_⟩; first | exact hsz | exact hsz.take _ | exact hsz.set hse | (simp only [*]; exact M.SzM.zero _ _))⟩
  · exact r5_ hNr0_9
  all_goals (try dsimp only)
  all_goals (first | (rw [hNr0_9]; omega) | omega | (simp only [*]; omega) | (simp; done))
 refine zS <| Qe rfl rfl <| Qa rfl <| JL.nil ?_
 refine zi (fun h67 h67' => ?_) fun h67 h67' => ?_
 ·
  refine Js.region <| Qm rfl <| zbs fun b68 => ?_
  refine zhl [1] ?_
  refine zBB 1 sp_ rfl (fun w hb _ hw => c_spec_l00Src_among s_code X14AT X14SD [(-1), 0, 1, 2] hb (ok_ hw) (ints_rowok (xs := [(-1), 0, 1, 2]) (hw.pr (i := 0) rfl)) (r3 := (by simp)) (r4 := (by simp))) ?_
  rintro _ _ G70 ⟨X70KX, X70AT, X70SD, rfl, rfl, hX70_0, hX70_1, hX70_2⟩
  refine znl ?_
  refine Qf fh rfl <| zw 3 rfl rfl rfl ?_
  refine JL.nil ?_
  refine zf [0, 2, 2, 2, 2, 2, 2, 2, 2] fun GG71 => ?_
  refine zn ?_
  refine Js.blockEnd <| Js.seq ?_
  refine zk [2, 3] (fun F U l os u => l = F [] ∧ os = U [nO, nO, nO, nO, nO, nO, nO, some (boxO b2 [.slice A3rb_0 X3PX.pits.length c3rb_0, .slice A3rb_1 X3PX.stores.length c3rb_1, .int .i64 X70KX] 31), some (boxO b1 [.int .i64 X3MX.rules.pits, .int .i64 X3MX.rules.seeds, .bool X3MX.rules.stores, .bool X3MX.rules.skip, .bool X3MX.rules.relay, .bool X3MX.rules.feed, .bool X3MX.rules.again, .int .i64 X3MX.rules.capture, .int .i64 X3MX.rules.slam, .slice (some ⟨b13, 0, none⟩) X3MX.slots.length c3ra_9] 28)]) ?_ ?_
  ·
   refine zdr [2, 3] ?_
   refine JH.q 0 rfl (L9 2 rfl rfl) ?_
   refine y2 1 2 ?_ ?_
   ·
    refine JHo.q rfl (L9 1 rfl rfl) ?_
    refine y1 2 ?_
    refine yst rfl rfl rfl ?_
    refine y1 3 ?_
    refine yst rfl rfl rfl ?_
    refine yd ?_
    exact zm ⟨rfl, rfl⟩ (Up.refl _ _)
   refine yst rfl rfl rfl ?_
   refine y1 1 ?_
   refine JHo.q rfl (L9 1 rfl rfl) ?_
   refine y1 3 ?_
   refine yst rfl rfl rfl ?_
   refine yd ?_
   exact zm ⟨rfl, rfl⟩ (Up.refl _ _)
  rintro _ _ u72 ⟨rfl, rfl⟩ x72
  refine zn ?_
  refine zf [0, 2, 2, 2, 2, 2, 2] fun GG73 => ?_
  refine zn ?_
  refine zrb [0, 0, 0, 0, 0] hb x72 ?_
  refine ⟨(X3MX), ((M.Pos.mk X3PX.pits X3PX.stores X70KX)), (X70AT), (X70SD), (some ⟨b13, 0, none⟩), c3ra_9, g3ra_9, vs3ra_9, f3ra_9, A3rb_0, c3rb_0, A3rb_1, c3rb_1, g3rb_1, rfl, ?_, ?_, ?_, ?_, ?_, ?_, ?_, by first | trivial | assumption | omega | (dsimp only; omega) | (constructor <;> first | assumption | omega) | (refine ⟨by (try simp only [List.length_set, List.length_take]); omega, ?_⟩; first | exact hsz | exact hsz.take _ | exact hsz.set hse | exact M.SzM.rep ‹_›) | (dsimp only; refine ⟨by (try simp only [List.length_set, List.length_take]); omega, ?_⟩; first | exact hsz | exact hsz.take _ | exact hsz.set hse | (simp only [*]; exact M.SzM.zero _ _)), by first | trivial | assumption | omega | (dsimp only; omega) | (constructor <;> first | assumption | omega) | (refine ⟨by (try simp only [List.length_set, List.length_take]); omega, ?_⟩; first | exact hsz | exact hsz.take _ | exact hsz.set hse | exact M.SzM.rep ‹_›) | (dsimp only; refine ⟨by (try simp only [List.length_set, List.length_take]); omega, ?_⟩; first | exact hsz | exact hsz.take _ | exact hsz.set hse | (simp only [*]; exact M.SzM.zero _ _)), by first | trivial | assumption | omega | (dsimp only; omega) | (constructor <;> first | assumption | omega) | (refine ⟨by (try simp only [List.length_set, List.length_take]); omega, ?_⟩; first | exact hsz | exact hsz.take _ | exact hsz.set hse | exact M.SzM.rep ‹_›) | (dsimp only; refine ⟨by (try simp only [List.length_set, List.length_take]); omega, ?_⟩; first | exact hsz | exact hsz.take _ | exact hsz.set hse | (simp only [*]; exact M.SzM.zero _ _)), by first | trivial | assumption | omega | (dsimp only; omega) | (constructor <;> first | assumption | omega) | (refine ⟨by (try simp only [List.length_set, List.length_take]); omega, ?_⟩; first | exact hsz | exact hsz.take _ | exact hsz.set hse | exact M.SzM.rep ‹_›) | (dsimp only; refine ⟨by (try simp only [List.length_set, List.length_take]); omega, ?_⟩; first | exact hsz | exact hsz.take _ | exact hsz.set hse | (simp only [*]; exact M.SzM.zero _ _))⟩
  · rfl
  all_goals (try dsimp only)
  all_goals (first | (omega) | omega | (simp only [*]; omega) | (simp; done))
 refine Js.skip <| Js.blockEnd <| Js.seq ?_
 refine zk [2, 3] (fun F U l os u => l = F [] ∧ os = U [nO, nO, nO, nO, nO, nO, nO, some (boxO b2 [.slice A3rb_0 X3PX.pits.length c3rb_0, .slice A3rb_1 X3PX.stores.length c3rb_1, .int .i64 X3PX.player] 31), some (boxO b1 [.int .i64 X3MX.rules.pits, .int .i64 X3MX.rules.seeds, .bool X3MX.rules.stores, .bool X3MX.rules.skip, .bool X3MX.rules.relay, .bool X3MX.rules.feed, .bool X3MX.rules.again, .int .i64 X3MX.rules.capture, .int .i64 X3MX.rules.slam, .slice (some ⟨b13, 0, none⟩) X3MX.slots.length c3ra_9] 28)]) ?_ ?_
 ·
  refine zdr [2, 3] ?_
  refine JH.q 0 rfl (L9 2 rfl rfl) ?_
  refine y2 1 2 ?_ ?_
  ·
   refine JHo.q rfl (L9 1 rfl rfl) ?_
   refine y1 2 ?_
   refine yst rfl rfl rfl ?_
   refine y1 3 ?_
   refine yst rfl rfl rfl ?_
   refine yd ?_
   exact zm ⟨rfl, rfl⟩ (Up.refl _ _)
  refine yst rfl rfl rfl ?_
  refine y1 1 ?_
  refine JHo.q rfl (L9 1 rfl rfl) ?_
  refine y1 3 ?_
  refine yst rfl rfl rfl ?_
  refine yd ?_
  exact zm ⟨rfl, rfl⟩ (Up.refl _ _)
 rintro _ _ u74 ⟨rfl, rfl⟩ x74
 refine zn ?_
 refine zf [0, 2, 2, 2, 2, 2, 2] fun GG75 => ?_
 refine zn ?_
 refine zrb [0, 0, 0, 0, 0] hb x74 ?_
 refine ⟨(X3MX), (X3PX), (X14AT), (X14SD), (some ⟨b13, 0, none⟩), c3ra_9, g3ra_9, vs3ra_9, f3ra_9, A3rb_0, c3rb_0, A3rb_1, c3rb_1, g3rb_1, rfl, ?_, ?_, ?_, ?_, ?_, ?_, ?_, by first | trivial | assumption | omega | (dsimp only; omega) | (constructor <;> first | assumption | omega) | (refine ⟨by (try simp only [List.length_set, List.length_take]); omega, ?_⟩; first | exact hsz | exact hsz.take _ | exact hsz.set hse | exact M.SzM.rep ‹_›) | (dsimp only; refine ⟨by (try simp only [List.length_set, List.length_take]); omega, ?_⟩; first | exact hsz | exact hsz.take _ | exact hsz.set hse | (simp only [*]; exact M.SzM.zero _ _)), by first | trivial | assumption | omega | (dsimp only; omega) | (constructor <;> first | assumption | omega) | (refine ⟨by (try simp only [List.length_set, List.length_take]); omega, ?_⟩; first | exact hsz | exact hsz.take _ | exact hsz.set hse | exact M.SzM.rep ‹_›) | (dsimp only; refine ⟨by (try simp only [List.length_set, List.length_take]); omega, ?_⟩; first | exact hsz | exact hsz.take _ | exact hsz.set hse | (simp only [*]; exact M.SzM.zero _ _)), by first | trivial | assumption | omega | (dsimp only; omega) | (constructor <;> first | assumption | omega) | (refine ⟨by (try simp only [List.length_set, List.length_take]); omega, ?_⟩; first | exact hsz | exact hsz.take _ | exact hsz.set hse | exact M.SzM.rep ‹_›) | (dsimp only; refine ⟨by (try simp only [List.length_set, List.length_take]); omega, ?_⟩; first | exact hsz | exact hsz.take _ | exact hsz.set hse | (simp only [*]; exact M.SzM.zero _ _)), by first | trivial | assumption | omega | (dsimp only; omega) | (constructor <;> first | assumption | omega) | (refine ⟨by (try simp only [List.length_set, List.length_take]); omega, ?_⟩; first | exact hsz | exact hsz.take _ | exact hsz.set hse | exact M.SzM.rep ‹_›) | (dsimp only; refine ⟨by (try simp only [List.length_set, List.length_take]); omega, ?_⟩; first | exact hsz | exact hsz.take _ | exact hsz.set hse | (simp only [*]; exact M.SzM.zero _ _))⟩
 · rfl
 all_goals (try dsimp only)
 all_goals (first | (omega) | omega | (simp only [*]; omega) | (simp; done))
theorem c_spec_DrawForgetShallow (code : Nat) {v_code : Value} {w : World} (h_code : (Ty.bytes 5 code).ok w v_code) (r0 : code ≤ 1048576 := by exact om_) : Ret Try.prog 17 [v_code] w (Ty.tup [Ty.ex (fun (MX : M.Mem) => (MX.slots.length ≤ 65 ∧ M.SzM 16 MX.slots)) (fun MX => Ty.agg (cMemory MX)), Ty.ex (fun (KX : Int) => True) (fun KX => Ty.int KX)]) := by
 revert v_code; apply opn
 intro A1 c1 h1 bl1 bh1
 have h_code := h1
 refine enter @Try.func17 @Try.ntmps17 rfl rfl ?_
 refine zent ?_
 refine zS <| za zeh fun b2 => Qa rfl <| zN <| Qm rfl <| zcs rfl (fun w hw => c_spec_l00From code (ok_ hw)) ?_
 intro b3
 refine Qa rfl <| zN <| Qm rfl <| zB 1 sp_ rfl (fun w hb hw => c_spec_l16Bent code 0 0 hb (ok_ hw)) ?_
 rintro _ _ G4 ⟨X4MX, X4PX, X4AT, X4SD, A4ra_9, c4ra_9, g4ra_9, vs4ra_9, f4ra_9, A4rb_0, c4rb_0, A4rb_1, c4rb_1, g4rb_1, rfl, rfl, bl4_0, bl4_1, bl4_2, bl4_3, bl4_4, bl4_5, hX4_0, hX4_1, hX4_2, hX4_3⟩
 refine znl ?_
 refine Qm rfl <| Qx rfl rfl <| Qx rfl rfl <| za zeh fun b5 => za zeh fun b6 => zw 1 rfl rfl rfl ?_
 refine zw 0 rfl rfl rfl ?_
 refine zN <| Qm rfl ?_
 refine zhl [2] ?_
 refine zB 1 sp_ rfl (fun w hb hw => c_spec_l00Src_pick code X4AT X4SD 5 hb (ok_ hw)) ?_
 rintro _ _ G7 ⟨X7KX, X7AT, X7SD, rfl, rfl, hX7_0, hX7_1, hX7_2, hX7_3⟩
 refine znl ?_
 refine Qa rfl <| zJ <| zS <| Qm rfl <| zB 1 sp_ rfl (fun w hb hw => c_spec_l00Src_one code X7AT X7SD 10 hb (ok_ hw)) ?_
 rintro _ _ G8 ⟨X8BX, X8AT, X8SD, rfl, rfl, hX8_0, hX8_1⟩
 refine znl ?_
 refine JL.nil ?_
 refine zi (fun h9 h9' => ?_) fun h9 h9' => ?_
 ·
  refine Js.region <| Qm rfl <| zbs fun b10 => ?_
  refine zhl [1] ?_
  refine zB 1 sp_ rfl (fun w hb hw => c_spec_l00Src_among code X8AT X8SD [(-1), 9, 10] hb (ok_ hw) (ints_rowok (xs := [(-1), 9, 10]) (hw.pr (i := 0) rfl)) (r3 := (by simp)) (r4 := (by simp))) ?_
  rintro _ _ G12 ⟨X12KX, X12AT, X12SD, rfl, rfl, hX12_0, hX12_1, hX12_2⟩
  refine znl ?_
  refine Qa rfl <| zN <| Q9 6 rfl rfl ?_
  refine Qm rfl <| zw 12 rfl rfl rfl ?_
  refine Qa rfl <| JL.nil ?_
  exact zro (Up.refl _ _) (g := by exact (gv_tup (gvc (gv_ex X4MX (by first | trivial | assumption | omega | (dsimp only; omega) | (constructor <;> first | assumption | omega) | (dsimp only; constructor <;> first | assumption | omega | (simp; done))) gv_) (gvc (gv_ex X12KX (by first | trivial | assumption | omega | (dsimp only; omega) | (constructor <;> first | assumption | omega) | (dsimp only; constructor <;> first | assumption | omega | (simp; done))) gv_) gvn))))
 refine Js.skip <| zS <| Q9 4 rfl rfl ?_
 refine Qm rfl <| zw 10 rfl rfl rfl ?_
 refine Qa rfl <| JL.nil ?_
 exact zro (Up.refl _ _) (g := by exact (gv_tup (gvc (gv_ex X4MX (by first | trivial | assumption | omega | (dsimp only; omega) | (constructor <;> first | assumption | omega) | (dsimp only; constructor <;> first | assumption | omega | (simp; done))) gv_) (gvc (gv_ex X7KX (by first | trivial | assumption | omega | (dsimp only; omega) | (constructor <;> first | assumption | omega) | (dsimp only; constructor <;> first | assumption | omega | (simp; done))) gv_) gvn))))
theorem c_spec_DrawNewMemory (code : Nat) {v_code : Value} {w : World} (h_code : (Ty.bytes 5 code).ok w v_code) (r0 : code ≤ 1048576 := by exact om_) : Ret Try.prog 24 [v_code] w (Ty.tup [Ty.ex (fun (RX : M.Rul) => True) (fun RX => Ty.agg (cRules RX)), Ty.ex (fun (KX : Int) => True) (fun KX => Ty.int KX)]) := by
 revert v_code; apply opn
 intro A1 c1 h1 bl1 bh1
 have h_code := h1
 refine enter @Try.func24 @Try.ntmps24 rfl rfl ?_
 refine zent ?_
 refine zS <| za zeh fun b2 => Qa rfl <| zN <| Qm rfl <| zcs rfl (fun w hw => c_spec_l00From code (ok_ hw)) ?_
 intro b3
 refine Qa rfl <| zN <| Qm rfl <| zB 1 sp_ rfl (fun w hb hw => c_spec_l02Bent code 0 0 hb (ok_ hw)) ?_
 rintro _ _ G4 ⟨X4RX, X4AT, X4SD, rfl, rfl, hX4_0, hX4_1, hX4_2⟩
 refine znl ?_
 refine za zeh fun b5 => zw 0 rfl rfl rfl ?_
 refine zN <| Qm rfl ?_
 refine zhl [1] ?_
 refine zB 1 sp_ rfl (fun w hb hw => c_spec_l00Src_pick code X4AT X4SD 30 hb (ok_ hw)) ?_
 rintro _ _ G6 ⟨X6KX, X6AT, X6SD, rfl, rfl, hX6_0, hX6_1, hX6_2, hX6_3⟩
 refine znl ?_
 refine Qp rfl rfl <| Qa rfl <| zJ <| zS <| Qm rfl <| zB 1 sp_ rfl (fun w hb hw => c_spec_l00Src_one code X6AT X6SD 8 hb (ok_ hw)) ?_
 rintro _ _ G7 ⟨X7BX, X7AT, X7SD, rfl, rfl, hX7_0, hX7_1⟩
 refine znl ?_
 refine JL.nil ?_
 refine zi (fun h8 h8' => ?_) fun h8 h8' => ?_
 ·
  refine Js.region <| Qm rfl <| zbs fun b9 => ?_
  refine zhl [1] ?_
  refine zB 1 sp_ rfl (fun w hb hw => c_spec_l00Src_among code X7AT X7SD [(-1), 0, 1, 64, 65] hb (ok_ hw) (ints_rowok (xs := [(-1), 0, 1, 64, 65]) (hw.pr (i := 0) rfl)) (r3 := (by simp)) (r4 := (by simp))) ?_
  rintro _ _ G11 ⟨X11KX, X11AT, X11SD, rfl, rfl, hX11_0, hX11_1, hX11_2⟩
  refine znl ?_
  refine Qa rfl <| zN <| Q9 5 rfl rfl ?_
  refine Qm rfl <| zw 7 rfl rfl rfl ?_
  refine Qa rfl <| JL.nil ?_
  exact zro (Up.refl _ _) (g := by exact (gv_tup (gvc (gv_ex X4RX (by first | trivial | assumption | omega | (dsimp only; omega) | (constructor <;> first | assumption | omega) | (dsimp only; constructor <;> first | assumption | omega | (simp; done))) gv_) (gvc (gv_ex X11KX (by first | trivial | assumption | omega | (dsimp only; omega) | (constructor <;> first | assumption | omega) | (dsimp only; constructor <;> first | assumption | omega | (simp; done))) gv_) gvn))))
 refine Js.skip <| zS <| Q9 3 rfl rfl ?_
 refine Qm rfl <| zw 5 rfl rfl rfl ?_
 refine Qa rfl <| JL.nil ?_
 exact zro (Up.refl _ _) (g := by exact (gv_tup (gvc (gv_ex X4RX (by first | trivial | assumption | omega | (dsimp only; omega) | (constructor <;> first | assumption | omega) | (dsimp only; constructor <;> first | assumption | omega | (simp; done))) gv_) (gvc (gv_ex (1 + X6KX) (by first | trivial | assumption | omega | (dsimp only; omega) | (constructor <;> first | assumption | omega) | (dsimp only; constructor <;> first | assumption | omega | (simp; done))) gv_) gvn))))
theorem c_spec_DrawMergeMemories (code : Nat) {v_code : Value} {w : World} (h_code : (Ty.bytes 5 code).ok w v_code) (r0 : code ≤ 1048576 := by exact om_) : Ret Try.prog 20 [v_code] w (Ty.tup [Ty.ex (fun (AX : M.Mem) => (AX.slots.length ≤ 65 ∧ M.SzM 16 AX.slots)) (fun AX => Ty.agg (cMemory AX)), Ty.ex (fun (BX : M.Mem) => (BX.slots.length ≤ 65 ∧ M.SzM 16 BX.slots)) (fun BX => Ty.agg (cMemory BX))]) := by
 revert v_code; apply opn
 intro A1 c1 h1 bl1 bh1
 have h_code := h1
 refine enter @Try.func20 @Try.ntmps20 rfl rfl ?_
 refine zent ?_
 refine zS <| za zeh fun b2 => za zeh fun b3 => zN <| Qm rfl <| zcs rfl (fun w hw => c_spec_l00From code (ok_ hw)) ?_
 intro b4
 refine Qa rfl <| zN <| Qm rfl <| zB 1 sp_ rfl (fun w hb hw => c_spec_l16Bent code 0 0 hb (ok_ hw)) ?_
 rintro _ _ G5 ⟨X5MX, X5PX, X5AT, X5SD, A5ra_9, c5ra_9, g5ra_9, vs5ra_9, f5ra_9, A5rb_0, c5rb_0, A5rb_1, c5rb_1, g5rb_1, rfl, rfl, bl5_0, bl5_1, bl5_2, bl5_3, bl5_4, bl5_5, hX5_0, hX5_1, hX5_2, hX5_3⟩
 refine znl ?_
 refine Qm rfl <| Qx rfl rfl <| Qx rfl rfl <| za zeh fun b6 => za zeh fun b7 => zw 1 rfl rfl rfl ?_
 refine zw 0 rfl rfl rfl ?_
 refine zJ <| zS <| Qm rfl ?_
 refine zhl [2] ?_
 refine zB 1 sp_ rfl (fun w hb hw => c_spec_l00Src_one code X5AT X5SD 8 hb (ok_ hw)) ?_
 rintro _ _ G8 ⟨X8BX, X8AT, X8SD, rfl, rfl, hX8_0, hX8_1⟩
 refine znl ?_
 refine JL.nil ?_
 refine zi (fun h9 h9' => ?_) fun h9 h9' => ?_
 ·
  refine zS <| Qm rfl <| zB 1 sp_ rfl (fun w hb hw => c_spec_l16Bent code X8AT X8SD hb (ok_ hw)) ?_
  rintro _ _ G10 ⟨X10MX, X10PX, X10AT, X10SD, A10ra_9, c10ra_9, g10ra_9, vs10ra_9, f10ra_9, A10rb_0, c10rb_0, A10rb_1, c10rb_1, g10rb_1, rfl, rfl, bl10_0, bl10_1, bl10_2, bl10_3, bl10_4, bl10_5, hX10_0, hX10_1, hX10_2, hX10_3⟩
  refine znl ?_
  refine Qm rfl <| Qx rfl rfl <| Qx rfl rfl <| za zeh fun b11 => za zeh fun b12 => zw 1 rfl rfl rfl ?_
  refine zw 0 rfl rfl rfl ?_
  refine zJ ?_
  refine zk [2, 3] (fun F U l os u => l = F [] ∧ os = U [nO, nO, nO, nO, nO, nO, nO, nO, nO, nO, nO, nO, nO, nO, nO, nO, some (boxO b3 [.int .i64 X10MX.rules.pits, .int .i64 X10MX.rules.seeds, .bool X10MX.rules.stores, .bool X10MX.rules.skip, .bool X10MX.rules.relay, .bool X10MX.rules.feed, .bool X10MX.rules.again, .int .i64 X10MX.rules.capture, .int .i64 X10MX.rules.slam, .slice A10ra_9 X10MX.slots.length c10ra_9] 28), some (boxO b2 [.int .i64 X5MX.rules.pits, .int .i64 X5MX.rules.seeds, .bool X5MX.rules.stores, .bool X5MX.rules.skip, .bool X5MX.rules.relay, .bool X5MX.rules.feed, .bool X5MX.rules.again, .int .i64 X5MX.rules.capture, .int .i64 X5MX.rules.slam, .slice A5ra_9 X5MX.slots.length c5ra_9] 28)]) ?_ ?_
  ·
   refine zdr [2, 3] ?_
   refine JH.q 0 rfl (L9 10 rfl rfl) ?_
   refine y2 1 2 ?_ ?_
   ·
    refine JHo.q rfl (L9 1 rfl rfl) ?_
    refine y1 2 ?_
    refine yst rfl rfl rfl ?_
    refine y1 3 ?_
    refine yst rfl rfl rfl ?_
    refine yd ?_
    exact zm ⟨rfl, rfl⟩ (Up.refl _ _)
   refine yst rfl rfl rfl ?_
   refine y1 1 ?_
   refine JHo.q rfl (L9 1 rfl rfl) ?_
   refine y1 3 ?_
   refine yst rfl rfl rfl ?_
   refine yd ?_
   exact zm ⟨rfl, rfl⟩ (Up.refl _ _)
  rintro _ _ u13 ⟨rfl, rfl⟩ x13
  refine zn ?_
  exact zro x13 (g := by exact (gv_tup (gvc (gv_ex X5MX (by first | trivial | assumption | omega | (refine ⟨by first | assumption | omega | (have := hs64; simp only [List.length_set, List.length_append, List.length_cons, List.length_nil]; omega) | (have := (M.newM_sz _ _).1; omega) | exact Nat.le_trans (M.swM_sz _ _ _).1 (by decide) | exact Nat.le_trans (M.newM_sz _ _).1 (by decide), ?_⟩; first | exact hsz | exact (M.newM_sz _ _).2 | exact (M.swM_sz _ _ _).2 | exact hsz.set hse | exact hsz.app (by simp))) gv_) (gvc (gv_ex X10MX (by first | trivial | assumption | omega | (refine ⟨by first | assumption | omega | (have := hs64; simp only [List.length_set, List.length_append, List.length_cons, List.length_nil]; omega) | (have := (M.newM_sz _ _).1; omega) | exact Nat.le_trans (M.swM_sz _ _ _).1 (by decide) | exact Nat.le_trans (M.newM_sz _ _).1 (by decide), ?_⟩; first | exact hsz | exact (M.newM_sz _ _).2 | exact (M.swM_sz _ _ _).2 | exact hsz.set hse | exact hsz.app (by simp))) gv_) gvn))))
 have hMB9 := (by assumption : X5MX.slots.length ≤ 65 ∧ M.SzM 16 X5MX.slots)
 obtain ⟨hs64, hsz⟩ := hMB9
 refine Js.skip <| zS <| Qf fh rfl <| Q9 3 rfl rfl ?_
 refine Qf fh rfl <| Q0 3 rfl rfl rfl <| Qz rfl <| zc rfl (fun w hw => c_spec_NewMemory X5MX.rules (X5MX.slots.length : Int) (okx_ hw)) ?_
 intro A16 c16 vs16 f16 bl16 bh16
 refine Qm rfl <| Qx rfl rfl <| Qx rfl rfl <| za zeh fun b17 => zw 0 rfl rfl rfl ?_
 refine Qa rfl <| zJ <| zS <| Qm rfl <| Qd rfl rfl <| JL.nil ?_
 refine zi (fun h18 h18' => ?_) fun h18 h18' => ?_
 ·
  refine Js.seq ?_
  refine zk [2, 3] (fun F U l os u => l = F [] ∧ os = U [nO, nO, nO, nO, nO, nO, nO, nO, nO, nO, nO, nO, some (boxO b3 [.int .i64 ((((M.newM X5MX.rules (X5MX.slots.length : Int)).1).rules).pits), .int .i64 ((((M.newM X5MX.rules (X5MX.slots.length : Int)).1).rules).seeds), .bool ((((M.newM X5MX.rules (X5MX.slots.length : Int)).1).rules).stores), .bool ((((M.newM X5MX.rules (X5MX.slots.length : Int)).1).rules).skip), .bool ((((M.newM X5MX.rules (X5MX.slots.length : Int)).1).rules).relay), .bool ((((M.newM X5MX.rules (X5MX.slots.length : Int)).1).rules).feed), .bool ((((M.newM X5MX.rules (X5MX.slots.length : Int)).1).rules).again), .int .i64 ((((M.newM X5MX.rules (X5MX.slots.length : Int)).1).rules).capture), .int .i64 ((((M.newM X5MX.rules (X5MX.slots.length : Int)).1).rules).slam), .slice A16 ((((M.newM X5MX.rules (X5MX.slots.length : Int)).1).slots).length) c16] 28), some (boxO b2 [.int .i64 X5MX.rules.pits, .int .i64 X5MX.rules.seeds, .bool X5MX.rules.stores, .bool X5MX.rules.skip, .bool X5MX.rules.relay, .bool X5MX.rules.feed, .bool X5MX.rules.again, .int .i64 X5MX.rules.capture, .int .i64 X5MX.rules.slam, .slice A5ra_9 X5MX.slots.length c5ra_9] 28)]) ?_ ?_
  ·
   refine zdr [2, 3] ?_
   refine JH.q 0 rfl (L9 6 rfl rfl) ?_
   refine y2 1 2 ?_ ?_
   ·
    refine JHo.q rfl (L9 0 rfl rfl) ?_
    refine y1 2 ?_
    refine yst rfl rfl rfl ?_
    refine y1 3 ?_
    refine yst rfl rfl rfl ?_
    refine yd ?_
    exact zm ⟨rfl, rfl⟩ (Up.refl _ _)
   refine yst rfl rfl rfl ?_
   refine y1 1 ?_
   refine JHo.q rfl (L9 0 rfl rfl) ?_
   refine y1 3 ?_
   refine yst rfl rfl rfl ?_
   refine yd ?_
   exact zm ⟨rfl, rfl⟩ (Up.refl _ _)
  rintro _ _ u19 ⟨rfl, rfl⟩ x19
  refine zn ?_
  exact zro x19 (g := by exact (gv_tup (gvc (gv_ex X5MX (by first | trivial | assumption | omega | (refine ⟨by first | assumption | omega | (have := hs64; simp only [List.length_set, List.length_append, List.length_cons, List.length_nil]; omega) | (have := (M.newM_sz _ _).1; omega) | exact Nat.le_trans (M.swM_sz _ _ _).1 (by decide) | exact Nat.le_trans (M.newM_sz _ _).1 (by decide), ?_⟩; first | exact hsz | exact (M.newM_sz _ _).2 | exact (M.swM_sz _ _ _).2 | exact hsz.set hse | exact hsz.app (by simp))) gv_) (gvc (gv_ex ((M.newM X5MX.rules (X5MX.slots.length : Int)).1) (by first | trivial | assumption | omega | (refine ⟨by first | assumption | omega | (have := hs64; simp only [List.length_set, List.length_append, List.length_cons, List.length_nil]; omega) | (have := (M.newM_sz _ _).1; omega) | exact Nat.le_trans (M.swM_sz _ _ _).1 (by decide) | exact Nat.le_trans (M.newM_sz _ _).1 (by decide), ?_⟩; first | exact hsz | exact (M.newM_sz _ _).2 | exact (M.swM_sz _ _ _).2 | exact hsz.set hse | exact hsz.app (by simp))) gv_) gvn))))
 refine Js.skip <| zS <| Qm rfl ?_
 refine zhl [3] ?_
 refine zB 1 sp_ rfl (fun w hb hw => c_spec_l00Src_pick code X8AT X8SD 4 hb (ok_ hw)) ?_
 rintro _ _ G20 ⟨X20KX, X20AT, X20SD, rfl, rfl, hX20_0, hX20_1, hX20_2, hX20_3⟩
 refine znl ?_
 refine Qp rfl rfl <| Qa rfl <| zN <| Q9 2 rfl rfl ?_
 refine Q9 6 rfl rfl ?_
 refine Qm rfl <| zc rfl (fun w hw => c_spec_SearchWith ((M.newM X5MX.rules (X5MX.slots.length : Int)).1) X5PX (1 + X20KX) (by exact ⟨_, rfl, ⟨rfl, rfl, rfl, rfl, rfl, rfl, rfl, rfl, rfl, (srow_ok lSlot (xs := (((M.newM X5MX.rules (X5MX.slots.length : Int)).1).slots)) (hw.pr (i := 3) rfl) (hw.pr (i := 4) rfl) (lSlot_length _)), trivial⟩⟩) (okx_ hw) (r0 := (Nat.le_trans (M.newM_sz _ _).1 (by decide))) (r1 := ((M.newM_sz _ _).2.mono (by omega)))) ?_
 intro A23 c23 vs23 f23 bl23 bh23
 refine Qm rfl <| Qx rfl rfl <| Qx rfl rfl <| Qx rfl rfl <| Qx rfl rfl <| za zeh fun b24 => Qa rfl <| Qa rfl <| zw 0 rfl rfl rfl ?_
 refine Qa rfl <| zJ <| zS <| Qm rfl <| Qe rfl rfl <| JL.nil ?_
 refine zi (fun h25 h25' => ?_) fun h25 h25' => ?_
 ·
  refine Js.region <| Q9 0 rfl rfl ?_
  refine zw 5 rfl rfl rfl ?_
  refine zJ ?_
  refine zk [2, 3] (fun F U l os u => l = F [] ∧ os = U [nO, nO, nO, nO, nO, nO, nO, nO, nO, nO, nO, nO, nO, nO, nO, nO, some (boxO b3 [.int .i64 ((((M.swM ((M.newM X5MX.rules (X5MX.slots.length : Int)).1) X5PX (1 + X20KX)).2.2.1).rules).pits), .int .i64 ((((M.swM ((M.newM X5MX.rules (X5MX.slots.length : Int)).1) X5PX (1 + X20KX)).2.2.1).rules).seeds), .bool ((((M.swM ((M.newM X5MX.rules (X5MX.slots.length : Int)).1) X5PX (1 + X20KX)).2.2.1).rules).stores), .bool ((((M.swM ((M.newM X5MX.rules (X5MX.slots.length : Int)).1) X5PX (1 + X20KX)).2.2.1).rules).skip), .bool ((((M.swM ((M.newM X5MX.rules (X5MX.slots.length : Int)).1) X5PX (1 + X20KX)).2.2.1).rules).relay), .bool ((((M.swM ((M.newM X5MX.rules (X5MX.slots.length : Int)).1) X5PX (1 + X20KX)).2.2.1).rules).feed), .bool ((((M.swM ((M.newM X5MX.rules (X5MX.slots.length : Int)).1) X5PX (1 + X20KX)).2.2.1).rules).again), .int .i64 ((((M.swM ((M.newM X5MX.rules (X5MX.slots.length : Int)).1) X5PX (1 + X20KX)).2.2.1).rules).capture), .int .i64 ((((M.swM ((M.newM X5MX.rules (X5MX.slots.length : Int)).1) X5PX (1 + X20KX)).2.2.1).rules).slam), .slice A23 ((((M.swM ((M.newM X5MX.rules (X5MX.slots.length : Int)).1) X5PX (1 + X20KX)).2.2.1).slots).length) c23] 28), some (boxO b2 [.int .i64 X5MX.rules.pits, .int .i64 X5MX.rules.seeds, .bool X5MX.rules.stores, .bool X5MX.rules.skip, .bool X5MX.rules.relay, .bool X5MX.rules.feed, .bool X5MX.rules.again, .int .i64 X5MX.rules.capture, .int .i64 X5MX.rules.slam, .slice A5ra_9 X5MX.slots.length c5ra_9] 28)]) ?_ ?_
  ·
   refine zdr [2, 3] ?_
   refine JH.q 0 rfl (L9 10 rfl rfl) ?_
   refine y2 1 2 ?_ ?_
   ·
    refine JHo.q rfl (L9 5 rfl rfl) ?_
    refine y1 2 ?_
    refine yst rfl rfl rfl ?_
    refine y1 3 ?_
    refine yst rfl rfl rfl ?_
    refine yd ?_
    exact zm ⟨rfl, rfl⟩ (Up.refl _ _)
   refine yst rfl rfl rfl ?_
   refine y1 1 ?_
   refine JHo.q rfl (L9 5 rfl rfl) ?_
   refine y1 3 ?_
   refine yst rfl rfl rfl ?_
   refine yd ?_
   exact zm ⟨rfl, rfl⟩ (Up.refl _ _)
  rintro _ _ u26 ⟨rfl, rfl⟩ x26
  refine zn ?_
  exact zro x26 (g := by exact (gv_tup (gvc (gv_ex X5MX (by first | trivial | assumption | omega | (refine ⟨by first | assumption | omega | (have := hs64; simp only [List.length_set, List.length_append, List.length_cons, List.length_nil]; omega) | (have := (M.newM_sz _ _).1; omega) | exact Nat.le_trans (M.swM_sz _ _ _).1 (by decide) | exact Nat.le_trans (M.newM_sz _ _).1 (by decide), ?_⟩; first | exact hsz | exact (M.newM_sz _ _).2 | exact (M.swM_sz _ _ _).2 | exact hsz.set hse | exact hsz.app (by simp))) gv_) (gvc (gv_ex ((M.swM ((M.newM X5MX.rules (X5MX.slots.length : Int)).1) X5PX (1 + X20KX)).2.2.1) (by first | trivial | assumption | omega | (refine ⟨by first | assumption | omega | (have := hs64; simp only [List.length_set, List.length_append, List.length_cons, List.length_nil]; omega) | (have := (M.newM_sz _ _).1; omega) | exact Nat.le_trans (M.swM_sz _ _ _).1 (by decide) | exact Nat.le_trans (M.newM_sz _ _).1 (by decide), ?_⟩; first | exact hsz | exact (M.newM_sz _ _).2 | exact (M.swM_sz _ _ _).2 | exact hsz.set hse | exact hsz.app (by simp))) gv_) gvn))))
 refine Js.skip <| Js.seq ?_
 refine zk [2, 3] (fun F U l os u => l = F [] ∧ os = U [nO, nO, nO, nO, nO, nO, nO, nO, nO, nO, nO, nO, nO, nO, nO, nO, some (boxO b3 [.int .i64 ((((M.newM X5MX.rules (X5MX.slots.length : Int)).1).rules).pits), .int .i64 ((((M.newM X5MX.rules (X5MX.slots.length : Int)).1).rules).seeds), .bool ((((M.newM X5MX.rules (X5MX.slots.length : Int)).1).rules).stores), .bool ((((M.newM X5MX.rules (X5MX.slots.length : Int)).1).rules).skip), .bool ((((M.newM X5MX.rules (X5MX.slots.length : Int)).1).rules).relay), .bool ((((M.newM X5MX.rules (X5MX.slots.length : Int)).1).rules).feed), .bool ((((M.newM X5MX.rules (X5MX.slots.length : Int)).1).rules).again), .int .i64 ((((M.newM X5MX.rules (X5MX.slots.length : Int)).1).rules).capture), .int .i64 ((((M.newM X5MX.rules (X5MX.slots.length : Int)).1).rules).slam), .slice A16 ((((M.newM X5MX.rules (X5MX.slots.length : Int)).1).slots).length) c16] 28), some (boxO b2 [.int .i64 X5MX.rules.pits, .int .i64 X5MX.rules.seeds, .bool X5MX.rules.stores, .bool X5MX.rules.skip, .bool X5MX.rules.relay, .bool X5MX.rules.feed, .bool X5MX.rules.again, .int .i64 X5MX.rules.capture, .int .i64 X5MX.rules.slam, .slice A5ra_9 X5MX.slots.length c5ra_9] 28)]) ?_ ?_
 ·
  refine zdr [2, 3] ?_
  refine JH.q 0 rfl (L9 10 rfl rfl) ?_
  refine y2 1 2 ?_ ?_
  ·
   refine JHo.q rfl (L9 5 rfl rfl) ?_
   refine y1 2 ?_
   refine yst rfl rfl rfl ?_
   refine y1 3 ?_
   refine yst rfl rfl rfl ?_
   refine yd ?_
   exact zm ⟨rfl, rfl⟩ (Up.refl _ _)
  refine yst rfl rfl rfl ?_
  refine y1 1 ?_
  refine JHo.q rfl (L9 5 rfl rfl) ?_
  refine y1 3 ?_
  refine yst rfl rfl rfl ?_
  refine yd ?_
  exact zm ⟨rfl, rfl⟩ (Up.refl _ _)
 rintro _ _ u27 ⟨rfl, rfl⟩ x27
 refine zn ?_
 exact zro x27 (g := by exact (gv_tup (gvc (gv_ex X5MX (by first | trivial | assumption | omega | (refine ⟨by first | assumption | omega | (have := hs64; simp only [List.length_set, List.length_append, List.length_cons, List.length_nil]; omega) | (have := (M.newM_sz _ _).1; omega) | exact Nat.le_trans (M.swM_sz _ _ _).1 (by decide) | exact Nat.le_trans (M.newM_sz _ _).1 (by decide), ?_⟩; first | exact hsz | exact (M.newM_sz _ _).2 | exact (M.swM_sz _ _ _).2 | exact hsz.set hse | exact hsz.app (by simp))) gv_) (gvc (gv_ex ((M.newM X5MX.rules (X5MX.slots.length : Int)).1) (by first | trivial | assumption | omega | (refine ⟨by first | assumption | omega | (have := hs64; simp only [List.length_set, List.length_append, List.length_cons, List.length_nil]; omega) | (have := (M.newM_sz _ _).1; omega) | exact Nat.le_trans (M.swM_sz _ _ _).1 (by decide) | exact Nat.le_trans (M.newM_sz _ _).1 (by decide), ?_⟩; first | exact hsz | exact (M.newM_sz _ _).2 | exact (M.swM_sz _ _ _).2 | exact hsz.set hse | exact hsz.app (by simp))) gv_) gvn))))
theorem c_spec_DrawSameMemory (code : Nat) {v_code : Value} {w : World} (h_code : (Ty.bytes 5 code).ok w v_code) (r0 : code ≤ 1048576 := by exact om_) : Ret Try.prog 23 [v_code] w (Ty.tup [Ty.ex (fun (AX : M.Mem) => (AX.slots.length ≤ 65 ∧ M.SzM 16 AX.slots)) (fun AX => Ty.agg (cMemory AX)), Ty.ex (fun (BX : M.Mem) => (BX.slots.length ≤ 65 ∧ M.SzM 16 BX.slots)) (fun BX => Ty.agg (cMemory BX))]) := by
 revert v_code; apply opn
 intro A1 c1 h1 bl1 bh1
 have h_code := h1
 refine enter @Try.func23 @Try.ntmps23 rfl rfl ?_
 refine zent ?_
 refine zS <| za zeh fun b2 => za zeh fun b3 => zN <| Qm rfl <| zcs rfl (fun w hw => c_spec_l00From code (ok_ hw)) ?_
 intro b4
 refine Qa rfl <| zN <| Qm rfl <| zB 1 sp_ rfl (fun w hb hw => c_spec_l16Draw code 0 0 hb (ok_ hw)) ?_
 rintro _ _ G5 ⟨X5MX, X5PX, X5AT, X5SD, A5ra_9, c5ra_9, g5ra_9, vs5ra_9, f5ra_9, A5rb_0, c5rb_0, A5rb_1, c5rb_1, g5rb_1, rfl, rfl, bl5_0, bl5_1, bl5_2, bl5_3, bl5_4, bl5_5, hX5_0, hX5_1, hX5_2, hX5_3⟩
 refine znl ?_
 have hMB9 := (by assumption : X5MX.slots.length ≤ 64 ∧ M.SzM 16 X5MX.slots)
 obtain ⟨hs64, hsz⟩ := hMB9
 refine Qm rfl <| Qx rfl rfl <| Qx rfl rfl <| za zeh fun b6 => za zeh fun b7 => zw 1 rfl rfl rfl ?_
 refine zw 0 rfl rfl rfl ?_
 refine zN <| zc rfl (fun w hw => c_spec_l16Own X5MX ⟨_, _, [.int .i64 X5MX.rules.pits, .int .i64 X5MX.rules.seeds, .bool X5MX.rules.stores, .bool X5MX.rules.skip, .bool X5MX.rules.relay, .bool X5MX.rules.feed, .bool X5MX.rules.again, .int .i64 X5MX.rules.capture, .int .i64 X5MX.rules.slam, .slice A5ra_9 X5MX.slots.length c5ra_9], rfl, ⟨rfl, rfl, rfl, rfl, rfl, rfl, rfl, rfl, rfl, (srow_ok lSlot (xs := X5MX.slots) (hw.pr (i := 3) rfl) (hw.pr (i := 4) rfl) (lSlot_length _)), trivial⟩, Mem.boxR (i := 1) rfl 0 10 _ hw⟩ (r1 := (hsz.mono (by omega)))) ?_
 intro A9 c9 vs9 f9 bl9 bh9
 refine za zeh fun b10 => zw 0 rfl rfl rfl ?_
 refine zJ <| zS <| Qf fh rfl <| Q0 0 rfl rfl rfl <| Qz rfl <| Qe rfl rfl <| JL.nil ?_
 refine zi (fun h11 h11' => ?_) fun h11 h11' => ?_
 ·
  refine Js.seq ?_
  refine zk [2, 3] (fun F U l os u => l = F [] ∧ os = U [nO, nO, nO, nO, nO, nO, nO, nO, nO, nO, nO, some (boxO b3 [.int .i64 X5MX.rules.pits, .int .i64 X5MX.rules.seeds, .bool X5MX.rules.stores, .bool X5MX.rules.skip, .bool X5MX.rules.relay, .bool X5MX.rules.feed, .bool X5MX.rules.again, .int .i64 X5MX.rules.capture, .int .i64 X5MX.rules.slam, .slice A9 X5MX.slots.length c9] 28), some (boxO b2 [.int .i64 X5MX.rules.pits, .int .i64 X5MX.rules.seeds, .bool X5MX.rules.stores, .bool X5MX.rules.skip, .bool X5MX.rules.relay, .bool X5MX.rules.feed, .bool X5MX.rules.again, .int .i64 X5MX.rules.capture, .int .i64 X5MX.rules.slam, .slice A5ra_9 X5MX.slots.length c5ra_9] 28)]) ?_ ?_
  ·
   refine zdr [2, 3] ?_
   refine JH.q 0 rfl (L9 4 rfl rfl) ?_
   refine y2 1 2 ?_ ?_
   ·
    refine JHo.q rfl (L9 0 rfl rfl) ?_
    refine y1 2 ?_
    refine yst rfl rfl rfl ?_
    refine y1 3 ?_
    refine yst rfl rfl rfl ?_
    refine yd ?_
    exact zm ⟨rfl, rfl⟩ (Up.refl _ _)
   refine yst rfl rfl rfl ?_
   refine y1 1 ?_
   refine JHo.q rfl (L9 0 rfl rfl) ?_
   refine y1 3 ?_
   refine yst rfl rfl rfl ?_
   refine yd ?_
   exact zm ⟨rfl, rfl⟩ (Up.refl _ _)
  rintro _ _ u12 ⟨rfl, rfl⟩ x12
  refine zn ?_
  exact zro x12 (g := by exact (gv_tup (gvc (gv_ex X5MX (by first | trivial | assumption | omega | (refine ⟨by first | assumption | omega | (have := hs64; simp only [List.length_set, List.length_append, List.length_cons, List.length_nil]; omega) | (have := (M.newM_sz _ _).1; omega) | exact Nat.le_trans (M.swM_sz _ _ _).1 (by decide) | exact Nat.le_trans (M.newM_sz _ _).1 (by decide), ?_⟩; first | exact hsz | exact (M.newM_sz _ _).2 | exact (M.swM_sz _ _ _).2 | exact hsz.set hse | exact hsz.app (by simp))) gv_) (gvc (gv_ex X5MX (by first | trivial | assumption | omega | (refine ⟨by first | assumption | omega | (have := hs64; simp only [List.length_set, List.length_append, List.length_cons, List.length_nil]; omega) | (have := (M.newM_sz _ _).1; omega) | exact Nat.le_trans (M.swM_sz _ _ _).1 (by decide) | exact Nat.le_trans (M.newM_sz _ _).1 (by decide), ?_⟩; first | exact hsz | exact (M.newM_sz _ _).2 | exact (M.swM_sz _ _ _).2 | exact hsz.set hse | exact hsz.app (by simp))) gv_) gvn))))
 refine Js.skip <| zS <| Qm rfl <| Qf fh rfl <| Q0 0 rfl rfl rfl <| Qz rfl ?_
 refine zhl [5] ?_
 refine zB 1 sp_ rfl (fun w hb hw => c_spec_l00Src_pick code X5AT X5SD (X5MX.slots.length : Int) hb (ok_ hw)) ?_
 rintro _ _ G13 ⟨X13KX, X13AT, X13SD, rfl, rfl, hX13_0, hX13_1, hX13_2, hX13_3⟩
 refine znl ?_
 refine Qa rfl <| zJ <| zS <| Qm rfl <| zB 1 sp_ rfl (fun w hb hw => c_spec_l00Src_pick code X13AT X13SD 4 hb (ok_ hw)) ?_
 rintro _ _ G14 ⟨X14KX, X14AT, X14SD, rfl, rfl, hX14_0, hX14_1, hX14_2, hX14_3⟩
 refine znl ?_
 refine JL.nil <| Js.block <| zS <| Qe rfl rfl <| Qa rfl <| JL.nil ?_
 refine zi (fun h15 h15' => ?_) fun h15 h15' => ?_
 ·
  refine Js.fact (row_some (i := 4) rfl (by omega)) (fun hf16 => ?_)
  obtain ⟨b16, rfl⟩ := hf16
  have hse := hsz _ (M.slo_mem (l := X5MX.slots) (k := X13KX.toNat) (by omega))
  have hy17 : X5MX.slots[X13KX.toNat]? = some (M.slo X5MX.slots X13KX.toNat) := M.slo_get len_
  refine Js.fact (fun w hw => elemv_Slot (Mem.ownC (i := 5) rfl w hw) hy17) (fun hf17 => ?_)
  obtain ⟨A17_1, c17_1, he17, bl17_1, bh17_1⟩ := hf17
  refine Js.fact (fun w hw => elem_in cSlot (m := 6) (k := X13KX.toNat) (xs := X5MX.slots) (fun _ => rfl) (Mem.ownC (i := 5) rfl w hw) (by omega)) (fun hl18 => ?_)
  refine Js.ex3 (fun w hw => St.elemS cSlot (m := 6) (i := 5) (xs := X5MX.slots) (fun _ => rfl) rfl hy17 he17 hw) (fun f18_1 f18_2 f18_3 => ?_)
  refine Js.unp 0 ?_
  refine zn ?_
  refine Js.region <| Qf fh rfl <| Q0 6 rfl rfl rfl <| Qm rfl <| Qq (p_indexAddr el_26 rfl rfl (by omega) (by omega) rfl) <| Qf fh rfl <| Qw (q_load1 ty_2.h rfl (fun w hw => (Mem.rowR' (i := 7) rfl he17 w hw) 4 _ rfl)) <| Qq (p_add rfl rfl rfl) <| Qq (p_indexAddr el_26 rfl rfl (by omega) (by omega) rfl) <| Qf fh rfl ?_
  refine JL.s (e_storeRow (i := 7) (xs' := setL vs9 (0 + X13KX.toNat * 6) [.bool ((M.slo X5MX.slots X13KX.toNat).used), .slice A17_1 (((M.slo X5MX.slots X13KX.toNat).pits).length) c17_1, .int .i64 ((M.slo X5MX.slots X13KX.toNat).player), .int .i64 ((M.slo X5MX.slots X13KX.toNat).depth), .int .i64 (IntKind.i64.wrap (((M.slo X5MX.slots X13KX.toNat).value) + 1)), .int .i64 ((M.slo X5MX.slots X13KX.toNat).bound)]) ty_2.h rfl rfl rfl rfl rfl rfl (by omega) (setL_at (j := 4) he17 (by decide) hl18 rfl)) ?_
  rintro _ _ _ ⟨rfl, rfl⟩ _
  refine znl ?_
  refine JL.nil <| Js.blockEnd <| Js.seq ?_
  refine zk [2, 3] (fun F U l os u => l = F [] ∧ os = U [nO, nO, nO, nO, nO, nO, nO, nO, nO, nO, nO, nO, nO, nO, nO, some (boxO b3 [.int .i64 X5MX.rules.pits, .int .i64 X5MX.rules.seeds, .bool X5MX.rules.stores, .bool X5MX.rules.skip, .bool X5MX.rules.relay, .bool X5MX.rules.feed, .bool X5MX.rules.again, .int .i64 X5MX.rules.capture, .int .i64 X5MX.rules.slam, .slice (some ⟨b16, 0, none⟩) X5MX.slots.length c9] 28), some (boxO b2 [.int .i64 X5MX.rules.pits, .int .i64 X5MX.rules.seeds, .bool X5MX.rules.stores, .bool X5MX.rules.skip, .bool X5MX.rules.relay, .bool X5MX.rules.feed, .bool X5MX.rules.again, .int .i64 X5MX.rules.capture, .int .i64 X5MX.rules.slam, .slice A5ra_9 X5MX.slots.length c5ra_9] 28)]) ?_ ?_
  ·
   refine zdr [2, 3] ?_
   refine JH.q 0 rfl (L9 9 rfl rfl) ?_
   refine y2 1 2 ?_ ?_
   ·
    refine JHo.q rfl (L9 6 rfl rfl) ?_
    refine y1 2 ?_
    refine yst rfl rfl rfl ?_
    refine y1 3 ?_
    refine yst rfl rfl rfl ?_
    refine yd ?_
    exact zm ⟨rfl, rfl⟩ (Up.refl _ _)
   refine yst rfl rfl rfl ?_
   refine y1 1 ?_
   refine JHo.q rfl (L9 6 rfl rfl) ?_
   refine y1 3 ?_
   refine yst rfl rfl rfl ?_
   refine yd ?_
   exact zm ⟨rfl, rfl⟩ (Up.refl _ _)
  rintro _ _ u21 ⟨rfl, rfl⟩ x21
  refine zn ?_
  refine Js.pk (cSlot (M.Slo.mk ((M.slo X5MX.slots X13KX.toNat).used) ((M.slo X5MX.slots X13KX.toNat).pits) ((M.slo X5MX.slots X13KX.toNat).player) ((M.slo X5MX.slots X13KX.toNat).depth) (IntKind.i64.wrap (((M.slo X5MX.slots X13KX.toNat).value) + 1)) ((M.slo X5MX.slots X13KX.toNat).bound))) [.bool ((M.slo X5MX.slots X13KX.toNat).used), .slice A17_1 (((M.slo X5MX.slots X13KX.toNat).pits).length) c17_1, .int .i64 ((M.slo X5MX.slots X13KX.toNat).player), .int .i64 ((M.slo X5MX.slots X13KX.toNat).depth), .int .i64 (IntKind.i64.wrap (((M.slo X5MX.slots X13KX.toNat).value) + 1)), .int .i64 ((M.slo X5MX.slots X13KX.toNat).bound)] (fun f23 G23 => ?_)
  refine Js.front (i := 2) rfl ?_
  refine zn ?_
  refine Js.front (i := 1) rfl ?_
  refine zn ?_
  refine Js.front (i := 3) rfl ?_
  refine zn ?_
  refine Js.conv (fun w hw => St.closeE cSlot (k := X13KX.toNat) (m := 6) (xs := X5MX.slots) (y := (M.Slo.mk ((M.slo X5MX.slots X13KX.toNat).used) ((M.slo X5MX.slots X13KX.toNat).pits) ((M.slo X5MX.slots X13KX.toNat).player) ((M.slo X5MX.slots X13KX.toNat).depth) (IntKind.i64.wrap (((M.slo X5MX.slots X13KX.toNat).value) + 1)) ((M.slo X5MX.slots X13KX.toNat).bound))) (vs := vs9) (vs' := (setL vs9 (0 + X13KX.toNat * 6) [.bool ((M.slo X5MX.slots X13KX.toNat).used), .slice A17_1 (((M.slo X5MX.slots X13KX.toNat).pits).length) c17_1, .int .i64 ((M.slo X5MX.slots X13KX.toNat).player), .int .i64 ((M.slo X5MX.slots X13KX.toNat).depth), .int .i64 (IntKind.i64.wrap (((M.slo X5MX.slots X13KX.toNat).value) + 1)), .int .i64 ((M.slo X5MX.slots X13KX.toNat).bound)])) (by omega) rfl rfl hw) ?_
  refine Js.fold (lSlot (X5MX.slots.set X13KX.toNat (M.Slo.mk ((M.slo X5MX.slots X13KX.toNat).used) ((M.slo X5MX.slots X13KX.toNat).pits) ((M.slo X5MX.slots X13KX.toNat).player) ((M.slo X5MX.slots X13KX.toNat).depth) (IntKind.i64.wrap (((M.slo X5MX.slots X13KX.toNat).value) + 1)) ((M.slo X5MX.slots X13KX.toNat).bound)))) rfl ?_
  refine zn ?_
  exact zro x21 (g := by exact (gv_tup (gvc (gv_ex X5MX (by first | trivial | assumption | omega | (refine ⟨by first | assumption | omega | (have := hs64; simp only [List.length_set, List.length_append, List.length_cons, List.length_nil]; omega) | (have := (M.newM_sz _ _).1; omega) | exact Nat.le_trans (M.swM_sz _ _ _).1 (by decide) | exact Nat.le_trans (M.newM_sz _ _).1 (by decide), ?_⟩; first | exact hsz | exact (M.newM_sz _ _).2 | exact (M.swM_sz _ _ _).2 | exact hsz.set hse | exact hsz.app (by simp))) gv_) (gvc (gv_ex (M.Mem.mk X5MX.rules (X5MX.slots.set X13KX.toNat (M.Slo.mk ((M.slo X5MX.slots X13KX.toNat).used) ((M.slo X5MX.slots X13KX.toNat).pits) ((M.slo X5MX.slots X13KX.toNat).player) ((M.slo X5MX.slots X13KX.toNat).depth) (IntKind.i64.wrap (((M.slo X5MX.slots X13KX.toNat).value) + 1)) ((M.slo X5MX.slots X13KX.toNat).bound)))) (by first | trivial | assumption | omega | (refine ⟨by first | assumption | omega | (have := hs64; simp only [List.length_set, List.length_append, List.length_cons, List.length_nil]; omega) | (have := (M.newM_sz _ _).1; omega) | exact Nat.le_trans (M.swM_sz _ _ _).1 (by decide) | exact Nat.le_trans (M.newM_sz _ _).1 (by decide), ?_⟩; first | exact hsz | exact (M.newM_sz _ _).2 | exact (M.swM_sz _ _ _).2 | exact hsz.set hse | exact hsz.app (by simp))) gv_) gvn))))
 refine zS <| Qe rfl rfl <| Qa rfl <| JL.nil ?_
 refine zi (fun h24 h24' => ?_) fun h24 h24' => ?_
 ·
  refine Js.fact (row_some (i := 4) rfl (by omega)) (fun hf25 => ?_)
  obtain ⟨b25, rfl⟩ := hf25
  have hse := hsz _ (M.slo_mem (l := X5MX.slots) (k := X13KX.toNat) (by omega))
  have hy26 : X5MX.slots[X13KX.toNat]? = some (M.slo X5MX.slots X13KX.toNat) := M.slo_get len_
  refine Js.fact (fun w hw => elemv_Slot (Mem.ownC (i := 5) rfl w hw) hy26) (fun hf26 => ?_)
  obtain ⟨A26_1, c26_1, he26, bl26_1, bh26_1⟩ := hf26
  refine Js.fact (fun w hw => elem_in cSlot (m := 6) (k := X13KX.toNat) (xs := X5MX.slots) (fun _ => rfl) (Mem.ownC (i := 5) rfl w hw) (by omega)) (fun hl27 => ?_)
  refine Js.ex3 (fun w hw => St.elemS cSlot (m := 6) (i := 5) (xs := X5MX.slots) (fun _ => rfl) rfl hy26 he26 hw) (fun f27_1 f27_2 f27_3 => ?_)
  refine Js.unp 0 ?_
  refine zn ?_
  refine Js.region <| Qf fh rfl <| Q0 6 rfl rfl rfl <| Qm rfl <| Qq (p_indexAddr el_26 rfl rfl (by omega) (by omega) rfl) <| Qf fh rfl <| Qw (q_load1 ty_2.h rfl (fun w hw => (Mem.rowR' (i := 7) rfl he26 w hw) 5 _ rfl)) <| Qq (p_add rfl rfl rfl) <| Qq (p_indexAddr el_26 rfl rfl (by omega) (by omega) rfl) <| Qf fh rfl ?_
  refine JL.s (e_storeRow (i := 7) (xs' := setL vs9 (0 + X13KX.toNat * 6) [.bool ((M.slo X5MX.slots X13KX.toNat).used), .slice A26_1 (((M.slo X5MX.slots X13KX.toNat).pits).length) c26_1, .int .i64 ((M.slo X5MX.slots X13KX.toNat).player), .int .i64 ((M.slo X5MX.slots X13KX.toNat).depth), .int .i64 ((M.slo X5MX.slots X13KX.toNat).value), .int .i64 (IntKind.i64.wrap (((M.slo X5MX.slots X13KX.toNat).bound) + 1))]) ty_2.h rfl rfl rfl rfl rfl rfl (by omega) (setL_at (j := 5) he26 (by decide) hl27 rfl)) ?_
  rintro _ _ _ ⟨rfl, rfl⟩ _
  refine znl ?_
  refine JL.nil <| Js.blockEnd <| Js.seq ?_
  refine zk [2, 3] (fun F U l os u => l = F [] ∧ os = U [nO, nO, nO, nO, nO, nO, nO, nO, nO, nO, nO, nO, nO, nO, nO, some (boxO b3 [.int .i64 X5MX.rules.pits, .int .i64 X5MX.rules.seeds, .bool X5MX.rules.stores, .bool X5MX.rules.skip, .bool X5MX.rules.relay, .bool X5MX.rules.feed, .bool X5MX.rules.again, .int .i64 X5MX.rules.capture, .int .i64 X5MX.rules.slam, .slice (some ⟨b25, 0, none⟩) X5MX.slots.length c9] 28), some (boxO b2 [.int .i64 X5MX.rules.pits, .int .i64 X5MX.rules.seeds, .bool X5MX.rules.stores, .bool X5MX.rules.skip, .bool X5MX.rules.relay, .bool X5MX.rules.feed, .bool X5MX.rules.again, .int .i64 X5MX.rules.capture, .int .i64 X5MX.rules.slam, .slice A5ra_9 X5MX.slots.length c5ra_9] 28)]) ?_ ?_
  ·
   refine zdr [2, 3] ?_
   refine JH.q 0 rfl (L9 9 rfl rfl) ?_
   refine y2 1 2 ?_ ?_
   ·
    refine JHo.q rfl (L9 6 rfl rfl) ?_
    refine y1 2 ?_
    refine yst rfl rfl rfl ?_
    refine y1 3 ?_
    refine yst rfl rfl rfl ?_
    refine yd ?_
    exact zm ⟨rfl, rfl⟩ (Up.refl _ _)
   refine yst rfl rfl rfl ?_
   refine y1 1 ?_
   refine JHo.q rfl (L9 6 rfl rfl) ?_
   refine y1 3 ?_
   refine yst rfl rfl rfl ?_
   refine yd ?_
   exact zm ⟨rfl, rfl⟩ (Up.refl _ _)
  rintro _ _ u30 ⟨rfl, rfl⟩ x30
  refine zn ?_
  refine Js.pk (cSlot (M.Slo.mk ((M.slo X5MX.slots X13KX.toNat).used) ((M.slo X5MX.slots X13KX.toNat).pits) ((M.slo X5MX.slots X13KX.toNat).player) ((M.slo X5MX.slots X13KX.toNat).depth) ((M.slo X5MX.slots X13KX.toNat).value) (IntKind.i64.wrap (((M.slo X5MX.slots X13KX.toNat).bound) + 1)))) [.bool ((M.slo X5MX.slots X13KX.toNat).used), .slice A26_1 (((M.slo X5MX.slots X13KX.toNat).pits).length) c26_1, .int .i64 ((M.slo X5MX.slots X13KX.toNat).player), .int .i64 ((M.slo X5MX.slots X13KX.toNat).depth), .int .i64 ((M.slo X5MX.slots X13KX.toNat).value), .int .i64 (IntKind.i64.wrap (((M.slo X5MX.slots X13KX.toNat).bound) + 1))] (fun f32 G32 => ?_)
  refine Js.front (i := 2) rfl ?_
  refine zn ?_
  refine Js.front (i := 1) rfl ?_
  refine zn ?_
  refine Js.front (i := 3) rfl ?_
  refine zn ?_
  refine Js.conv (fun w hw => St.closeE cSlot (k := X13KX.toNat) (m := 6) (xs := X5MX.slots) (y := (M.Slo.mk ((M.slo X5MX.slots X13KX.toNat).used) ((M.slo X5MX.slots X13KX.toNat).pits) ((M.slo X5MX.slots X13KX.toNat).player) ((M.slo X5MX.slots X13KX.toNat).depth) ((M.slo X5MX.slots X13KX.toNat).value) (IntKind.i64.wrap (((M.slo X5MX.slots X13KX.toNat).bound) + 1)))) (vs := vs9) (vs' := (setL vs9 (0 + X13KX.toNat * 6) [.bool ((M.slo X5MX.slots X13KX.toNat).used), .slice A26_1 (((M.slo X5MX.slots X13KX.toNat).pits).length) c26_1, .int .i64 ((M.slo X5MX.slots X13KX.toNat).player), .int .i64 ((M.slo X5MX.slots X13KX.toNat).depth), .int .i64 ((M.slo X5MX.slots X13KX.toNat).value), .int .i64 (IntKind.i64.wrap (((M.slo X5MX.slots X13KX.toNat).bound) + 1))])) (by omega) rfl rfl hw) ?_
  refine Js.fold (lSlot (X5MX.slots.set X13KX.toNat (M.Slo.mk ((M.slo X5MX.slots X13KX.toNat).used) ((M.slo X5MX.slots X13KX.toNat).pits) ((M.slo X5MX.slots X13KX.toNat).player) ((M.slo X5MX.slots X13KX.toNat).depth) ((M.slo X5MX.slots X13KX.toNat).value) (IntKind.i64.wrap (((M.slo X5MX.slots X13KX.toNat).bound) + 1))))) rfl ?_
  refine zn ?_
  exact zro x30 (g := by exact (gv_tup (gvc (gv_ex X5MX (by first | trivial | assumption | omega | (refine ⟨by first | assumption | omega | (have := hs64; simp only [List.length_set, List.length_append, List.length_cons, List.length_nil]; omega) | (have := (M.newM_sz _ _).1; omega) | exact Nat.le_trans (M.swM_sz _ _ _).1 (by decide) | exact Nat.le_trans (M.newM_sz _ _).1 (by decide), ?_⟩; first | exact hsz | exact (M.newM_sz _ _).2 | exact (M.swM_sz _ _ _).2 | exact hsz.set hse | exact hsz.app (by simp))) gv_) (gvc (gv_ex (M.Mem.mk X5MX.rules (X5MX.slots.set X13KX.toNat (M.Slo.mk ((M.slo X5MX.slots X13KX.toNat).used) ((M.slo X5MX.slots X13KX.toNat).pits) ((M.slo X5MX.slots X13KX.toNat).player) ((M.slo X5MX.slots X13KX.toNat).depth) ((M.slo X5MX.slots X13KX.toNat).value) (IntKind.i64.wrap (((M.slo X5MX.slots X13KX.toNat).bound) + 1))))) (by first | trivial | assumption | omega | (refine ⟨by first | assumption | omega | (have := hs64; simp only [List.length_set, List.length_append, List.length_cons, List.length_nil]; omega) | (have := (M.newM_sz _ _).1; omega) | exact Nat.le_trans (M.swM_sz _ _ _).1 (by decide) | exact Nat.le_trans (M.newM_sz _ _).1 (by decide), ?_⟩; first | exact hsz | exact (M.newM_sz _ _).2 | exact (M.swM_sz _ _ _).2 | exact hsz.set hse | exact hsz.app (by simp))) gv_) gvn))))
 refine zS <| Qe rfl rfl <| Qa rfl <| JL.nil ?_
 refine zi (fun h33 h33' => ?_) fun h33 h33' => ?_
 ·
  refine Js.region <| Qf fh rfl <| Q0 3 rfl rfl rfl <| Qb ?_
  refine zbs fun b34 => ?_
  refine JL.e (e_append (i := 5) (n' := (X5MX.slots ++ ([(M.Slo.mk false [] 0 0 0 0)])).length) (vs' := vs9 ++ [.bool false, .slice none 0 0, .int .i64 0, .int .i64 0, .int .i64 0, .int .i64 0]) el_26 rfl rfl rfl rfl (src_row (i := 0) und_26 rfl rfl) (by omega) (by omega) ln2_ (rfl)) ?_
  rintro v36 _ _ ⟨⟨g37, rfl⟩, rfl⟩ _
  refine JL.fact (row_form' (i := 5) rfl) (fun hf38 => ?_)
  obtain ⟨A38, c38, rfl, bl38, bh38⟩ := hf38
  refine znl ?_
  refine Qf fh rfl <| zw 4 rfl rfl rfl ?_
  refine JL.nil ?_
  refine Js.pk (cSlot (M.Slo.mk false [] 0 0 0 0)) [.bool false, .slice none 0 0, .int .i64 0, .int .i64 0, .int .i64 0, .int .i64 0] (fun f40 G40 => ?_)
  refine zn ?_
  refine Js.joinL (i := 8) (j := 0) (Vs := lSlot (X5MX.slots ++ [(M.Slo.mk false [] 0 0 0 0)])) rfl rfl (lSlot_snoc _ _) (fun f41 => ?_)
  refine zn ?_
  refine Js.blockEnd <| Js.seq ?_
  refine zk [2, 3] (fun F U l os u => l = F [] ∧ os = U [nO, nO, nO, nO, nO, nO, nO, nO, nO, nO, nO, nO, nO, nO, nO, some (boxO b3 [.int .i64 X5MX.rules.pits, .int .i64 X5MX.rules.seeds, .bool X5MX.rules.stores, .bool X5MX.rules.skip, .bool X5MX.rules.relay, .bool X5MX.rules.feed, .bool X5MX.rules.again, .int .i64 X5MX.rules.capture, .int .i64 X5MX.rules.slam, .slice A38 ((X5MX.slots ++ ([(M.Slo.mk false [] 0 0 0 0)])).length) c38] 28), some (boxO b2 [.int .i64 X5MX.rules.pits, .int .i64 X5MX.rules.seeds, .bool X5MX.rules.stores, .bool X5MX.rules.skip, .bool X5MX.rules.relay, .bool X5MX.rules.feed, .bool X5MX.rules.again, .int .i64 X5MX.rules.capture, .int .i64 X5MX.rules.slam, .slice A5ra_9 X5MX.slots.length c5ra_9] 28)]) ?_ ?_
  ·
   refine zdr [2, 3] ?_
   refine JH.q 0 rfl (L9 9 rfl rfl) ?_
   refine y2 1 2 ?_ ?_
   ·
    refine JHo.q rfl (L9 6 rfl rfl) ?_
    refine y1 2 ?_
    refine yst rfl rfl rfl ?_
    refine y1 3 ?_
    refine yst rfl rfl rfl ?_
    refine yd ?_
    exact zm ⟨rfl, rfl⟩ (Up.refl _ _)
   refine yst rfl rfl rfl ?_
   refine y1 1 ?_
   refine JHo.q rfl (L9 6 rfl rfl) ?_
   refine y1 3 ?_
   refine yst rfl rfl rfl ?_
   refine yd ?_
   exact zm ⟨rfl, rfl⟩ (Up.refl _ _)
  rintro _ _ u42 ⟨rfl, rfl⟩ x42
  refine zn ?_
  have hq0 : (X5MX.slots ++ [(M.Slo.mk false [] 0 0 0 0)]) = (X5MX.slots ++ ([(M.Slo.mk false [] 0 0 0 0)])) := by simp
  exact zro x42 (g := by exact (gv_tup (gvc (gv_ex X5MX (by first | trivial | assumption | omega | (refine ⟨by first | assumption | omega | (have := hs64; simp only [List.length_set, List.length_append, List.length_cons, List.length_nil]; omega) | (have := (M.newM_sz _ _).1; omega) | exact Nat.le_trans (M.swM_sz _ _ _).1 (by decide) | exact Nat.le_trans (M.newM_sz _ _).1 (by decide), ?_⟩; first | exact hsz | exact (M.newM_sz _ _).2 | exact (M.swM_sz _ _ _).2 | exact hsz.set hse | exact hsz.app (by simp))) gv_) (gvc (gv_ex (M.Mem.mk X5MX.rules (X5MX.slots ++ ([(M.Slo.mk false [] 0 0 0 0)]))) (by first | trivial | assumption | omega | (refine ⟨by first | assumption | omega | (have := hs64; simp only [List.length_set, List.length_append, List.length_cons, List.length_nil]; omega) | (have := (M.newM_sz _ _).1; omega) | exact Nat.le_trans (M.swM_sz _ _ _).1 (by decide) | exact Nat.le_trans (M.newM_sz _ _).1 (by decide), ?_⟩; first | exact hsz | exact (M.newM_sz _ _).2 | exact (M.swM_sz _ _ _).2 | exact hsz.set hse | exact hsz.app (by simp))) gv_) gvn))))
 refine Js.skip <| Js.blockEnd <| Js.seq ?_
 refine zk [2, 3] (fun F U l os u => l = F [] ∧ os = U [nO, nO, nO, nO, nO, nO, nO, nO, nO, nO, nO, nO, nO, some (boxO b3 [.int .i64 X5MX.rules.pits, .int .i64 X5MX.rules.seeds, .bool X5MX.rules.stores, .bool X5MX.rules.skip, .bool X5MX.rules.relay, .bool X5MX.rules.feed, .bool X5MX.rules.again, .int .i64 X5MX.rules.capture, .int .i64 X5MX.rules.slam, .slice A9 X5MX.slots.length c9] 28), some (boxO b2 [.int .i64 X5MX.rules.pits, .int .i64 X5MX.rules.seeds, .bool X5MX.rules.stores, .bool X5MX.rules.skip, .bool X5MX.rules.relay, .bool X5MX.rules.feed, .bool X5MX.rules.again, .int .i64 X5MX.rules.capture, .int .i64 X5MX.rules.slam, .slice A5ra_9 X5MX.slots.length c5ra_9] 28)]) ?_ ?_
 ·
  refine zdr [2, 3] ?_
  refine JH.q 0 rfl (L9 7 rfl rfl) ?_
  refine y2 1 2 ?_ ?_
  ·
   refine JHo.q rfl (L9 3 rfl rfl) ?_
   refine y1 2 ?_
   refine yst rfl rfl rfl ?_
   refine y1 3 ?_
   refine yst rfl rfl rfl ?_
   refine yd ?_
   exact zm ⟨rfl, rfl⟩ (Up.refl _ _)
  refine yst rfl rfl rfl ?_
  refine y1 1 ?_
  refine JHo.q rfl (L9 3 rfl rfl) ?_
  refine y1 3 ?_
  refine yst rfl rfl rfl ?_
  refine yd ?_
  exact zm ⟨rfl, rfl⟩ (Up.refl _ _)
 rintro _ _ u43 ⟨rfl, rfl⟩ x43
 refine zn ?_
 exact zro x43 (g := by exact (gv_tup (gvc (gv_ex X5MX (by first | trivial | assumption | omega | (refine ⟨by first | assumption | omega | (have := hs64; simp only [List.length_set, List.length_append, List.length_cons, List.length_nil]; omega) | (have := (M.newM_sz _ _).1; omega) | exact Nat.le_trans (M.swM_sz _ _ _).1 (by decide) | exact Nat.le_trans (M.newM_sz _ _).1 (by decide), ?_⟩; first | exact hsz | exact (M.newM_sz _ _).2 | exact (M.swM_sz _ _ _).2 | exact hsz.set hse | exact hsz.app (by simp))) gv_) (gvc (gv_ex X5MX (by first | trivial | assumption | omega | (refine ⟨by first | assumption | omega | (have := hs64; simp only [List.length_set, List.length_append, List.length_cons, List.length_nil]; omega) | (have := (M.newM_sz _ _).1; omega) | exact Nat.le_trans (M.swM_sz _ _ _).1 (by decide) | exact Nat.le_trans (M.newM_sz _ _).1 (by decide), ?_⟩; first | exact hsz | exact (M.newM_sz _ _).2 | exact (M.swM_sz _ _ _).2 | exact hsz.set hse | exact hsz.app (by simp))) gv_) gvn))))
end Go.Proofs.Ytmgnckfhghibeaa

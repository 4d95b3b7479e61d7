/- Walks: G2. -/
import Derived.Test.YtejnmechnhgmfaaZpTn
import Derived.Test.YtejnmechnhgmfaaZpNG1
set_option linter.unusedSimpArgs false
set_option linter.unusedVariables false
set_option maxRecDepth 100000
attribute [local irreducible] Go.Proofs.Ytejnmechnhgmfaa.gv
namespace Go.Proofs.Ytejnmechnhgmfaa
open Go.RowKit

set_option maxHeartbeats 1000000 in
theorem c_impl_newSowing (r : M.Rul) {v_r : Value} (p : M.Pos) {v_p : Value} {w : World} (h_r : (Ty.agg (cRules r)).ok w v_r) (h_p : (Ty.agg (cPosition p)).ok w v_p) (r0 : p.pits.length ≤ 4194304 := by exact om_) (r1 : p.stores.length ≤ 4194304 := by exact om_) : Ret Try.prog 155 [v_r, v_p] w (Ty.box 160 (csowing (M.Sow.mk r p.player (M.Sw.mk p.pits p.stores 0 0) []))) := by
 revert v_r; apply opn
 revert v_p; apply opn
 intro A1 c1 h1 bl1 bh1 A2 c2 h2 bl2 bh2
 refine enter @Try.func155 @Try.ntmps155 rfl rfl ?_
 refine zent ?_
 refine zS <| zb rfl fun b3 => zb rfl fun b4 => Qa rfl <| zN <| Q9 0 rfl rfl ?_
 refine zc rfl (fun w hw => c_impl_Position_copied p (ok_ hw)) ?_
 intro A6 c6 bl6 bh6 A7 c7 bl7 bh7
 refine za zeh fun b8 => zw 0 rfl rfl rfl ?_
 refine zN <| Q9 4 rfl rfl ?_
 refine Qf fh rfl <| Q0 3 rfl rfl rfl <| Qf fh rfl <| Q0 0 rfl rfl rfl <| Qf fh rfl <| Q0 0 rfl rfl rfl <| Qb ?_
 refine zbs fun b9 => ?_
 refine Qb ?_
 refine zb rfl fun b11 => Qa rfl <| JL.nil ?_
 exact zro (Up.refl _ _)

set_option maxHeartbeats 1000000 in
theorem c_impl_sowing_lap (s_rules : M.Rul) (s_player : Int) (s_sown : M.Sw) (s_path : List Int) {As_10 : Option Addr} {cs_10 : Nat} {gs_10 : List Nat} {As_11 : Option Addr} {cs_11 : Nat} {gs_11 : List Nat} {As_14 : Option Addr} {cs_14 : Nat} {gs_14 : List Nat} (from_ : Int) {bs : Nat} {w : World} (hb : Bw w [boxO bs [.int .i64 s_rules.pits, .int .i64 s_rules.seeds, .bool s_rules.stores, .bool s_rules.skip, .bool s_rules.relay, .bool s_rules.feed, .bool s_rules.again, .int .i64 s_rules.capture, .int .i64 s_rules.slam, .int .i64 s_player, .slice As_10 s_sown.pits.length cs_10, .slice As_11 s_sown.stores.length cs_11, .int .i64 s_sown.last, .int .i64 s_sown.laps, .slice As_14 s_path.length cs_14] 160, rowO 2 1 (.slice As_10 s_sown.pits.length cs_10) s_sown.pits.length (ints_ s_sown.pits) gs_10, rowO 2 1 (.slice As_11 s_sown.stores.length cs_11) s_sown.stores.length (ints_ s_sown.stores) gs_11, rowO 2 1 (.slice As_14 s_path.length cs_14) s_path.length (ints_ s_path) gs_14]) (bd0 : s_sown.pits.length ≤ cs_10 := by exact om_) (bd1 : cs_10 ≤ 9223372036854775807 := by exact om_) (bd2 : s_sown.stores.length ≤ cs_11 := by exact om_) (bd3 : cs_11 ≤ 9223372036854775807 := by exact om_) (bd4 : s_path.length ≤ cs_14 := by exact om_) (bd5 : cs_14 ≤ 9223372036854775807 := by exact om_) (r0 : 2 ≤ s_rules.pits := by exact om_) (r1 : s_rules.pits ≤ 8 := by exact om_) (r2 : s_player = 0 ∨ s_player = 1 := by exact om_) (r3 : 0 ≤ from_ := by exact om_) (r4 : from_ < 2 * s_rules.pits := by exact om_) (r5 : M.Good s_rules s_sown.pits s_sown.stores 0 := by exact om_) (r6 : 0 < (M.getI s_sown.pits from_) := by exact om_) (r7 : 0 ≤ s_sown.laps := by exact om_) (r8 : s_sown.laps ≤ 99 := by exact om_) (r9 : s_path.length ≤ 10000 := by exact om_) : RetB Try.prog 163 [.pointer (some ⟨bs, 0, none⟩), .int .i64 from_] w [boxO bs [.int .i64 s_rules.pits, .int .i64 s_rules.seeds, .bool s_rules.stores, .bool s_rules.skip, .bool s_rules.relay, .bool s_rules.feed, .bool s_rules.again, .int .i64 s_rules.capture, .int .i64 s_rules.slam, .int .i64 s_player, .slice As_10 s_sown.pits.length cs_10, .slice As_11 s_sown.stores.length cs_11, .int .i64 s_sown.last, .int .i64 s_sown.laps, .slice As_14 s_path.length cs_14] 160, rowO 2 1 (.slice As_10 s_sown.pits.length cs_10) s_sown.pits.length (ints_ s_sown.pits) gs_10, rowO 2 1 (.slice As_11 s_sown.stores.length cs_11) s_sown.stores.length (ints_ s_sown.stores) gs_11, rowO 2 1 (.slice As_14 s_path.length cs_14) s_path.length (ints_ s_path) gs_14] (fun v bs' => ∃ (Axs_10 : Option Addr) (cxs_10 : Nat) (gxs_10 : List Nat) (Axs_11 : Option Addr) (cxs_11 : Nat) (gxs_11 : List Nat) (Axs_14 : Option Addr) (cxs_14 : Nat) (gxs_14 : List Nat), v = .bool (M.more s_rules (M.lap s_rules s_player from_ s_sown s_path).1) ∧ bs' = [boxO bs [.int .i64 s_rules.pits, .int .i64 s_rules.seeds, .bool s_rules.stores, .bool s_rules.skip, .bool s_rules.relay, .bool s_rules.feed, .bool s_rules.again, .int .i64 s_rules.capture, .int .i64 s_rules.slam, .int .i64 s_player, .slice Axs_10 ((((M.lap s_rules s_player from_ s_sown s_path).1).pits).length) cxs_10, .slice Axs_11 ((((M.lap s_rules s_player from_ s_sown s_path).1).stores).length) cxs_11, .int .i64 (((M.lap s_rules s_player from_ s_sown s_path).1).last), .int .i64 (((M.lap s_rules s_player from_ s_sown s_path).1).laps), .slice Axs_14 (((M.lap s_rules s_player from_ s_sown s_path).2).length) cxs_14] 160, rowO 2 1 (.slice Axs_10 ((((M.lap s_rules s_player from_ s_sown s_path).1).pits).length) cxs_10) ((((M.lap s_rules s_player from_ s_sown s_path).1).pits).length) (ints_ (((M.lap s_rules s_player from_ s_sown s_path).1).pits)) gxs_10, rowO 2 1 (.slice Axs_11 ((((M.lap s_rules s_player from_ s_sown s_path).1).stores).length) cxs_11) ((((M.lap s_rules s_player from_ s_sown s_path).1).stores).length) (ints_ (((M.lap s_rules s_player from_ s_sown s_path).1).stores)) gxs_11, rowO 2 1 (.slice Axs_14 (((M.lap s_rules s_player from_ s_sown s_path).2).length) cxs_14) (((M.lap s_rules s_player from_ s_sown s_path).2).length) (ints_ ((M.lap s_rules s_player from_ s_sown s_path).2)) gxs_14] ∧ (((M.lap s_rules s_player from_ s_sown s_path).1).pits).length ≤ cxs_10 ∧ cxs_10 ≤ 9223372036854775807 ∧ (((M.lap s_rules s_player from_ s_sown s_path).1).stores).length ≤ cxs_11 ∧ cxs_11 ≤ 9223372036854775807 ∧ ((M.lap s_rules s_player from_ s_sown s_path).2).length ≤ cxs_14 ∧ cxs_14 ≤ 9223372036854775807) := by
 have l1 := r5.lp
 have l2 := r5.ls
 have hk0 := r5.pit from_
 refine enterB hb @Try.func163 @Try.ntmps163 rfl rfl ?_
 refine zent ?_
 refine Js.trashE ?_
 refine zn ?_
 refine Js.fact (row_some (i := 1) rfl (by omega)) (fun hf1 => ?_)
 obtain ⟨b1, rfl⟩ := hf1
 refine Js.fact (row_some (i := 2) rfl (by omega)) (fun hf2 => ?_)
 obtain ⟨b2, rfl⟩ := hf2
 refine zS <| Qa rfl <| zN <| Qm rfl <| Qc rfl <| Qf fh rfl <| Qf fh rfl <| Q0 0 rfl rfl rfl <| Qm rfl <| Qq (p_indexAddr el_24 rfl rfl (by omega) (by omega) rfl) <| Qw (q_load1 ty_2.h rfl (Mem.row (i := 1) rfl (ints_getI (i := from_) (by omega)))) <| Qm rfl <| Qa rfl <| Qa rfl ?_
 refine Qa rfl <| zN <| Qm rfl <| Qc rfl <| Qf fh rfl <| Qf fh rfl <| Q0 0 rfl rfl rfl <| Qm rfl <| Qq (p_indexAddr el_24 rfl rfl (by omega) (by omega) rfl) ?_
 refine JL.s (e_storeRow (i := 1) (xs' := ints_ (M.setI s_sown.pits from_ 0)) ty_2.h rfl rfl rfl rfl rfl rfl (ints_lt (i := from_.toNat) (by omega)) (ints_setL (i := from_.toNat) (by omega))) ?_
 rintro _ _ _ ⟨rfl, rfl⟩ _
 refine znl ?_
 refine zJ <| Js.block ?_
 refine zl [0, 1] (fun F U l os u m => ∃ (k place before : Int) (ps ss path : List Int) (A5_0_14 : Option Addr) (c5_0_14 : Nat) (g5_0_14 : List Nat) (G5_4 : List Nat), l = F [(5, .int .i64 k), (6, .int .i64 place), (7, .int .i64 before)] ∧ os = U [some (boxO bs [.int .i64 s_rules.pits, .int .i64 s_rules.seeds, .bool s_rules.stores, .bool s_rules.skip, .bool s_rules.relay, .bool s_rules.feed, .bool s_rules.again, .int .i64 s_rules.capture, .int .i64 s_rules.slam, .int .i64 s_player, .slice (some ⟨b1, 0, none⟩) s_sown.pits.length cs_10, .slice (some ⟨b2, 0, none⟩) s_sown.stores.length cs_11, .int .i64 s_sown.last, .int .i64 s_sown.laps, .slice A5_0_14 path.length c5_0_14] 160), some (rowO 2 1 (.slice (some ⟨b1, 0, none⟩) s_sown.pits.length cs_10) s_sown.pits.length (ints_ ps) gs_10), some (rowO 2 1 (.slice (some ⟨b2, 0, none⟩) s_sown.stores.length cs_11) s_sown.stores.length (ints_ ss) gs_11), some (rowO 2 1 (.slice A5_0_14 path.length c5_0_14) path.length (ints_ path) g5_0_14), some (anyO G5_4)] ∧ (M.sow s_rules s_player from_ k.toNat place ps ss path = M.sow s_rules s_player from_ (M.getI s_sown.pits from_).toNat from_ (M.setI s_sown.pits from_ 0) s_sown.stores s_path) ∧ (M.Good s_rules ps ss k) ∧ (-1 ≤ place) ∧ (place < 2 * s_rules.pits) ∧ ((path.length : Int) + k = s_path.length + (M.getI s_sown.pits from_)) ∧ (k = (M.getI s_sown.pits from_) ∨ (0 ≤ place → M.getI ps place = before + 1)) ∧ (path.length ≤ c5_0_14) ∧ (c5_0_14 ≤ 9223372036854775807) ∧ m = k.toNat) ⟨M.getI s_sown.pits from_, from_, 0, M.setI s_sown.pits from_ 0, s_sown.stores, s_path, _, _, _, _, rfl, rfl, by rfl, by exact r5.takeUp r3 r4, zt, zt, zt, by exact .inl rfl, zu, zu, rfl⟩ ?_
 rintro _ _ u5 _ ⟨k, place, before, ps, ss, path, A5_0_14, c5_0_14, g5_0_14, G5_4, rfl, rfl, hS, hG, p0, p1, hl, hB, f5_6, f5_7, rfl⟩ x5
 refine zn ?_
 have l3 := hG.lp
 have l4 := hG.ls
 have hs0 := hG.store s_player
 have k0 := hG.n0
 refine Js.seq <| zS <| Qm rfl <| Qg rfl rfl <| JL.nil ?_
 refine zi (fun h6 h6' => ?_) fun h6 h6' => ?_
 ·
  refine Js.skip <| Js.seq <| Js.block <| Js.seq ?_
  refine zdr [] ?_
  refine JH.p 0 rfl (p_move rfl) ?_
  refine JH.p 1 rfl (p_nilCheck rfl) ?_
  refine JH.p 2 rfl (p_fieldAddr fld_160_0.h rfl) ?_
  refine JH.q 3 rfl (L9 0 rfl rfl) ?_
  refine JH.p 4 rfl (p_move rfl) ?_
  refine JH.p 5 rfl (p_nilCheck rfl) ?_
  refine JH.p 6 rfl (p_fieldAddr fld_160_1.h rfl) ?_
  refine JH.q 7 rfl (q_load1 ty_2.h rfl (Mem.box (i := 0) rfl rfl)) ?_
  refine JH.p 8 rfl (p_move rfl) ?_
  refine y1 9 ?_
  refine yv rfl rfl (fun w hw => c_impl_Rules_after s_rules s_player place (ok_ hw)) ?_
  refine JH.p 10 rfl (p_assign rfl) ?_
  refine yd ?_
  refine Js.seq <| zS <| Qm rfl <| Qc rfl <| Qf fh rfl <| Qf fh rfl <| Q0 0 rfl rfl rfl <| Qm rfl <| zg (Gd.t1 rfl rfl rfl) (fun hc => p_move rfl) <| zg (Gd.t1 rfl rfl rfl) (fun hc => p_move rfl) <| zg (Gd.t1 rfl rfl rfl) (fun hc => p_eql (gh hc rfl) (gh hc rfl)) <| Qq (p_pickAnd rfl rfl rfl) <| JL.nil ?_
  refine zi (fun h7 h7' => ?_) fun h7 h7' => ?_
  ·
   have hc : s_rules.skip = true ∧ M.after s_rules s_player place = from_ := by simpa using h7
   have hq : M.nxt s_rules s_player from_ place = M.after s_rules s_player (M.after s_rules s_player place) := by rw [M.nxt_yes hc, hc.2]
   have ha := M.after_bd s_rules r1 r0 r2 p0
   refine zdr [] ?_
   refine JH.p 0 rfl (p_move rfl) ?_
   refine JH.p 1 rfl (p_nilCheck rfl) ?_
   refine JH.p 2 rfl (p_fieldAddr fld_160_0.h rfl) ?_
   refine JH.q 3 rfl (L9 0 rfl rfl) ?_
   refine JH.p 4 rfl (p_move rfl) ?_
   refine JH.p 5 rfl (p_nilCheck rfl) ?_
   refine JH.p 6 rfl (p_fieldAddr fld_160_1.h rfl) ?_
   refine JH.q 7 rfl (q_load1 ty_2.h rfl (Mem.box (i := 0) rfl rfl)) ?_
   refine JH.p 8 rfl (p_move rfl) ?_
   refine y1 9 ?_
   refine yv rfl rfl (fun w hw => c_impl_Rules_after s_rules s_player (M.after s_rules s_player place) (ok_ hw)) ?_
   refine JH.p 10 rfl (p_assign rfl) ?_
   refine yd ?_
   have hqb := M.nxt_bd s_rules (frm := from_) r1 r0 r2 p0 r3
   rw [hq] at hqb
   refine Js.seq <| zS <| Qm rfl <| Ql rfl rfl <| JL.nil ?_
   refine zi (fun h8 h8' => ?_) fun h8 h8' => ?_
   ·
    have hS2 : M.sow s_rules s_player from_ (k - 1).toNat (M.after s_rules s_player (M.after s_rules s_player place)) ps (M.setI ss s_player (M.getI ss s_player + 1)) (path ++ [(M.after s_rules s_player (M.after s_rules s_player place))]) = M.sow s_rules s_player from_ (M.getI s_sown.pits from_).toNat from_ (M.setI s_sown.pits from_ 0) s_sown.stores s_path := by rw [← hS, show k.toNat = (k - 1).toNat + 1 by omega, M.sow_succ hq, if_pos (by omega)]
    have hG2 := hG.putStore (k := s_player) (by omega) (by omega) (by omega)
    have hB2 : 0 ≤ (M.after s_rules s_player (M.after s_rules s_player place)) → M.getI ps (M.after s_rules s_player (M.after s_rules s_player place)) = before + 1 := fun h => by omega
    refine zdr [13] ?_
    refine JH.p 0 rfl (p_move rfl) ?_
    refine JH.p 1 rfl (p_nilCheck rfl) ?_
    refine JH.p 2 rfl (p_fieldAddr fld_160_2.h rfl) ?_
    refine JH.p 3 rfl (p_fieldAddr fld_129_1.h rfl) ?_
    refine JH.q 4 rfl (q_load1 ty_24.h rfl (Mem.box (i := 0) rfl rfl)) ?_
    refine JH.p 5 rfl (p_move rfl) ?_
    refine JH.p 6 rfl (p_nilCheck rfl) ?_
    refine JH.p 7 rfl (p_fieldAddr fld_160_1.h rfl) ?_
    refine JH.q 8 rfl (q_load1 ty_2.h rfl (Mem.box (i := 0) rfl rfl)) ?_
    refine JH.p 9 rfl (p_indexAddr el_24 rfl rfl (by omega) (by omega) rfl) ?_
    refine JH.q 10 rfl (q_load1 ty_2.h rfl (Mem.row (i := 2) rfl (ints_getI (i := s_player) (by omega)))) ?_
    refine JH.p 11 rfl (p_add rfl rfl (IntWalk.i64_in _ (by omega))) ?_
    refine JH.p 12 rfl (p_indexAddr el_24 rfl rfl (by omega) (by omega) rfl) ?_
    refine y1 13 ?_
    refine JHo.s rfl (e_storeRow (i := 2) (xs' := ints_ (M.setI ss s_player ((M.getI ss s_player) + 1))) ty_2.h rfl rfl rfl rfl rfl rfl (ints_lt (i := s_player.toNat) (by omega)) (ints_setL (i := s_player.toNat) (by omega))) (.inr rfl) ?_
    rintro _ _ _ ⟨rfl, rfl⟩ _
    refine znh ?_
    refine yd ?_
    refine Js.region <| Qm rfl <| Qm rfl <| Qc rfl <| Qf fh rfl <| Q0 0 rfl rfl rfl <| Qm rfl <| zbs fun b11 => ?_
    refine JL.e (e_append (i := 4) (n' := (path ++ [(M.after s_rules s_player (M.after s_rules s_player place))]).length) (vs' := ints_ (path ++ [(M.after s_rules s_player (M.after s_rules s_player place))])) el_24 rfl rfl rfl rfl (src_row (i := 0) und_24 rfl rfl) (by omega) (by omega) (by first | omega | (simp only [List.length_append, List.length_cons, List.length_nil] <;> omega)) (by simp [ints_])) ?_
    rintro v13 _ _ ⟨⟨g14, rfl⟩, rfl⟩ _
    refine JL.fact (row_form' (i := 4) rfl) (fun hf15 => ?_)
    obtain ⟨A15, c15, rfl, bl15, bh15⟩ := hf15
    refine znl ?_
    refine Qc rfl <| Qf fh rfl <| zw 1 rfl rfl rfl ?_
    refine JL.nil <| Js.blockEnd <| Js.region <| Qm rfl <| Qs rfl rfl <| Qa rfl <| JL.nil ?_
    refine zf [1, 1, 1, 1] fun GG16 => ?_
    refine zn ?_
    exact zag ⟨k - 1, M.after s_rules s_player (M.after s_rules s_player place), before, ps, M.setI ss s_player ((M.getI ss s_player) + 1), path ++ [(M.after s_rules s_player (M.after s_rules s_player place))], _, _, _, _, rfl, rfl, by exact hS2, by exact hG2, zt, zt, by simp only [List.length_append, List.length_cons, List.length_nil]; omega, by exact .inr hB2, zu, zu, rfl⟩ x5
   have hS2 : M.sow s_rules s_player from_ (k - 1).toNat (M.after s_rules s_player (M.after s_rules s_player place)) (M.setI ps (M.after s_rules s_player (M.after s_rules s_player place)) (M.getI ps (M.after s_rules s_player (M.after s_rules s_player place)) + 1)) ss (path ++ [(M.after s_rules s_player (M.after s_rules s_player place))]) = M.sow s_rules s_player from_ (M.getI s_sown.pits from_).toNat from_ (M.setI s_sown.pits from_ 0) s_sown.stores s_path := by rw [← hS, show k.toNat = (k - 1).toNat + 1 by omega, M.sow_succ hq, if_neg (by omega)]
   have hG2 := hG.putPit (k := (M.after s_rules s_player (M.after s_rules s_player place))) (by omega) (by omega) hqb.2
   have hpq := hG.pit (M.after s_rules s_player (M.after s_rules s_player place))
   have hB2 : 0 ≤ (M.after s_rules s_player (M.after s_rules s_player place)) → M.getI (M.setI ps (M.after s_rules s_player (M.after s_rules s_player place)) (M.getI ps (M.after s_rules s_player (M.after s_rules s_player place)) + 1)) (M.after s_rules s_player (M.after s_rules s_player place)) = M.getI ps (M.after s_rules s_player (M.after s_rules s_player place)) + 1 := fun h => M.getI_setI_same h (by omega) _
   refine zS <| Qm rfl <| Qc rfl <| Qf fh rfl <| Qf fh rfl <| Q0 0 rfl rfl rfl <| Qm rfl <| Qq (p_indexAddr el_24 rfl rfl (by omega) (by omega) rfl) <| Qw (q_load1 ty_2.h rfl (Mem.row (i := 1) rfl (ints_getI (i := M.after s_rules s_player (M.after s_rules s_player place)) (by omega)))) <| Qa rfl <| zG <| Qm rfl <| Qc rfl <| Qf fh rfl ?_
   refine Qf fh rfl <| Q0 0 rfl rfl rfl <| Qm rfl <| Qq (p_indexAddr el_24 rfl rfl (by omega) (by omega) rfl) <| Qw (q_load1 ty_2.h rfl (Mem.row (i := 1) rfl (ints_getI (i := M.after s_rules s_player (M.after s_rules s_player place)) (by omega)))) <| Qp rfl rfl <| Qq (p_indexAddr el_24 rfl rfl (by omega) (by omega) rfl) ?_
   refine JL.s (e_storeRow (i := 1) (xs' := ints_ (M.setI ps (M.after s_rules s_player (M.after s_rules s_player place)) ((M.getI ps (M.after s_rules s_player (M.after s_rules s_player place))) + 1))) ty_2.h rfl rfl rfl rfl rfl rfl (ints_lt (i := (M.after s_rules s_player (M.after s_rules s_player place)).toNat) (by omega)) (ints_setL (i := (M.after s_rules s_player (M.after s_rules s_player place)).toNat) (by omega))) ?_
   rintro _ _ _ ⟨rfl, rfl⟩ _
   refine znl ?_
   refine zG <| Qm rfl <| Qm rfl <| Qc rfl <| Qf fh rfl <| Q0 0 rfl rfl rfl <| Qm rfl <| zbs fun b20 => ?_
   refine JL.e (e_append (i := 4) (n' := (path ++ [(M.after s_rules s_player (M.after s_rules s_player place))]).length) (vs' := ints_ (path ++ [(M.after s_rules s_player (M.after s_rules s_player place))])) el_24 rfl rfl rfl rfl (src_row (i := 0) und_24 rfl rfl) (by omega) (by omega) (by first | omega | (simp only [List.length_append, List.length_cons, List.length_nil] <;> omega)) (by simp [ints_])) ?_
   rintro v22 _ _ ⟨⟨g23, rfl⟩, rfl⟩ _
   refine JL.fact (row_form' (i := 4) rfl) (fun hf24 => ?_)
   obtain ⟨A24, c24, rfl, bl24, bh24⟩ := hf24
   refine znl ?_
   refine Qc rfl <| Qf fh rfl <| zw 1 rfl rfl rfl ?_
   refine JL.nil <| Js.blockEnd <| Js.region <| Qm rfl <| Qs rfl rfl <| Qa rfl <| JL.nil ?_
   refine zf [1, 1, 1, 1] fun GG25 => ?_
   refine zn ?_
   exact zag ⟨k - 1, M.after s_rules s_player (M.after s_rules s_player place), M.getI ps (M.after s_rules s_player (M.after s_rules s_player place)), M.setI ps (M.after s_rules s_player (M.after s_rules s_player place)) ((M.getI ps (M.after s_rules s_player (M.after s_rules s_player place))) + 1), ss, path ++ [(M.after s_rules s_player (M.after s_rules s_player place))], _, _, _, _, rfl, rfl, by exact hS2, by exact hG2, zt, zt, by simp only [List.length_append, List.length_cons, List.length_nil]; omega, by exact .inr hB2, zu, zu, rfl⟩ x5
  have hc : ¬(s_rules.skip = true ∧ M.after s_rules s_player place = from_) := by simpa using h7
  have hq := M.nxt_no hc
  have hqb := M.nxt_bd s_rules (frm := from_) r1 r0 r2 p0 r3
  rw [hq] at hqb
  refine Js.skip <| Js.seq <| zS <| Qm rfl <| Ql rfl rfl <| JL.nil ?_
  refine zi (fun h26 h26' => ?_) fun h26 h26' => ?_
  ·
   have hS2 : M.sow s_rules s_player from_ (k - 1).toNat (M.after s_rules s_player place) ps (M.setI ss s_player (M.getI ss s_player + 1)) (path ++ [(M.after s_rules s_player place)]) = M.sow s_rules s_player from_ (M.getI s_sown.pits from_).toNat from_ (M.setI s_sown.pits from_ 0) s_sown.stores s_path := by rw [← hS, show k.toNat = (k - 1).toNat + 1 by omega, M.sow_succ hq, if_pos (by omega)]
   have hG2 := hG.putStore (k := s_player) (by omega) (by omega) (by omega)
   have hB2 : 0 ≤ (M.after s_rules s_player place) → M.getI ps (M.after s_rules s_player place) = before + 1 := fun h => by omega
   refine zdr [13] ?_
   refine JH.p 0 rfl (p_move rfl) ?_
   refine JH.p 1 rfl (p_nilCheck rfl) ?_
   refine JH.p 2 rfl (p_fieldAddr fld_160_2.h rfl) ?_
   refine JH.p 3 rfl (p_fieldAddr fld_129_1.h rfl) ?_
   refine JH.q 4 rfl (q_load1 ty_24.h rfl (Mem.box (i := 0) rfl rfl)) ?_
   refine JH.p 5 rfl (p_move rfl) ?_
   refine JH.p 6 rfl (p_nilCheck rfl) ?_
   refine JH.p 7 rfl (p_fieldAddr fld_160_1.h rfl) ?_
   refine JH.q 8 rfl (q_load1 ty_2.h rfl (Mem.box (i := 0) rfl rfl)) ?_
   refine JH.p 9 rfl (p_indexAddr el_24 rfl rfl (by omega) (by omega) rfl) ?_
   refine JH.q 10 rfl (q_load1 ty_2.h rfl (Mem.row (i := 2) rfl (ints_getI (i := s_player) (by omega)))) ?_
   refine JH.p 11 rfl (p_add rfl rfl (IntWalk.i64_in _ (by omega))) ?_
   refine JH.p 12 rfl (p_indexAddr el_24 rfl rfl (by omega) (by omega) rfl) ?_
   refine y1 13 ?_
   refine JHo.s rfl (e_storeRow (i := 2) (xs' := ints_ (M.setI ss s_player ((M.getI ss s_player) + 1))) ty_2.h rfl rfl rfl rfl rfl rfl (ints_lt (i := s_player.toNat) (by omega)) (ints_setL (i := s_player.toNat) (by omega))) (.inr rfl) ?_
   rintro _ _ _ ⟨rfl, rfl⟩ _
   refine znh ?_
   refine yd ?_
   refine Js.region <| Qm rfl <| Qm rfl <| Qc rfl <| Qf fh rfl <| Q0 0 rfl rfl rfl <| Qm rfl <| zbs fun b29 => ?_
   refine JL.e (e_append (i := 4) (n' := (path ++ [(M.after s_rules s_player place)]).length) (vs' := ints_ (path ++ [(M.after s_rules s_player place)])) el_24 rfl rfl rfl rfl (src_row (i := 0) und_24 rfl rfl) (by omega) (by omega) (by first | omega | (simp only [List.length_append, List.length_cons, List.length_nil] <;> omega)) (by simp [ints_])) ?_
   rintro v31 _ _ ⟨⟨g32, rfl⟩, rfl⟩ _
   refine JL.fact (row_form' (i := 4) rfl) (fun hf33 => ?_)
   obtain ⟨A33, c33, rfl, bl33, bh33⟩ := hf33
   refine znl ?_
   refine Qc rfl <| Qf fh rfl <| zw 1 rfl rfl rfl ?_
   refine JL.nil <| Js.blockEnd <| Js.region <| Qm rfl <| Qs rfl rfl <| Qa rfl <| JL.nil ?_
   refine zf [1, 1, 1, 1] fun GG34 => ?_
   refine zn ?_
   exact zag ⟨k - 1, M.after s_rules s_player place, before, ps, M.setI ss s_player ((M.getI ss s_player) + 1), path ++ [(M.after s_rules s_player place)], _, _, _, _, rfl, rfl, by exact hS2, by exact hG2, zt, zt, by simp only [List.length_append, List.length_cons, List.length_nil]; omega, by exact .inr hB2, zu, zu, rfl⟩ x5
  have hS2 : M.sow s_rules s_player from_ (k - 1).toNat (M.after s_rules s_player place) (M.setI ps (M.after s_rules s_player place) (M.getI ps (M.after s_rules s_player place) + 1)) ss (path ++ [(M.after s_rules s_player place)]) = M.sow s_rules s_player from_ (M.getI s_sown.pits from_).toNat from_ (M.setI s_sown.pits from_ 0) s_sown.stores s_path := by rw [← hS, show k.toNat = (k - 1).toNat + 1 by omega, M.sow_succ hq, if_neg (by omega)]
  have hG2 := hG.putPit (k := (M.after s_rules s_player place)) (by omega) (by omega) hqb.2
  have hpq := hG.pit (M.after s_rules s_player place)
  have hB2 : 0 ≤ (M.after s_rules s_player place) → M.getI (M.setI ps (M.after s_rules s_player place) (M.getI ps (M.after s_rules s_player place) + 1)) (M.after s_rules s_player place) = M.getI ps (M.after s_rules s_player place) + 1 := fun h => M.getI_setI_same h (by omega) _
  refine zS <| Qm rfl <| Qc rfl <| Qf fh rfl <| Qf fh rfl <| Q0 0 rfl rfl rfl <| Qm rfl <| Qq (p_indexAddr el_24 rfl rfl (by omega) (by omega) rfl) <| Qw (q_load1 ty_2.h rfl (Mem.row (i := 1) rfl (ints_getI (i := M.after s_rules s_player place) (by omega)))) <| Qa rfl <| zG <| Qm rfl <| Qc rfl <| Qf fh rfl ?_
  refine Qf fh rfl <| Q0 0 rfl rfl rfl <| Qm rfl <| Qq (p_indexAddr el_24 rfl rfl (by omega) (by omega) rfl) <| Qw (q_load1 ty_2.h rfl (Mem.row (i := 1) rfl (ints_getI (i := M.after s_rules s_player place) (by omega)))) <| Qp rfl rfl <| Qq (p_indexAddr el_24 rfl rfl (by omega) (by omega) rfl) ?_
  refine JL.s (e_storeRow (i := 1) (xs' := ints_ (M.setI ps (M.after s_rules s_player place) ((M.getI ps (M.after s_rules s_player place)) + 1))) ty_2.h rfl rfl rfl rfl rfl rfl (ints_lt (i := (M.after s_rules s_player place).toNat) (by omega)) (ints_setL (i := (M.after s_rules s_player place).toNat) (by omega))) ?_
  rintro _ _ _ ⟨rfl, rfl⟩ _
  refine znl ?_
  refine zG <| Qm rfl <| Qm rfl <| Qc rfl <| Qf fh rfl <| Q0 0 rfl rfl rfl <| Qm rfl <| zbs fun b38 => ?_
  refine JL.e (e_append (i := 4) (n' := (path ++ [(M.after s_rules s_player place)]).length) (vs' := ints_ (path ++ [(M.after s_rules s_player place)])) el_24 rfl rfl rfl rfl (src_row (i := 0) und_24 rfl rfl) (by omega) (by omega) (by first | omega | (simp only [List.length_append, List.length_cons, List.length_nil] <;> omega)) (by simp [ints_])) ?_
  rintro v40 _ _ ⟨⟨g41, rfl⟩, rfl⟩ _
  refine JL.fact (row_form' (i := 4) rfl) (fun hf42 => ?_)
  obtain ⟨A42, c42, rfl, bl42, bh42⟩ := hf42
  refine znl ?_
  refine Qc rfl <| Qf fh rfl <| zw 1 rfl rfl rfl ?_
  refine JL.nil <| Js.blockEnd <| Js.region <| Qm rfl <| Qs rfl rfl <| Qa rfl <| JL.nil ?_
  refine zf [1, 1, 1, 1] fun GG43 => ?_
  refine zn ?_
  exact zag ⟨k - 1, M.after s_rules s_player place, M.getI ps (M.after s_rules s_player place), M.setI ps (M.after s_rules s_player place) ((M.getI ps (M.after s_rules s_player place)) + 1), ss, path ++ [(M.after s_rules s_player place)], _, _, _, _, rfl, rfl, by exact hS2, by exact hG2, zt, zt, by simp only [List.length_append, List.length_cons, List.length_nil]; omega, by exact .inr hB2, zu, zu, rfl⟩ x5
 have hL : M.lap s_rules s_player from_ s_sown s_path = (⟨ps, ss, place, s_sown.laps + 1⟩, path) := by unfold M.lap; rw [← hS]; simp [show k.toNat = 0 by omega, M.sow]
 have hB3 := hB.resolve_left (by omega)
 refine zx ?_
 refine zS <| Qm rfl <| Qm rfl <| Qc rfl <| Qf fh rfl <| Qf fh rfl <| zw 0 rfl rfl rfl ?_
 refine zN <| Qm rfl <| Qc rfl <| Qf fh rfl <| Qf fh rfl <| Q0 0 rfl rfl rfl <| Qp rfl rfl <| Qc rfl <| Qf fh rfl <| Qf fh rfl <| zw 0 rfl rfl rfl ?_
 refine zN <| Qm rfl <| Qc rfl <| Qf fh rfl <| Qf fh rfl <| Q0 0 rfl rfl rfl <| Qm rfl <| zg (Gd.t1 rfl rfl rfl) (fun hc => p_move rfl) <| zg (Gd.t1 rfl rfl rfl) (fun hc => p_geq (gh hc rfl) rfl) <| Qq (p_pickAnd rfl rfl rfl) <| Qm rfl <| zg (Gd.t1 rfl rfl rfl) (fun hc => p_move rfl) <| zg (Gd.t1 rfl rfl rfl) (fun hc => p_gtr (gh hc rfl) rfl) <| Qq (p_pickAnd rfl rfl rfl) ?_
 refine Qa rfl <| JL.nil ?_
 refine zrb [0, 0, 0, 0] hb x5 ?_
 have e5 : 0 ≤ place → (1 < M.getI ps place ↔ 0 < before) := fun h => by rw [hB3 h]; omega
 clear hS
 have hE : (.bool ((s_rules.relay && (decide (0 ≤ place))) && (decide (0 < before))) : Value) = .bool (M.more s_rules (M.lap s_rules s_player from_ s_sown s_path).1) := by rw [hL]; by_cases hp : 0 ≤ place <;> simp [M.more, hp, e5]
 have hN11 : (((M.lap s_rules s_player from_ s_sown s_path).1).pits).length = s_sown.pits.length := by first | (rw [hL]; done) | (rw [hL]; show ps.length = _; omega) | (rw [hL]; show ss.length = _; omega)
 have hE11 : ((M.lap s_rules s_player from_ s_sown s_path).1).pits = ps := by rw [hL]
 have hN12 : (((M.lap s_rules s_player from_ s_sown s_path).1).stores).length = s_sown.stores.length := by first | (rw [hL]; done) | (rw [hL]; show ps.length = _; omega) | (rw [hL]; show ss.length = _; omega)
 have hE12 : ((M.lap s_rules s_player from_ s_sown s_path).1).stores = ss := by rw [hL]
 have hE13 : ((M.lap s_rules s_player from_ s_sown s_path).1).last = place := by rw [hL]
 have hE14 : ((M.lap s_rules s_player from_ s_sown s_path).1).laps = (s_sown.laps + 1) := by rw [hL]
 have hN15 : ((M.lap s_rules s_player from_ s_sown s_path).2).length = path.length := by first | (rw [hL]; done) | (rw [hL]; show ps.length = _; omega) | (rw [hL]; show ss.length = _; omega)
 have hE15 : (M.lap s_rules s_player from_ s_sown s_path).2 = path := by rw [hL]
 refine ⟨(some ⟨b1, 0, none⟩), cs_10, gs_10, (some ⟨b2, 0, none⟩), cs_11, gs_11, A5_0_14, c5_0_14, g5_0_14, hE, ?_, ?_, ?_, ?_, ?_, ?_, ?_⟩
 · rw [hN11, hE11, hN12, hE12, hE13, hE14, hN15, hE15]
 all_goals (first | (rw [hN11, hE11, hN12, hE12, hE13, hE14, hN15, hE15]; omega) | omega | (simp only [*]; omega))

set_option maxHeartbeats 1000000 in
theorem c_impl_sowing_move (s_rules : M.Rul) (s_player : Int) (s_sown : M.Sw) (s_path : List Int) {As_10 : Option Addr} {cs_10 : Nat} {gs_10 : List Nat} {As_11 : Option Addr} {cs_11 : Nat} {gs_11 : List Nat} {As_14 : Option Addr} {cs_14 : Nat} {gs_14 : List Nat} (from_ : Int) {bs : Nat} {w : World} (hb : Bw w [boxO bs [.int .i64 s_rules.pits, .int .i64 s_rules.seeds, .bool s_rules.stores, .bool s_rules.skip, .bool s_rules.relay, .bool s_rules.feed, .bool s_rules.again, .int .i64 s_rules.capture, .int .i64 s_rules.slam, .int .i64 s_player, .slice As_10 s_sown.pits.length cs_10, .slice As_11 s_sown.stores.length cs_11, .int .i64 s_sown.last, .int .i64 s_sown.laps, .slice As_14 s_path.length cs_14] 160, rowO 2 1 (.slice As_10 s_sown.pits.length cs_10) s_sown.pits.length (ints_ s_sown.pits) gs_10, rowO 2 1 (.slice As_11 s_sown.stores.length cs_11) s_sown.stores.length (ints_ s_sown.stores) gs_11, rowO 2 1 (.slice As_14 s_path.length cs_14) s_path.length (ints_ s_path) gs_14]) (bd0 : s_sown.pits.length ≤ cs_10 := by exact om_) (bd1 : cs_10 ≤ 9223372036854775807 := by exact om_) (bd2 : s_sown.stores.length ≤ cs_11 := by exact om_) (bd3 : cs_11 ≤ 9223372036854775807 := by exact om_) (bd4 : s_path.length ≤ cs_14 := by exact om_) (bd5 : cs_14 ≤ 9223372036854775807 := by exact om_) (r0 : 2 ≤ s_rules.pits := by exact om_) (r1 : s_rules.pits ≤ 8 := by exact om_) (r2 : s_player = 0 ∨ s_player = 1 := by exact om_) (r3 : 0 ≤ from_ := by exact om_) (r4 : from_ < 2 * s_rules.pits := by exact om_) (r5 : M.Good s_rules s_sown.pits s_sown.stores 0 := by exact om_) (r6 : 0 < (M.getI s_sown.pits from_) := by exact om_) (r7 : s_sown.laps = 0 := by exact om_) (r8 : s_path.length = 0 := by exact om_) : RetB Try.prog 156 [.pointer (some ⟨bs, 0, none⟩), .int .i64 from_] w [boxO bs [.int .i64 s_rules.pits, .int .i64 s_rules.seeds, .bool s_rules.stores, .bool s_rules.skip, .bool s_rules.relay, .bool s_rules.feed, .bool s_rules.again, .int .i64 s_rules.capture, .int .i64 s_rules.slam, .int .i64 s_player, .slice As_10 s_sown.pits.length cs_10, .slice As_11 s_sown.stores.length cs_11, .int .i64 s_sown.last, .int .i64 s_sown.laps, .slice As_14 s_path.length cs_14] 160, rowO 2 1 (.slice As_10 s_sown.pits.length cs_10) s_sown.pits.length (ints_ s_sown.pits) gs_10, rowO 2 1 (.slice As_11 s_sown.stores.length cs_11) s_sown.stores.length (ints_ s_sown.stores) gs_11, rowO 2 1 (.slice As_14 s_path.length cs_14) s_path.length (ints_ s_path) gs_14] (fun v bs' => ∃ (Axs_10 : Option Addr) (cxs_10 : Nat) (gxs_10 : List Nat) (Axs_11 : Option Addr) (cxs_11 : Nat) (gxs_11 : List Nat) (Axs_14 : Option Addr) (cxs_14 : Nat) (gxs_14 : List Nat), v = .bool ((M.mvT s_rules s_player 100 from_ s_sown s_path).1) ∧ bs' = [boxO bs [.int .i64 s_rules.pits, .int .i64 s_rules.seeds, .bool s_rules.stores, .bool s_rules.skip, .bool s_rules.relay, .bool s_rules.feed, .bool s_rules.again, .int .i64 s_rules.capture, .int .i64 s_rules.slam, .int .i64 s_player, .slice Axs_10 ((((M.mvT s_rules s_player 100 from_ s_sown s_path).2.1).pits).length) cxs_10, .slice Axs_11 ((((M.mvT s_rules s_player 100 from_ s_sown s_path).2.1).stores).length) cxs_11, .int .i64 (((M.mvT s_rules s_player 100 from_ s_sown s_path).2.1).last), .int .i64 (((M.mvT s_rules s_player 100 from_ s_sown s_path).2.1).laps), .slice Axs_14 (((M.mvT s_rules s_player 100 from_ s_sown s_path).2.2).length) cxs_14] 160, rowO 2 1 (.slice Axs_10 ((((M.mvT s_rules s_player 100 from_ s_sown s_path).2.1).pits).length) cxs_10) ((((M.mvT s_rules s_player 100 from_ s_sown s_path).2.1).pits).length) (ints_ (((M.mvT s_rules s_player 100 from_ s_sown s_path).2.1).pits)) gxs_10, rowO 2 1 (.slice Axs_11 ((((M.mvT s_rules s_player 100 from_ s_sown s_path).2.1).stores).length) cxs_11) ((((M.mvT s_rules s_player 100 from_ s_sown s_path).2.1).stores).length) (ints_ (((M.mvT s_rules s_player 100 from_ s_sown s_path).2.1).stores)) gxs_11, rowO 2 1 (.slice Axs_14 (((M.mvT s_rules s_player 100 from_ s_sown s_path).2.2).length) cxs_14) (((M.mvT s_rules s_player 100 from_ s_sown s_path).2.2).length) (ints_ ((M.mvT s_rules s_player 100 from_ s_sown s_path).2.2)) gxs_14] ∧ (((M.mvT s_rules s_player 100 from_ s_sown s_path).2.1).pits).length ≤ cxs_10 ∧ cxs_10 ≤ 9223372036854775807 ∧ (((M.mvT s_rules s_player 100 from_ s_sown s_path).2.1).stores).length ≤ cxs_11 ∧ cxs_11 ≤ 9223372036854775807 ∧ ((M.mvT s_rules s_player 100 from_ s_sown s_path).2.2).length ≤ cxs_14 ∧ cxs_14 ≤ 9223372036854775807) := by
 refine enterB hb @Try.func156 @Try.ntmps156 rfl rfl ?_
 refine zent ?_
 refine Js.trashE ?_
 refine zn ?_
 refine zS <| Qa rfl <| zJ <| Js.block ?_
 refine zl [0] (fun F U l os u m => ∃ (frm : Int) (sw : M.Sw) (path : List Int) (A1_0_10 : Option Addr) (c1_0_10 : Nat) (g1_0_10 : List Nat) (A1_0_11 : Option Addr) (c1_0_11 : Nat) (g1_0_11 : List Nat) (A1_0_14 : Option Addr) (c1_0_14 : Nat) (g1_0_14 : List Nat) (G1_4 : List Nat), l = F [(1, .int .i64 frm)] ∧ os = U [some (boxO bs [.int .i64 s_rules.pits, .int .i64 s_rules.seeds, .bool s_rules.stores, .bool s_rules.skip, .bool s_rules.relay, .bool s_rules.feed, .bool s_rules.again, .int .i64 s_rules.capture, .int .i64 s_rules.slam, .int .i64 s_player, .slice A1_0_10 sw.pits.length c1_0_10, .slice A1_0_11 sw.stores.length c1_0_11, .int .i64 sw.last, .int .i64 sw.laps, .slice A1_0_14 path.length c1_0_14] 160), some (rowO 2 1 (.slice A1_0_10 sw.pits.length c1_0_10) sw.pits.length (ints_ sw.pits) g1_0_10), some (rowO 2 1 (.slice A1_0_11 sw.stores.length c1_0_11) sw.stores.length (ints_ sw.stores) g1_0_11), some (rowO 2 1 (.slice A1_0_14 path.length c1_0_14) path.length (ints_ path) g1_0_14), some (anyO G1_4)] ∧ (M.mvT s_rules s_player (100 - sw.laps).toNat frm sw path = M.mvT s_rules s_player 100 from_ s_sown s_path) ∧ (M.Good s_rules sw.pits sw.stores 0) ∧ (0 ≤ frm) ∧ (frm < 2 * s_rules.pits) ∧ (0 < M.getI sw.pits frm) ∧ (0 ≤ sw.laps) ∧ (sw.laps ≤ 99) ∧ (path.length ≤ 96 * sw.laps) ∧ (sw.pits.length ≤ c1_0_10) ∧ (c1_0_10 ≤ 9223372036854775807) ∧ (sw.stores.length ≤ c1_0_11) ∧ (c1_0_11 ≤ 9223372036854775807) ∧ (path.length ≤ c1_0_14) ∧ (c1_0_14 ≤ 9223372036854775807) ∧ m = (100 - sw.laps).toNat) ⟨from_, s_sown, s_path, _, _, _, _, _, _, _, _, _, _, rfl, rfl, by rw [r7]; rfl, by exact r5, zt, zt, by exact r6, zt, zt, zt, zu, zu, zu, zu, zu, zu, rfl⟩ ?_
 rintro _ _ u1 _ ⟨frm, sw, path, A1_0_10, c1_0_10, g1_0_10, A1_0_11, c1_0_11, g1_0_11, A1_0_14, c1_0_14, g1_0_14, G1_4, rfl, rfl, hS, hG, f0, f1, hg, la0, la1, hl, f1_8, f1_9, f1_10, f1_11, f1_12, f1_13, rfl⟩ x1
 refine zn ?_
 obtain ⟨ha, hb1, hc, hd, he, hf⟩ := M.lap_keeps s_rules path r1 r0 r2 f0 f1 hG
 refine Js.seq <| zS <| Qm rfl <| Qm rfl <| zBB 4 sp_ rfl (fun w hb _ hw => c_impl_sowing_lap s_rules s_player sw path frm hb) ?_
 rintro _ _ G2 ⟨A2s_10, c2s_10, g2s_10, A2s_11, c2s_11, g2s_11, A2s_14, c2s_14, g2s_14, rfl, rfl, bl2_0, bl2_1, bl2_2, bl2_3, bl2_4, bl2_5⟩
 refine znl ?_
 refine JL.nil ?_
 refine zi (fun h3 h3' => ?_) fun h3 h3' => ?_
 ·
  have hm2 := M.more_get h3
  refine Js.skip <| Js.block <| Js.seq <| zS <| Qm rfl <| Qc rfl <| Qf fh rfl <| Qf fh rfl <| Q0 0 rfl rfl rfl <| Qe rfl rfl <| JL.nil ?_
  refine zi (fun h4 h4' => ?_) fun h4 h4' => ?_
  ·
   have hL : M.mvT s_rules s_player 100 from_ s_sown s_path = (false, (M.lap s_rules s_player frm sw path).1, (M.lap s_rules s_player frm sw path).2) := by rw [← hS, show (100 - sw.laps).toNat = 0 + 1 by omega, M.mvT_yes (by assumption)]; rfl
   refine zS <| Qa rfl <| JL.nil ?_
   refine zrb [0, 0, 0, 0] hb x1 ?_
   have hE : (.bool false : Value) = .bool ((M.mvT s_rules s_player 100 from_ s_sown s_path).1) := by rw [hL]
   have hN11 : (((M.mvT s_rules s_player 100 from_ s_sown s_path).2.1).pits).length = (((M.lap s_rules s_player frm sw path).1).pits).length := by rw [hL]
   have hE11 : ((M.mvT s_rules s_player 100 from_ s_sown s_path).2.1).pits = (((M.lap s_rules s_player frm sw path).1).pits) := by rw [hL]
   have hN12 : (((M.mvT s_rules s_player 100 from_ s_sown s_path).2.1).stores).length = (((M.lap s_rules s_player frm sw path).1).stores).length := by rw [hL]
   have hE12 : ((M.mvT s_rules s_player 100 from_ s_sown s_path).2.1).stores = (((M.lap s_rules s_player frm sw path).1).stores) := by rw [hL]
   have hE13 : ((M.mvT s_rules s_player 100 from_ s_sown s_path).2.1).last = (((M.lap s_rules s_player frm sw path).1).last) := by rw [hL]
   have hE14 : ((M.mvT s_rules s_player 100 from_ s_sown s_path).2.1).laps = (((M.lap s_rules s_player frm sw path).1).laps) := by rw [hL]
   have hN15 : ((M.mvT s_rules s_player 100 from_ s_sown s_path).2.2).length = ((M.lap s_rules s_player frm sw path).2).length := by rw [hL]
   have hE15 : (M.mvT s_rules s_player 100 from_ s_sown s_path).2.2 = ((M.lap s_rules s_player frm sw path).2) := by rw [hL]
   refine ⟨A2s_10, c2s_10, g2s_10, A2s_11, c2s_11, g2s_11, A2s_14, c2s_14, g2s_14, hE, ?_, ?_, ?_, ?_, ?_, ?_, ?_⟩
   · rw [hN11, hE11, hN12, hE12, hE13, hE14, hN15, hE15]
   all_goals (first | (rw [hN11, hE11, hN12, hE12, hE13, hE14, hN15, hE15]; omega) | omega | (simp only [*]; omega))
  have hS2 : M.mvT s_rules s_player (100 - (M.lap s_rules s_player frm sw path).1.laps).toNat (M.lap s_rules s_player frm sw path).1.last (M.lap s_rules s_player frm sw path).1 (M.lap s_rules s_player frm sw path).2 = M.mvT s_rules s_player 100 from_ s_sown s_path := by rw [← hS, hf, show (100 - sw.laps).toNat = (100 - (sw.laps + 1)).toNat + 1 by omega, M.mvT_yes (by assumption)]
  refine Js.skip <| Js.region <| Qm rfl <| Qc rfl <| Qf fh rfl <| Qf fh rfl <| Q0 0 rfl rfl rfl <| Qa rfl <| JL.nil <| Js.blockEnd ?_
  refine zf [0, 0, 0, 0] fun GG5 => ?_
  refine zn ?_
  exact zag ⟨((M.lap s_rules s_player frm sw path).1).last, (M.lap s_rules s_player frm sw path).1, (M.lap s_rules s_player frm sw path).2, _, _, _, _, _, _, _, _, _, _, rfl, rfl, by exact hS2, by exact ha, by exact hm2.1, by exact hc, by omega, by omega, by omega, by omega, zu, zu, zu, zu, zu, zu, rfl⟩ x1
 have hL : M.mvT s_rules s_player 100 from_ s_sown s_path = (true, (M.lap s_rules s_player frm sw path).1, (M.lap s_rules s_player frm sw path).2) := by rw [← hS, show (100 - sw.laps).toNat = (99 - sw.laps).toNat + 1 by omega, M.mvT_no h3]
 refine zx ?_
 refine zS <| Qa rfl <| JL.nil ?_
 refine zrb [0, 0, 0, 0] hb x1 ?_
 have hE : (.bool true : Value) = .bool ((M.mvT s_rules s_player 100 from_ s_sown s_path).1) := by rw [hL]
 have hN11 : (((M.mvT s_rules s_player 100 from_ s_sown s_path).2.1).pits).length = (((M.lap s_rules s_player frm sw path).1).pits).length := by rw [hL]
 have hE11 : ((M.mvT s_rules s_player 100 from_ s_sown s_path).2.1).pits = (((M.lap s_rules s_player frm sw path).1).pits) := by rw [hL]
 have hN12 : (((M.mvT s_rules s_player 100 from_ s_sown s_path).2.1).stores).length = (((M.lap s_rules s_player frm sw path).1).stores).length := by rw [hL]
 have hE12 : ((M.mvT s_rules s_player 100 from_ s_sown s_path).2.1).stores = (((M.lap s_rules s_player frm sw path).1).stores) := by rw [hL]
 have hE13 : ((M.mvT s_rules s_player 100 from_ s_sown s_path).2.1).last = (((M.lap s_rules s_player frm sw path).1).last) := by rw [hL]
 have hE14 : ((M.mvT s_rules s_player 100 from_ s_sown s_path).2.1).laps = (((M.lap s_rules s_player frm sw path).1).laps) := by rw [hL]
 have hN15 : ((M.mvT s_rules s_player 100 from_ s_sown s_path).2.2).length = ((M.lap s_rules s_player frm sw path).2).length := by rw [hL]
 have hE15 : (M.mvT s_rules s_player 100 from_ s_sown s_path).2.2 = ((M.lap s_rules s_player frm sw path).2) := by rw [hL]
 refine ⟨A2s_10, c2s_10, g2s_10, A2s_11, c2s_11, g2s_11, A2s_14, c2s_14, g2s_14, hE, ?_, ?_, ?_, ?_, ?_, ?_, ?_⟩
 · rw [hN11, hE11, hN12, hE12, hE13, hE14, hN15, hE15]
 all_goals (first | (rw [hN11, hE11, hN12, hE12, hE13, hE14, hN15, hE15]; omega) | omega | (simp only [*]; omega))

set_option maxHeartbeats 1000000 in
theorem c_impl_sowMove (r : M.Rul) {v_r : Value} (p : M.Pos) {v_p : Value} (move : Int) {w : World} (h_r : (Ty.agg (cRules r)).ok w v_r) (h_p : (Ty.agg (cPosition p)).ok w v_p) (r0 : p.pits.length ≤ 4194304 := by exact om_) (r1 : p.stores.length ≤ 4194304 := by exact om_) : Ret Try.prog 148 [v_r, v_p, .int .i64 move] w (Ty.tup [Ty.opt (decide ((M.sowMove r p move).1 = 0)) (Ty.box 160 (csowing (M.Sow.mk r p.player (M.sowMove r p move).2.1 (M.sowMove r p move).2.2))), Ty.int ((M.sowMove r p move).1)]) := by
 revert v_r; apply opn
 revert v_p; apply opn
 intro A1 c1 h1 bl1 bh1 A2 c2 h2 bl2 bh2
 refine enter @Try.func148 @Try.ntmps148 rfl rfl ?_
 refine zent ?_
 refine zS <| zb rfl fun b3 => zb rfl fun b4 => Qa rfl <| Qa rfl <| zJ <| zS <| Q9 1 rfl rfl ?_
 refine Q9 0 rfl rfl ?_
 refine Qm rfl <| zv rfl (fun w hw => c_impl_sowCode r p move (ok_ hw) (ok_ hw)) <| Qa rfl <| zN <| Qm rfl <| Qd rfl rfl <| JL.nil ?_
 refine zi (fun h5 h5' => ?_) fun h5 h5' => ?_
 ·
  have hn : M.sowCode r p move ≠ 0 := by simpa using h5
  have hM := M.sowMove_code hn
  have hM0 : ¬ M.sowCode r p move = 0 := hn
  have hq0 : (decide ((M.sowMove r p move).1 = 0)) = false := by rw [hM]; simpa using hM0
  have hq1 : (M.sowCode r p move) = (M.sowMove r p move).1 := by rw [hM]
  refine zS <| Qm rfl <| Qa rfl <| Qa rfl <| JL.nil ?_
  exact zro (Up.refl _ _)
 have hc0 : M.sowCode r p move = 0 := by simpa using h5
 obtain ⟨hok, m0, m1, hg0⟩ := M.sowCode_ok hc0
 obtain ⟨g1, g2, g3, g4, g5, g6, g7⟩ := M.okP_bd hok
 have hq := M.mul_bd g7 g1 g2
 have hG := M.Good.of_ok hok
 refine Js.skip <| zS <| Q9 1 rfl rfl ?_
 refine Q9 0 rfl rfl ?_
 refine zcs rfl (fun w hw => c_impl_newSowing r p (ok_ hw) (ok_ hw)) ?_
 intro b6 A7 c7 bl7 bh7 A8 c8 bl8 bh8 A9 c9 bl9 bh9
 refine Qa rfl <| zJ <| zS <| Qm rfl <| Q9 5 rfl rfl ?_
 refine Qf fh rfl <| Q0 4 rfl rfl rfl <| Qm rfl <| zv rfl (fun w hw => c_impl_Rules_pitOf r p.player move (ok_ hw)) ?_
 refine zhl [0, 2, 1, 0] ?_
 refine zB 4 sp_ rfl (fun w hb hw => c_impl_sowing_move r p.player (M.Sw.mk p.pits p.stores 0 0) [] (p.player * r.pits + move) hb (r5 := hG) (r6 := hg0) (r7 := rfl) (r8 := rfl)) ?_
 rintro _ _ G10 ⟨A10s_10, c10s_10, g10s_10, A10s_11, c10s_11, g10s_11, A10s_14, c10s_14, g10s_14, rfl, rfl, bl10_0, bl10_1, bl10_2, bl10_3, bl10_4, bl10_5⟩
 refine znl ?_
 refine Qt rfl <| JL.nil ?_
 refine zi (fun h11 h11' => ?_) fun h11 h11' => ?_
 ·
  have hM := M.sowMove_end hc0 (by simpa using h11)
  have hq0 : (decide ((M.sowMove r p move).1 = 0)) = false := by rw [hM]; rfl
  have hq1 : 10 = (M.sowMove r p move).1 := by rw [hM]
  refine zS <| Qa rfl <| Qa rfl <| JL.nil ?_
  exact zro (Up.refl _ _)
 have hM := M.sowMove_yes hc0 (by simpa using h11)
 have hq0 : (decide ((M.sowMove r p move).1 = 0)) = true := by rw [hM]; rfl
 have hq1 : (((M.mvT r p.player 100 (p.player * r.pits + move) (M.Sw.mk p.pits p.stores 0 0) []).2.1).pits) = ((M.sowMove r p move).2.1).pits := by rw [hM]
 have hq2 : (((M.mvT r p.player 100 (p.player * r.pits + move) (M.Sw.mk p.pits p.stores 0 0) []).2.1).stores) = ((M.sowMove r p move).2.1).stores := by rw [hM]
 have hq3 : (((M.mvT r p.player 100 (p.player * r.pits + move) (M.Sw.mk p.pits p.stores 0 0) []).2.1).last) = ((M.sowMove r p move).2.1).last := by rw [hM]
 have hq4 : (((M.mvT r p.player 100 (p.player * r.pits + move) (M.Sw.mk p.pits p.stores 0 0) []).2.1).laps) = ((M.sowMove r p move).2.1).laps := by rw [hM]
 have hq5 : ((M.mvT r p.player 100 (p.player * r.pits + move) (M.Sw.mk p.pits p.stores 0 0) []).2.2) = (M.sowMove r p move).2.2 := by rw [hM]
 have hq6 : 0 = (M.sowMove r p move).1 := by rw [hM]
 refine Js.skip <| zS <| Qm rfl <| Qa rfl <| Qa rfl <| JL.nil ?_
 exact zro (Up.refl _ _)

end Go.Proofs.Ytejnmechnhgmfaa

/- Walks: G52. -/
import Derived.Test.YtjgohnaobbphpaaGreatDoorZaA3
import Derived.Test.YtjgohnaobbphpaaGreatDoorZaA8
import Derived.Test.YtjgohnaobbphpaaGreatDoorZaA4
import Derived.Test.YtjgohnaobbphpaaGreatDoorZaA5
import Derived.Test.YtjgohnaobbphpaaGreatDoorZaA2
import Derived.Test.YtjgohnaobbphpaaGreatDoorZaA1
import Derived.Test.YtjgohnaobbphpaaGreatDoorZaA0
import Derived.Test.YtjgohnaobbphpaaGreatDoorZaA9
set_option linter.unusedSimpArgs false
set_option linter.unusedVariables false
set_option maxRecDepth 100000
attribute [local irreducible] Go.Proofs.YtjgohnaobbphpaaGreatDoor.gv
set_option maxHeartbeats 16000000
namespace Go.Proofs.YtjgohnaobbphpaaGreatDoor
open Go.RowKit
theorem c_impl_teller_lap (t_rules : M.Rul) (t_facts : List M.Fct) {At_9 : Option Addr} {ct_9 : Nat} {gt_9 : List Nat} (from_ seeds : Int) (path : List Int) {v_path : Value} {bt : Nat} {w : World} (hb : Bw w [boxO bt [.int .i64 t_rules.pits, .int .i64 t_rules.seeds, .bool t_rules.stores, .bool t_rules.skip, .bool t_rules.relay, .bool t_rules.feed, .bool t_rules.again, .int .i64 t_rules.capture, .int .i64 t_rules.slam, .slice At_9 t_facts.length ct_9] 125, rowO 37 3 (.slice At_9 t_facts.length ct_9) t_facts.length (fltV vcFact t_facts) gt_9]) (h_path : (Ty.ints 2 path).ok (offW w (([boxO bt [.int .i64 t_rules.pits, .int .i64 t_rules.seeds, .bool t_rules.stores, .bool t_rules.skip, .bool t_rules.relay, .bool t_rules.feed, .bool t_rules.again, .int .i64 t_rules.capture, .int .i64 t_rules.slam, .slice At_9 t_facts.length ct_9] 125, rowO 37 3 (.slice At_9 t_facts.length ct_9) t_facts.length (fltV vcFact t_facts) gt_9] : List Own).flatMap (·.fp))) v_path) (bd0 : t_facts.length ≤ ct_9 := by exact om_) (bd1 : ct_9 ≤ 9223372036854775807 := by exact om_) (r0 : t_facts.length ≤ 1000000 := by exact om_) (r1 : path.length ≤ 1000000 := by exact om_) : RetB Tryz.prog 90 [.pointer (some ⟨bt, 0, none⟩), .int .i64 from_, .int .i64 seeds, v_path] w [boxO bt [.int .i64 t_rules.pits, .int .i64 t_rules.seeds, .bool t_rules.stores, .bool t_rules.skip, .bool t_rules.relay, .bool t_rules.feed, .bool t_rules.again, .int .i64 t_rules.capture, .int .i64 t_rules.slam, .slice At_9 t_facts.length ct_9] 125, rowO 37 3 (.slice At_9 t_facts.length ct_9) t_facts.length (fltV vcFact t_facts) gt_9] (fun v bs' => ∃ (Axt_9 : Option Addr) (cxt_9 : Nat) (gxt_9 : List Nat), v = .tuple #[] ∧ bs' = [boxO bt [.int .i64 t_rules.pits, .int .i64 t_rules.seeds, .bool t_rules.stores, .bool t_rules.skip, .bool t_rules.relay, .bool t_rules.feed, .bool t_rules.again, .int .i64 t_rules.capture, .int .i64 t_rules.slam, .slice Axt_9 (((t_facts ++ [M.Fct.mk 1 from_ seeds]) ++ M.addFs [] path).length) cxt_9] 125, rowO 37 3 (.slice Axt_9 (((t_facts ++ [M.Fct.mk 1 from_ seeds]) ++ M.addFs [] path).length) cxt_9) (((t_facts ++ [M.Fct.mk 1 from_ seeds]) ++ M.addFs [] path).length) (fltV vcFact ((t_facts ++ [M.Fct.mk 1 from_ seeds]) ++ M.addFs [] path)) gxt_9] ∧ ((t_facts ++ [M.Fct.mk 1 from_ seeds]) ++ M.addFs [] path).length ≤ cxt_9 ∧ cxt_9 ≤ 9223372036854775807) := by
 revert v_path; apply opn
 intro A1 c1 h1 bl1 bh1
 have h_path := h1
 refine enterB hb @Tryz.func90 @Tryz.ntmps90 rfl rfl ?_
 refine zent ?_
 refine Js.trashE ?_
 refine zn ?_
 refine zS <| Qm rfl <| Qm rfl <| Qc rfl <| Qf fh rfl <| Q0 0 rfl rfl rfl <| Qm rfl <| Qm rfl <| Qb ?_
 refine zbs fun b2 => ?_
 refine JL.e (e_append (i := 2) (n' := (t_facts ++ [(M.Fct.mk 1 from_ seeds)]).length) (vs' := fltV vcFact (t_facts ++ [(M.Fct.mk 1 from_ seeds)])) el_43 rfl rfl rfl rfl (src_row (i := 0) und_43 rfl rfl) (by omega) (by omega) ln2_ (by first | rfl | exact fltV_app _ _ _ | exact fltV_snoc _ _ _ | (simp [fltV]; done))) ?_
 rintro v4 _ _ ⟨⟨g5, rfl⟩, rfl⟩ _
 refine JL.fact (row_form' (i := 2) rfl) (fun hf6 => ?_)
 obtain ⟨A6, c6, rfl, bl6, bh6⟩ := hf6
 refine znl ?_
 refine Qc rfl <| Qf fh rfl <| zw 1 rfl rfl rfl ?_
 refine zN ?_
 refine JL.e (e_mapNewI) ?_
 rintro _ _ _ ⟨b7, rfl, rfl, rfl⟩ _
 refine znl ?_
 refine Qa rfl <| zN <| Qm rfl <| Qz rfl <| Qm rfl <| JL.nil <| Js.block ?_
 refine zl [0, 8, 26, 27] (fun F U l os u m => ∃ (k nF : Nat) (FF cur : List M.Fct) (g : List (Int × Int)) (A8_0_9 : Option Addr) (c8_0_9 : Nat) (g8_0_9 : List Nat) (G8_4 : List Nat), l = F [(28, .int .i64 (k : Int))] ∧ os = U [some (mapI b7 g), nO, some (boxO bt [.int .i64 t_rules.pits, .int .i64 t_rules.seeds, .bool t_rules.stores, .bool t_rules.skip, .bool t_rules.relay, .bool t_rules.feed, .bool t_rules.again, .int .i64 t_rules.capture, .int .i64 t_rules.slam, .slice A8_0_9 nF c8_0_9] 125), some (rowO 37 3 (.slice A8_0_9 nF c8_0_9) nF (fltV vcFact FF) g8_0_9), some (anyO G8_4)] ∧ (FF = (t_facts ++ [M.Fct.mk 1 from_ seeds]) ++ cur) ∧ (M.MapF_ g ((t_facts ++ [M.Fct.mk 1 from_ seeds]).length : Int) cur) ∧ (M.CntB cur k) ∧ (cur = M.addFs [] (path.take k)) ∧ (k ≤ path.length) ∧ (FF.length ≤ t_facts.length + 1 + k) ∧ (FF.length = nF) ∧ (nF ≤ c8_0_9) ∧ (c8_0_9 ≤ 9223372036854775807) ∧ m = path.length - k) ⟨0, _, t_facts ++ [(M.Fct.mk 1 from_ seeds)], [], [], _, _, _, _, rfl, rfl, by simp, by exact M.MapF_.zero _, by exact (fun f h => by simp at h), by rfl, zt, by simp, by rfl, zu, zu, rfl⟩ ?_
 rintro _ _ u8 _ ⟨k, nF, FF, cur, g, A8_0_9, c8_0_9, g8_0_9, G8_4, rfl, rfl, hF, hM, hC, hA, hk, hFl, hn, f8_7, f8_8, rfl⟩ x8
 refine zn ?_
 refine zS <| Ql rfl rfl <| zJ ?_
 refine zi (fun h9 h9' => ?_) fun h9 h9' => ?_
 ·
  have hkl : k < path.length := by have := h9'; omega
  obtain ⟨b10, o10, he10, hc10⟩ := ints_elem (Ty.mono _ h1 x8.vis) (i := k) (by omega)
  refine Js.skip <| Js.seq <| Js.block <| zS <| Qq (p_indexAddr el_26 rfl rfl (by omega) (by omega) he10) <| QC hc10 rfl <| Qa rfl <| zN <| Qm rfl <| Qm rfl <| Qw (q_lookI (i := 0) (g := g) (k := (M.nth path k)) map_176 rfl rfl rfl) <| Qm rfl <| Qx rfl rfl <| Qx rfl rfl ?_
  refine Qa rfl <| Qa rfl <| zJ <| zS <| Qm rfl <| Qt rfl <| JL.nil ?_
  refine zi (fun h11 h11' => ?_) fun h11 h11' => ?_
  ·
   have hm : M.mhas g (M.nth path k) = false := by simpa using h11
   obtain ⟨hf1, hF2, hM2⟩ := M.tel_miss2 hn hF hM hm
   have hf1c : (M.fct (FF ++ [M.Fct.mk 2 (M.nth path k) 0]) nF).count = 0 := by rw [hf1]
   have hfl9 : (FF ++ [M.Fct.mk 2 (M.nth path k) 0]).length = FF.length + 1 := by simp
   refine zS <| Qm rfl <| Qc rfl <| Qf fh rfl <| Q0 2 rfl rfl rfl <| Qz rfl <| Qa rfl <| zN <| Qm rfl <| Qm rfl <| Qm rfl ?_
   refine JL.s (e_mapUpdI (i := 0) (g := g) (k := (M.nth path k)) (v := (nF : Int)) map_176 rfl rfl rfl rfl (hm)) ?_
   rintro _ _ _ ⟨rfl, rfl⟩ _
   refine znl ?_
   refine zG <| Qm rfl <| Qm rfl <| Qc rfl <| Qf fh rfl <| Q0 2 rfl rfl rfl <| Qm rfl <| Qb ?_
   refine zbs fun b12 => ?_
   refine JL.e (e_append (i := 4) (n' := (FF ++ [(M.Fct.mk 2 (M.nth path k) 0)]).length) (vs' := fltV vcFact (FF ++ [(M.Fct.mk 2 (M.nth path k) 0)])) el_43 rfl rfl rfl rfl (src_row (i := 0) und_43 rfl rfl) (by omega) (by omega) ln2_ (by first | rfl | exact fltV_app _ _ _ | exact fltV_snoc _ _ _ | (simp [fltV]; done))) ?_
   rintro v14 _ _ ⟨⟨g15, rfl⟩, rfl⟩ _
   refine JL.fact (row_form' (i := 4) rfl) (fun hf16 => ?_)
   obtain ⟨A16, c16, rfl, bl16, bh16⟩ := hf16
   refine znl ?_
   refine Qc rfl <| Qf fh rfl <| zw 3 rfl rfl rfl ?_
   refine zG <| Qm rfl <| Qc rfl <| Qf fh rfl <| Q0 3 rfl rfl rfl <| Qm rfl ?_
   refine JL.fact (row_some (i := 4) rfl len_) (fun hf18 => ?_)
   obtain ⟨b18, rfl⟩ := hf18
   have hy17 : (FF ++ [(M.Fct.mk 2 (M.nth path k) 0)])[nF]? = some (M.fct (FF ++ [(M.Fct.mk 2 (M.nth path k) 0)]) nF) := M.fct_get len_
   have hy19 : (FF ++ [(M.Fct.mk 2 (M.nth path k) 0)])[nF]? = some (M.fct (FF ++ [(M.Fct.mk 2 (M.nth path k) 0)]) nF) := M.fct_get len_
   refine Qq (p_indexAddr el_43 rfl rfl len_ len_ rfl) <| Qf fh rfl <| Qw (q_load1 ty_2.h rfl (fun w hw => (Mem.rowR' (i := 4) rfl (fltV_at (C := vcFact) (fun _ => rfl) hy17) w hw) 2 _ rfl)) <| Qp rfl rfl <| Qq (p_indexAddr el_43 rfl rfl len_ len_ rfl) <| Qf fh rfl ?_
   refine JL.s (e_storeRow (i := 4) (xs' := fltV vcFact ((FF ++ [(M.Fct.mk 2 (M.nth path k) 0)]).set nF (M.Fct.mk ((M.fct (FF ++ [(M.Fct.mk 2 (M.nth path k) 0)]) nF).kind) ((M.fct (FF ++ [(M.Fct.mk 2 (M.nth path k) 0)]) nF).place) (((M.fct (FF ++ [(M.Fct.mk 2 (M.nth path k) 0)]) nF).count) + 1)))) ty_2.h rfl rfl rfl rfl rfl rfl (fltV_lt (C := vcFact) (j := 2) (fun _ => rfl) len_ (by decide)) (fltV_cell (C := vcFact) (j := 2) (y' := (M.Fct.mk ((M.fct (FF ++ [(M.Fct.mk 2 (M.nth path k) 0)]) nF).kind) ((M.fct (FF ++ [(M.Fct.mk 2 (M.nth path k) 0)]) nF).place) (((M.fct (FF ++ [(M.Fct.mk 2 (M.nth path k) 0)]) nF).count) + 1))) (fun _ => rfl) hy19 (by decide) rfl)) ?_
   rintro _ _ _ ⟨rfl, rfl⟩ _
   refine znl ?_
   refine JL.nil <| Js.blockEnd <| Js.region <| Qp rfl rfl <| Qm rfl <| JL.nil ?_
   refine zf [1, 1, 1, 1] fun GG20 => ?_
   refine zn ?_
   exact zag ⟨k + 1, _, (FF ++ [(M.Fct.mk 2 (M.nth path k) 0)]).set nF (M.Fct.mk ((M.fct (FF ++ [(M.Fct.mk 2 (M.nth path k) 0)]) nF).kind) ((M.fct (FF ++ [(M.Fct.mk 2 (M.nth path k) 0)]) nF).place) (((M.fct (FF ++ [(M.Fct.mk 2 (M.nth path k) 0)]) nF).count) + 1)), (M.addF cur (M.nth path k)), M.mput g (M.nth path k) (nF : Int), _, _, _, _, rfl, rfl, by first | exact hF2 | (rw [hf1]; exact hF2), by exact hM2, by exact hC.add (by omega), by rw [M.take_nth hkl, M.addFs_snoc, ← hA], zt, by first | (simp only [List.length_set, List.length_append, List.length_cons, List.length_nil]; omega) | omega, by first | exact hn | (rw [List.length_set]; exact hn) | (rw [List.length_set]; done) | (simp; done) | (simp; omega), zu, zu, rfl⟩ x8
  have hm1 : M.mhas g (M.nth path k) = true := by simpa using h11
  obtain ⟨hi0, hi1, hc9, hF2, hM2⟩ := M.tel_hit hF hM hC hm1
  have hi2 : M.mval g (M.nth path k) < (nF : Int) := by omega
  refine Js.skip <| Js.region <| Qm rfl <| Qc rfl <| Qf fh rfl <| Q0 2 rfl rfl rfl <| Qm rfl ?_
  refine JL.fact (row_some (i := 3) rfl len_) (fun hf22 => ?_)
  obtain ⟨b22, rfl⟩ := hf22
  have hy21 : FF[(M.mval g (M.nth path k)).toNat]? = some (M.fct FF ((M.mval g (M.nth path k)).toNat)) := M.fct_get len_
  have hy23 : FF[(M.mval g (M.nth path k)).toNat]? = some (M.fct FF ((M.mval g (M.nth path k)).toNat)) := M.fct_get len_
  refine Qq (p_indexAddr el_43 rfl rfl len_ len_ rfl) <| Qf fh rfl <| Qw (q_load1 ty_2.h rfl (fun w hw => (Mem.rowR' (i := 3) rfl (fltV_at (C := vcFact) (fun _ => rfl) hy21) w hw) 2 _ rfl)) <| Qp rfl rfl <| Qq (p_indexAddr el_43 rfl rfl len_ len_ rfl) <| Qf fh rfl ?_
  refine JL.s (e_storeRow (i := 3) (xs' := fltV vcFact (FF.set ((M.mval g (M.nth path k)).toNat) (M.Fct.mk ((M.fct FF ((M.mval g (M.nth path k)).toNat)).kind) ((M.fct FF ((M.mval g (M.nth path k)).toNat)).place) (((M.fct FF ((M.mval g (M.nth path k)).toNat)).count) + 1)))) ty_2.h rfl rfl rfl rfl rfl rfl (fltV_lt (C := vcFact) (j := 2) (fun _ => rfl) len_ (by decide)) (fltV_cell (C := vcFact) (j := 2) (y' := (M.Fct.mk ((M.fct FF ((M.mval g (M.nth path k)).toNat)).kind) ((M.fct FF ((M.mval g (M.nth path k)).toNat)).place) (((M.fct FF ((M.mval g (M.nth path k)).toNat)).count) + 1))) (fun _ => rfl) hy23 (by decide) rfl)) ?_
  rintro _ _ _ ⟨rfl, rfl⟩ _
  refine znl ?_
  refine JL.nil <| Js.blockEnd <| Js.region <| Qp rfl rfl <| Qm rfl <| JL.nil ?_
  exact zag ⟨k + 1, _, FF.set ((M.mval g (M.nth path k)).toNat) (M.Fct.mk ((M.fct FF ((M.mval g (M.nth path k)).toNat)).kind) ((M.fct FF ((M.mval g (M.nth path k)).toNat)).place) (((M.fct FF ((M.mval g (M.nth path k)).toNat)).count) + 1)), (M.addF cur (M.nth path k)), g, _, _, _, _, rfl, rfl, by first | exact hF2 | (rw [hf1]; exact hF2), by exact hM2, by exact hC.add (by omega), by rw [M.take_nth hkl, M.addFs_snoc, ← hA], zt, by first | (simp only [List.length_set, List.length_append, List.length_cons, List.length_nil]; omega) | omega, by first | exact hn | (rw [List.length_set]; exact hn) | (rw [List.length_set]; done) | (simp; done) | (simp; omega), zu, zu, rfl⟩ x8
 have hE : (t_facts ++ [M.Fct.mk 1 from_ seeds]) ++ M.addFs [] path = FF := by rw [hF, hA, List.take_of_length_le (by have := h9'; omega)]
 refine zx ?_
 refine zrbE [2, 2] hb x8 ?_
 have hN10 : ((t_facts ++ [M.Fct.mk 1 from_ seeds]) ++ M.addFs [] path).length = nF := by first | (rw [hE]; exact hn) | (rw [hE]; done)
 have hE10 : ((t_facts ++ [M.Fct.mk 1 from_ seeds]) ++ M.addFs [] path) = FF := by first | exact hE | (rw [hE]; done)
 refine ⟨A8_0_9, c8_0_9, g8_0_9, rfl, ?_, ?_, ?_⟩
 · first | rfl | (dsimp only; rw [hN10, hE10]; done) | (dsimp only; rw [hN10, hE10]; rfl) | (dsimp only; simp only [hN10, hE10]) | (rw [hN10, hE10]; done) | (rw [hN10, hE10]; rfl)
 all_goals (try dsimp only)
 all_goals (first | (rw [hN10, hE10]; omega) | omega | (simp only [*]; omega) | (simp; done))
theorem c_impl_Rules_factsOf (r : M.Rul) {v_r : Value} (p : M.Pos) {v_p : Value} (move : Int) {w : World} (h_r : (Ty.agg (cRules r)).ok w v_r) (h_p : (Ty.agg (cPosition p)).ok w v_p) (r0 : p.pits.length ≤ 4194304 := by exact om_) (r1 : p.stores.length ≤ 4194304 := by exact om_) : Ret Tryz.prog 40 [v_r, v_p, .int .i64 move] w (Ty.tup [Ty.sl 37 3 ((M.factsR r p move).1).length (lFact ((M.factsR r p move).1)), Ty.int ((M.factsR r p move).2)]) := by
 revert v_r; apply opn
 revert v_p; apply opn
 intro A1 c1 h1 bl1 bh1 A2 c2 h2 bl2 bh2
 refine enter @Tryz.func40 @Tryz.ntmps40 rfl rfl ?_
 refine zent ?_
 refine zS <| zb rfl fun b3 => zb rfl fun b4 => Qa rfl <| Qa rfl <| zN <| Q9 1 rfl rfl ?_
 refine Q9 0 rfl rfl ?_
 refine Qm rfl <| zp rfl (fun w hw => c_impl_Rules_resultOf r p move (ok_ hw) (ok_ hw)) ?_
 intro u5 x5 A6 c6 h6 bl6 bh6 A7 c7 h7 bl7 bh7
 refine Qm rfl <| Qx rfl rfl <| Qx rfl rfl <| za zeh fun b8 => zw 0 rfl rfl rfl ?_
 refine Qa rfl <| zJ <| zS <| Qm rfl <| Qd rfl rfl <| JL.nil ?_
 refine zi (fun h9 h9' => ?_) fun h9 h9' => ?_
 ·
  have hE := M.factsR_n (r := r) (p := p) (move := move) (by simpa using h9)
  have hq0 : [] = (M.factsR r p move).1 := by first | (rw [hE, hE2]; rfl) | (rw [hE]; done) | (rw [hE]; rfl)
  have hq1 : ((M.make r p move).2) = (M.factsR r p move).2 := by first | (rw [hE, hE2]; rfl) | (rw [hE]; done) | (rw [hE]; rfl)
  refine zS <| Qm rfl <| Qa rfl <| Qa rfl <| JL.nil ?_
  exact zro x5
 have hm0 : (M.make r p move).2 = 0 := by simpa using h9
 have hz := M.make_sow0 hm0
 obtain ⟨hok, m0, m1, hGs, q0, q1, hsum⟩ := M.sowMove_ok hz
 obtain ⟨g1, g2, g3, g4, g5, g6, g7⟩ := M.okP_bd hok
 have hq := M.mul_bd g7 g1 g2
 have hG0 := M.Good.of_ok hok
 have hT := M.mvT_true hz
 have hc0 : M.sowCode r p move = 0 := by by_cases e : M.sowCode r p move = 0; exact e; (rw [M.sowMove_code e] at hz; exact absurd hz e)
 obtain ⟨_, _, _, hg0⟩ := M.sowCode_ok hc0
 have hE := M.factsR_y hm0
 refine Js.skip <| Js.seq ?_
 refine zk [2, 3, 4, 8] (fun F U l os u => ∃ (b10 b11 : Nat) (A12 : Option Addr) (c12 : Nat) (A13 : Option Addr) (c13 : Nat) (A14 : Option Addr) (c14 : Nat), l = F [(10, .pointer (some ⟨b10, 0, none⟩)), (11, .pointer (some ⟨b11, 0, none⟩))] ∧ os = [boxO b11 [.int .i64 r.pits, .int .i64 r.seeds, .bool r.stores, .bool r.skip, .bool r.relay, .bool r.feed, .bool r.again, .int .i64 r.capture, .int .i64 r.slam, .int .i64 p.player, .slice A12 p.pits.length c12, .slice A13 p.stores.length c13, .int .i64 0, .int .i64 0, .slice A14 (([] : List Int).length) c14] 77, rowO 2 1 (.slice A14 (([] : List Int).length) c14) (([] : List Int).length) (ints_ []) [], rowO 2 1 (.slice A13 p.stores.length c13) p.stores.length (ints_ p.stores) [], rowO 2 1 (.slice A12 p.pits.length c12) p.pits.length (ints_ p.pits) [], boxO b10 [.int .i64 r.pits, .int .i64 r.seeds, .bool r.stores, .bool r.skip, .bool r.relay, .bool r.feed, .bool r.again, .int .i64 r.capture, .int .i64 r.slam, .slice none 0 0] 125] ++ U [] ∧ (p.pits.length ≤ c12) ∧ (c12 ≤ 9223372036854775807) ∧ (p.stores.length ≤ c13) ∧ (c13 ≤ 9223372036854775807) ∧ (([] : List Int).length ≤ c14) ∧ (c14 ≤ 9223372036854775807)) ?_ ?_
 ·
  refine zdr [] ?_
  refine JH.q 0 rfl (L9 2 rfl rfl) ?_
  refine JH.p 1 rfl (q_bld) ?_
  refine JH.q 3 rfl (L9 2 rfl rfl) ?_
  refine JH.q 4 rfl (L9 1 rfl rfl) ?_
  refine y2 2 5 ?_ ?_
  ·
   refine yb rfl rfl fun b21 => ?_
   refine y1 5 ?_
   refine ycs rfl rfl (fun w hw => c_impl_newSowing r p (ok_ hw) (ok_ hw)) ?_
   intro b22 A23 c23 bl23 bh23 A24 c24 bl24 bh24 A25 c25 bl25 bh25
   refine jA 6 rfl rfl ?_
   refine jA 7 rfl rfl ?_
   refine yd ?_
   exact zm ⟨_, _, _, _, _, _, _, _, rfl, rfl, zt, zt, zt, zt, zt, zt⟩ (Up.refl _ _)
  refine ycs rfl rfl (fun w hw => c_impl_newSowing r p (ok_ hw) (ok_ hw)) ?_
  intro b26 A27 c27 bl27 bh27 A28 c28 bl28 bh28 A29 c29 bl29 bh29
  refine y1 2 ?_
  refine yb rfl rfl fun b30 => ?_
  refine jA 6 rfl rfl ?_
  refine jA 7 rfl rfl ?_
  refine yd ?_
  refine zh [1, 1, 1, 1, 0, 0, 0, 0] ?_
  exact zm ⟨_, _, _, _, _, _, _, _, rfl, rfl, zt, zt, zt, zt, zt, zt⟩ (Up.refl _ _)
 rintro _ _ u20 ⟨b10, b11, A12, c12, A13, c13, A14, c14, rfl, rfl, f20_0, f20_1, f20_2, f20_3, f20_4, f20_5⟩ x20
 refine zn ?_
 refine zS <| Q9 7 rfl rfl ?_
 refine Qf fh rfl <| Q0 6 rfl rfl rfl <| Qm rfl <| zv rfl (fun w hw => c_impl_Rules_pitOf r p.player move (ok_ hw)) <| Qa rfl <| zJ <| zS <| Qa rfl <| JL.nil <| Js.block ?_
 refine Js.conv (fun w hw => St.nilRowS 37 3 hw) ?_
 refine zl [3, 4, 8, 10, 11] (fun F U l os u m => ∃ (mo : Bool) (frm : Int) (sw : M.Sw) (path : List Int) (out : List M.Fct) (A31_10_9 : Option Addr) (c31_10_9 : Nat) (g31_10_9 : List Nat) (A31_11_10 : Option Addr) (c31_11_10 : Nat) (g31_11_10 : List Nat) (A31_11_11 : Option Addr) (c31_11_11 : Nat) (g31_11_11 : List Nat) (A31_11_14 : Option Addr) (c31_11_14 : Nat) (g31_11_14 : List Nat), l = F [(12, .int .i64 frm), (13, .bool mo)] ∧ os = U [some (rowO 37 3 (.slice A31_10_9 out.length c31_10_9) out.length (fltV vcFact out) g31_10_9), some (boxO b11 [.int .i64 r.pits, .int .i64 r.seeds, .bool r.stores, .bool r.skip, .bool r.relay, .bool r.feed, .bool r.again, .int .i64 r.capture, .int .i64 r.slam, .int .i64 p.player, .slice A31_11_10 sw.pits.length c31_11_10, .slice A31_11_11 sw.stores.length c31_11_11, .int .i64 sw.last, .int .i64 sw.laps, .slice A31_11_14 path.length c31_11_14] 77), some (rowO 2 1 (.slice A31_11_14 path.length c31_11_14) path.length (ints_ path) g31_11_14), some (rowO 2 1 (.slice A31_11_11 sw.stores.length c31_11_11) sw.stores.length (ints_ sw.stores) g31_11_11), some (rowO 2 1 (.slice A31_11_10 sw.pits.length c31_11_10) sw.pits.length (ints_ sw.pits) g31_11_10), some (boxO b10 [.int .i64 r.pits, .int .i64 r.seeds, .bool r.stores, .bool r.skip, .bool r.relay, .bool r.feed, .bool r.again, .int .i64 r.capture, .int .i64 r.slam, .slice A31_10_9 out.length c31_10_9] 125)] ∧ (M.RunI r p (p.player * r.pits + move) frm sw path mo) ∧ (M.FacI r p (p.player * r.pits + move) frm sw path out) ∧ (out.length ≤ c31_10_9) ∧ (c31_10_9 ≤ 9223372036854775807) ∧ (sw.pits.length ≤ c31_11_10) ∧ (c31_11_10 ≤ 9223372036854775807) ∧ (sw.stores.length ≤ c31_11_11) ∧ (c31_11_11 ≤ 9223372036854775807) ∧ (path.length ≤ c31_11_14) ∧ (c31_11_14 ≤ 9223372036854775807) ∧ m = (101 - sw.laps).toNat) ⟨true, p.player * r.pits + move, (M.Sw.mk p.pits p.stores 0 0), [], [], _, _, _, _, _, _, _, _, _, _, _, _, rfl, rfl, by exact M.RunI.zero (by omega) (by omega) hg0 hG0, by exact M.FacI.zero _ _ _, zu, zu, zu, zu, zu, zu, zu, zu, rfl⟩ ?_
 rintro _ _ u31 _ ⟨mo, frm, sw, path, out, A31_10_9, c31_10_9, g31_10_9, A31_11_10, c31_11_10, g31_11_10, A31_11_11, c31_11_11, g31_11_11, A31_11_14, c31_11_14, g31_11_14, rfl, rfl, hR, hF, f31_2, f31_3, f31_4, f31_5, f31_6, f31_7, f31_8, f31_9, rfl⟩ x31
 refine zn ?_
 have l3 := hR.g.lp
 have l4 := hR.g.ls
 obtain ⟨la0, la1⟩ := hR.l0
 have hpl := hR.pl
 have hol := hF.len
 have hpx := hR.g.pit frm
 refine Js.seq <| zS <| Qm rfl <| JL.nil ?_
 refine Js.fact (row_some (i := 4) rfl (by omega)) (fun hf32 => ?_)
 obtain ⟨b32, rfl⟩ := hf32
 refine zi (fun h33 h33' => ?_) fun h33 h33' => ?_
 ·
  have hmo : mo = true := h33
  have hRt : M.RunI r p (p.player * r.pits + move) frm sw path true := by rw [← hmo]; exact hR
  obtain ⟨w1, w2, w3, w4, w5⟩ := hRt.go rfl
  have hR2 := hRt.lap g2 g1 g7 hT
  have hF2 := hF.lap' w4
  obtain ⟨ha9, hb9, hc9, hd9, he9, hf9⟩ := M.lap_keeps r path g2 g1 g7 w2 w3 hR.g
  have hle9 := M.lap_ge r p.player frm sw path w4
  refine Js.skip <| Js.seq <| Js.block <| Js.seq ?_
  refine zdr [] ?_
  refine jM 0 rfl rfl ?_
  refine jN 1 rfl rfl ?_
  refine jF 2 fld_77_2 rfl rfl ?_
  refine jF 3 fld_75_0 rfl rfl ?_
  refine jB 4 1 ty_26 rfl rfl rfl rfl ?_
  refine jM 5 rfl rfl ?_
  refine jI 6 el_26 rfl rfl rfl rfl ?_
  refine JH.q 7 rfl (q_load1 ty_2.h rfl (Mem.row (i := 4) rfl (ints_getI (i := frm) (by omega)))) ?_
  refine jM 8 rfl rfl ?_
  refine jN 9 rfl rfl ?_
  refine jF 10 fld_77_3 rfl rfl ?_
  refine jB 11 1 ty_26 rfl rfl rfl rfl ?_
  refine JH.p 12 rfl (p_len el_26 rfl) ?_
  refine jA 13 rfl rfl ?_
  refine jA 14 rfl rfl ?_
  refine yd ?_
  refine zS <| Qm rfl <| Qm rfl ?_
  refine zhl [1, 3, 2, 1] ?_
  refine zB 4 sp_ rfl (fun w hb hw => c_impl_sowing_lap r p.player sw path frm hb (r5 := hR.g)) ?_
  rintro _ _ G35 ⟨A35s_10, c35s_10, g35s_10, A35s_11, c35s_11, g35s_11, A35s_14, c35s_14, g35s_14, rfl, rfl, bl35_0, bl35_1, bl35_2, bl35_3, bl35_4, bl35_5⟩
  refine znl ?_
  have hl36 : ((((M.lap r p.player frm sw path).2).drop path.length).take (((M.lap r p.player frm sw path).2).length - path.length)).length = ((M.lap r p.player frm sw path).2).length - path.length := by rw [List.length_take, List.length_drop]; omega
  refine Qa rfl <| zG <| Qm rfl <| Qm rfl <| Qm rfl <| Qm rfl <| Qc rfl <| Qf fh rfl <| Q0 0 rfl rfl rfl <| Qm rfl <| Qq (p_slice (lo' := path.length) (hi' := ((M.lap r p.player frm sw path).2).length) (mx' := c35s_14) el_26 rfl rfl ⟨rfl, rfl⟩ ⟨_, rfl, by omega⟩) ?_
  refine zhl [6, 5] ?_
  refine zB 2 sp_ rfl (fun w hb hw => c_impl_teller_lap r out frm (M.getI sw.pits frm) ((((M.lap r p.player frm sw path).2).drop path.length).take (((M.lap r p.player frm sw path).2).length - path.length)) hb (ints_cut (a := path.length) (b := ((M.lap r p.player frm sw path).2).length) (m := c35s_14) (ints_rowok (xs := ((M.lap r p.player frm sw path).2)) (hw.pr (i := 3) rfl)) (by omega) (by omega) (by omega) (by omega))) ?_
  rintro _ _ G37 ⟨A37t_9, c37t_9, g37t_9, rfl, rfl, bl37_0, bl37_1⟩
  refine znl ?_
  refine JL.nil <| Js.blockEnd <| Js.region <| Qm rfl <| Qc rfl <| Qf fh rfl <| Qf fh rfl <| Q0 3 rfl rfl rfl <| Qa rfl <| JL.nil ?_
  refine zd [1, 2, 4, 3, 2, 0, 2, 2, 2] rfl fun u38 x38 => ?_
  exact zag ⟨M.more r (M.lap r p.player frm sw path).1, ((M.lap r p.player frm sw path).1).last, (M.lap r p.player frm sw path).1, (M.lap r p.player frm sw path).2, ((out ++ [M.Fct.mk 1 frm (M.getI sw.pits frm)]) ++ M.addFs [] ((((M.lap r p.player frm sw path).2).drop path.length).take (((M.lap r p.player frm sw path).2).length - path.length))), _, _, _, _, _, _, _, _, _, _, _, _, rfl, rfl, by exact hR2, by exact hF2, zu, zu, zu, zu, zu, zu, zu, zu, rfl⟩ (x31.trans x38) (by omega)
 have hmo : mo = false := by simpa using h33
 have hRf : M.RunI r p (p.player * r.pits + move) frm sw path false := by rw [← hmo]; exact hR
 obtain ⟨e1, e2⟩ := hRf.mv hz
 have hG := hR.g
 rw [e1] at q0 q1
 have hlo := hF.out e2.symm
 have hcl := M.captured_len (s := sw) (player := p.player) q1 g2
 have htl := M.taken_len (s := sw) (player := p.player) q1 g2
 refine zx ?_
 refine Js.seq ?_
 refine zdr [] ?_
 refine JH.q 0 rfl (L9 8 rfl rfl) ?_
 refine jM 1 rfl rfl ?_
 refine jN 2 rfl rfl ?_
 refine jF 3 fld_77_2 rfl rfl ?_
 refine JH.q 4 rfl (L9 1 rfl rfl) ?_
 refine jF 5 fld_28_2 rfl rfl ?_
 refine jB 6 7 ty_2 rfl rfl rfl rfl ?_
 refine y1 7 ?_
 refine yp rfl rfl (fun w hw => c_impl_Rules_captured r sw p.player (ok_ hw) (ok_ hw) (r3 := hG)) ?_
 intro u39 x39 A40 c40 h40 bl40 bh40
 refine jA 8 rfl rfl ?_
 refine yd ?_
 refine Js.seq <| zS <| Qm rfl <| Qz rfl <| Qm rfl <| JL.nil <| Js.block ?_
 refine zl [3, 4, 8, 10, 11, 16, 85, 86] (fun F U l os u m => ∃ (k : Nat) (o2 : List M.Fct) (A41_10_9 : Option Addr) (c41_10_9 : Nat) (g41_10_9 : List Nat), l = F [(87, .int .i64 (k : Int))] ∧ os = U [some (rowO 37 3 (.slice A41_10_9 o2.length c41_10_9) o2.length (fltV vcFact o2) g41_10_9), nO, nO, nO, nO, some (boxO b10 [.int .i64 r.pits, .int .i64 r.seeds, .bool r.stores, .bool r.skip, .bool r.relay, .bool r.feed, .bool r.again, .int .i64 r.capture, .int .i64 r.slam, .slice A41_10_9 o2.length c41_10_9] 125)] ∧ (o2 = out ++ ((M.captured r sw p.player).take k).map (fun x => M.Fct.mk 3 x (M.getI sw.pits x))) ∧ (k ≤ (M.captured r sw p.player).length) ∧ (o2.length ≤ 20000 + k) ∧ (o2.length ≤ c41_10_9) ∧ (c41_10_9 ≤ 9223372036854775807) ∧ m = (M.captured r sw p.player).length - k) ⟨0, out, _, _, _, rfl, rfl, by simp, zt, by omega, zu, zu, rfl⟩ ?_
 rintro _ _ u41 _ ⟨k, o2, A41_10_9, c41_10_9, g41_10_9, rfl, rfl, hO, hk, hol2, f41_3, f41_4, rfl⟩ x41
 refine zn ?_
 refine zS <| Ql rfl rfl <| zJ ?_
 refine zi (fun h42 h42' => ?_) fun h42 h42' => ?_
 ·
  have hk2 : k < (M.captured r sw p.player).length := by have := h42'; omega
  have hx := M.captured_mem q1 (M.nth_mem hk2)
  have hO2 := M.cap_step hO (M.nth_sm hk2)
  obtain ⟨b43, o43, he43, hc43⟩ := ints_elem (Ty.mono _ h40 x41.vis) (i := k) (by omega)
  refine Js.skip <| Js.seq <| Js.block <| zS <| Qq (p_indexAddr el_26 rfl rfl (by omega) (by omega) he43) <| QC hc43 rfl <| Qa rfl <| JL.nil ?_
  refine zdr [16, 19] ?_
  refine jM 0 rfl rfl ?_
  refine jM 1 rfl rfl ?_
  refine jN 2 rfl rfl ?_
  refine jF 3 fld_125_1 rfl rfl ?_
  refine jB 4 5 ty_43 rfl rfl rfl rfl ?_
  refine jM 5 rfl rfl ?_
  refine jM 6 rfl rfl ?_
  refine jN 7 rfl rfl ?_
  refine jF 8 fld_77_2 rfl rfl ?_
  refine jF 9 fld_75_0 rfl rfl ?_
  refine jB 10 1 ty_26 rfl rfl rfl rfl ?_
  refine jM 11 rfl rfl ?_
  refine jI 12 el_26 rfl rfl rfl rfl ?_
  refine JH.q 13 rfl (q_load1 ty_2.h rfl (Mem.row (i := 4) rfl (ints_getI (i := M.nth (M.captured r sw p.player) k) (by omega)))) ?_
  refine JH.p 14 rfl (q_bld) ?_
  refine y1 15 ?_
  refine ybs rfl fun b45 => ?_
  refine y1 16 ?_
  refine JHo.e rfl (e_append (i := 1) (n' := (o2 ++ [(M.Fct.mk 3 (M.nth (M.captured r sw p.player) k) (M.getI sw.pits (M.nth (M.captured r sw p.player) k)))]).length) (vs' := fltV vcFact (o2 ++ [(M.Fct.mk 3 (M.nth (M.captured r sw p.player) k) (M.getI sw.pits (M.nth (M.captured r sw p.player) k)))])) el_43 rfl rfl rfl rfl (src_row (i := 0) und_43 rfl rfl) (by omega) (by omega) ln2_ (by first | rfl | exact fltV_app _ _ _ | exact fltV_snoc _ _ _ | (simp [fltV]; done))) (.inr rfl) ?_
  rintro v47 _ _ ⟨⟨g48, rfl⟩, rfl⟩ _
  refine JH.fact (row_form' (i := 1) rfl) (fun hf49 => ?_)
  obtain ⟨A49, c49, rfl, bl49, bh49⟩ := hf49
  refine znh ?_
  refine jN 17 rfl rfl ?_
  refine jF 18 fld_125_1 rfl rfl ?_
  refine y1 19 ?_
  refine yst rfl rfl rfl ?_
  refine yd ?_
  refine Js.blockEnd <| Js.region <| Qp rfl rfl <| Qm rfl <| JL.nil ?_
  refine zd [1, 1, 1, 1, 1, 1, 1, 1, 1] rfl fun u50 x50 => ?_
  exact zag ⟨k + 1, o2 ++ [(M.Fct.mk 3 (M.nth (M.captured r sw p.player) k) (M.getI sw.pits (M.nth (M.captured r sw p.player) k)))], _, _, _, rfl, rfl, by exact hO2, zt, by simp only [List.length_append, List.length_cons, List.length_nil]; omega, zu, zu, rfl⟩ (x41.trans x50)
 have hO3 := M.capF_all hO (by have := h42'; omega)
 rw [hlo] at hO3
 refine zx ?_
 refine Js.seq <| Js.seq ?_
 refine zdr [] ?_
 refine JH.q 0 rfl (L9 8 rfl rfl) ?_
 refine jM 1 rfl rfl ?_
 refine jN 2 rfl rfl ?_
 refine jF 3 fld_77_2 rfl rfl ?_
 refine JH.q 4 rfl (L9 1 rfl rfl) ?_
 refine jF 5 fld_28_2 rfl rfl ?_
 refine jB 6 7 ty_2 rfl rfl rfl rfl ?_
 refine y1 7 ?_
 refine yp rfl rfl (fun w hw => c_impl_Rules_taken r sw p.player (ok_ hw) (ok_ hw) (r3 := hG)) ?_
 intro u51 x51 A52 c52 h52 bl52 bh52
 refine jA 8 rfl rfl ?_
 refine yd ?_
 refine zS <| Qm rfl <| Qz rfl <| Qe rfl rfl <| Qm rfl <| zg (Gd.t1 rfl rfl rfl) (fun hc => p_move rfl) <| zg (Gd.t1 rfl rfl rfl) (fun hc => p_len el_26 (gh hc rfl)) <| zg (Gd.t1 rfl rfl rfl) (fun hc => p_gtr (gh hc rfl) rfl) <| Qq (p_pickAnd rfl rfl rfl) <| JL.nil ?_
 refine zi (fun h53 h53' => ?_) fun h53 h53' => ?_
 ·
  have hcn : (M.captured r sw p.player) = [] ∧ (M.taken r sw p.player) ≠ [] := (by have h9 := h53; simp only [Bool.and_eq_true, decide_eq_true_eq] at h9; exact ⟨List.length_eq_zero_iff.1 (by have := h9.1; omega), fun e => by rw [e] at h9; simp at h9⟩)
  refine zS <| Qa rfl <| zJ <| zS <| Qm rfl <| Qz rfl <| Qm rfl <| JL.nil <| Js.block ?_
  refine zl [8, 10, 11, 127, 128] (fun F U l os u m => ∃ (k : Nat) (sm : Int), l = F [(20, .int .i64 sm), (129, .int .i64 (k : Int))] ∧ os = U [] ∧ (sm + M.isum (((M.taken r sw p.player).drop k).map (M.getI sw.pits)) = M.isum ((M.taken r sw p.player).map (M.getI sw.pits))) ∧ (k ≤ (M.taken r sw p.player).length) ∧ (0 ≤ sm) ∧ (sm ≤ 96 * k) ∧ m = (M.taken r sw p.player).length - k) ⟨0, 0, rfl, rfl, by simp, zt, zt, zt, rfl⟩ ?_
  rintro _ _ u54 _ ⟨k, sm, rfl, rfl, hS, hk, t0, t1, rfl⟩ x54
  refine zn ?_
  refine zS <| Ql rfl rfl <| zJ ?_
  refine zi (fun h55 h55' => ?_) fun h55 h55' => ?_
  ·
   have hk2 : k < (M.taken r sw p.player).length := by have := h55'; omega
   have hx := M.taken_mem q1 (M.nth_mem hk2)
   have hv := hG.pit (M.nth (M.taken r sw p.player) k)
   have hS2 := hS
   rw [M.drop_nth hk2, List.map_cons, M.isum_cons, ← Int.add_assoc] at hS2
   obtain ⟨b56, o56, he56, hc56⟩ := ints_elem (Ty.mono _ h52 x54.vis) (i := k) (by omega)
   refine Js.skip <| Js.seq <| Js.block <| zS <| Qq (p_indexAddr el_26 rfl rfl (by omega) (by omega) he56) <| QC hc56 rfl <| Qa rfl <| zG <| Qm rfl <| Qm rfl <| Qc rfl <| Qf fh rfl <| Qf fh rfl <| Q0 1 rfl rfl rfl ?_
   refine Qm rfl <| Qq (p_indexAddr el_26 rfl rfl (by omega) (by omega) rfl) <| Qw (q_load1 ty_2.h rfl (Mem.row (i := 4) rfl (ints_getI (i := M.nth (M.taken r sw p.player) k) (by omega)))) <| Qp rfl rfl <| Qa rfl <| JL.nil <| Js.blockEnd <| Js.region <| Qp rfl rfl <| Qm rfl <| JL.nil ?_
   exact zag ⟨k + 1, sm + (M.getI sw.pits (M.nth (M.taken r sw p.player) k)), rfl, rfl, by exact hS2, zt, zt, zt, rfl⟩ x54
  have hsm : sm = M.isum ((M.taken r sw p.player).map (M.getI sw.pits)) := by rw [← hS, List.drop_eq_nil_of_le (by have := h55'; omega)]; simp
  have hO4 := M.cap_nil hcn hsm hO3
  have hl62 : (o2 ++ [M.Fct.mk 4 sw.last sm]).length = o2.length + 1 := by simp
  refine zx ?_
  refine zdr [13, 16] ?_
  refine jM 0 rfl rfl ?_
  refine jM 1 rfl rfl ?_
  refine jN 2 rfl rfl ?_
  refine jF 3 fld_125_1 rfl rfl ?_
  refine jB 4 5 ty_43 rfl rfl rfl rfl ?_
  refine jM 5 rfl rfl ?_
  refine jN 6 rfl rfl ?_
  refine jF 7 fld_77_2 rfl rfl ?_
  refine jF 8 fld_75_2 rfl rfl ?_
  refine jB 9 1 ty_2 rfl rfl rfl rfl ?_
  refine jM 10 rfl rfl ?_
  refine JH.p 11 rfl (q_bld) ?_
  refine y1 12 ?_
  refine ybs rfl fun b58 => ?_
  refine y1 13 ?_
  refine JHo.e rfl (e_append (i := 1) (n' := (o2 ++ [(M.Fct.mk 4 sw.last sm)]).length) (vs' := fltV vcFact (o2 ++ [(M.Fct.mk 4 sw.last sm)])) el_43 rfl rfl rfl rfl (src_row (i := 0) und_43 rfl rfl) (by omega) (by omega) ln2_ (by first | rfl | exact fltV_app _ _ _ | exact fltV_snoc _ _ _ | (simp [fltV]; done))) (.inr rfl) ?_
  rintro v60 _ _ ⟨⟨g61, rfl⟩, rfl⟩ _
  refine JH.fact (row_form' (i := 1) rfl) (fun hf62 => ?_)
  obtain ⟨A62, c62, rfl, bl62, bh62⟩ := hf62
  refine znh ?_
  refine jN 14 rfl rfl ?_
  refine jF 15 fld_125_1 rfl rfl ?_
  refine y1 16 ?_
  refine yst rfl rfl rfl ?_
  refine yd ?_
  refine zS <| Qb ?_
  refine za zeh fun b63 => zw 0 rfl rfl rfl ?_
  refine zJ <| zS <| Qf fh rfl <| Q0 8 rfl rfl rfl <| JL.nil ?_
  refine zi (fun h64 h64' => ?_) fun h64 h64' => ?_
  ·
   have hE2 := M.facts_end hm0 e1 hO4 h64
   refine Js.region <| Qf fh rfl <| zw 0 rfl rfl rfl ?_
   refine zJ ?_
   refine zdr [6] ?_
   refine jM 0 rfl rfl ?_
   refine jN 1 rfl rfl ?_
   refine jF 2 fld_125_1 rfl rfl ?_
   refine jB 3 7 ty_43 rfl rfl rfl rfl ?_
   refine JH.q 4 rfl (L9 0 rfl rfl) ?_
   refine y1 5 ?_
   refine ybs rfl fun b65 => ?_
   refine y1 6 ?_
   refine JHo.e rfl (e_append (i := 3) (n' := ((o2 ++ [(M.Fct.mk 4 sw.last sm)]) ++ [(M.Fct.mk 5 0 0)]).length) (vs' := fltV vcFact ((o2 ++ [(M.Fct.mk 4 sw.last sm)]) ++ [(M.Fct.mk 5 0 0)])) el_43 rfl rfl rfl rfl (src_row (i := 0) und_43 rfl rfl) (by omega) (by omega) ln2_ (by first | rfl | exact fltV_app _ _ _ | exact fltV_snoc _ _ _ | (simp [fltV]; done))) (.inr rfl) ?_
   rintro v67 _ _ ⟨⟨g68, rfl⟩, rfl⟩ _
   refine JH.fact (row_form' (i := 3) rfl) (fun hf69 => ?_)
   obtain ⟨A69, c69, rfl, bl69, bh69⟩ := hf69
   refine znh ?_
   refine jA 7 rfl rfl ?_
   refine jA 8 rfl rfl ?_
   refine yd ?_
   have hq0 : ((o2 ++ [(M.Fct.mk 4 sw.last sm)]) ++ [(M.Fct.mk 5 0 0)]) = (M.factsR r p move).1 := by first | (rw [hE, hE2]; rfl) | (rw [hE]; done) | (rw [hE]; rfl)
   have hq1 : 0 = (M.factsR r p move).2 := by first | (rw [hE, hE2]; rfl) | (rw [hE]; done) | (rw [hE]; rfl)
   exact zro ((((((x5.trans x20).trans x31).trans x39).trans x41).trans x51).trans x54) (g := by exact (gv_tup (gvc (gv_flat lFact (xs := ((o2 ++ [(M.Fct.mk 4 sw.last sm)]) ++ [(M.Fct.mk 5 0 0)])) po_ (by first | rfl | (simp [fltV]; done)) (by first | with_reducible rfl | assumption | rfl)) (gvc gv_ gvn))))
  have hE2 := M.facts_end hm0 e1 hO4 h64
  refine Js.skip <| Js.seq ?_
  refine zdr [6] ?_
  refine jM 0 rfl rfl ?_
  refine jN 1 rfl rfl ?_
  refine jF 2 fld_125_1 rfl rfl ?_
  refine jB 3 7 ty_43 rfl rfl rfl rfl ?_
  refine JH.q 4 rfl (L9 0 rfl rfl) ?_
  refine y1 5 ?_
  refine ybs rfl fun b70 => ?_
  refine y1 6 ?_
  refine JHo.e rfl (e_append (i := 3) (n' := ((o2 ++ [(M.Fct.mk 4 sw.last sm)]) ++ [(M.Fct.mk 6 0 0)]).length) (vs' := fltV vcFact ((o2 ++ [(M.Fct.mk 4 sw.last sm)]) ++ [(M.Fct.mk 6 0 0)])) el_43 rfl rfl rfl rfl (src_row (i := 0) und_43 rfl rfl) (by omega) (by omega) ln2_ (by first | rfl | exact fltV_app _ _ _ | exact fltV_snoc _ _ _ | (simp [fltV]; done))) (.inr rfl) ?_
  rintro v72 _ _ ⟨⟨g73, rfl⟩, rfl⟩ _
  refine JH.fact (row_form' (i := 3) rfl) (fun hf74 => ?_)
  obtain ⟨A74, c74, rfl, bl74, bh74⟩ := hf74
  refine znh ?_
  refine jA 7 rfl rfl ?_
  refine jA 8 rfl rfl ?_
  refine yd ?_
  have hq0 : ((o2 ++ [(M.Fct.mk 4 sw.last sm)]) ++ [(M.Fct.mk 6 0 0)]) = (M.factsR r p move).1 := by first | (rw [hE, hE2]; rfl) | (rw [hE]; done) | (rw [hE]; rfl)
  have hq1 : 0 = (M.factsR r p move).2 := by first | (rw [hE, hE2]; rfl) | (rw [hE]; done) | (rw [hE]; rfl)
  exact zro ((((((x5.trans x20).trans x31).trans x39).trans x41).trans x51).trans x54) (g := by exact (gv_tup (gvc (gv_flat lFact (xs := ((o2 ++ [(M.Fct.mk 4 sw.last sm)]) ++ [(M.Fct.mk 6 0 0)])) po_ (by first | rfl | (simp [fltV]; done)) (by first | with_reducible rfl | assumption | rfl)) (gvc gv_ gvn))))
 have hcn : ¬ ((M.captured r sw p.player) = [] ∧ (M.taken r sw p.player) ≠ []) := (by have h9 := h53; rintro ⟨e1, e2⟩; have h8 := Bool.eq_false_iff.1 h9; apply h8; simp only [Bool.and_eq_true, decide_eq_true_eq]; refine ⟨by rw [e1]; rfl, ?_⟩; have := List.length_pos_iff.2 e2; omega)
 have hO4 := M.cap_non hcn hO3
 refine Js.skip <| zS <| Qb ?_
 refine za zeh fun b75 => zw 0 rfl rfl rfl ?_
 refine zJ <| zS <| Qf fh rfl <| Q0 7 rfl rfl rfl <| JL.nil ?_
 refine zi (fun h76 h76' => ?_) fun h76 h76' => ?_
 ·
  have hE2 := M.facts_end hm0 e1 hO4 h76
  refine Js.region <| Qf fh rfl <| zw 0 rfl rfl rfl ?_
  refine zJ ?_
  refine zdr [6] ?_
  refine jM 0 rfl rfl ?_
  refine jN 1 rfl rfl ?_
  refine jF 2 fld_125_1 rfl rfl ?_
  refine jB 3 6 ty_43 rfl rfl rfl rfl ?_
  refine JH.q 4 rfl (L9 0 rfl rfl) ?_
  refine y1 5 ?_
  refine ybs rfl fun b77 => ?_
  refine y1 6 ?_
  refine JHo.e rfl (e_append (i := 2) (n' := (o2 ++ [(M.Fct.mk 5 0 0)]).length) (vs' := fltV vcFact (o2 ++ [(M.Fct.mk 5 0 0)])) el_43 rfl rfl rfl rfl (src_row (i := 0) und_43 rfl rfl) (by omega) (by omega) ln2_ (by first | rfl | exact fltV_app _ _ _ | exact fltV_snoc _ _ _ | (simp [fltV]; done))) (.inr rfl) ?_
  rintro v79 _ _ ⟨⟨g80, rfl⟩, rfl⟩ _
  refine JH.fact (row_form' (i := 2) rfl) (fun hf81 => ?_)
  obtain ⟨A81, c81, rfl, bl81, bh81⟩ := hf81
  refine znh ?_
  refine jA 7 rfl rfl ?_
  refine jA 8 rfl rfl ?_
  refine yd ?_
  have hq0 : (o2 ++ [(M.Fct.mk 5 0 0)]) = (M.factsR r p move).1 := by first | (rw [hE, hE2]; rfl) | (rw [hE]; done) | (rw [hE]; rfl)
  have hq1 : 0 = (M.factsR r p move).2 := by first | (rw [hE, hE2]; rfl) | (rw [hE]; done) | (rw [hE]; rfl)
  exact zro (((((x5.trans x20).trans x31).trans x39).trans x41).trans x51) (g := by exact (gv_tup (gvc (gv_flat lFact (xs := (o2 ++ [(M.Fct.mk 5 0 0)])) po_ (by first | rfl | (simp [fltV]; done)) (by first | with_reducible rfl | assumption | rfl)) (gvc gv_ gvn))))
 have hE2 := M.facts_end hm0 e1 hO4 h76
 refine Js.skip <| Js.seq ?_
 refine zdr [6] ?_
 refine jM 0 rfl rfl ?_
 refine jN 1 rfl rfl ?_
 refine jF 2 fld_125_1 rfl rfl ?_
 refine jB 3 6 ty_43 rfl rfl rfl rfl ?_
 refine JH.q 4 rfl (L9 0 rfl rfl) ?_
 refine y1 5 ?_
 refine ybs rfl fun b82 => ?_
 refine y1 6 ?_
 refine JHo.e rfl (e_append (i := 2) (n' := (o2 ++ [(M.Fct.mk 6 0 0)]).length) (vs' := fltV vcFact (o2 ++ [(M.Fct.mk 6 0 0)])) el_43 rfl rfl rfl rfl (src_row (i := 0) und_43 rfl rfl) (by omega) (by omega) ln2_ (by first | rfl | exact fltV_app _ _ _ | exact fltV_snoc _ _ _ | (simp [fltV]; done))) (.inr rfl) ?_
 rintro v84 _ _ ⟨⟨g85, rfl⟩, rfl⟩ _
 refine JH.fact (row_form' (i := 2) rfl) (fun hf86 => ?_)
 obtain ⟨A86, c86, rfl, bl86, bh86⟩ := hf86
 refine znh ?_
 refine jA 7 rfl rfl ?_
 refine jA 8 rfl rfl ?_
 refine yd ?_
 have hq0 : (o2 ++ [(M.Fct.mk 6 0 0)]) = (M.factsR r p move).1 := by first | (rw [hE, hE2]; rfl) | (rw [hE]; done) | (rw [hE]; rfl)
 have hq1 : 0 = (M.factsR r p move).2 := by first | (rw [hE, hE2]; rfl) | (rw [hE]; done) | (rw [hE]; rfl)
 exact zro (((((x5.trans x20).trans x31).trans x39).trans x41).trans x51) (g := by exact (gv_tup (gvc (gv_flat lFact (xs := (o2 ++ [(M.Fct.mk 6 0 0)])) po_ (by first | rfl | (simp [fltV]; done)) (by first | with_reducible rfl | assumption | rfl)) (gvc gv_ gvn))))
theorem c_impl_Decimal (n : Int) {w : World} (h_tab : tabT.ok w undef) (r0 : -9223372036854775808 ≤ n := by exact om_) (r1 : n ≤ 9223372036854775807 := by exact om_) : RetV Tryz.prog 50 [.int .i64 n] w (.string (sB (M.dec n))) := by
 refine enter @Tryz.func50 @Tryz.ntmps50 rfl rfl ?_
 refine zent ?_
 refine zS <| Qa rfl <| zN <| Qm rfl <| zv rfl (fun w hw => c_strconv_FormatInt n 10 (ok_ hw)) <| Qa rfl <| JL.nil ?_
 exact zr (Up.refl _ _)
theorem c_impl_Fact_canWrite (f : M.Fct) {v_f : Value} {w : World} (h_f : (Ty.agg (cFact f)).ok w v_f) : RetV Tryz.prog 49 [v_f] w (.bool (M.canW f)) := by
 revert v_f; apply opn
 refine enter @Tryz.func49 @Tryz.ntmps49 rfl rfl ?_
 refine zent ?_
 refine zS <| zb rfl fun b1 => Qa rfl <| zJ <| zS <| Qf fh rfl <| Q0 0 rfl rfl rfl <| JL.nil <| Js.block <| Js.seq <| zS <| Qe rfl rfl <| Qa rfl <| JL.nil ?_
 refine zi (fun h2 h2' => ?_) fun h2 h2' => ?_
 ·
  refine Js.skip ?_
  refine Js.condT rfl h2 ?_
  refine zS <| Qf fh rfl <| Q0 0 rfl rfl rfl <| Qe rfl rfl <| Qm rfl <| zg (Gd.t1 rfl rfl rfl) (fun hc => p_fieldAddr fld_37_2.h rfl) <| zgq (Gd.t1 rfl rfl rfl) (fun hc => q_load1 ty_2.h (gh hc rfl) (Mem.box (i := 0) rfl rfl)) <| zg (Gd.t1 rfl rfl rfl) (fun hc => p_eql (gh hc rfl) rfl) <| Qq (p_pickAnd rfl rfl rfl) <| Qa rfl <| JL.nil ?_
  refine zR (Up.refl _ _) ?_
  first | (simp [outV, M.canW, *]; done) | (simp [outV, M.canW, *]; intros; exfalso; omega) | (simp [outV, M.canW, *]; omega)
 refine Js.region <| Qe rfl rfl <| Qa rfl <| JL.nil ?_
 refine zi (fun h3 h3' => ?_) fun h3 h3' => ?_
 ·
  refine zS <| Qf fh rfl <| Q0 0 rfl rfl rfl <| Qe rfl rfl <| Qm rfl <| zg (Gd.t1 rfl rfl rfl) (fun hc => p_fieldAddr fld_37_2.h rfl) <| zgq (Gd.t1 rfl rfl rfl) (fun hc => q_load1 ty_2.h (gh hc rfl) (Mem.box (i := 0) rfl rfl)) <| zg (Gd.t1 rfl rfl rfl) (fun hc => p_eql (gh hc rfl) rfl) <| Qq (p_pickAnd rfl rfl rfl) <| Qa rfl <| JL.nil ?_
  refine zR (Up.refl _ _) ?_
  first | (simp [outV, M.canW, *]; done) | (simp [outV, M.canW, *]; intros; exfalso; omega) | (simp [outV, M.canW, *]; omega)
 refine Js.seq <| zS <| Qe rfl rfl <| Qa rfl <| JL.nil ?_
 refine zi (fun h4 h4' => ?_) fun h4 h4' => ?_
 ·
  refine Js.skip ?_
  refine Js.condT rfl h4 ?_
  refine zS <| Qf fh rfl <| Q0 0 rfl rfl rfl <| zv rfl (fun w hw => c_impl_between f.count 1 96) <| Qm rfl <| zg (Gd.t1 rfl rfl rfl) (fun hc => p_fieldAddr fld_37_1.h rfl) <| zgq (Gd.t1 rfl rfl rfl) (fun hc => q_load1 ty_2.h (gh hc rfl) (Mem.box (i := 0) rfl rfl)) <| zgv (Gd.t1 rfl rfl rfl) (fun hc => (opds_3 (gh hc rfl) rfl rfl)) (fun hc => (fun w hw => c_impl_between f.place 0 15)) ?_
  refine zg (Gd.t1 rfl rfl rfl) (fun hc => p_move (gh hc rfl)) <| zg (Gd.f2 rfl rfl rfl) (fun hc => p_fieldAddr fld_37_1.h rfl) <| zgq (Gd.f2 rfl rfl rfl) (fun hc => q_load1 ty_2.h (gh hc rfl) (Mem.box (i := 0) rfl rfl)) <| zg (Gd.f2 rfl rfl rfl) (fun hc => p_eql (gh hc rfl) rfl) <| zg (Gd.f2 rfl rfl rfl) (fun hc => p_move (gh hc rfl)) <| zg (Gd.t2 rfl rfl rfl) (fun hc => p_fieldAddr fld_37_0.h rfl) <| zgq (Gd.t2 rfl rfl rfl) (fun hc => q_load1 ty_2.h (gh hc rfl) (Mem.box (i := 0) rfl rfl)) <| zg (Gd.t2 rfl rfl rfl) (fun hc => p_eql (gh hc rfl) rfl) <| zg (Gd.f2 rfl rfl rfl) (fun hc => p_pickAnd (gh hc rfl) (gvl rfl hc) rfl) <| zg (Gd.t1 rfl rfl rfl) (fun hc => p_pickOr (gh hc rfl) rfl (gvl rfl hc)) <| Qq (p_pickAnd rfl rfl rfl) <| Qa rfl <| JL.nil ?_
  refine zR (Up.refl _ _) ?_
  first | (simp [outV, M.canW, *]; done) | (simp [outV, M.canW, *]; intros; exfalso; omega) | (simp [outV, M.canW, *]; omega)
 refine zS <| Qe rfl rfl <| Qa rfl <| JL.nil ?_
 refine zi (fun h5 h5' => ?_) fun h5 h5' => ?_
 ·
  refine Js.skip ?_
  refine Js.condT rfl h5 ?_
  refine zS <| Qf fh rfl <| Q0 0 rfl rfl rfl <| zv rfl (fun w hw => c_impl_between f.count 1 96) <| Qm rfl <| zg (Gd.t1 rfl rfl rfl) (fun hc => p_fieldAddr fld_37_1.h rfl) <| zgq (Gd.t1 rfl rfl rfl) (fun hc => q_load1 ty_2.h (gh hc rfl) (Mem.box (i := 0) rfl rfl)) <| zgv (Gd.t1 rfl rfl rfl) (fun hc => (opds_3 (gh hc rfl) rfl rfl)) (fun hc => (fun w hw => c_impl_between f.place 0 15)) ?_
  refine zg (Gd.t1 rfl rfl rfl) (fun hc => p_move (gh hc rfl)) <| zg (Gd.f2 rfl rfl rfl) (fun hc => p_fieldAddr fld_37_1.h rfl) <| zgq (Gd.f2 rfl rfl rfl) (fun hc => q_load1 ty_2.h (gh hc rfl) (Mem.box (i := 0) rfl rfl)) <| zg (Gd.f2 rfl rfl rfl) (fun hc => p_eql (gh hc rfl) rfl) <| zg (Gd.f2 rfl rfl rfl) (fun hc => p_move (gh hc rfl)) <| zg (Gd.t2 rfl rfl rfl) (fun hc => p_fieldAddr fld_37_0.h rfl) <| zgq (Gd.t2 rfl rfl rfl) (fun hc => q_load1 ty_2.h (gh hc rfl) (Mem.box (i := 0) rfl rfl)) <| zg (Gd.t2 rfl rfl rfl) (fun hc => p_eql (gh hc rfl) rfl) <| zg (Gd.f2 rfl rfl rfl) (fun hc => p_pickAnd (gh hc rfl) (gvl rfl hc) rfl) <| zg (Gd.t1 rfl rfl rfl) (fun hc => p_pickOr (gh hc rfl) rfl (gvl rfl hc)) <| Qq (p_pickAnd rfl rfl rfl) <| Qa rfl <| JL.nil ?_
  refine zR (Up.refl _ _) ?_
  first | (simp [outV, M.canW, *]; done) | (simp [outV, M.canW, *]; intros; exfalso; omega) | (simp [outV, M.canW, *]; omega)
 refine zS <| Qe rfl rfl <| Qa rfl <| JL.nil ?_
 refine zi (fun h6 h6' => ?_) fun h6 h6' => ?_
 ·
  refine Js.skip ?_
  refine Js.condT rfl h6 ?_
  refine zS <| Qf fh rfl <| Q0 0 rfl rfl rfl <| zv rfl (fun w hw => c_impl_between f.count 1 96) <| Qm rfl <| zg (Gd.t1 rfl rfl rfl) (fun hc => p_fieldAddr fld_37_1.h rfl) <| zgq (Gd.t1 rfl rfl rfl) (fun hc => q_load1 ty_2.h (gh hc rfl) (Mem.box (i := 0) rfl rfl)) <| zgv (Gd.t1 rfl rfl rfl) (fun hc => (opds_3 (gh hc rfl) rfl rfl)) (fun hc => (fun w hw => c_impl_between f.place 0 15)) ?_
  refine zg (Gd.t1 rfl rfl rfl) (fun hc => p_move (gh hc rfl)) <| zg (Gd.f2 rfl rfl rfl) (fun hc => p_fieldAddr fld_37_1.h rfl) <| zgq (Gd.f2 rfl rfl rfl) (fun hc => q_load1 ty_2.h (gh hc rfl) (Mem.box (i := 0) rfl rfl)) <| zg (Gd.f2 rfl rfl rfl) (fun hc => p_eql (gh hc rfl) rfl) <| zg (Gd.f2 rfl rfl rfl) (fun hc => p_move (gh hc rfl)) <| zg (Gd.t2 rfl rfl rfl) (fun hc => p_fieldAddr fld_37_0.h rfl) <| zgq (Gd.t2 rfl rfl rfl) (fun hc => q_load1 ty_2.h (gh hc rfl) (Mem.box (i := 0) rfl rfl)) <| zg (Gd.t2 rfl rfl rfl) (fun hc => p_eql (gh hc rfl) rfl) <| zg (Gd.f2 rfl rfl rfl) (fun hc => p_pickAnd (gh hc rfl) (gvl rfl hc) rfl) <| zg (Gd.t1 rfl rfl rfl) (fun hc => p_pickOr (gh hc rfl) rfl (gvl rfl hc)) <| Qq (p_pickAnd rfl rfl rfl) <| Qa rfl <| JL.nil ?_
  refine zR (Up.refl _ _) ?_
  first | (simp [outV, M.canW, *]; done) | (simp [outV, M.canW, *]; intros; exfalso; omega) | (simp [outV, M.canW, *]; omega)
 refine Js.region <| Qe rfl rfl <| Qa rfl <| JL.nil ?_
 refine zi (fun h7 h7' => ?_) fun h7 h7' => ?_
 ·
  refine zS <| Qf fh rfl <| Q0 0 rfl rfl rfl <| zv rfl (fun w hw => c_impl_between f.count 1 96) <| Qm rfl <| zg (Gd.t1 rfl rfl rfl) (fun hc => p_fieldAddr fld_37_1.h rfl) <| zgq (Gd.t1 rfl rfl rfl) (fun hc => q_load1 ty_2.h (gh hc rfl) (Mem.box (i := 0) rfl rfl)) <| zgv (Gd.t1 rfl rfl rfl) (fun hc => (opds_3 (gh hc rfl) rfl rfl)) (fun hc => (fun w hw => c_impl_between f.place 0 15)) ?_
  refine zg (Gd.t1 rfl rfl rfl) (fun hc => p_move (gh hc rfl)) <| zg (Gd.f2 rfl rfl rfl) (fun hc => p_fieldAddr fld_37_1.h rfl) <| zgq (Gd.f2 rfl rfl rfl) (fun hc => q_load1 ty_2.h (gh hc rfl) (Mem.box (i := 0) rfl rfl)) <| zg (Gd.f2 rfl rfl rfl) (fun hc => p_eql (gh hc rfl) rfl) <| zg (Gd.f2 rfl rfl rfl) (fun hc => p_move (gh hc rfl)) <| zg (Gd.t2 rfl rfl rfl) (fun hc => p_fieldAddr fld_37_0.h rfl) <| zgq (Gd.t2 rfl rfl rfl) (fun hc => q_load1 ty_2.h (gh hc rfl) (Mem.box (i := 0) rfl rfl)) <| zg (Gd.t2 rfl rfl rfl) (fun hc => p_eql (gh hc rfl) rfl) <| zg (Gd.f2 rfl rfl rfl) (fun hc => p_pickAnd (gh hc rfl) (gvl rfl hc) rfl) <| zg (Gd.t1 rfl rfl rfl) (fun hc => p_pickOr (gh hc rfl) rfl (gvl rfl hc)) <| Qq (p_pickAnd rfl rfl rfl) <| Qa rfl <| JL.nil ?_
  refine zR (Up.refl _ _) ?_
  first | (simp [outV, M.canW, *]; done) | (simp [outV, M.canW, *]; intros; exfalso; omega) | (simp [outV, M.canW, *]; omega)
 refine Js.skip <| Js.blockEnd <| zS <| Qa rfl <| JL.nil ?_
 refine zR (Up.refl _ _) ?_
 first | (simp [outV, M.canW, *]; done) | (simp [outV, M.canW, *]; intros; exfalso; omega) | (simp [outV, M.canW, *]; omega)
theorem c_impl_FactText (f : M.Fct) {v_f : Value} {w : World} (h_f : (Ty.agg (cFact f)).ok w v_f) (h_tab : tabT.ok w undef) (r0 : -9223372036854775808 ≤ f.count := by exact om_) (r1 : f.count ≤ 9223372036854775807 := by exact om_) (r2 : -9223372036854775808 ≤ f.place := by exact om_) (r3 : f.place ≤ 9223372036854775807 := by exact om_) : RetV Tryz.prog 14 [v_f] w (.string (sB (M.factT f))) := by
 have hl6 : M.fkNames.length = 6 := rfl
 revert v_f; apply opn
 refine enter @Tryz.func14 @Tryz.ntmps14 rfl rfl ?_
 refine zent ?_
 refine zS <| zb rfl fun b1 => Qa rfl <| zJ <| zS <| Q9 0 rfl rfl ?_
 refine zv rfl (fun w hw => c_impl_Fact_canWrite f (ok_ hw)) <| Qt rfl <| JL.nil ?_
 refine zi (fun h2 h2' => ?_) fun h2 h2' => ?_
 ·
  have hE := M.factT_n (f := f) (by simpa using h2)
  refine zS <| Qa rfl <| JL.nil ?_
  refine zR (Up.refl _ _) ?_
  first | (rw [hE]; done) | (rw [hE]; rfl) | (rw [hE]; simp)
 have hcw : M.canW f = true := by simpa using h2
 obtain ⟨hb0, hb1⟩ := M.canW_k hcw
 obtain ⟨ye3, hye3⟩ : ∃ x, M.fkNames[(f.kind - 1).toNat]? = some x := ⟨_, List.getElem?_eq_getElem (by omega)⟩
 have hY : M.fkNames[(f.kind - 1).toNat]? = some ye3 := hye3
 have lb7 : LenB ye3 7 := ⟨M.fkName_len hY⟩
 have hz4 : ([([116, 97, 107, 101] : List UInt8), ([115, 111, 119] : List UInt8), ([99, 97, 112, 116, 117, 114, 101] : List UInt8), ([115, 112, 97, 114, 101] : List UInt8), ([97, 103, 97, 105, 110] : List UInt8), ([116, 117, 114, 110] : List UInt8)] : List (List UInt8))[(f.kind - 1).toNat]? = some ye3 := hye3
 refine Js.skip <| zS <| Qq (q_bldA) <| Qf fh rfl <| Q0 0 rfl rfl rfl <| Qs rfl rfl <| Qq (p_idxS (names := [([116, 97, 107, 101] : List UInt8), ([115, 111, 119] : List UInt8), ([99, 97, 112, 116, 117, 114, 101] : List UInt8), ([115, 112, 97, 114, 101] : List UInt8), ([97, 103, 97, 105, 110] : List UInt8), ([116, 117, 114, 110] : List UInt8)]) (kk := (f.kind - 1).toNat) @Tryz.underlying82 ty_9.h rfl rfl (by omega) (by omega) hz4) <| Qa rfl <| zJ <| zS <| Qf fh rfl <| Q0 0 rfl rfl rfl <| Qe rfl rfl <| Qm rfl ?_
 refine zg (Gd.f1 rfl rfl rfl) (fun hc => p_fieldAddr fld_37_0.h rfl) <| zgq (Gd.f1 rfl rfl rfl) (fun hc => q_load1 ty_2.h (gh hc rfl) (Mem.box (i := 0) rfl rfl)) <| zg (Gd.f1 rfl rfl rfl) (fun hc => p_eql (gh hc rfl) rfl) <| Qq (p_pickOr rfl rfl rfl) <| JL.nil ?_
 refine zi (fun h5 h5' => ?_) fun h5 h5' => ?_
 ·
  have hE := M.factT_word hcw hY (by have h9 := h5; simpa using h9)
  refine zS <| Qm rfl <| Qa rfl <| JL.nil ?_
  refine zR (Up.refl _ _) ?_
  first | (rw [hE]; done) | (rw [hE]; rfl) | (rw [hE]; simp)
 have hk9 : ¬ (f.kind = 5 ∨ f.kind = 6) := by have h9 := h5; simpa using h9
 refine Js.skip <| zS <| Qf fh rfl <| Q0 0 rfl rfl rfl <| zv rfl (fun w hw => c_impl_Decimal f.place (ok_ hw)) <| Qa rfl <| Qa rfl <| zJ <| zS <| Qf fh rfl <| Q0 0 rfl rfl rfl <| Qe rfl rfl <| JL.nil ?_
 refine zi (fun h6 h6' => ?_) fun h6 h6' => ?_
 ·
  have hw9 : ([105, 110, 116, 111] : List UInt8) = if f.kind = 2 then [105, 110, 116, 111] else [102, 114, 111, 109] := (if_pos (by simpa using h6)).symm
  refine Js.region <| Qa rfl <| zJ <| zS <| Qf fh rfl <| Q0 0 rfl rfl rfl <| Ql rfl rfl <| JL.nil ?_
  refine zi (fun h7 h7' => ?_) fun h7 h7' => ?_
  ·
   have hp9 : ([115, 116, 111, 114, 101] : List UInt8) = M.placeT f.place := (if_pos (by simpa using h7)).symm
   have hE := M.factT_long hcw hY hk9 hw9 hp9
   refine Js.region <| Qa rfl <| zN <| Qm rfl <| Qq (q_cat rfl rfl) <| Qf fh rfl <| Q0 0 rfl rfl rfl <| zv rfl (fun w hw => c_impl_Decimal f.count (ok_ hw)) <| Qq (q_cat rfl rfl) <| Qq (q_cat rfl rfl) <| Qm rfl <| Qq (q_cat rfl rfl) <| Qq (q_cat rfl rfl) <| Qm rfl ?_
   refine Qq (q_cat rfl rfl) <| Qa rfl <| JL.nil ?_
   refine zR (Up.refl _ _) ?_
   first | (rw [hE]; done) | (rw [hE]; rfl) | (rw [hE]; simp)
  have hp9 : M.dec f.place = M.placeT f.place := (if_neg (by have := h7'; omega)).symm
  have hE := M.factT_long hcw hY hk9 hw9 hp9
  refine Js.skip <| zS <| Qm rfl <| Qq (q_cat rfl rfl) <| Qf fh rfl <| Q0 0 rfl rfl rfl <| zv rfl (fun w hw => c_impl_Decimal f.count (ok_ hw)) <| Qq (q_cat rfl rfl) <| Qq (q_cat rfl rfl) <| Qm rfl <| Qq (q_cat rfl rfl) <| Qq (q_cat rfl rfl) <| Qm rfl <| Qq (q_cat rfl rfl) ?_
  refine Qa rfl <| JL.nil ?_
  refine zR (Up.refl _ _) ?_
  first | (rw [hE]; done) | (rw [hE]; rfl) | (rw [hE]; simp)
 have hw9 : ([102, 114, 111, 109] : List UInt8) = if f.kind = 2 then [105, 110, 116, 111] else [102, 114, 111, 109] := (if_neg (by simpa using h6)).symm
 refine Js.skip <| Js.seq <| zS <| Qf fh rfl <| Q0 0 rfl rfl rfl <| Ql rfl rfl <| JL.nil ?_
 refine zi (fun h8 h8' => ?_) fun h8 h8' => ?_
 ·
  have hp9 : ([115, 116, 111, 114, 101] : List UInt8) = M.placeT f.place := (if_pos (by simpa using h8)).symm
  have hE := M.factT_long hcw hY hk9 hw9 hp9
  refine Js.region <| Qa rfl <| zN <| Qm rfl <| Qq (q_cat rfl rfl) <| Qf fh rfl <| Q0 0 rfl rfl rfl <| zv rfl (fun w hw => c_impl_Decimal f.count (ok_ hw)) <| Qq (q_cat rfl rfl) <| Qq (q_cat rfl rfl) <| Qm rfl <| Qq (q_cat rfl rfl) <| Qq (q_cat rfl rfl) <| Qm rfl ?_
  refine Qq (q_cat rfl rfl) <| Qa rfl <| JL.nil ?_
  refine zR (Up.refl _ _) ?_
  first | (rw [hE]; done) | (rw [hE]; rfl) | (rw [hE]; simp)
 have hp9 : M.dec f.place = M.placeT f.place := (if_neg (by have := h8'; omega)).symm
 have hE := M.factT_long hcw hY hk9 hw9 hp9
 refine Js.skip <| zS <| Qm rfl <| Qq (q_cat rfl rfl) <| Qf fh rfl <| Q0 0 rfl rfl rfl <| zv rfl (fun w hw => c_impl_Decimal f.count (ok_ hw)) <| Qq (q_cat rfl rfl) <| Qq (q_cat rfl rfl) <| Qm rfl <| Qq (q_cat rfl rfl) <| Qq (q_cat rfl rfl) <| Qm rfl <| Qq (q_cat rfl rfl) ?_
 refine Qa rfl <| JL.nil ?_
 refine zR (Up.refl _ _) ?_
 first | (rw [hE]; done) | (rw [hE]; rfl) | (rw [hE]; simp)
theorem c_impl_WhyNot (r : M.Rul) {v_r : Value} (p : M.Pos) {v_p : Value} (move : Int) {w : World} (h_r : (Ty.agg (cRules r)).ok w v_r) (h_p : (Ty.agg (cPosition p)).ok w v_p) (r0 : p.pits.length ≤ 4194304 := by exact om_) (r1 : p.stores.length ≤ 4194304 := by exact om_) : RetV Tryz.prog 11 [v_r, v_p, .int .i64 move] w (.tuple #[.string (sB ((M.whyR r p move).1)), .int .i64 ((M.whyR r p move).2)]) := by
 revert v_r; apply opn
 revert v_p; apply opn
 intro A1 c1 h1 bl1 bh1 A2 c2 h2 bl2 bh2
 refine enter @Tryz.func11 @Tryz.ntmps11 rfl rfl ?_
 refine zent ?_
 refine zS <| zb rfl fun b3 => zb rfl fun b4 => Qa rfl <| Qa rfl <| zJ <| zS <| Q9 1 rfl rfl ?_
 refine Q9 0 rfl rfl ?_
 refine Qm rfl <| zv rfl (fun w hw => c_impl_MoveFault r p move (ok_ hw) (ok_ hw)) <| Qa rfl <| zN <| Qm rfl <| JL.nil <| Js.block <| zS <| Qe rfl rfl <| Qa rfl <| JL.nil ?_
 refine zi (fun h5 h5' => ?_) fun h5 h5' => ?_
 ·
  have hE := M.whyR_0 (r := r) (p := p) (move := move) (by rw [M.make_code]; simpa using h5)
  refine zS <| Qa rfl <| Qa rfl <| JL.nil ?_
  refine zR (Up.refl _ _) ?_
  first | (rw [hE]; done) | (rw [hE]; rfl)
 have n0 : ¬ (M.make r p move).2 = 0 := by rw [M.make_code]; simpa using h5
 refine zS <| Qe rfl rfl <| Qa rfl <| JL.nil ?_
 refine zi (fun h6 h6' => ?_) fun h6 h6' => ?_
 ·
  have hE := M.whyR_1 (r := r) (p := p) (move := move) (by rw [M.make_code]; simpa using h6)
  refine zS <| Qa rfl <| Qa rfl <| JL.nil ?_
  refine zR (Up.refl _ _) ?_
  first | (rw [hE]; done) | (rw [hE]; rfl)
 have n1 : ¬ (M.make r p move).2 = 1 := by rw [M.make_code]; simpa using h6
 refine zS <| Qe rfl rfl <| Qa rfl <| JL.nil ?_
 refine zi (fun h7 h7' => ?_) fun h7 h7' => ?_
 ·
  have hE := M.whyR_w n0 n1 (M.whyT_2 (by rw [M.make_code]; simpa using h7))
  refine zS <| Qa rfl <| Qa rfl <| JL.nil ?_
  refine zR (Up.refl _ _) ?_
  first | (rw [hE]; done) | (rw [hE]; rfl)
 have n2 : ¬ (M.make r p move).2 = 2 := by rw [M.make_code]; simpa using h7
 refine zS <| Qe rfl rfl <| Qa rfl <| JL.nil ?_
 refine zi (fun h8 h8' => ?_) fun h8 h8' => ?_
 ·
  have hE := M.whyR_w n0 n1 (M.whyT_6 n2 (by rw [M.make_code]; simpa using h8))
  refine zS <| Qa rfl <| Qa rfl <| JL.nil ?_
  refine zR (Up.refl _ _) ?_
  first | (rw [hE]; done) | (rw [hE]; rfl)
 have n6 : ¬ (M.make r p move).2 = 6 := by rw [M.make_code]; simpa using h8
 refine zS <| Qe rfl rfl <| Qa rfl <| JL.nil ?_
 refine zi (fun h9 h9' => ?_) fun h9 h9' => ?_
 ·
  have hE := M.whyR_w n0 n1 (M.whyT_10 n2 n6 (by rw [M.make_code]; simpa using h9))
  refine zS <| Qa rfl <| Qa rfl <| JL.nil ?_
  refine zR (Up.refl _ _) ?_
  first | (rw [hE]; done) | (rw [hE]; rfl)
 have n10 : ¬ (M.make r p move).2 = 10 := by rw [M.make_code]; simpa using h9
 have hz := M.make_9 n0 n1 n2 n6 n10
 obtain ⟨hok, m0, m1, hG, q0, q1, hsum⟩ := M.sowMove_ok hz
 obtain ⟨g1, g2, g3, g4, g5, g6, g7⟩ := M.okP_bd hok
 refine Js.skip <| Js.blockEnd <| zS <| Q9 1 rfl rfl ?_
 refine Q9 0 rfl rfl ?_
 refine Qm rfl <| zp rfl (fun w hw => c_impl_sowMove r p move (ok_ hw) (ok_ hw)) ?_
 intro u10 x10 v11 h11
 refine Qm rfl <| Qx rfl rfl <| Qx rfl rfl <| Qa rfl <| Qa rfl <| zJ <| Js.seq ?_
 refine zdr [] ?_
 refine jF 0 fld_25_8 rfl rfl ?_
 refine jB 1 1 ty_2 rfl rfl rfl rfl ?_
 refine JH.p 2 rfl (p_eql rfl rfl) ?_
 refine jM 3 rfl rfl ?_
 refine JH.qg 4 rfl (Gd.t1 rfl rfl rfl) (fun hc => L9 1 rfl rfl) ?_
 refine JH.pg 5 rfl (Gd.t1 rfl rfl rfl) (fun hc => p_move rfl) ?_
 obtain ⟨b12, o12, A12_10, c12_10, A12_11, c12_11, A12_14, c12_14, rfl, hr12, h12_10, h12_11, h12_14, bl12_10, bh12_10, bl12_11, bh12_11, bl12_14, bh12_14⟩ := ref_sowing (box_ref (opt_yes h11 (by exact decide_eq_true hz)))
 refine JH.pg 6 rfl (Gd.t1 rfl rfl rfl) (fun hc => p_nilCheck (gvt rfl hc)) ?_
 refine JH.pg 7 rfl (Gd.t1 rfl rfl rfl) (fun hc => p_fieldAddr fld_77_2.h (gvt rfl hc)) ?_
 refine JH.wg 8 rfl (Gd.t1 rfl rfl rfl) (fun hc os' u' hv => LS 10 (hr12.vis hv) (gvt rfl hc)) ?_
 refine JH.pg 9 rfl (Gd.t1 rfl rfl rfl) (fun hc => p_fieldAddr fld_28_2.h rfl) ?_
 refine JH.qg 10 rfl (Gd.t1 rfl rfl rfl) (fun hc => q_load1 ty_2.h (gvt rfl hc) (Mem.box (i := 0) rfl rfl)) ?_
 refine y1 11 ?_
 refine JHo.ge rfl (Gd.t1 rfl rfl rfl) (fun hc => e_callV fn_46.h (opds_3 (gvt rfl hc) (gvt rfl hc) (gvt rfl hc)) (fun w hw => c_impl_Rules_slams r ((M.sowMove r p move).2.1) p.player (ok_ hw) (ok_ hw) (r0 := (oh_ hc)) (r1 := (oh_ hc)) (r2 := (oh_ hc)) (r3 := hG) (r4 := (oh_ hc)) (r5 := (oh_ hc)))) ?_
 refine JH.p 12 rfl (p_pickAnd rfl rfl rfl) ?_
 refine yd ?_
 refine zi (fun h13 h13' => ?_) fun h13 h13' => ?_
 ·
  have hE := M.whyR_w n0 n1 (M.whyT_s n2 n6 n10 (by have h9 := h13; simpa using h9))
  refine zS <| Qa rfl <| Qa rfl <| JL.nil ?_
  refine zR x10 ?_
  first | (rw [hE]; done) | (rw [hE]; rfl)
 have hE := M.whyR_w n0 n1 (M.whyT_n n2 n6 n10 (by have h9 := h13; simpa using h9))
 refine Js.skip <| zS <| Qa rfl <| Qa rfl <| JL.nil ?_
 refine zR x10 ?_
 first | (rw [hE]; done) | (rw [hE]; rfl)
theorem c_impl_ExplainMove (r : M.Rul) {v_r : Value} (p : M.Pos) {v_p : Value} (move : Int) {w : World} (h_r : (Ty.agg (cRules r)).ok w v_r) (h_p : (Ty.agg (cPosition p)).ok w v_p) (h_tab : tabT.ok w undef) (r0 : p.pits.length ≤ 4194304 := by exact om_) (r1 : p.stores.length ≤ 4194304 := by exact om_) : Ret Tryz.prog 9 [v_r, v_p, .int .i64 move] w (Ty.tup [Ty.strs 9 ((M.explR r p move).1), Ty.int ((M.explR r p move).2)]) := by
 revert v_r; apply opn
 revert v_p; apply opn
 intro A1 c1 h1 bl1 bh1 A2 c2 h2 bl2 bh2
 refine enter @Tryz.func9 @Tryz.ntmps9 rfl rfl ?_
 refine zent ?_
 refine zS <| zb rfl fun b3 => zb rfl fun b4 => Qa rfl <| Qa rfl <| zJ <| zS <| Q9 1 rfl rfl ?_
 refine Q9 0 rfl rfl ?_
 refine zv rfl (fun w hw => c_impl_ValidPosition r p (ok_ hw) (ok_ hw)) <| Qt rfl <| JL.nil ?_
 refine zi (fun h5 h5' => ?_) fun h5 h5' => ?_
 ·
  have hE := M.explR_1 (move := move) (show M.okP r p = false by simpa using h5)
  have hq0 : [] = (M.explR r p move).1 := by first | (rw [hE, hW]; done) | (rw [hE]; exact hE2.symm) | (rw [hE, ← hE2]; done) | (rw [hE]; done) | (rw [hE]; rfl) | (rw [hE, hW]; rfl)
  have hq1 : 1 = (M.explR r p move).2 := by first | (rw [hE, hW]; done) | (rw [hE]; exact hE2.symm) | (rw [hE, ← hE2]; done) | (rw [hE]; done) | (rw [hE]; rfl) | (rw [hE, hW]; rfl)
  refine zS <| Qa rfl <| Qa rfl <| JL.nil ?_
  exact zro (Up.refl _ _) (g := by exact (gv_tup (gvc (gv_strsN (by first | rfl | assumption)) (gvc gv_ gvn))))
 have hok0 : ¬ M.okP r p = false := by simpa using h5
 refine Js.skip <| zS <| Q9 1 rfl rfl ?_
 refine Q9 0 rfl rfl ?_
 refine Qm rfl <| zp rfl (fun w hw => c_impl_Rules_factsOf r p move (ok_ hw) (ok_ hw)) ?_
 intro u6 x6 A7 c7 h7 bl7 bh7
 have hfc : (M.factsR r p move).2 = (M.make r p move).2 := by by_cases h9 : (M.make r p move).2 = 0; rw [M.factsR_y h9, h9]; rw [M.factsR_n h9]
 refine Qm rfl <| Qx rfl rfl <| Qx rfl rfl <| Qa rfl <| Qa rfl <| zJ <| zS <| Qm rfl <| Qd rfl rfl <| JL.nil ?_
 refine zi (fun h8 h8' => ?_) fun h8 h8' => ?_
 ·
  have hn9 : ¬ (M.make r p move).2 = 0 := by rw [← hfc]; simpa using h8
  have hE := M.explR_w hok0 hn9
  have hn1 : ¬ (M.make r p move).2 = 1 := fun e => hok0 (M.make_1.1 e)
  have hW := M.whyR_w hn9 hn1 rfl
  rw [hE]
  have hW1 : (M.whyR r p move).1 = M.whyT r p move (M.make r p move).2 := by rw [hW]
  rw [← hW1]
  have lb9 : LenB (M.whyR r p move).1 100 := ⟨by rw [hW]; exact M.whyT_len r p move _⟩
  have hq0 : 0 = (M.explR r p move).2 := by first | (rw [hE, hW]; done) | (rw [hE]; exact hE2.symm) | (rw [hE, ← hE2]; done) | (rw [hE]; done) | (rw [hE]; rfl) | (rw [hE, hW]; rfl)
  refine zS <| Q9 1 rfl rfl ?_
  refine Q9 0 rfl rfl ?_
  refine Qm rfl <| zv rfl (fun w hw => c_impl_WhyNot r p move (ok_ hw) (ok_ hw)) <| Qm rfl <| Qx rfl rfl <| Qx rfl rfl <| Qa rfl <| Qa rfl <| zN <| Qm rfl <| zbs fun b9 => ?_
  refine Qa rfl <| Qa rfl <| JL.nil ?_
  exact zro x6 (g := by exact (gv_tup (gvc (gv_strs po_ (by rfl) (by rfl)) (gvc gv_ gvn))))
 have hm0 : (M.make r p move).2 = 0 := by rw [← hfc]; simpa using h8
 have hE := M.explR_f hm0
 have hfl : (M.factsR r p move).1.length ≤ 20000 := by rw [M.factsR_y hm0]; exact M.facts_len hm0
 refine Js.skip <| zS <| zbs fun b11 => ?_
 refine Qa rfl <| zJ <| zS <| Qm rfl <| Qz rfl <| Qm rfl <| JL.nil <| Js.block ?_
 refine zl [38, 39] (fun F U l os u m => ∃ (k : Nat) (out : List (List UInt8)) (A13_12 : Option Addr) (c13_12 : Nat) (g13_12 : List Nat), l = F [(12, .slice A13_12 out.length c13_12), (40, .int .i64 (k : Int))] ∧ os = U [some (rowO 9 1 (.slice A13_12 out.length c13_12) out.length (txs_ out) g13_12)] ∧ (out = ((M.factsR r p move).1.take k).map M.factT0) ∧ (k ≤ (M.factsR r p move).1.length) ∧ (out.length = k) ∧ (out.length ≤ c13_12) ∧ (c13_12 ≤ 9223372036854775807) ∧ m = (M.factsR r p move).1.length - k) ⟨0, [], _, _, _, rfl, rfl, by rfl, zt, by rfl, zu, zu, rfl⟩ ?_
 rintro _ _ u13 _ ⟨k, out, A13_12, c13_12, g13_12, rfl, rfl, hO, hk, hl, f13_3, f13_4, rfl⟩ x13
 refine zn ?_
 refine zS <| Ql rfl rfl <| zJ ?_
 refine zi (fun h14 h14' => ?_) fun h14 h14' => ?_
 ·
  obtain ⟨ye15, hye15⟩ : ∃ x, ((M.factsR r p move).1)[k]? = some x := ⟨_, List.getElem?_eq_getElem (by omega)⟩
  have hY : M.factsR r p move = (M.factsF r p move, 0) := M.factsR_y hm0
  have hcan := M.facts_can hm0 _ (List.mem_of_getElem? (by have h9 := hye15; rw [hY] at h9; exact h9))
  have hft := M.factT_y hcan
  have hO2 := M.texts_step hO hye15
  rw [← hft] at hO2
  have hcb := M.canW_b hcan
  have lb9 : LenB (M.factT ye15) 100 := ⟨by rw [hft]; exact M.factT0_len _⟩
  have hy16 := hye15
  obtain ⟨b16, o16, he16, hr16⟩ := elem_Fact (Ty.mono _ h7 x13.vis) hy16
  refine Js.skip <| Js.seq <| Js.block <| zS <| Qq (p_indexAddr el_43 rfl rfl (by omega) (by omega) he16) <| QS 0 hr16 rfl ?_
  refine za zeh fun b17 => zw 0 rfl rfl rfl ?_
  refine zG <| Qm rfl <| Q9 0 rfl rfl ?_
  refine zv rfl (fun w hw => c_impl_FactText ye15 (ok_ hw) (ok_ hw)) <| zbs fun b18 => ?_
  refine JL.e (e_append (i := 2) (n' := (out ++ [M.factT ye15]).length) (vs' := txs_ (out ++ [M.factT ye15])) el_31 rfl rfl rfl rfl (src_row (i := 0) und_31 rfl rfl) (by omega) (by omega) ln2_ (by first | rfl | (simp [txs_]; done))) ?_
  rintro v20 _ _ ⟨⟨g21, rfl⟩, rfl⟩ _
  refine JL.fact (row_form' (i := 2) rfl) (fun hf22 => ?_)
  obtain ⟨A22, c22, rfl, bl22, bh22⟩ := hf22
  refine znl ?_
  refine Qa rfl <| JL.nil <| Js.blockEnd <| Js.region <| Qp rfl rfl <| Qm rfl <| JL.nil ?_
  refine zd [2, 2, 2] rfl fun u23 x23 => ?_
  exact zag ⟨k + 1, out ++ [M.factT ye15], _, _, _, rfl, rfl, by exact hO2, zt, by simp [hl], zu, zu, rfl⟩ (x13.trans x23)
 have hE2 := M.texts_all hO (by have := h14'; omega)
 rw [M.factsR_y hm0] at hE2
 refine zx ?_
 have hq0 : out = (M.explR r p move).1 := by first | (rw [hE, hW]; done) | (rw [hE]; exact hE2.symm) | (rw [hE, ← hE2]; done) | (rw [hE]; done) | (rw [hE]; rfl) | (rw [hE, hW]; rfl)
 have hq1 : 0 = (M.explR r p move).2 := by first | (rw [hE, hW]; done) | (rw [hE]; exact hE2.symm) | (rw [hE, ← hE2]; done) | (rw [hE]; done) | (rw [hE]; rfl) | (rw [hE, hW]; rfl)
 refine zS <| Qm rfl <| Qa rfl <| Qa rfl <| JL.nil ?_
 exact zro (x6.trans x13) (g := by exact (gv_tup (gvc (gv_strsE (ys := out) po_ (by assumption) (by rfl)) (gvc gv_ gvn))))
theorem c_impl_isDigit (c : Int) {w : World}  : RetV Tryz.prog 109 [.int .u8 c] w (.bool (M.isDig c)) := by
 refine enter @Tryz.func109 @Tryz.ntmps109 rfl rfl ?_
 refine zent ?_
 refine zS <| Qa rfl <| zN <| Qm rfl <| Qh rfl rfl <| Qm rfl <| zg (Gd.t1 rfl rfl rfl) (fun hc => p_move rfl) <| zg (Gd.t1 rfl rfl rfl) (fun hc => p_leq (gh hc rfl) rfl) <| Qq (p_pickAnd rfl rfl rfl) <| Qa rfl <| JL.nil ?_
 exact zr (Up.refl _ _)
theorem c_impl_ReadDecimal (t : List UInt8) {w : World} (h_tab : tabT.ok w undef) (r0 : t.length ≤ 4194304 := by exact om_) : RetV Tryz.prog 52 [.string (sB t)] w (.tuple #[.int .i64 ((M.num t).1), .bool ((M.num t).2)]) := by
 refine enter @Tryz.func52 @Tryz.ntmps52 rfl rfl ?_
 refine zent ?_
 have hbt1 := M.bat_bd t 0
 refine zS <| Qa rfl <| Qa rfl <| zN <| Qm rfl <| Qa rfl <| zJ <| zS <| Qm rfl <| Qq (p_lenS und_9 rfl) <| Qg rfl rfl <| Qm rfl <| zg (Gd.t1 rfl rfl rfl) (fun hc => p_move rfl) <| zg (Gd.t1 rfl rfl rfl) (fun hc => p_byteS (i := 0) und_9 (gh hc rfl) rfl (by first | have hc9 := hc; (try simp only [decide_eq_true_eq] at hc9); omega | (have h9 := List.length_pos_iff.2 (by simpa using hc); omega))) ?_
 refine zg (Gd.t1 rfl rfl rfl) (fun hc => p_eql (gh hc rfl) rfl) <| Qq (p_pickAnd rfl rfl rfl) <| JL.nil ?_
 refine zi (fun h2 h2' => ?_) fun h2 h2' => ?_
 ·
  have h8 : t ≠ [] := by have h9 := h2; simp at h9; exact List.length_pos_iff.1 (by omega)
  have hT : M.numT t = t.drop 1 := by have h9 := h2; simp at h9; exact M.numT_y h8 h9.2
  have hln : 1 ≤ t.length := List.length_pos_iff.2 h8
  refine Js.region <| Qm rfl <| Qq (p_dropS (i := 1) und_9 rfl rfl (by omega)) <| Qa rfl <| zJ <| zS <| Qm rfl <| Qq (p_lenS und_9 rfl) <| Qe rfl rfl <| Qm rfl <| zg (Gd.f1 rfl rfl rfl) (fun hc => p_move rfl) <| zg (Gd.f1 rfl rfl rfl) (fun hc => p_lenS und_9 (gh hc rfl)) <| zg (Gd.f1 rfl rfl rfl) (fun hc => p_gtr (gh hc rfl) rfl) <| Qq (p_pickOr rfl rfl rfl) ?_
  refine JL.nil ?_
  refine zi (fun h3 h3' => ?_) fun h3 h3' => ?_
  ·
   have hE := M.num_len (s := t) (by rw [hT]; have h9 := h3; simp at h9; omega)
   refine zS <| Qa rfl <| Qa rfl <| JL.nil ?_
   refine zR (Up.refl _ _) ?_
   first | (rw [hE]; rfl) | (rw [hE, hS]; rfl)
  have hl9 : ¬ ((M.numT t).length < 1 ∨ 18 < (M.numT t).length) := by rw [hT]; have h9 := h3; simp at h9; omega
  refine Js.skip <| zS <| Qa rfl <| zJ <| zS <| Qm rfl <| Qq (p_lenS und_9 rfl) <| Qm rfl <| JL.nil <| Js.block ?_
  refine zl [0, 4, 27] (fun F U l os u m => ∃ (k : Nat) (n : Int), l = F [(5, .int .i64 n), (28, .int .i64 (k : Int))] ∧ os = U [] ∧ (n = M.numN (M.numT t) k) ∧ (M.Digs (M.numT t) k) ∧ (k ≤ (M.numT t).length) ∧ m = (M.numT t).length - k) ⟨0, 0, rfl, rfl, by rfl, by exact M.Digs.zero _, zt, rfl⟩ ?_
  rintro _ _ u4 _ ⟨k, n, rfl, rfl, hN, hD, hk, rfl⟩ x4
  refine zn ?_
  obtain ⟨n1, n2⟩ := M.numN_18 hD (by omega)
  rw [← hN] at n1 n2
  refine zS <| Ql rfl rfl <| zJ ?_
  refine zi (fun h5 h5' => ?_) fun h5 h5' => ?_
  ·
   have hkk : k < (M.numT t).length := by rw [hT]; have := h5'; omega
   obtain ⟨n3, n4⟩ := M.numN_17 hD (by omega)
   rw [← hN] at n3 n4
   have hbt6 := M.bat_bd (t.drop 1) k
   refine Js.skip <| Js.seq <| Js.block <| zS <| Qm rfl <| Qa rfl <| zJ <| zS <| Qm rfl <| Qm rfl <| Qq (p_byteS (i := k) und_9 rfl rfl (by omega)) <| zv rfl (fun w hw => c_impl_isDigit (M.bat (t.drop 1) k)) <| Qt rfl <| JL.nil ?_
   refine zi (fun h7 h7' => ?_) fun h7 h7' => ?_
   ·
    have hE := M.num_dig (M.digs_no hkk (by rw [hT]; simpa using h7))
    refine zS <| Qa rfl <| Qa rfl <| JL.nil ?_
    refine zR x4 ?_
    first | (rw [hE]; rfl) | (rw [hE, hS]; rfl)
   have hd : M.isDig (M.bat (M.numT t) k) = true := by rw [hT]; simpa using h7
   have hD2 := hD.step hd
   obtain ⟨d1, d2⟩ := M.dig_bd hd
   rw [hT] at d1 d2
   have hbt8 := M.bat_bd (t.drop 1) k
   refine Js.skip <| Js.region <| Qm rfl <| Qu rfl rfl <| Qm rfl <| Qm rfl <| Qq (p_byteS (i := k) und_9 rfl rfl (by omega)) <| Qq (p_sub rfl rfl (IntWalk.u8_in _ (by omega))) <| Qq (p_conv @Tryz.underlying5 @Tryz.underlying2 rfl (IntWalk.i64_in _ (by omega))) <| Qp rfl rfl <| Qa rfl <| JL.nil <| Js.blockEnd <| Js.region ?_
   refine Qp rfl rfl <| Qm rfl <| JL.nil ?_
   exact zag ⟨k + 1, (10 * n) + ((M.bat (t.drop 1) k) - 48), rfl, rfl, by rw [hN, M.numN, hT], by exact hD2, zt, rfl⟩ x4
  have hke : k = (M.numT t).length := Nat.le_antisymm hk (by rw [hT]; have := h5'; omega)
  have hdg := M.digs_yes hD (by omega)
  rw [hke] at hN
  refine zx ?_
  refine Js.seq <| zS <| Qm rfl <| Qq (p_lenS und_9 rfl) <| Qm rfl <| Qq (p_lenS und_9 rfl) <| Ql rfl rfl <| JL.nil ?_
  refine zi (fun h9 h9' => ?_) fun h9 h9' => ?_
  ·
   have hS : M.numS t = -n := by rw [hN]; exact M.numS_neg (by rw [hT]; have := h9'; omega)
   refine Js.region <| Qm rfl <| Qq (p_neg (r := -n) rfl (by rw [Int.zero_sub]; exact IntWalk.i64_in _ (by omega))) <| Qa rfl <| zJ <| zS <| Qm rfl <| zv rfl (fun w hw => c_impl_Decimal (-n) (ok_ hw)) <| Qm rfl <| Qq (p_neqT und_9 rfl rfl) <| JL.nil ?_
   refine zi (fun h10 h10' => ?_) fun h10 h10' => ?_
   ·
    have hE := M.num_no (s := t) (by rw [hS]; simpa using h10)
    refine zS <| Qa rfl <| Qa rfl <| JL.nil ?_
    refine zR x4 ?_
    first | (rw [hE]; rfl) | (rw [hE, hS]; rfl)
   have hE := M.num_yes hl9 hdg (by rw [hS]; simpa using h10)
   refine Js.skip <| zS <| Qm rfl <| Qa rfl <| Qa rfl <| JL.nil ?_
   refine zR x4 ?_
   first | (rw [hE]; rfl) | (rw [hE, hS]; rfl)
  have hS : M.numS t = n := by rw [hN]; exact M.numS_pos (by rw [hT]; have := h9'; omega)
  refine Js.skip <| Js.seq <| zS <| Qm rfl <| zv rfl (fun w hw => c_impl_Decimal n (ok_ hw)) <| Qm rfl <| Qq (p_neqT und_9 rfl rfl) <| JL.nil ?_
  refine zi (fun h11 h11' => ?_) fun h11 h11' => ?_
  ·
   have hE := M.num_no (s := t) (by rw [hS]; simpa using h11)
   refine zS <| Qa rfl <| Qa rfl <| JL.nil ?_
   refine zR x4 ?_
   first | (rw [hE]; rfl) | (rw [hE, hS]; rfl)
  have hE := M.num_yes hl9 hdg (by rw [hS]; simpa using h11)
  refine Js.skip <| zS <| Qm rfl <| Qa rfl <| Qa rfl <| JL.nil ?_
  refine zR x4 ?_
  first | (rw [hE]; rfl) | (rw [hE, hS]; rfl)
 have hT : M.numT t = t := M.numT_n (by have h9 := h2; simp at h9; intro ⟨a, b⟩; exact h9 (List.length_pos_iff.2 a) b)
 refine Js.skip <| Js.seq <| zS <| Qm rfl <| Qq (p_lenS und_9 rfl) <| Qe rfl rfl <| Qm rfl <| zg (Gd.f1 rfl rfl rfl) (fun hc => p_move rfl) <| zg (Gd.f1 rfl rfl rfl) (fun hc => p_lenS und_9 (gh hc rfl)) <| zg (Gd.f1 rfl rfl rfl) (fun hc => p_gtr (gh hc rfl) rfl) <| Qq (p_pickOr rfl rfl rfl) <| JL.nil ?_
 refine zi (fun h12 h12' => ?_) fun h12 h12' => ?_
 ·
  have hE := M.num_len (s := t) (by rw [hT]; have h9 := h12; simp at h9; omega)
  refine zS <| Qa rfl <| Qa rfl <| JL.nil ?_
  refine zR (Up.refl _ _) ?_
  first | (rw [hE]; rfl) | (rw [hE, hS]; rfl)
 have hl9 : ¬ ((M.numT t).length < 1 ∨ 18 < (M.numT t).length) := by rw [hT]; have h9 := h12; simp at h9; omega
 refine Js.skip <| zS <| Qa rfl <| zJ <| zS <| Qm rfl <| Qq (p_lenS und_9 rfl) <| Qm rfl <| JL.nil <| Js.block ?_
 refine zl [0, 4, 27] (fun F U l os u m => ∃ (k : Nat) (n : Int), l = F [(5, .int .i64 n), (28, .int .i64 (k : Int))] ∧ os = U [] ∧ (n = M.numN (M.numT t) k) ∧ (M.Digs (M.numT t) k) ∧ (k ≤ (M.numT t).length) ∧ m = (M.numT t).length - k) ⟨0, 0, rfl, rfl, by rfl, by exact M.Digs.zero _, zt, rfl⟩ ?_
 rintro _ _ u13 _ ⟨k, n, rfl, rfl, hN, hD, hk, rfl⟩ x13
 refine zn ?_
 obtain ⟨n1, n2⟩ := M.numN_18 hD (by omega)
 rw [← hN] at n1 n2
 refine zS <| Ql rfl rfl <| zJ ?_
 refine zi (fun h14 h14' => ?_) fun h14 h14' => ?_
 ·
  have hkk : k < (M.numT t).length := by rw [hT]; have := h14'; omega
  obtain ⟨n3, n4⟩ := M.numN_17 hD (by omega)
  rw [← hN] at n3 n4
  have hbt15 := M.bat_bd t k
  refine Js.skip <| Js.seq <| Js.block <| zS <| Qm rfl <| Qa rfl <| zJ <| zS <| Qm rfl <| Qm rfl <| Qq (p_byteS (i := k) und_9 rfl rfl (by omega)) <| zv rfl (fun w hw => c_impl_isDigit (M.bat t k)) <| Qt rfl <| JL.nil ?_
  refine zi (fun h16 h16' => ?_) fun h16 h16' => ?_
  ·
   have hE := M.num_dig (M.digs_no hkk (by rw [hT]; simpa using h16))
   refine zS <| Qa rfl <| Qa rfl <| JL.nil ?_
   refine zR x13 ?_
   first | (rw [hE]; rfl) | (rw [hE, hS]; rfl)
  have hd : M.isDig (M.bat (M.numT t) k) = true := by rw [hT]; simpa using h16
  have hD2 := hD.step hd
  obtain ⟨d1, d2⟩ := M.dig_bd hd
  rw [hT] at d1 d2
  have hbt17 := M.bat_bd t k
  refine Js.skip <| Js.region <| Qm rfl <| Qu rfl rfl <| Qm rfl <| Qm rfl <| Qq (p_byteS (i := k) und_9 rfl rfl (by omega)) <| Qq (p_sub rfl rfl (IntWalk.u8_in _ (by omega))) <| Qq (p_conv @Tryz.underlying5 @Tryz.underlying2 rfl (IntWalk.i64_in _ (by omega))) <| Qp rfl rfl <| Qa rfl <| JL.nil <| Js.blockEnd <| Js.region ?_
  refine Qp rfl rfl <| Qm rfl <| JL.nil ?_
  exact zag ⟨k + 1, (10 * n) + ((M.bat t k) - 48), rfl, rfl, by rw [hN, M.numN, hT], by exact hD2, zt, rfl⟩ x13
 have hke : k = (M.numT t).length := Nat.le_antisymm hk (by rw [hT]; have := h14'; omega)
 have hdg := M.digs_yes hD (by omega)
 rw [hke] at hN
 refine zx ?_
 refine Js.seq <| zS <| Qm rfl <| Qq (p_lenS und_9 rfl) <| Qm rfl <| Qq (p_lenS und_9 rfl) <| Ql rfl rfl <| JL.nil ?_
 refine zi (fun h18 h18' => ?_) fun h18 h18' => ?_
 ·
  have hS : M.numS t = -n := by rw [hN]; exact M.numS_neg (by rw [hT]; have := h18'; omega)
  refine Js.region <| Qm rfl <| Qq (p_neg (r := -n) rfl (by rw [Int.zero_sub]; exact IntWalk.i64_in _ (by omega))) <| Qa rfl <| zJ <| zS <| Qm rfl <| zv rfl (fun w hw => c_impl_Decimal (-n) (ok_ hw)) <| Qm rfl <| Qq (p_neqT und_9 rfl rfl) <| JL.nil ?_
  refine zi (fun h19 h19' => ?_) fun h19 h19' => ?_
  ·
   have hE := M.num_no (s := t) (by rw [hS]; simpa using h19)
   refine zS <| Qa rfl <| Qa rfl <| JL.nil ?_
   refine zR x13 ?_
   first | (rw [hE]; rfl) | (rw [hE, hS]; rfl)
  have hE := M.num_yes hl9 hdg (by rw [hS]; simpa using h19)
  refine Js.skip <| zS <| Qm rfl <| Qa rfl <| Qa rfl <| JL.nil ?_
  refine zR x13 ?_
  first | (rw [hE]; rfl) | (rw [hE, hS]; rfl)
 have hS : M.numS t = n := by rw [hN]; exact M.numS_pos (by rw [hT]; have := h18'; omega)
 refine Js.skip <| Js.seq <| zS <| Qm rfl <| zv rfl (fun w hw => c_impl_Decimal n (ok_ hw)) <| Qm rfl <| Qq (p_neqT und_9 rfl rfl) <| JL.nil ?_
 refine zi (fun h20 h20' => ?_) fun h20 h20' => ?_
 ·
  have hE := M.num_no (s := t) (by rw [hS]; simpa using h20)
  refine zS <| Qa rfl <| Qa rfl <| JL.nil ?_
  refine zR x13 ?_
  first | (rw [hE]; rfl) | (rw [hE, hS]; rfl)
 have hE := M.num_yes hl9 hdg (by rw [hS]; simpa using h20)
 refine Js.skip <| zS <| Qm rfl <| Qa rfl <| Qa rfl <| JL.nil ?_
 refine zR x13 ?_
 first | (rw [hE]; rfl) | (rw [hE, hS]; rfl)
theorem c_impl_cut (s sep : List UInt8) {w : World} (r0 : s.length ≤ 4194304 := by exact om_) (r1 : sep.length ≤ 4194304 := by exact om_) : RetV Tryz.prog 108 [.string (sB s), .string (sB sep)] w (.tuple #[.string (sB ((M.cutS s sep).1)), .string (sB ((M.cutS s sep).2.1)), .bool ((M.cutS s sep).2.2)]) := by
 refine enter @Tryz.func108 @Tryz.ntmps108 rfl rfl ?_
 refine zent ?_
 refine zS <| Qa rfl <| Qa rfl <| Qa rfl <| zJ <| zS <| Qa rfl <| JL.nil <| Js.block ?_
 refine zl [0, 1] (fun F U l os u m => ∃ (k : Nat), l = F [(7, .int .i64 (k : Int))] ∧ os = U [] ∧ (k ≤ s.length + 1) ∧ (∀ i, i < k → (s.drop i).take sep.length ≠ sep) ∧ m = s.length + 1 - k) ⟨0, rfl, rfl, zt, by exact fun i h => absurd h (by omega), rfl⟩ ?_
 rintro _ _ u1 _ ⟨k, rfl, rfl, hk, hn, rfl⟩ x1
 refine zn ?_
 refine Js.seq <| zS <| Qm rfl <| Qm rfl <| Qq (p_lenS und_9 rfl) <| Qp rfl rfl <| Qm rfl <| Qq (p_lenS und_9 rfl) <| Qk rfl rfl <| JL.nil ?_
 refine zi (fun h2 h2' => ?_) fun h2 h2' => ?_
 ·
  have hks : k + sep.length ≤ s.length := by have := h2'; omega
  refine Js.skip <| Js.seq <| Js.block <| zS <| Qm rfl <| Qm rfl <| Qm rfl <| Qm rfl <| Qq (p_lenS und_9 rfl) <| Qp rfl rfl <| Qq (p_midS (i := k) (j := k + sep.length) und_9 rfl rfl rfl (by omega) (by omega)) <| Qm rfl <| Qq (p_eqlT und_9 rfl rfl) <| JL.nil ?_
  refine zi (fun h3 h3' => ?_) fun h3 h3' => ?_
  ·
   have hE := M.cutS_yes hks (by have h9 := h3; simp at h9; exact h9) hn
   refine Js.seq ?_
   refine zdr [] ?_
   refine jM 0 rfl rfl ?_
   refine jM 1 rfl rfl ?_
   refine JH.p 2 rfl (p_takeS (i := k) und_9 rfl rfl (by omega)) ?_
   refine jM 3 rfl rfl ?_
   refine jM 4 rfl rfl ?_
   refine jM 5 rfl rfl ?_
   refine JH.p 6 rfl (p_lenS und_9 rfl) ?_
   refine JH.p 7 rfl (p_add rfl rfl (IntWalk.i64_in _ (by omega))) ?_
   refine JH.p 8 rfl (p_dropS (i := k + sep.length) und_9 rfl rfl (by omega)) ?_
   refine jA 9 rfl rfl ?_
   refine jA 10 rfl rfl ?_
   refine jA 11 rfl rfl ?_
   refine yd ?_
   refine zR x1 ?_
   rw [hE]; rfl
  have hn2 := M.miss_step hn (by have h9 := h3; simp at h9; exact h9)
  refine Js.skip <| Js.blockEnd <| Js.region <| Qm rfl <| Qp rfl rfl <| Qa rfl <| JL.nil ?_
  exact zag ⟨k + 1, rfl, rfl, zt, by exact hn2, rfl⟩ x1
 have hE := M.cutS_no (k := k) (by have := h2'; omega) hn
 refine zx ?_
 refine zS <| Qm rfl <| Qa rfl <| Qa rfl <| Qa rfl <| JL.nil ?_
 refine zR x1 ?_
 rw [hE]; rfl
theorem c_impl_parts (s : List UInt8) {w : World} (r0 : s.length ≤ 4194304 := by exact om_) : Ret Tryz.prog 51 [.string (sB s)] w (Ty.strs 9 (M.split 32 s)) := by
 refine enter @Tryz.func51 @Tryz.ntmps51 rfl rfl ?_
 refine zent ?_
 refine zS <| Qa rfl <| zN <| zbs fun b1 => ?_
 refine Qa rfl <| JL.nil <| Js.block ?_
 refine zl [] (fun F U l os u m => ∃ (cur : List UInt8) (out : List (List UInt8)) (A3_3 : Option Addr) (c3_3 : Nat) (g3_3 : List Nat), l = F [(0, .string (sB cur)), (3, .slice A3_3 out.length c3_3)] ∧ os = U [some (rowO 9 1 (.slice A3_3 out.length c3_3) out.length (txs_ out) g3_3)] ∧ (out ++ M.split 32 cur = M.split 32 s) ∧ (cur.length ≤ s.length) ∧ (out.length ≤ c3_3) ∧ (c3_3 ≤ 9223372036854775807) ∧ m = cur.length) ⟨s, [], _, _, _, rfl, rfl, by rfl, by exact Nat.le_refl _, zu, zu, rfl⟩ ?_
 rintro _ _ u3 _ ⟨cur, out, A3_3, c3_3, g3_3, rfl, rfl, hP, hl, f3_2, f3_3, rfl⟩ x3
 refine zn ?_
 have hl3 := M.parts_len hP
 have hcl := M.cutS_len cur [32]
 refine Js.block <| zS <| Qm rfl <| zv rfl (fun w hw => c_impl_cut cur ([32] : List UInt8)) <| Qm rfl <| Qx rfl rfl <| Qx rfl rfl <| Qx rfl rfl <| Qa rfl <| Qa rfl <| Qa rfl <| zN <| Qm rfl <| Qm rfl ?_
 refine zbs fun b4 => ?_
 refine JL.e (e_append (i := 1) (n' := (out ++ ([(M.cutS cur ([32] : List UInt8)).1])).length) (vs' := txs_ (out ++ ([(M.cutS cur ([32] : List UInt8)).1]))) el_31 rfl rfl rfl rfl (src_row (i := 0) und_31 rfl rfl) (by omega) (by omega) ln2_ (by first | rfl | (simp [txs_]; done))) ?_
 rintro v6 _ _ ⟨⟨g7, rfl⟩, rfl⟩ _
 refine JL.fact (row_form' (i := 1) rfl) (fun hf8 => ?_)
 obtain ⟨A8, c8, rfl, bl8, bh8⟩ := hf8
 refine znl ?_
 refine Qa rfl <| zJ <| zS <| Qm rfl <| Qt rfl <| JL.nil ?_
 refine zi (fun h9 h9' => ?_) fun h9 h9' => ?_
 ·
  have hE := M.parts_last hP (by simpa using h9)
  have hq0 : (out ++ ([(M.cutS cur ([32] : List UInt8)).1])) = M.split 32 s := by exact hE
  refine zS <| Qm rfl <| Qa rfl <| JL.nil ?_
  exact zro x3 (g := by exact (gv_strsE (ys := out ++ ([(M.cutS cur ([32] : List UInt8)).1])) po_ (by assumption) (by rfl)))
 have hP2 := M.parts_more hP (by simpa using h9)
 have hP3 := hP2.2
 refine Js.skip <| Js.region <| Qm rfl <| Qa rfl <| JL.nil <| Js.blockEnd ?_
 refine zd [1] rfl fun u10 x10 => ?_
 exact zag ⟨(M.cutS cur ([32] : List UInt8)).2.1, out ++ ([(M.cutS cur ([32] : List UInt8)).1]), _, _, _, rfl, rfl, by exact hP2.1, by omega, zu, zu, rfl⟩ (x3.trans x10)
theorem c_impl_SameFacts (a : List M.Fct) {v_a : Value} (b : List M.Fct) {v_b : Value} {w : World} (h_a : (Ty.sl 37 3 a.length (lFact a)).ok w v_a) (h_b : (Ty.sl 37 3 b.length (lFact b)).ok w v_b) (r0 : a.length ≤ 4194304 := by exact om_) (r1 : b.length ≤ 4194304 := by exact om_) : RetV Tryz.prog 21 [v_a, v_b] w (.bool (decide (a = b))) := by
 revert v_a; apply opn
 intro A1 c1 h1 bl1 bh1
 have h_a := h1
 revert v_b; apply opn
 intro A2 c2 h2 bl2 bh2
 have h_b := h2
 refine enter @Tryz.func21 @Tryz.ntmps21 rfl rfl ?_
 refine zent ?_
 refine zS <| Qa rfl <| zJ <| zS <| Qm rfl <| Qz rfl <| Qm rfl <| Qz rfl <| Qd rfl rfl <| JL.nil ?_
 refine zi (fun h3 h3' => ?_) fun h3 h3' => ?_
 ·
  have e1 : decide (a = b) = false := by simp; rintro rfl; simp at h3
  refine zS <| Qa rfl <| JL.nil ?_
  refine zR (Up.refl _ _) ?_
  simp [outV, e1]
 have hlen : a.length = b.length := by have := h3'; omega
 refine Js.skip <| Js.seq <| zS <| Qm rfl <| Qz rfl <| Qm rfl <| JL.nil <| Js.block ?_
 refine zl [0, 1, 12] (fun F U l os u m => ∃ (k : Nat), l = F [(13, .int .i64 (k : Int))] ∧ os = U [] ∧ (k ≤ a.length) ∧ (a.take k = b.take k) ∧ m = a.length - k) ⟨0, rfl, rfl, zt, by rfl, rfl⟩ ?_
 rintro _ _ u4 _ ⟨k, rfl, rfl, hk, hU, rfl⟩ x4
 refine zn ?_
 refine zS <| Ql rfl rfl <| zJ ?_
 refine zi (fun h5 h5' => ?_) fun h5 h5' => ?_
 ·
  obtain ⟨ye6, hye6⟩ : ∃ x, a[k]? = some x := ⟨_, List.getElem?_eq_getElem (by omega)⟩
  obtain ⟨ye7, hye7⟩ : ∃ x, b[k]? = some x := ⟨_, List.getElem?_eq_getElem (by omega)⟩
  refine Js.skip <| Js.seq <| Js.block <| zS <| Qm rfl <| Qa rfl <| zJ ?_
  refine zdr [] ?_
  refine jM 0 rfl rfl ?_
  refine jM 1 rfl rfl ?_
  have hy8 := hye6
  obtain ⟨b8, o8, he8, hr8⟩ := elem_Fact (Ty.mono _ h1 x4.vis) hy8
  refine jI 2 el_43 rfl rfl rfl he8 ?_
  refine JH.w 3 rfl (fun os' u' hv => LS 0 (hr8.vis hv) rfl) ?_
  refine jM 4 rfl rfl ?_
  refine jM 5 rfl rfl ?_
  have hy9 := hye7
  obtain ⟨b9, o9, he9, hr9⟩ := elem_Fact (Ty.mono _ h2 x4.vis) hy9
  refine jI 6 el_43 rfl rfl rfl he9 ?_
  refine JH.w 7 rfl (fun os' u' hv => LS 0 (hr9.vis hv) rfl) ?_
  refine JH.p 8 rfl (p_neqS (by kernel_rfl) (fun w => eqs_Fact ye6 ye7 w) rfl rfl) ?_
  refine yd ?_
  refine zi (fun h10 h10' => ?_) fun h10 h10' => ?_
  ·
   have e1 : decide (a = b) = false := decide_eq_false (M.upto_ne hye6 hye7 (by simpa using h10))
   refine zS <| Qa rfl <| JL.nil ?_
   refine zR x4 ?_
   simp [outV, e1]
  have hab : ye6 = ye7 := by simpa using h10
  rw [← hab] at hye7
  have hU2 := M.upto_step hU hye6 hye7
  refine Js.skip <| Js.blockEnd <| Js.region <| Qp rfl rfl <| Qm rfl <| JL.nil ?_
  exact zag ⟨k + 1, rfl, rfl, zt, by exact hU2, rfl⟩ x4
 have e1 : a = b := M.upto_done hU (by have := h5'; omega) (by have := h5'; omega)
 refine zx ?_
 refine zS <| Qa rfl <| JL.nil ?_
 refine zR x4 ?_
 simp [outV, e1]
theorem c_impl_ReadFact (s : List UInt8) {w : World} (h_tab : tabT.ok w undef) (r0 : s.length ≤ 4194304 := by exact om_) : Ret Tryz.prog 15 [.string (sB s)] w (Ty.tup [Ty.agg (cFact ((M.readF s).1)), Ty.bool ((M.readF s).2)]) := by
 have hl6 : M.fkNames.length = 6 := rfl
 refine enter @Tryz.func15 @Tryz.ntmps15 rfl rfl ?_
 refine zent ?_
 have hp4 := M.split_p 32 s
 refine zS <| za zeh fun b1 => Qa rfl <| zN <| Qm rfl <| zp rfl (fun w hw => c_impl_parts s) ?_
 intro u2 x2 A3 c3 h3 bl3 bh3
 refine Qa rfl <| zN <| Qb ?_
 refine za zeh fun b4 => zw 0 rfl rfl rfl ?_
 refine zJ <| zS <| zbs fun b5 => ?_
 refine Qz rfl <| Qm rfl <| JL.nil <| Js.block ?_
 refine zl [0, 2, 4, 5, 11, 12] (fun F U l os u m => ∃ (k : Nat) (kd : Int), l = F [(13, .int .i64 (k : Int))] ∧ os = U [nO, some (boxO b4 [.int .i64 kd, .int .i64 0, .int .i64 0] 37)] ∧ (k ≤ 6) ∧ (kd = M.kindN (M.wn s 0) k) ∧ (0 ≤ kd) ∧ (kd ≤ 6) ∧ m = 6 - k) ⟨0, 0, rfl, rfl, zt, by rfl, zt, zt, rfl⟩ ?_
 rintro _ _ u7 _ ⟨k, kd, rfl, rfl, hk, hkd, hk0, hk9, rfl⟩ x7
 refine zn ?_
 refine zS <| Ql rfl rfl <| zJ ?_
 refine zi (fun h8 h8' => ?_) fun h8 h8' => ?_
 ·
  obtain ⟨y10, hy10⟩ : ∃ x, ([([116, 97, 107, 101] : List UInt8), ([115, 111, 119] : List UInt8), ([99, 97, 112, 116, 117, 114, 101] : List UInt8), ([115, 112, 97, 114, 101] : List UInt8), ([97, 103, 97, 105, 110] : List UInt8), ([116, 117, 114, 110] : List UInt8)] : List (List UInt8))[k]? = some x := ⟨_, List.getElem?_eq_getElem (by simp only [List.length_cons, List.length_nil]; omega)⟩
  obtain ⟨ye11, hye11⟩ : ∃ x, (M.split 32 s)[0]? = some x := ⟨_, List.getElem?_eq_getElem (by omega)⟩
  have hw0 := M.wn_get (s := s) (k := 0) (show (M.split 32 s)[0]? = some ye11 from hye11)
  have hm0 := M.split_mem 32 s _ (List.mem_of_getElem? hye11)
  have hy12 := hye11
  obtain ⟨b12, o12, he12, hc12⟩ := strs_elem (Ty.mono _ h3 x7.vis) hy12
  refine Js.skip <| Js.seq <| Js.block <| zS <| Qm rfl <| Qq (p_indexAddr el_31 rfl rfl (by omega) (by omega) rfl) <| Qw (q_load1 ty_9.h rfl (Mem.row (i := 0) rfl (txs_get' (xs := ([([116, 97, 107, 101] : List UInt8), ([115, 111, 119] : List UInt8), ([99, 97, 112, 116, 117, 114, 101] : List UInt8), ([115, 112, 97, 114, 101] : List UInt8), ([97, 103, 97, 105, 110] : List UInt8), ([116, 117, 114, 110] : List UInt8)])) hy10))) <| Qa rfl <| Qa rfl <| zN <| Qm rfl <| Qq (p_indexAddr el_31 rfl rfl (by omega) (by omega) he12) <| QC hc12 rfl <| Qm rfl ?_
  refine Qq (p_eqlT und_9 rfl rfl) <| JL.nil ?_
  refine zi (fun h13 h13' => ?_) fun h13 h13' => ?_
  ·
   have hkd2 := (M.kindN_t (w := M.wn s 0) (k := k) (show M.fkNames[k]? = some y10 from hy10) (by rw [hw0]; simpa using h13)).symm
   refine Js.region <| Qm rfl <| Qp rfl rfl <| Qf fh rfl <| zw 1 rfl rfl rfl ?_
   refine JL.nil <| Js.blockEnd <| Js.region <| Qp rfl rfl <| Qm rfl <| JL.nil ?_
   exact zag ⟨k + 1, (k : Int) + 1, rfl, rfl, zt, by exact hkd2, zt, zt, rfl⟩ x7
  have hkd2 := (M.kindN_f (w := M.wn s 0) (k := k) (show M.fkNames[k]? = some y10 from hy10) (by rw [hw0]; simpa using h13)).symm
  rw [← hkd] at hkd2
  refine Js.skip <| Js.blockEnd <| Js.region <| Qp rfl rfl <| Qm rfl <| JL.nil ?_
  exact zag ⟨k + 1, kd, rfl, rfl, zt, by exact hkd2, zt, zt, rfl⟩ x7
 have hk6 : k = 6 := by have := h8'; omega
 subst hk6
 have hK := M.kindN_6 (M.wn s 0)
 rw [← hkd] at hK
 have hK := hK.symm
 have hkb := M.kindOf_bd (M.wn s 0)
 rw [hK] at hkb
 refine zx ?_
 refine Js.seq <| zS <| Qm rfl <| Qz rfl <| Qe rfl rfl <| JL.nil ?_
 refine zi (fun h14 h14' => ?_) fun h14 h14' => ?_
 ·
  have hl4 : (M.split 32 s).length = 4 := by have := h14'; omega
  obtain ⟨ye15, hye15⟩ : ∃ x, (M.split 32 s)[1]? = some x := ⟨_, List.getElem?_eq_getElem (by omega)⟩
  have hw1 := M.wn_get (s := s) (k := 1) (show (M.split 32 s)[1]? = some ye15 from hye15)
  have hm1 := M.split_mem 32 s _ (List.mem_of_getElem? hye15)
  have hy16 := hye15
  obtain ⟨b16, o16, he16, hc16⟩ := strs_elem (Ty.mono _ h3 x7.vis) hy16
  obtain ⟨ye17, hye17⟩ : ∃ x, (M.split 32 s)[3]? = some x := ⟨_, List.getElem?_eq_getElem (by omega)⟩
  have hw3 := M.wn_get (s := s) (k := 3) (show (M.split 32 s)[3]? = some ye17 from hye17)
  have hm3 := M.split_mem 32 s _ (List.mem_of_getElem? hye17)
  have hy18 := hye17
  obtain ⟨b18, o18, he18, hc18⟩ := strs_elem (Ty.mono _ h3 x7.vis) hy18
  have hy19 := hye17
  obtain ⟨b19, o19, he19, hc19⟩ := strs_elem (Ty.mono _ h3 x7.vis) hy19
  refine zS <| Qm rfl <| Qq (p_indexAddr el_31 rfl rfl (by omega) (by omega) he16) <| QC hc16 rfl <| zv rfl (fun w hw => c_impl_ReadDecimal ye15 (ok_ hw)) <| Qm rfl <| Qx rfl rfl <| Qx rfl rfl <| Qf fh rfl <| zw 1 rfl rfl rfl ?_
  refine zN <| Qm rfl <| Qq (p_indexAddr el_31 rfl rfl (by omega) (by omega) he18) <| QC hc18 rfl <| zv rfl (fun w hw => c_impl_ReadDecimal ye17 (ok_ hw)) <| Qm rfl <| Qx rfl rfl <| Qx rfl rfl <| Qf fh rfl <| zw 1 rfl rfl rfl ?_
  refine zN <| Qm rfl <| Qq (p_indexAddr el_31 rfl rfl (by omega) (by omega) he19) <| QC hc19 rfl <| Qq (p_eqlT und_9 rfl rfl) <| JL.nil ?_
  refine zi (fun h20 h20' => ?_) fun h20 h20' => ?_
  ·
   have hP : (if M.wn s 3 = [115, 116, 111, 114, 101] then -1 else (M.num (M.wn s 3)).1) = -1 := by rw [hw3]; exact if_pos (by simpa using h20)
   have hf9 : M.facI s = (M.Fct.mk kd (-1) ((M.num ye15).1)) := by first | exact (M.facI_n hn4 hK) | (rw [M.facI_4 hl4 hK hP, hw1]; done) | (rw [M.facI_4 hl4 hK hP, hw1, hw3]; done)
   have hfb := M.facI_bd s
   rw [hf9] at hfb
   refine Js.region <| Qf fh rfl <| zw 1 rfl rfl rfl ?_
   refine zJ <| Js.seq ?_
   dsimp only at hfb
   refine Js.region <| Q9 1 rfl rfl ?_
   refine zv rfl (fun w hw => c_impl_FactText (M.Fct.mk kd (-1) ((M.num ye15).1)) (ok_ hw) (ok_ hw) (r0 := (by dsimp only; omega)) (r1 := (by dsimp only; omega)) (r2 := (by dsimp only; omega)) (r3 := (by dsimp only; omega))) <| Qm rfl <| Qq (p_neqT und_9 rfl rfl) <| Qm rfl <| zg (Gd.f1 rfl rfl rfl) (fun hc => p_move rfl) <| zg (Gd.f1 rfl rfl rfl) (fun hc => p_eqlT und_9 (gh hc rfl) rfl) <| Qq (p_pickOr rfl rfl rfl) <| JL.nil ?_
   refine zi (fun h21 h21' => ?_) fun h21 h21' => ?_
   ·
    have hE := M.readF_nI hf9 (fun ⟨q1, q2⟩ => by have h9 := h21; simp [q1, q2] at h9)
    have hq0 : 0 = ((M.readF s).1).kind := rp_ hE
    have hq1 : 0 = ((M.readF s).1).place := rp_ hE
    have hq2 : 0 = ((M.readF s).1).count := rp_ hE
    have hq3 : false = (M.readF s).2 := rp_ hE
    refine zS <| Qb ?_
    refine zw 2 rfl rfl rfl ?_
    refine Qa rfl <| JL.nil ?_
    exact zro (x2.trans x7)
   have hE := M.readF_yI hf9 (by have h9 := h21; simp at h9; exact h9.1) (by have h9 := h21; simp at h9; exact h9.2)
   have hq0 : kd = ((M.readF s).1).kind := rp_ hE
   have hq1 : (-1) = ((M.readF s).1).place := rp_ hE
   have hq2 : ((M.num ye15).1) = ((M.readF s).1).count := rp_ hE
   have hq3 : true = (M.readF s).2 := rp_ hE
   refine Js.skip <| zS <| Q9 1 rfl rfl ?_
   refine zw 2 rfl rfl rfl ?_
   refine Qa rfl <| JL.nil ?_
   exact zro (x2.trans x7)
  have hP : (if M.wn s 3 = [115, 116, 111, 114, 101] then -1 else (M.num (M.wn s 3)).1) = (M.num (M.wn s 3)).1 := if_neg (by rw [hw3]; simpa using h20)
  have hf9 : M.facI s = (M.Fct.mk kd ((M.num ye17).1) ((M.num ye15).1)) := by first | exact (M.facI_n hn4 hK) | (rw [M.facI_4 hl4 hK hP, hw1]; done) | (rw [M.facI_4 hl4 hK hP, hw1, hw3]; done)
  have hfb := M.facI_bd s
  rw [hf9] at hfb
  refine Js.skip <| Js.seq <| Js.seq ?_
  dsimp only at hfb
  refine Js.region <| Q9 1 rfl rfl ?_
  refine zv rfl (fun w hw => c_impl_FactText (M.Fct.mk kd ((M.num ye17).1) ((M.num ye15).1)) (ok_ hw) (ok_ hw) (r0 := (by dsimp only; omega)) (r1 := (by dsimp only; omega)) (r2 := (by dsimp only; omega)) (r3 := (by dsimp only; omega))) <| Qm rfl <| Qq (p_neqT und_9 rfl rfl) <| Qm rfl <| zg (Gd.f1 rfl rfl rfl) (fun hc => p_move rfl) <| zg (Gd.f1 rfl rfl rfl) (fun hc => p_eqlT und_9 (gh hc rfl) rfl) <| Qq (p_pickOr rfl rfl rfl) <| JL.nil ?_
  refine zi (fun h22 h22' => ?_) fun h22 h22' => ?_
  ·
   have hE := M.readF_nI hf9 (fun ⟨q1, q2⟩ => by have h9 := h22; simp [q1, q2] at h9)
   have hq0 : 0 = ((M.readF s).1).kind := rp_ hE
   have hq1 : 0 = ((M.readF s).1).place := rp_ hE
   have hq2 : 0 = ((M.readF s).1).count := rp_ hE
   have hq3 : false = (M.readF s).2 := rp_ hE
   refine zS <| Qb ?_
   refine zw 2 rfl rfl rfl ?_
   refine Qa rfl <| JL.nil ?_
   exact zro (x2.trans x7)
  have hE := M.readF_yI hf9 (by have h9 := h22; simp at h9; exact h9.1) (by have h9 := h22; simp at h9; exact h9.2)
  have hq0 : kd = ((M.readF s).1).kind := rp_ hE
  have hq1 : ((M.num ye17).1) = ((M.readF s).1).place := rp_ hE
  have hq2 : ((M.num ye15).1) = ((M.readF s).1).count := rp_ hE
  have hq3 : true = (M.readF s).2 := rp_ hE
  refine Js.skip <| zS <| Q9 1 rfl rfl ?_
  refine zw 2 rfl rfl rfl ?_
  refine Qa rfl <| JL.nil ?_
  exact zro (x2.trans x7)
 have hn4 : ¬ (M.split 32 s).length = 4 := by have := h14'; omega
 have hf9 : M.facI s = (M.Fct.mk kd 0 0) := by first | exact (M.facI_n hn4 hK) | (rw [M.facI_4 hl4 hK hP, hw1]; done) | (rw [M.facI_4 hl4 hK hP, hw1, hw3]; done)
 have hfb := M.facI_bd s
 rw [hf9] at hfb
 refine Js.skip <| Js.seq <| Js.seq ?_
 dsimp only at hfb
 refine Js.region <| Q9 1 rfl rfl ?_
 refine zv rfl (fun w hw => c_impl_FactText (M.Fct.mk kd 0 0) (ok_ hw) (ok_ hw) (r0 := (by dsimp only; omega)) (r1 := (by dsimp only; omega)) (r2 := (by dsimp only; omega)) (r3 := (by dsimp only; omega))) <| Qm rfl <| Qq (p_neqT und_9 rfl rfl) <| Qm rfl <| zg (Gd.f1 rfl rfl rfl) (fun hc => p_move rfl) <| zg (Gd.f1 rfl rfl rfl) (fun hc => p_eqlT und_9 (gh hc rfl) rfl) <| Qq (p_pickOr rfl rfl rfl) <| JL.nil ?_
 refine zi (fun h23 h23' => ?_) fun h23 h23' => ?_
 ·
  have hE := M.readF_nI hf9 (fun ⟨q1, q2⟩ => by have h9 := h23; simp [q1, q2] at h9)
  have hq0 : 0 = ((M.readF s).1).kind := rp_ hE
  have hq1 : 0 = ((M.readF s).1).place := rp_ hE
  have hq2 : 0 = ((M.readF s).1).count := rp_ hE
  have hq3 : false = (M.readF s).2 := rp_ hE
  refine zS <| Qb ?_
  refine zw 2 rfl rfl rfl ?_
  refine Qa rfl <| JL.nil ?_
  exact zro (x2.trans x7)
 have hE := M.readF_yI hf9 (by have h9 := h23; simp at h9; exact h9.1) (by have h9 := h23; simp at h9; exact h9.2)
 have hq0 : kd = ((M.readF s).1).kind := rp_ hE
 have hq1 : 0 = ((M.readF s).1).place := rp_ hE
 have hq2 : 0 = ((M.readF s).1).count := rp_ hE
 have hq3 : true = (M.readF s).2 := rp_ hE
 refine Js.skip <| zS <| Q9 1 rfl rfl ?_
 refine zw 2 rfl rfl rfl ?_
 refine Qa rfl <| JL.nil ?_
 exact zro (x2.trans x7)
theorem c_laws_f6big (code : Nat) {v_code : Value} {w : World} (h_code : (Ty.bytes 5 code).ok w v_code) : RetV Tryz.prog 7 [v_code] w (.bool (decide (4096 < (code : Int)))) := by
 revert v_code; apply opn
 intro A1 c1 h1 bl1 bh1
 have h_code := h1
 refine enter @Tryz.func7 @Tryz.ntmps7 rfl rfl ?_
 refine zent ?_
 refine zS <| Qa rfl <| zN <| Qm rfl <| Qz rfl <| Qg rfl rfl <| Qa rfl <| JL.nil ?_
 exact zr (Up.refl _ _)
theorem c_laws_f6texts (a : List (List UInt8)) {v_a : Value} (b : List (List UInt8)) {v_b : Value} {w : World} (h_a : (Ty.strs 9 a).ok w v_a) (h_b : (Ty.strs 9 b).ok w v_b) (r0 : a.length ≤ 4194304 := by exact om_) (r1 : b.length ≤ 4194304 := by exact om_) : RetV Tryz.prog 19 [v_a, v_b] w (.bool (decide (a = b))) := by
 revert v_a; apply opn
 intro A1 c1 h1 bl1 bh1
 have h_a := h1
 revert v_b; apply opn
 intro A2 c2 h2 bl2 bh2
 have h_b := h2
 refine enter @Tryz.func19 @Tryz.ntmps19 rfl rfl ?_
 refine zent ?_
 refine zS <| Qa rfl <| zJ <| zS <| Qm rfl <| Qz rfl <| Qm rfl <| Qz rfl <| Qd rfl rfl <| JL.nil ?_
 refine zi (fun h3 h3' => ?_) fun h3 h3' => ?_
 ·
  have e1 : decide (a = b) = false := by simp; rintro rfl; simp at h3
  refine zS <| Qa rfl <| JL.nil ?_
  refine zR (Up.refl _ _) ?_
  simp [outV, e1]
 have hlen : a.length = b.length := by have := h3'; omega
 refine Js.skip <| Js.seq <| zS <| Qa rfl <| JL.nil <| Js.block ?_
 refine zl [0, 1] (fun F U l os u m => ∃ (k : Nat), l = F [(5, .int .i64 (k : Int))] ∧ os = U [] ∧ (k ≤ a.length) ∧ (a.take k = b.take k) ∧ m = a.length - k) ⟨0, rfl, rfl, zt, by rfl, rfl⟩ ?_
 rintro _ _ u4 _ ⟨k, rfl, rfl, hk, hU, rfl⟩ x4
 refine zn ?_
 refine Js.seq <| zS <| Qm rfl <| Qm rfl <| Qz rfl <| Ql rfl rfl <| JL.nil ?_
 refine zi (fun h5 h5' => ?_) fun h5 h5' => ?_
 ·
  obtain ⟨ye6, hye6⟩ : ∃ x, a[k]? = some x := ⟨_, List.getElem?_eq_getElem (by omega)⟩
  have hY := hye6
  obtain ⟨ye7, hye7⟩ : ∃ x, b[k]? = some x := ⟨_, List.getElem?_eq_getElem (by omega)⟩
  have hZ := hye7
  refine Js.skip <| Js.seq <| Js.block <| Js.seq ?_
  refine zdr [] ?_
  refine jM 0 rfl rfl ?_
  refine jM 1 rfl rfl ?_
  have hy8 := hye6
  obtain ⟨b8, o8, he8, hc8⟩ := strs_elem (Ty.mono _ h1 x4.vis) hy8
  refine jI 2 el_31 rfl rfl rfl he8 ?_
  refine jW 3 ty_9 rfl rfl hc8.vis ?_
  refine jM 4 rfl rfl ?_
  refine jM 5 rfl rfl ?_
  have hy9 := hye7
  obtain ⟨b9, o9, he9, hc9⟩ := strs_elem (Ty.mono _ h2 x4.vis) hy9
  refine jI 6 el_31 rfl rfl rfl he9 ?_
  refine jW 7 ty_9 rfl rfl hc9.vis ?_
  refine JH.p 8 rfl (p_neqT und_9 rfl rfl) ?_
  refine yd ?_
  refine zi (fun h10 h10' => ?_) fun h10 h10' => ?_
  ·
   have e1 := M.eqT_no hY hZ (by simpa using h10)
   refine zS <| Qa rfl <| JL.nil ?_
   refine zR x4 ?_
   simp [outV, e1]
  have hab := M.not_ne h10
  refine Js.skip <| Js.blockEnd <| Js.region <| Qm rfl <| Qp rfl rfl <| Qa rfl <| JL.nil ?_
  exact zag ⟨k + 1, rfl, rfl, zt, by exact M.eqT_step hU hY hZ hab, rfl⟩ x4
 have e1 : a = b := M.eqT_end hU (by have := h5'; omega) hlen
 refine zx ?_
 refine zS <| Qa rfl <| JL.nil ?_
 refine zR x4 ?_
 simp [outV, e1]
theorem c_laws_FnReasons (code : Nat) {v_code : Value} {w : World} (h_code : (Ty.bytes 5 code).ok w v_code) (h_tab : tabT.ok w undef) : RetV Tryz.prog 3 [v_code] w (.bool true) := by
 revert v_code; apply opn
 intro A1 c1 h1 bl1 bh1
 have h_code := h1
 refine enter @Tryz.func3 @Tryz.ntmps3 rfl rfl ?_
 refine zent ?_
 refine zS <| Qa rfl <| zJ <| zS <| Qm rfl <| zv rfl (fun w hw => c_laws_f6big code (ok_ hw)) <| JL.nil ?_
 refine zi (fun h2 h2' => ?_) fun h2 h2' => ?_
 ·
  refine zS <| Qa rfl <| JL.nil ?_
  refine zR (Up.refl _ _) ?_
  first | rfl | (simp [outV, e1_]; done) | (simp [outV, hyw_]; omega) | (simp [outV, e3_, e4_, e5_]; done)
 refine Js.skip <| zS <| Qm rfl <| zp rfl (fun w hw => c_spec_DrawExplainMove code (ok_ hw)) ?_
 intro u3 x3 X4 hX4 X5 hX5 A6 c6 h6 bl6 bh6 A7 c7 h7 bl7 bh7 X8 hX8
 have hel := M.explR_len X4 X5 X8
 obtain ⟨w1_, w2_, w3_⟩ := M.why_law X4 X5 X8
 refine Qm rfl <| Qx rfl rfl <| Qx rfl rfl <| Qx rfl rfl <| za zeh fun b9 => za zeh fun b10 => zw 1 rfl rfl rfl ?_
 refine zw 0 rfl rfl rfl ?_
 refine Qa rfl <| zN <| Q9 1 rfl rfl ?_
 refine Q9 0 rfl rfl ?_
 refine Qm rfl <| zp rfl (fun w hw => c_impl_ExplainMove X4 X5 X8 (ok_ hw) (ok_ hw) (ok_ hw)) ?_
 intro u11 x11 A12 c12 h12 bl12 bh12
 refine Qm rfl <| Qx rfl rfl <| Qx rfl rfl <| Qa rfl <| Qa rfl <| zN <| Q9 1 rfl rfl ?_
 refine Q9 0 rfl rfl ?_
 refine Qm rfl <| zp rfl (fun w hw => c_spec_ExplainMove X4 X5 X8 (ok_ hw) (ok_ hw)) ?_
 intro u13 x13 A14 c14 h14 bl14 bh14
 refine Qm rfl <| Qx rfl rfl <| Qx rfl rfl <| Qa rfl <| Qa rfl <| zN <| Q9 1 rfl rfl ?_
 refine Q9 0 rfl rfl ?_
 refine Qm rfl <| zv rfl (fun w hw => c_impl_WhyNot X4 X5 X8 (ok_ hw) (ok_ hw)) <| Qm rfl <| Qx rfl rfl <| Qx rfl rfl <| Qa rfl <| Qa rfl <| zN <| Q9 1 rfl rfl ?_
 refine Q9 0 rfl rfl ?_
 refine Qm rfl <| zv rfl (fun w hw => c_spec_WhyNot X4 X5 X8 (ok_ hw) (ok_ hw)) <| Qm rfl <| Qx rfl rfl <| Qx rfl rfl <| Qa rfl <| Qa rfl <| zN <| Qm rfl <| zp rfl (fun w hw => c_spec_DrawFactText code (ok_ hw)) ?_
 intro u15 x15 X16 hX16
 have hfl := M.factT_len X16
 obtain ⟨v1_, v2_⟩ := M.readF_law X16
 refine za zeh fun b17 => zw 0 rfl rfl rfl ?_
 refine zN <| Q9 0 rfl rfl ?_
 refine zv rfl (fun w hw => c_impl_FactText X16 (ok_ hw) (ok_ hw)) <| Qa rfl <| zN <| Qm rfl <| zp rfl (fun w hw => c_impl_ReadFact (M.factT X16) (ok_ hw)) ?_
 intro u18 x18
 refine Qm rfl <| Qx rfl rfl <| Qx rfl rfl <| za zeh fun b19 => zw 0 rfl rfl rfl ?_
 refine Qa rfl <| zN <| Qm rfl <| zp rfl (fun w hw => c_spec_DrawReadFact code (ok_ hw)) ?_
 intro u20 x20 X21 hX21
 refine Qa rfl <| zN <| Qm rfl <| zp rfl (fun w hw => c_impl_ReadFact X21 (ok_ hw)) ?_
 intro u22 x22
 refine Qm rfl <| Qx rfl rfl <| Qx rfl rfl <| za zeh fun b23 => zw 0 rfl rfl rfl ?_
 refine Qa rfl <| zN <| Qm rfl <| zp rfl (fun w hw => c_spec_ReadFact X21) ?_
 intro u24 x24
 refine Qm rfl <| Qx rfl rfl <| Qx rfl rfl <| za zeh fun b25 => zw 0 rfl rfl rfl ?_
 refine Qa rfl <| zN <| Qm rfl <| zp rfl (fun w hw => c_spec_DrawSameFacts code (ok_ hw)) ?_
 intro u26 x26 X27 hX27 A28 c28 h28 bl28 bh28 X29 hX29 A30 c30 h30 bl30 bh30
 refine Qm rfl <| Qx rfl rfl <| Qx rfl rfl <| Qa rfl <| Qa rfl <| zJ <| zS <| Qm rfl <| Qm rfl <| Qd rfl rfl <| Qm rfl <| zg (Gd.f1 rfl rfl rfl) (fun hc => p_move rfl) <| zg (Gd.f1 rfl rfl rfl) (fun hc => p_move rfl) <| zgv (Gd.f1 rfl rfl rfl) (fun hc => (opds_2 (gh hc rfl) (gh hc rfl))) (fun hc => (fun w hw => c_laws_f6texts ((M.explR X4 X5 X8).1) ((M.explR X4 X5 X8).1) (ok_ hw) (ok_ hw) (r0 := (by have hc9 := hc; (try simp only [Bool.not_eq_true', Bool.not_eq_false', decide_eq_true_eq] at hc9); omega)) (r1 := (by have hc9 := hc; (try simp only [Bool.not_eq_true', Bool.not_eq_false', decide_eq_true_eq] at hc9); omega)))) ?_
 refine zg (Gd.f1 rfl rfl rfl) (fun hc => p_not (gh hc rfl)) <| Qq (p_pickOr rfl rfl rfl) <| Qm rfl <| zg (Gd.f1 rfl rfl rfl) (fun hc => p_move rfl) <| zg (Gd.f1 rfl rfl rfl) (fun hc => p_move rfl) <| zg (Gd.f1 rfl rfl rfl) (fun hc => p_neq (gh hc rfl) (gh hc rfl)) <| Qq (p_pickOr rfl rfl rfl) <| Qm rfl <| zg (Gd.f1 rfl rfl rfl) (fun hc => p_move rfl) <| zg (Gd.f1 rfl rfl rfl) (fun hc => p_move rfl) <| zg (Gd.f1 rfl rfl rfl) (fun hc => p_neqT und_9 (gh hc rfl) (gh hc rfl)) <| Qq (p_pickOr rfl rfl rfl) <| Qm rfl <| zg (Gd.f1 rfl rfl rfl) (fun hc => p_move rfl) ?_
 refine zgq (Gd.f1 rfl rfl rfl) (fun hc => L9 3 rfl rfl) <| zgv (Gd.f1 rfl rfl rfl) (fun hc => (opds_1 (gh hc rfl))) (fun hc => (fun w hw => c_spec_FactText X16 (ok_ hw) (r0 := (by have hc9 := hc; (try simp only [Bool.not_eq_true', Bool.or_eq_false_iff, Bool.not_eq_false', decide_eq_true_eq] at hc9); omega)) (r1 := (by have hc9 := hc; (try simp only [Bool.not_eq_true', Bool.or_eq_false_iff, Bool.not_eq_false', decide_eq_true_eq] at hc9); omega)) (r2 := (by have hc9 := hc; (try simp only [Bool.not_eq_true', Bool.or_eq_false_iff, Bool.not_eq_false', decide_eq_true_eq] at hc9); omega)) (r3 := (by have hc9 := hc; (try simp only [Bool.not_eq_true', Bool.or_eq_false_iff, Bool.not_eq_false', decide_eq_true_eq] at hc9); omega)))) ?_
 refine zg (Gd.f1 rfl rfl rfl) (fun hc => p_neqT und_9 (gh hc rfl) (gh hc rfl)) <| Qq (p_pickOr rfl rfl rfl) <| Qm rfl <| zg (Gd.f1 rfl rfl rfl) (fun hc => p_move rfl) <| zg (Gd.f1 rfl rfl rfl) (fun hc => p_move rfl) <| zg (Gd.f1 rfl rfl rfl) (fun hc => p_neqT und_9 (gh hc rfl) rfl) <| zg (Gd.f1 rfl rfl rfl) (fun hc => p_neqB und_4 (gh hc rfl) (gh hc rfl)) <| Qq (p_pickOr rfl rfl rfl) <| Qm rfl <| zg (Gd.f1 rfl rfl rfl) (fun hc => p_move rfl) <| zg (Gd.f1 rfl rfl rfl) (fun hc => p_move (gh hc rfl)) <| zgq (Gd.t2 rfl rfl rfl) (fun hc => L9 2 rfl rfl) <| zgq (Gd.t2 rfl rfl rfl) (fun hc => L9 3 rfl rfl) <| zg (Gd.t2 rfl rfl rfl) (fun hc => p_neqS (by kernel_rfl) (fun w => eqs_Fact ((M.readF (M.factT X16)).1) X16 w) (gh hc rfl) (gh hc rfl)) ?_
 refine zg (Gd.f1 rfl rfl rfl) (fun hc => p_pickAnd (gh hc rfl) (gvl rfl hc) rfl) <| Qq (p_pickOr rfl rfl rfl) <| Qm rfl <| zg (Gd.f1 rfl rfl rfl) (fun hc => p_move rfl) <| zg (Gd.f1 rfl rfl rfl) (fun hc => p_move rfl) <| zg (Gd.f1 rfl rfl rfl) (fun hc => p_neqB und_4 (gh hc rfl) (gh hc rfl)) <| Qq (p_pickOr rfl rfl rfl) <| Qm rfl <| zgq (Gd.f1 rfl rfl rfl) (fun hc => L9 1 rfl rfl) <| zgq (Gd.f1 rfl rfl rfl) (fun hc => L9 0 rfl rfl) <| zg (Gd.f1 rfl rfl rfl) (fun hc => p_neqS (by kernel_rfl) (fun w => eqs_Fact ((M.readF X21).1) ((M.readF X21).1) w) (gh hc rfl) (gh hc rfl)) <| Qq (p_pickOr rfl rfl rfl) <| Qm rfl <| zg (Gd.f1 rfl rfl rfl) (fun hc => p_move rfl) ?_
 refine zg (Gd.f1 rfl rfl rfl) (fun hc => p_move rfl) <| zgv (Gd.f1 rfl rfl rfl) (fun hc => (opds_2 (gh hc rfl) (gh hc rfl))) (fun hc => (fun w hw => c_impl_SameFacts X27 X29 (ok_ hw) (ok_ hw) (r0 := (by have hc9 := hc; (try simp only [Bool.not_eq_true', Bool.or_eq_false_iff, Bool.not_eq_false', decide_eq_true_eq, Bool.and_eq_false_iff] at hc9); omega)) (r1 := (by have hc9 := hc; (try simp only [Bool.not_eq_true', Bool.or_eq_false_iff, Bool.not_eq_false', decide_eq_true_eq, Bool.and_eq_false_iff] at hc9); omega)))) ?_
 refine zg (Gd.f1 rfl rfl rfl) (fun hc => p_move rfl) <| zg (Gd.f1 rfl rfl rfl) (fun hc => p_move rfl) <| zgv (Gd.f1 rfl rfl rfl) (fun hc => (opds_2 (gh hc rfl) (gh hc rfl))) (fun hc => (fun w hw => c_spec_SameFacts X27 X29 (ok_ hw) (ok_ hw) (r0 := (by have hc9 := hc; (try simp only [Bool.not_eq_true', Bool.or_eq_false_iff, Bool.not_eq_false', decide_eq_true_eq, Bool.and_eq_false_iff] at hc9); omega)) (r1 := (by have hc9 := hc; (try simp only [Bool.not_eq_true', Bool.or_eq_false_iff, Bool.not_eq_false', decide_eq_true_eq, Bool.and_eq_false_iff] at hc9); omega)))) ?_
 refine zg (Gd.f1 rfl rfl rfl) (fun hc => p_neqB und_4 (gh hc rfl) (gh hc rfl)) <| Qq (p_pickOr rfl rfl rfl) <| JL.nil ?_
 refine zi (fun h31 h31' => ?_) fun h31 h31' => ?_
 · have h9 := h31; exact absurd h9 (by cases h8 : (M.readF (M.factT X16)).2 <;> simp_all)
 refine Js.skip <| Js.seq <| zS <| Qm rfl <| Qd rfl rfl <| JL.nil ?_
 refine zi (fun h32 h32' => ?_) fun h32 h32' => ?_
 ·
  have hb0 : ¬ (M.explR X4 X5 X8).2 = 0 := by simpa using h32
  have e1_ := w1_ hb0
  refine zS <| Qm rfl <| Qm rfl <| Qe rfl rfl <| Qa rfl <| JL.nil ?_
  refine zR ((((((((x3.trans x11).trans x13).trans x15).trans x18).trans x20).trans x22).trans x24).trans x26) ?_
  first | rfl | (simp [outV, e1_]; done) | (simp [outV, hyw_]; omega) | (simp [outV, e3_, e4_, e5_]; done)
 have hb0 : (M.explR X4 X5 X8).2 = 0 := by simpa using h32
 refine Js.skip <| Js.seq <| zS <| Qm rfl <| Qe rfl rfl <| JL.nil ?_
 refine zi (fun h33 h33' => ?_) fun h33 h33' => ?_
 ·
  have hw0 : (M.whyR X4 X5 X8).2 = 0 := by simpa using h33
  have e2_ := w2_ hb0 hw0
  have hl1 : (M.explR X4 X5 X8).1.length = 1 := by rw [e2_]; rfl
  obtain ⟨ye34, hye34⟩ : ∃ x, ((M.explR X4 X5 X8).1)[0]? = some x := ⟨_, List.getElem?_eq_getElem (by omega)⟩
  have hyw_ : ye34 = (M.whyR X4 X5 X8).1 := by have h9 := hye34; rw [e2_] at h9; simpa using h9.symm
  have hy35 := hye34
  obtain ⟨b35, o35, he35, hc35⟩ := strs_elem (Ty.mono _ h12 ((((((x13.vis.trans x15.vis).trans x18.vis).trans x20.vis).trans x22.vis).trans x24.vis).trans x26.vis)) hy35
  refine zS <| Qm rfl <| Qz rfl <| Qe rfl rfl <| Qm rfl <| zg (Gd.t1 rfl rfl rfl) (fun hc => p_move rfl) <| zg (Gd.t1 rfl rfl rfl) (fun hc => p_indexAddr el_31 (gh hc rfl) rfl (by omega) (by omega) he35) ?_
  refine zgq (Gd.t1 rfl rfl rfl) (fun hc => q_load1 ty_9.h (gh hc rfl) (Mem.pub hc35)) <| zg (Gd.t1 rfl rfl rfl) (fun hc => p_move rfl) <| zg (Gd.t1 rfl rfl rfl) (fun hc => p_eqlT und_9 (gh hc rfl) (gh hc rfl)) <| Qq (p_pickAnd rfl rfl rfl) <| Qa rfl <| JL.nil ?_
  refine zR ((((((((x3.trans x11).trans x13).trans x15).trans x18).trans x20).trans x22).trans x24).trans x26) ?_
  first | rfl | (simp [outV, e1_]; done) | (simp [outV, hyw_]; omega) | (simp [outV, e3_, e4_, e5_]; done)
 have hw0 : ¬ (M.whyR X4 X5 X8).2 = 0 := by simpa using h33
 obtain ⟨e3_, e4_, e5_⟩ := w3_ hb0 hw0
 rw [M.make_code] at e5_
 refine Js.skip <| zS <| Qm rfl <| Qe rfl rfl <| Qm rfl <| zg (Gd.t1 rfl rfl rfl) (fun hc => p_move rfl) <| zg (Gd.t1 rfl rfl rfl) (fun hc => p_len el_31 (gh hc rfl)) <| zg (Gd.t1 rfl rfl rfl) (fun hc => p_gtr (gh hc rfl) rfl) <| Qq (p_pickAnd rfl rfl rfl) <| Qm rfl <| zgq (Gd.t1 rfl rfl rfl) (fun hc => L9 5 rfl rfl) <| zgq (Gd.t1 rfl rfl rfl) (fun hc => L9 4 rfl rfl) <| zg (Gd.t1 rfl rfl rfl) (fun hc => p_move rfl) <| zgv (Gd.t1 rfl rfl rfl) (fun hc => (opds_3 (gh hc rfl) (gh hc rfl) (gh hc rfl))) (fun hc => (fun w hw => c_impl_MoveFault X4 X5 X8 (ok_ hw) (ok_ hw) (r0 := (by have hc9 := hc; (try simp only [Bool.and_eq_true, decide_eq_true_eq] at hc9); omega)) (r1 := (by have hc9 := hc; (try simp only [Bool.and_eq_true, decide_eq_true_eq] at hc9); omega)))) ?_
 refine zg (Gd.t1 rfl rfl rfl) (fun hc => p_eql (gh hc rfl) rfl) <| Qq (p_pickAnd rfl rfl rfl) <| Qa rfl <| JL.nil ?_
 refine zR ((((((((x3.trans x11).trans x13).trans x15).trans x18).trans x20).trans x22).trans x24).trans x26) ?_
 first | rfl | (simp [outV, e1_]; done) | (simp [outV, hyw_]; omega) | (simp [outV, e3_, e4_, e5_]; done)
end Go.Proofs.YtjgohnaobbphpaaGreatDoor

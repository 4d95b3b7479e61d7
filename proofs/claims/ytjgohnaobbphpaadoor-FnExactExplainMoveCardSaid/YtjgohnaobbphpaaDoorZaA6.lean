/- Walks: G52. -/
import Derived.Test.YtjgohnaobbphpaaDoorZaA3
import Derived.Test.YtjgohnaobbphpaaDoorZaA5
import Derived.Test.YtjgohnaobbphpaaDoorZaA4
import Derived.Test.YtjgohnaobbphpaaDoorZaA2
set_option linter.unusedSimpArgs false
set_option linter.unusedVariables false
set_option maxRecDepth 100000
attribute [local irreducible] Go.Proofs.YtjgohnaobbphpaaDoor.gv
set_option maxHeartbeats 16000000
namespace Go.Proofs.YtjgohnaobbphpaaDoor
open Go.RowKit
theorem c_impl_teller_lap (t_rules : M.Rul) (t_facts : List M.Fct) {At_9 : Option Addr} {ct_9 : Nat} {gt_9 : List Nat} (from_ seeds : Int) (path : List Int) {v_path : Value} {bt : Nat} {w : World} (hb : Bw w [boxO bt [.int .i64 t_rules.pits, .int .i64 t_rules.seeds, .bool t_rules.stores, .bool t_rules.skip, .bool t_rules.relay, .bool t_rules.feed, .bool t_rules.again, .int .i64 t_rules.capture, .int .i64 t_rules.slam, .slice At_9 t_facts.length ct_9] 78, rowO 49 3 (.slice At_9 t_facts.length ct_9) t_facts.length (fltV vcFact t_facts) gt_9]) (h_path : (Ty.ints 2 path).ok (offW w (([boxO bt [.int .i64 t_rules.pits, .int .i64 t_rules.seeds, .bool t_rules.stores, .bool t_rules.skip, .bool t_rules.relay, .bool t_rules.feed, .bool t_rules.again, .int .i64 t_rules.capture, .int .i64 t_rules.slam, .slice At_9 t_facts.length ct_9] 78, rowO 49 3 (.slice At_9 t_facts.length ct_9) t_facts.length (fltV vcFact t_facts) gt_9] : List Own).flatMap (·.fp))) v_path) (bd0 : t_facts.length ≤ ct_9 := by exact om_) (bd1 : ct_9 ≤ 9223372036854775807 := by exact om_) (r0 : t_facts.length ≤ 1000000 := by exact om_) (r1 : path.length ≤ 1000000 := by exact om_) : RetB Tryd.prog 43 [.pointer (some ⟨bt, 0, none⟩), .int .i64 from_, .int .i64 seeds, v_path] w [boxO bt [.int .i64 t_rules.pits, .int .i64 t_rules.seeds, .bool t_rules.stores, .bool t_rules.skip, .bool t_rules.relay, .bool t_rules.feed, .bool t_rules.again, .int .i64 t_rules.capture, .int .i64 t_rules.slam, .slice At_9 t_facts.length ct_9] 78, rowO 49 3 (.slice At_9 t_facts.length ct_9) t_facts.length (fltV vcFact t_facts) gt_9] (fun v bs' => ∃ (Axt_9 : Option Addr) (cxt_9 : Nat) (gxt_9 : List Nat), v = .tuple #[] ∧ bs' = [boxO bt [.int .i64 t_rules.pits, .int .i64 t_rules.seeds, .bool t_rules.stores, .bool t_rules.skip, .bool t_rules.relay, .bool t_rules.feed, .bool t_rules.again, .int .i64 t_rules.capture, .int .i64 t_rules.slam, .slice Axt_9 (((t_facts ++ [M.Fct.mk 1 from_ seeds]) ++ M.addFs [] path).length) cxt_9] 78, rowO 49 3 (.slice Axt_9 (((t_facts ++ [M.Fct.mk 1 from_ seeds]) ++ M.addFs [] path).length) cxt_9) (((t_facts ++ [M.Fct.mk 1 from_ seeds]) ++ M.addFs [] path).length) (fltV vcFact ((t_facts ++ [M.Fct.mk 1 from_ seeds]) ++ M.addFs [] path)) gxt_9] ∧ ((t_facts ++ [M.Fct.mk 1 from_ seeds]) ++ M.addFs [] path).length ≤ cxt_9 ∧ cxt_9 ≤ 9223372036854775807) := by
 revert v_path; apply opn
 intro A1 c1 h1 bl1 bh1
 have h_path := h1
 refine enterB hb @Tryd.func43 @Tryd.ntmps43 rfl rfl ?_
 refine zent ?_
 refine Js.trashE ?_
 refine zn ?_
 refine zS <| Qm rfl <| Qm rfl <| Qc rfl <| Qf fh rfl <| Q0 0 rfl rfl rfl <| Qm rfl <| Qm rfl <| Qb ?_
 refine zbs fun b2 => ?_
 refine JL.e (e_append (i := 2) (n' := (t_facts ++ [(M.Fct.mk 1 from_ seeds)]).length) (vs' := fltV vcFact (t_facts ++ [(M.Fct.mk 1 from_ seeds)])) el_45 rfl rfl rfl rfl (src_row (i := 0) und_45 rfl rfl) (by omega) (by omega) ln2_ (by first | rfl | exact fltV_app _ _ _ | exact fltV_snoc _ _ _ | (simp [fltV]; done))) ?_
 rintro v4 _ _ ⟨⟨g5, rfl⟩, rfl⟩ _
 refine JL.fact (row_form' (i := 2) rfl) (fun hf6 => ?_)
 obtain ⟨A6, c6, rfl, bl6, bh6⟩ := hf6
 refine znl ?_
 refine Qc rfl <| Qf fh rfl <| zw 1 rfl rfl rfl ?_
 refine zN ?_
 refine JL.e (e_mapNewI) ?_
 rintro _ _ _ ⟨b7, rfl, rfl, rfl⟩ _
 refine znl ?_
 refine Qa rfl <| zN <| Qm rfl <| Qz rfl <| Qm rfl <| JL.nil <| Js.block ?_
 refine zl [0, 8, 26, 27] (fun F U l os u m => ∃ (k nF : Nat) (FF cur : List M.Fct) (g : List (Int × Int)) (A8_0_9 : Option Addr) (c8_0_9 : Nat) (g8_0_9 : List Nat) (G8_4 : List Nat), l = F [(28, .int .i64 (k : Int))] ∧ os = U [some (mapI b7 g), nO, some (boxO bt [.int .i64 t_rules.pits, .int .i64 t_rules.seeds, .bool t_rules.stores, .bool t_rules.skip, .bool t_rules.relay, .bool t_rules.feed, .bool t_rules.again, .int .i64 t_rules.capture, .int .i64 t_rules.slam, .slice A8_0_9 nF c8_0_9] 78), some (rowO 49 3 (.slice A8_0_9 nF c8_0_9) nF (fltV vcFact FF) g8_0_9), some (anyO G8_4)] ∧ (FF = (t_facts ++ [M.Fct.mk 1 from_ seeds]) ++ cur) ∧ (M.MapF_ g ((t_facts ++ [M.Fct.mk 1 from_ seeds]).length : Int) cur) ∧ (M.CntB cur k) ∧ (cur = M.addFs [] (path.take k)) ∧ (k ≤ path.length) ∧ (FF.length ≤ t_facts.length + 1 + k) ∧ (FF.length = nF) ∧ (nF ≤ c8_0_9) ∧ (c8_0_9 ≤ 9223372036854775807) ∧ m = path.length - k) ⟨0, _, t_facts ++ [(M.Fct.mk 1 from_ seeds)], [], [], _, _, _, _, rfl, rfl, by simp, by exact M.MapF_.zero _, by exact (fun f h => by simp at h), by rfl, zt, by simp, by rfl, zu, zu, rfl⟩ ?_
 rintro _ _ u8 _ ⟨k, nF, FF, cur, g, A8_0_9, c8_0_9, g8_0_9, G8_4, rfl, rfl, hF, hM, hC, hA, hk, hFl, hn, f8_7, f8_8, rfl⟩ x8
 refine zn ?_
 refine zS <| Ql rfl rfl <| zJ ?_
 refine zi (fun h9 h9' => ?_) fun h9 h9' => ?_
 ·
  have hkl : k < path.length := by have := h9'; omega
  obtain ⟨b10, o10, he10, hc10⟩ := ints_elem (Ty.mono _ h1 x8.vis) (i := k) (by omega)
  refine Js.skip <| Js.seq <| Js.block <| zS <| Qq (p_indexAddr el_24 rfl rfl (by omega) (by omega) he10) <| QC hc10 rfl <| Qa rfl <| zN <| Qm rfl <| Qm rfl <| Qw (q_lookI (i := 0) (g := g) (k := (M.nth path k)) map_104 rfl rfl rfl) <| Qm rfl <| Qx rfl rfl <| Qx rfl rfl ?_
  refine Qa rfl <| Qa rfl <| zJ <| zS <| Qm rfl <| Qt rfl <| JL.nil ?_
  refine zi (fun h11 h11' => ?_) fun h11 h11' => ?_
  ·
   have hm : M.mhas g (M.nth path k) = false := by simpa using h11
   obtain ⟨hf1, hF2, hM2⟩ := M.tel_miss2 hn hF hM hm
   have hf1c : (M.fct (FF ++ [M.Fct.mk 2 (M.nth path k) 0]) nF).count = 0 := by rw [hf1]
   have hfl9 : (FF ++ [M.Fct.mk 2 (M.nth path k) 0]).length = FF.length + 1 := by simp
   refine zS <| Qm rfl <| Qc rfl <| Qf fh rfl <| Q0 2 rfl rfl rfl <| Qz rfl <| Qa rfl <| zN <| Qm rfl <| Qm rfl <| Qm rfl ?_
   refine JL.s (e_mapUpdI (i := 0) (g := g) (k := (M.nth path k)) (v := (nF : Int)) map_104 rfl rfl rfl rfl (hm)) ?_
   rintro _ _ _ ⟨rfl, rfl⟩ _
   refine znl ?_
   refine zG <| Qm rfl <| Qm rfl <| Qc rfl <| Qf fh rfl <| Q0 2 rfl rfl rfl <| Qm rfl <| Qb ?_
   refine zbs fun b12 => ?_
   refine JL.e (e_append (i := 4) (n' := (FF ++ [(M.Fct.mk 2 (M.nth path k) 0)]).length) (vs' := fltV vcFact (FF ++ [(M.Fct.mk 2 (M.nth path k) 0)])) el_45 rfl rfl rfl rfl (src_row (i := 0) und_45 rfl rfl) (by omega) (by omega) ln2_ (by first | rfl | exact fltV_app _ _ _ | exact fltV_snoc _ _ _ | (simp [fltV]; done))) ?_
   rintro v14 _ _ ⟨⟨g15, rfl⟩, rfl⟩ _
   refine JL.fact (row_form' (i := 4) rfl) (fun hf16 => ?_)
   obtain ⟨A16, c16, rfl, bl16, bh16⟩ := hf16
   refine znl ?_
   refine Qc rfl <| Qf fh rfl <| zw 3 rfl rfl rfl ?_
   refine zG <| Qm rfl <| Qc rfl <| Qf fh rfl <| Q0 3 rfl rfl rfl <| Qm rfl ?_
   refine JL.fact (row_some (i := 4) rfl len_) (fun hf18 => ?_)
   obtain ⟨b18, rfl⟩ := hf18
   have hy17 : (FF ++ [(M.Fct.mk 2 (M.nth path k) 0)])[nF]? = some (M.fct (FF ++ [(M.Fct.mk 2 (M.nth path k) 0)]) nF) := M.fct_get len_
   have hy19 : (FF ++ [(M.Fct.mk 2 (M.nth path k) 0)])[nF]? = some (M.fct (FF ++ [(M.Fct.mk 2 (M.nth path k) 0)]) nF) := M.fct_get len_
   refine Qq (p_indexAddr el_45 rfl rfl len_ len_ rfl) <| Qf fh rfl <| Qw (q_load1 ty_2.h rfl (fun w hw => (Mem.rowR' (i := 4) rfl (fltV_at (C := vcFact) (fun _ => rfl) hy17) w hw) 2 _ rfl)) <| Qp rfl rfl <| Qq (p_indexAddr el_45 rfl rfl len_ len_ rfl) <| Qf fh rfl ?_
   refine JL.s (e_storeRow (i := 4) (xs' := fltV vcFact ((FF ++ [(M.Fct.mk 2 (M.nth path k) 0)]).set nF (M.Fct.mk ((M.fct (FF ++ [(M.Fct.mk 2 (M.nth path k) 0)]) nF).kind) ((M.fct (FF ++ [(M.Fct.mk 2 (M.nth path k) 0)]) nF).place) (((M.fct (FF ++ [(M.Fct.mk 2 (M.nth path k) 0)]) nF).count) + 1)))) ty_2.h rfl rfl rfl rfl rfl rfl (fltV_lt (C := vcFact) (j := 2) (fun _ => rfl) len_ (by decide)) (fltV_cell (C := vcFact) (j := 2) (y' := (M.Fct.mk ((M.fct (FF ++ [(M.Fct.mk 2 (M.nth path k) 0)]) nF).kind) ((M.fct (FF ++ [(M.Fct.mk 2 (M.nth path k) 0)]) nF).place) (((M.fct (FF ++ [(M.Fct.mk 2 (M.nth path k) 0)]) nF).count) + 1))) (fun _ => rfl) hy19 (by decide) rfl)) ?_
   rintro _ _ _ ⟨rfl, rfl⟩ _
   refine znl ?_
   refine JL.nil <| Js.blockEnd <| Js.region <| Qp rfl rfl <| Qm rfl <| JL.nil ?_
   refine zf [1, 1, 1, 1] fun GG20 => ?_
   refine zn ?_
   exact zag ⟨k + 1, _, (FF ++ [(M.Fct.mk 2 (M.nth path k) 0)]).set nF (M.Fct.mk ((M.fct (FF ++ [(M.Fct.mk 2 (M.nth path k) 0)]) nF).kind) ((M.fct (FF ++ [(M.Fct.mk 2 (M.nth path k) 0)]) nF).place) (((M.fct (FF ++ [(M.Fct.mk 2 (M.nth path k) 0)]) nF).count) + 1)), (M.addF cur (M.nth path k)), M.mput g (M.nth path k) (nF : Int), _, _, _, _, rfl, rfl, by first | exact hF2 | (rw [hf1]; exact hF2), by exact hM2, by exact hC.add (by omega), by rw [M.take_nth hkl, M.addFs_snoc, ← hA], zt, by first | (simp only [List.length_set, List.length_append, List.length_cons, List.length_nil]; omega) | omega, by first | exact hn | (rw [List.length_set]; exact hn) | (rw [List.length_set]; done) | (simp; done) | (simp; omega), zu, zu, rfl⟩ x8
  have hm1 : M.mhas g (M.nth path k) = true := by simpa using h11
  obtain ⟨hi0, hi1, hc9, hF2, hM2⟩ := M.tel_hit hF hM hC hm1
  have hi2 : M.mval g (M.nth path k) < (nF : Int) := by omega
  refine Js.skip <| Js.region <| Qm rfl <| Qc rfl <| Qf fh rfl <| Q0 2 rfl rfl rfl <| Qm rfl ?_
  refine JL.fact (row_some (i := 3) rfl len_) (fun hf22 => ?_)
  obtain ⟨b22, rfl⟩ := hf22
  have hy21 : FF[(M.mval g (M.nth path k)).toNat]? = some (M.fct FF ((M.mval g (M.nth path k)).toNat)) := M.fct_get len_
  have hy23 : FF[(M.mval g (M.nth path k)).toNat]? = some (M.fct FF ((M.mval g (M.nth path k)).toNat)) := M.fct_get len_
  refine Qq (p_indexAddr el_45 rfl rfl len_ len_ rfl) <| Qf fh rfl <| Qw (q_load1 ty_2.h rfl (fun w hw => (Mem.rowR' (i := 3) rfl (fltV_at (C := vcFact) (fun _ => rfl) hy21) w hw) 2 _ rfl)) <| Qp rfl rfl <| Qq (p_indexAddr el_45 rfl rfl len_ len_ rfl) <| Qf fh rfl ?_
  refine JL.s (e_storeRow (i := 3) (xs' := fltV vcFact (FF.set ((M.mval g (M.nth path k)).toNat) (M.Fct.mk ((M.fct FF ((M.mval g (M.nth path k)).toNat)).kind) ((M.fct FF ((M.mval g (M.nth path k)).toNat)).place) (((M.fct FF ((M.mval g (M.nth path k)).toNat)).count) + 1)))) ty_2.h rfl rfl rfl rfl rfl rfl (fltV_lt (C := vcFact) (j := 2) (fun _ => rfl) len_ (by decide)) (fltV_cell (C := vcFact) (j := 2) (y' := (M.Fct.mk ((M.fct FF ((M.mval g (M.nth path k)).toNat)).kind) ((M.fct FF ((M.mval g (M.nth path k)).toNat)).place) (((M.fct FF ((M.mval g (M.nth path k)).toNat)).count) + 1))) (fun _ => rfl) hy23 (by decide) rfl)) ?_
  rintro _ _ _ ⟨rfl, rfl⟩ _
  refine znl ?_
  refine JL.nil <| Js.blockEnd <| Js.region <| Qp rfl rfl <| Qm rfl <| JL.nil ?_
  exact zag ⟨k + 1, _, FF.set ((M.mval g (M.nth path k)).toNat) (M.Fct.mk ((M.fct FF ((M.mval g (M.nth path k)).toNat)).kind) ((M.fct FF ((M.mval g (M.nth path k)).toNat)).place) (((M.fct FF ((M.mval g (M.nth path k)).toNat)).count) + 1)), (M.addF cur (M.nth path k)), g, _, _, _, _, rfl, rfl, by first | exact hF2 | (rw [hf1]; exact hF2), by exact hM2, by exact hC.add (by omega), by rw [M.take_nth hkl, M.addFs_snoc, ← hA], zt, by first | (simp only [List.length_set, List.length_append, List.length_cons, List.length_nil]; omega) | omega, by first | exact hn | (rw [List.length_set]; exact hn) | (rw [List.length_set]; done) | (simp; done) | (simp; omega), zu, zu, rfl⟩ x8
 have hE : (t_facts ++ [M.Fct.mk 1 from_ seeds]) ++ M.addFs [] path = FF := by rw [hF, hA, List.take_of_length_le (by have := h9'; omega)]
 refine zx ?_
 refine zrbE [2, 2] hb x8 ?_
 have hN10 : ((t_facts ++ [M.Fct.mk 1 from_ seeds]) ++ M.addFs [] path).length = nF := by first | (rw [hE]; exact hn) | (rw [hE]; done)
 have hE10 : ((t_facts ++ [M.Fct.mk 1 from_ seeds]) ++ M.addFs [] path) = FF := by first | exact hE | (rw [hE]; done)
 refine ⟨A8_0_9, c8_0_9, g8_0_9, rfl, ?_, ?_, ?_⟩
 · first | rfl | (dsimp only; rw [hN10, hE10]; done) | (dsimp only; rw [hN10, hE10]; rfl) | (dsimp only; simp only [hN10, hE10]) | (rw [hN10, hE10]; done) | (rw [hN10, hE10]; rfl)
 all_goals (try dsimp only)
 all_goals (first | (rw [hN10, hE10]; omega) | omega | (simp only [*]; omega) | (simp; done))
theorem c_impl_Rules_factsOf (r : M.Rul) {v_r : Value} (p : M.Pos) {v_p : Value} (move : Int) {w : World} (h_r : (Ty.agg (cRules r)).ok w v_r) (h_p : (Ty.agg (cPosition p)).ok w v_p) (r0 : p.pits.length ≤ 4194304 := by exact om_) (r1 : p.stores.length ≤ 4194304 := by exact om_) : Ret Tryd.prog 21 [v_r, v_p, .int .i64 move] w (Ty.tup [Ty.sl 49 3 ((M.factsR r p move).1).length (lFact ((M.factsR r p move).1)), Ty.int ((M.factsR r p move).2)]) := by
 revert v_r; apply opn
 revert v_p; apply opn
 intro A1 c1 h1 bl1 bh1 A2 c2 h2 bl2 bh2
 refine enter @Tryd.func21 @Tryd.ntmps21 rfl rfl ?_
 refine zent ?_
 refine zS <| zb rfl fun b3 => zb rfl fun b4 => Qa rfl <| Qa rfl <| zN <| Q9 1 rfl rfl ?_
 refine Q9 0 rfl rfl ?_
 refine Qm rfl <| zp rfl (fun w hw => c_impl_Rules_resultOf r p move (ok_ hw) (ok_ hw)) ?_
 intro u5 x5 A6 c6 h6 bl6 bh6 A7 c7 h7 bl7 bh7
 refine Qm rfl <| Qx rfl rfl <| Qx rfl rfl <| za zeh fun b8 => zw 0 rfl rfl rfl ?_
 refine Qa rfl <| zJ <| zS <| Qm rfl <| Qd rfl rfl <| JL.nil ?_
 refine zi (fun h9 h9' => ?_) fun h9 h9' => ?_
 ·
  have hE := M.factsR_n (r := r) (p := p) (move := move) (by simpa using h9)
  have hq0 : [] = (M.factsR r p move).1 := by first | (rw [hE, hE2]; rfl) | (rw [hE]; done) | (rw [hE]; rfl)
  have hq1 : ((M.make r p move).2) = (M.factsR r p move).2 := by first | (rw [hE, hE2]; rfl) | (rw [hE]; done) | (rw [hE]; rfl)
  refine zS <| Qm rfl <| Qa rfl <| Qa rfl <| JL.nil ?_
  exact zro x5
 have hm0 : (M.make r p move).2 = 0 := by simpa using h9
 have hz := M.make_sow0 hm0
 obtain ⟨hok, m0, m1, hGs, q0, q1, hsum⟩ := M.sowMove_ok hz
 obtain ⟨g1, g2, g3, g4, g5, g6, g7⟩ := M.okP_bd hok
 have hq := M.mul_bd g7 g1 g2
 have hG0 := M.Good.of_ok hok
 have hT := M.mvT_true hz
 have hc0 : M.sowCode r p move = 0 := by by_cases e : M.sowCode r p move = 0; exact e; (rw [M.sowMove_code e] at hz; exact absurd hz e)
 obtain ⟨_, _, _, hg0⟩ := M.sowCode_ok hc0
 have hE := M.factsR_y hm0
 refine Js.skip <| Js.seq ?_
 refine zk [2, 3, 4, 8] (fun F U l os u => ∃ (b10 b11 : Nat) (A12 : Option Addr) (c12 : Nat) (A13 : Option Addr) (c13 : Nat) (A14 : Option Addr) (c14 : Nat), l = F [(10, .pointer (some ⟨b10, 0, none⟩)), (11, .pointer (some ⟨b11, 0, none⟩))] ∧ os = [boxO b11 [.int .i64 r.pits, .int .i64 r.seeds, .bool r.stores, .bool r.skip, .bool r.relay, .bool r.feed, .bool r.again, .int .i64 r.capture, .int .i64 r.slam, .int .i64 p.player, .slice A12 p.pits.length c12, .slice A13 p.stores.length c13, .int .i64 0, .int .i64 0, .slice A14 (([] : List Int).length) c14] 83, rowO 2 1 (.slice A14 (([] : List Int).length) c14) (([] : List Int).length) (ints_ []) [], rowO 2 1 (.slice A13 p.stores.length c13) p.stores.length (ints_ p.stores) [], rowO 2 1 (.slice A12 p.pits.length c12) p.pits.length (ints_ p.pits) [], boxO b10 [.int .i64 r.pits, .int .i64 r.seeds, .bool r.stores, .bool r.skip, .bool r.relay, .bool r.feed, .bool r.again, .int .i64 r.capture, .int .i64 r.slam, .slice none 0 0] 78] ++ U [] ∧ (p.pits.length ≤ c12) ∧ (c12 ≤ 9223372036854775807) ∧ (p.stores.length ≤ c13) ∧ (c13 ≤ 9223372036854775807) ∧ (([] : List Int).length ≤ c14) ∧ (c14 ≤ 9223372036854775807)) ?_ ?_
 ·
  refine zdr [] ?_
  refine JH.q 0 rfl (L9 2 rfl rfl) ?_
  refine JH.p 1 rfl (q_bld) ?_
  refine JH.q 3 rfl (L9 2 rfl rfl) ?_
  refine JH.q 4 rfl (L9 1 rfl rfl) ?_
  refine y2 2 5 ?_ ?_
  ·
   refine yb rfl rfl fun b21 => ?_
   refine y1 5 ?_
   refine ycs rfl rfl (fun w hw => c_impl_newSowing r p (ok_ hw) (ok_ hw)) ?_
   intro b22 A23 c23 bl23 bh23 A24 c24 bl24 bh24 A25 c25 bl25 bh25
   refine jA 6 rfl rfl ?_
   refine jA 7 rfl rfl ?_
   refine yd ?_
   exact zm ⟨_, _, _, _, _, _, _, _, rfl, rfl, zt, zt, zt, zt, zt, zt⟩ (Up.refl _ _)
  refine ycs rfl rfl (fun w hw => c_impl_newSowing r p (ok_ hw) (ok_ hw)) ?_
  intro b26 A27 c27 bl27 bh27 A28 c28 bl28 bh28 A29 c29 bl29 bh29
  refine y1 2 ?_
  refine yb rfl rfl fun b30 => ?_
  refine jA 6 rfl rfl ?_
  refine jA 7 rfl rfl ?_
  refine yd ?_
  refine zh [1, 1, 1, 1, 0, 0, 0, 0] ?_
  exact zm ⟨_, _, _, _, _, _, _, _, rfl, rfl, zt, zt, zt, zt, zt, zt⟩ (Up.refl _ _)
 rintro _ _ u20 ⟨b10, b11, A12, c12, A13, c13, A14, c14, rfl, rfl, f20_0, f20_1, f20_2, f20_3, f20_4, f20_5⟩ x20
 refine zn ?_
 refine zS <| Q9 7 rfl rfl ?_
 refine Qf fh rfl <| Q0 6 rfl rfl rfl <| Qm rfl <| zv rfl (fun w hw => c_impl_Rules_pitOf r p.player move (ok_ hw)) <| Qa rfl <| zJ <| zS <| Qa rfl <| JL.nil <| Js.block ?_
 refine Js.conv (fun w hw => St.nilRowS 49 3 hw) ?_
 refine zl [3, 4, 8, 10, 11] (fun F U l os u m => ∃ (mo : Bool) (frm : Int) (sw : M.Sw) (path : List Int) (out : List M.Fct) (A31_10_9 : Option Addr) (c31_10_9 : Nat) (g31_10_9 : List Nat) (A31_11_10 : Option Addr) (c31_11_10 : Nat) (g31_11_10 : List Nat) (A31_11_11 : Option Addr) (c31_11_11 : Nat) (g31_11_11 : List Nat) (A31_11_14 : Option Addr) (c31_11_14 : Nat) (g31_11_14 : List Nat), l = F [(12, .int .i64 frm), (13, .bool mo)] ∧ os = U [some (rowO 49 3 (.slice A31_10_9 out.length c31_10_9) out.length (fltV vcFact out) g31_10_9), some (boxO b11 [.int .i64 r.pits, .int .i64 r.seeds, .bool r.stores, .bool r.skip, .bool r.relay, .bool r.feed, .bool r.again, .int .i64 r.capture, .int .i64 r.slam, .int .i64 p.player, .slice A31_11_10 sw.pits.length c31_11_10, .slice A31_11_11 sw.stores.length c31_11_11, .int .i64 sw.last, .int .i64 sw.laps, .slice A31_11_14 path.length c31_11_14] 83), some (rowO 2 1 (.slice A31_11_14 path.length c31_11_14) path.length (ints_ path) g31_11_14), some (rowO 2 1 (.slice A31_11_11 sw.stores.length c31_11_11) sw.stores.length (ints_ sw.stores) g31_11_11), some (rowO 2 1 (.slice A31_11_10 sw.pits.length c31_11_10) sw.pits.length (ints_ sw.pits) g31_11_10), some (boxO b10 [.int .i64 r.pits, .int .i64 r.seeds, .bool r.stores, .bool r.skip, .bool r.relay, .bool r.feed, .bool r.again, .int .i64 r.capture, .int .i64 r.slam, .slice A31_10_9 out.length c31_10_9] 78)] ∧ (M.RunI r p (p.player * r.pits + move) frm sw path mo) ∧ (M.FacI r p (p.player * r.pits + move) frm sw path out) ∧ (out.length ≤ c31_10_9) ∧ (c31_10_9 ≤ 9223372036854775807) ∧ (sw.pits.length ≤ c31_11_10) ∧ (c31_11_10 ≤ 9223372036854775807) ∧ (sw.stores.length ≤ c31_11_11) ∧ (c31_11_11 ≤ 9223372036854775807) ∧ (path.length ≤ c31_11_14) ∧ (c31_11_14 ≤ 9223372036854775807) ∧ m = (101 - sw.laps).toNat) ⟨true, p.player * r.pits + move, (M.Sw.mk p.pits p.stores 0 0), [], [], _, _, _, _, _, _, _, _, _, _, _, _, rfl, rfl, by exact M.RunI.zero (by omega) (by omega) hg0 hG0, by exact M.FacI.zero _ _ _, zu, zu, zu, zu, zu, zu, zu, zu, rfl⟩ ?_
 rintro _ _ u31 _ ⟨mo, frm, sw, path, out, A31_10_9, c31_10_9, g31_10_9, A31_11_10, c31_11_10, g31_11_10, A31_11_11, c31_11_11, g31_11_11, A31_11_14, c31_11_14, g31_11_14, rfl, rfl, hR, hF, f31_2, f31_3, f31_4, f31_5, f31_6, f31_7, f31_8, f31_9, rfl⟩ x31
 refine zn ?_
 have l3 := hR.g.lp
 have l4 := hR.g.ls
 obtain ⟨la0, la1⟩ := hR.l0
 have hpl := hR.pl
 have hol := hF.len
 have hpx := hR.g.pit frm
 refine Js.seq <| zS <| Qm rfl <| JL.nil ?_
 refine Js.fact (row_some (i := 4) rfl (by omega)) (fun hf32 => ?_)
 obtain ⟨b32, rfl⟩ := hf32
 refine zi (fun h33 h33' => ?_) fun h33 h33' => ?_
 ·
  have hmo : mo = true := h33
  have hRt : M.RunI r p (p.player * r.pits + move) frm sw path true := by rw [← hmo]; exact hR
  obtain ⟨w1, w2, w3, w4, w5⟩ := hRt.go rfl
  have hR2 := hRt.lap g2 g1 g7 hT
  have hF2 := hF.lap' w4
  obtain ⟨ha9, hb9, hc9, hd9, he9, hf9⟩ := M.lap_keeps r path g2 g1 g7 w2 w3 hR.g
  have hle9 := M.lap_ge r p.player frm sw path w4
  refine Js.skip <| Js.seq <| Js.block <| Js.seq ?_
  refine zdr [] ?_
  refine jM 0 rfl rfl ?_
  refine jN 1 rfl rfl ?_
  refine jF 2 fld_83_2 rfl rfl ?_
  refine jF 3 fld_63_0 rfl rfl ?_
  refine jB 4 1 ty_24 rfl rfl rfl rfl ?_
  refine jM 5 rfl rfl ?_
  refine jI 6 el_24 rfl rfl rfl rfl ?_
  refine JH.q 7 rfl (q_load1 ty_2.h rfl (Mem.row (i := 4) rfl (ints_getI (i := frm) (by omega)))) ?_
  refine jM 8 rfl rfl ?_
  refine jN 9 rfl rfl ?_
  refine jF 10 fld_83_3 rfl rfl ?_
  refine jB 11 1 ty_24 rfl rfl rfl rfl ?_
  refine JH.p 12 rfl (p_len el_24 rfl) ?_
  refine jA 13 rfl rfl ?_
  refine jA 14 rfl rfl ?_
  refine yd ?_
  refine zS <| Qm rfl <| Qm rfl ?_
  refine zhl [1, 3, 2, 1] ?_
  refine zB 4 sp_ rfl (fun w hb hw => c_impl_sowing_lap r p.player sw path frm hb (r5 := hR.g)) ?_
  rintro _ _ G35 ⟨A35s_10, c35s_10, g35s_10, A35s_11, c35s_11, g35s_11, A35s_14, c35s_14, g35s_14, rfl, rfl, bl35_0, bl35_1, bl35_2, bl35_3, bl35_4, bl35_5⟩
  refine znl ?_
  have hl36 : ((((M.lap r p.player frm sw path).2).drop path.length).take (((M.lap r p.player frm sw path).2).length - path.length)).length = ((M.lap r p.player frm sw path).2).length - path.length := by rw [List.length_take, List.length_drop]; omega
  refine Qa rfl <| zG <| Qm rfl <| Qm rfl <| Qm rfl <| Qm rfl <| Qc rfl <| Qf fh rfl <| Q0 0 rfl rfl rfl <| Qm rfl <| Qq (p_slice (lo' := path.length) (hi' := ((M.lap r p.player frm sw path).2).length) (mx' := c35s_14) el_24 rfl rfl ⟨rfl, rfl⟩ ⟨_, rfl, by omega⟩) ?_
  refine zhl [6, 5] ?_
  refine zB 2 sp_ rfl (fun w hb hw => c_impl_teller_lap r out frm (M.getI sw.pits frm) ((((M.lap r p.player frm sw path).2).drop path.length).take (((M.lap r p.player frm sw path).2).length - path.length)) hb (ints_cut (a := path.length) (b := ((M.lap r p.player frm sw path).2).length) (m := c35s_14) (ints_rowok (xs := ((M.lap r p.player frm sw path).2)) (hw.pr (i := 3) rfl)) (by omega) (by omega) (by omega) (by omega))) ?_
  rintro _ _ G37 ⟨A37t_9, c37t_9, g37t_9, rfl, rfl, bl37_0, bl37_1⟩
  refine znl ?_
  refine JL.nil <| Js.blockEnd <| Js.region <| Qm rfl <| Qc rfl <| Qf fh rfl <| Qf fh rfl <| Q0 3 rfl rfl rfl <| Qa rfl <| JL.nil ?_
  refine zd [1, 2, 4, 3, 2, 0, 2, 2, 2] rfl fun u38 x38 => ?_
  exact zag ⟨M.more r (M.lap r p.player frm sw path).1, ((M.lap r p.player frm sw path).1).last, (M.lap r p.player frm sw path).1, (M.lap r p.player frm sw path).2, ((out ++ [M.Fct.mk 1 frm (M.getI sw.pits frm)]) ++ M.addFs [] ((((M.lap r p.player frm sw path).2).drop path.length).take (((M.lap r p.player frm sw path).2).length - path.length))), _, _, _, _, _, _, _, _, _, _, _, _, rfl, rfl, by exact hR2, by exact hF2, zu, zu, zu, zu, zu, zu, zu, zu, rfl⟩ (x31.trans x38) (by omega)
 have hmo : mo = false := by simpa using h33
 have hRf : M.RunI r p (p.player * r.pits + move) frm sw path false := by rw [← hmo]; exact hR
 obtain ⟨e1, e2⟩ := hRf.mv hz
 have hG := hR.g
 rw [e1] at q0 q1
 have hlo := hF.out e2.symm
 have hcl := M.captured_len (s := sw) (player := p.player) q1 g2
 have htl := M.taken_len (s := sw) (player := p.player) q1 g2
 refine zx ?_
 refine Js.seq ?_
 refine zdr [] ?_
 refine JH.q 0 rfl (L9 8 rfl rfl) ?_
 refine jM 1 rfl rfl ?_
 refine jN 2 rfl rfl ?_
 refine jF 3 fld_83_2 rfl rfl ?_
 refine JH.q 4 rfl (L9 1 rfl rfl) ?_
 refine jF 5 fld_33_2 rfl rfl ?_
 refine jB 6 7 ty_2 rfl rfl rfl rfl ?_
 refine y1 7 ?_
 refine yp rfl rfl (fun w hw => c_impl_Rules_captured r sw p.player (ok_ hw) (ok_ hw) (r3 := hG)) ?_
 intro u39 x39 A40 c40 h40 bl40 bh40
 refine jA 8 rfl rfl ?_
 refine yd ?_
 refine Js.seq <| zS <| Qm rfl <| Qz rfl <| Qm rfl <| JL.nil <| Js.block ?_
 refine zl [3, 4, 8, 10, 11, 16, 85, 86] (fun F U l os u m => ∃ (k : Nat) (o2 : List M.Fct) (A41_10_9 : Option Addr) (c41_10_9 : Nat) (g41_10_9 : List Nat), l = F [(87, .int .i64 (k : Int))] ∧ os = U [some (rowO 49 3 (.slice A41_10_9 o2.length c41_10_9) o2.length (fltV vcFact o2) g41_10_9), nO, nO, nO, nO, some (boxO b10 [.int .i64 r.pits, .int .i64 r.seeds, .bool r.stores, .bool r.skip, .bool r.relay, .bool r.feed, .bool r.again, .int .i64 r.capture, .int .i64 r.slam, .slice A41_10_9 o2.length c41_10_9] 78)] ∧ (o2 = out ++ ((M.captured r sw p.player).take k).map (fun x => M.Fct.mk 3 x (M.getI sw.pits x))) ∧ (k ≤ (M.captured r sw p.player).length) ∧ (o2.length ≤ 20000 + k) ∧ (o2.length ≤ c41_10_9) ∧ (c41_10_9 ≤ 9223372036854775807) ∧ m = (M.captured r sw p.player).length - k) ⟨0, out, _, _, _, rfl, rfl, by simp, zt, by omega, zu, zu, rfl⟩ ?_
 rintro _ _ u41 _ ⟨k, o2, A41_10_9, c41_10_9, g41_10_9, rfl, rfl, hO, hk, hol2, f41_3, f41_4, rfl⟩ x41
 refine zn ?_
 refine zS <| Ql rfl rfl <| zJ ?_
 refine zi (fun h42 h42' => ?_) fun h42 h42' => ?_
 ·
  have hk2 : k < (M.captured r sw p.player).length := by have := h42'; omega
  have hx := M.captured_mem q1 (M.nth_mem hk2)
  have hO2 := M.cap_step hO (M.nth_sm hk2)
  obtain ⟨b43, o43, he43, hc43⟩ := ints_elem (Ty.mono _ h40 x41.vis) (i := k) (by omega)
  refine Js.skip <| Js.seq <| Js.block <| zS <| Qq (p_indexAddr el_24 rfl rfl (by omega) (by omega) he43) <| QC hc43 rfl <| Qa rfl <| JL.nil ?_
  refine zdr [16, 19] ?_
  refine jM 0 rfl rfl ?_
  refine jM 1 rfl rfl ?_
  refine jN 2 rfl rfl ?_
  refine jF 3 fld_78_1 rfl rfl ?_
  refine jB 4 5 ty_45 rfl rfl rfl rfl ?_
  refine jM 5 rfl rfl ?_
  refine jM 6 rfl rfl ?_
  refine jN 7 rfl rfl ?_
  refine jF 8 fld_83_2 rfl rfl ?_
  refine jF 9 fld_63_0 rfl rfl ?_
  refine jB 10 1 ty_24 rfl rfl rfl rfl ?_
  refine jM 11 rfl rfl ?_
  refine jI 12 el_24 rfl rfl rfl rfl ?_
  refine JH.q 13 rfl (q_load1 ty_2.h rfl (Mem.row (i := 4) rfl (ints_getI (i := M.nth (M.captured r sw p.player) k) (by omega)))) ?_
  refine JH.p 14 rfl (q_bld) ?_
  refine y1 15 ?_
  refine ybs rfl fun b45 => ?_
  refine y1 16 ?_
  refine JHo.e rfl (e_append (i := 1) (n' := (o2 ++ [(M.Fct.mk 3 (M.nth (M.captured r sw p.player) k) (M.getI sw.pits (M.nth (M.captured r sw p.player) k)))]).length) (vs' := fltV vcFact (o2 ++ [(M.Fct.mk 3 (M.nth (M.captured r sw p.player) k) (M.getI sw.pits (M.nth (M.captured r sw p.player) k)))])) el_45 rfl rfl rfl rfl (src_row (i := 0) und_45 rfl rfl) (by omega) (by omega) ln2_ (by first | rfl | exact fltV_app _ _ _ | exact fltV_snoc _ _ _ | (simp [fltV]; done))) (.inr rfl) ?_
  rintro v47 _ _ ⟨⟨g48, rfl⟩, rfl⟩ _
  refine JH.fact (row_form' (i := 1) rfl) (fun hf49 => ?_)
  obtain ⟨A49, c49, rfl, bl49, bh49⟩ := hf49
  refine znh ?_
  refine jN 17 rfl rfl ?_
  refine jF 18 fld_78_1 rfl rfl ?_
  refine y1 19 ?_
  refine yst rfl rfl rfl ?_
  refine yd ?_
  refine Js.blockEnd <| Js.region <| Qp rfl rfl <| Qm rfl <| JL.nil ?_
  refine zd [1, 1, 1, 1, 1, 1, 1, 1, 1] rfl fun u50 x50 => ?_
  exact zag ⟨k + 1, o2 ++ [(M.Fct.mk 3 (M.nth (M.captured r sw p.player) k) (M.getI sw.pits (M.nth (M.captured r sw p.player) k)))], _, _, _, rfl, rfl, by exact hO2, zt, by simp only [List.length_append, List.length_cons, List.length_nil]; omega, zu, zu, rfl⟩ (x41.trans x50)
 have hO3 := M.capF_all hO (by have := h42'; omega)
 rw [hlo] at hO3
 refine zx ?_
 refine Js.seq <| Js.seq ?_
 refine zdr [] ?_
 refine JH.q 0 rfl (L9 8 rfl rfl) ?_
 refine jM 1 rfl rfl ?_
 refine jN 2 rfl rfl ?_
 refine jF 3 fld_83_2 rfl rfl ?_
 refine JH.q 4 rfl (L9 1 rfl rfl) ?_
 refine jF 5 fld_33_2 rfl rfl ?_
 refine jB 6 7 ty_2 rfl rfl rfl rfl ?_
 refine y1 7 ?_
 refine yp rfl rfl (fun w hw => c_impl_Rules_taken r sw p.player (ok_ hw) (ok_ hw) (r3 := hG)) ?_
 intro u51 x51 A52 c52 h52 bl52 bh52
 refine jA 8 rfl rfl ?_
 refine yd ?_
 refine zS <| Qm rfl <| Qz rfl <| Qe rfl rfl <| Qm rfl <| zg (Gd.t1 rfl rfl rfl) (fun hc => p_move rfl) <| zg (Gd.t1 rfl rfl rfl) (fun hc => p_len el_24 (gh hc rfl)) <| zg (Gd.t1 rfl rfl rfl) (fun hc => p_gtr (gh hc rfl) rfl) <| Qq (p_pickAnd rfl rfl rfl) <| JL.nil ?_
 refine zi (fun h53 h53' => ?_) fun h53 h53' => ?_
 ·
  have hcn : (M.captured r sw p.player) = [] ∧ (M.taken r sw p.player) ≠ [] := (by have h9 := h53; simp only [Bool.and_eq_true, decide_eq_true_eq] at h9; exact ⟨List.length_eq_zero_iff.1 (by have := h9.1; omega), fun e => by rw [e] at h9; simp at h9⟩)
  refine zS <| Qa rfl <| zJ <| zS <| Qm rfl <| Qz rfl <| Qm rfl <| JL.nil <| Js.block ?_
  refine zl [8, 10, 11, 127, 128] (fun F U l os u m => ∃ (k : Nat) (sm : Int), l = F [(20, .int .i64 sm), (129, .int .i64 (k : Int))] ∧ os = U [] ∧ (sm + M.isum (((M.taken r sw p.player).drop k).map (M.getI sw.pits)) = M.isum ((M.taken r sw p.player).map (M.getI sw.pits))) ∧ (k ≤ (M.taken r sw p.player).length) ∧ (0 ≤ sm) ∧ (sm ≤ 96 * k) ∧ m = (M.taken r sw p.player).length - k) ⟨0, 0, rfl, rfl, by simp, zt, zt, zt, rfl⟩ ?_
  rintro _ _ u54 _ ⟨k, sm, rfl, rfl, hS, hk, t0, t1, rfl⟩ x54
  refine zn ?_
  refine zS <| Ql rfl rfl <| zJ ?_
  refine zi (fun h55 h55' => ?_) fun h55 h55' => ?_
  ·
   have hk2 : k < (M.taken r sw p.player).length := by have := h55'; omega
   have hx := M.taken_mem q1 (M.nth_mem hk2)
   have hv := hG.pit (M.nth (M.taken r sw p.player) k)
   have hS2 := hS
   rw [M.drop_nth hk2, List.map_cons, M.isum_cons, ← Int.add_assoc] at hS2
   obtain ⟨b56, o56, he56, hc56⟩ := ints_elem (Ty.mono _ h52 x54.vis) (i := k) (by omega)
   refine Js.skip <| Js.seq <| Js.block <| zS <| Qq (p_indexAddr el_24 rfl rfl (by omega) (by omega) he56) <| QC hc56 rfl <| Qa rfl <| zG <| Qm rfl <| Qm rfl <| Qc rfl <| Qf fh rfl <| Qf fh rfl <| Q0 1 rfl rfl rfl ?_
   refine Qm rfl <| Qq (p_indexAddr el_24 rfl rfl (by omega) (by omega) rfl) <| Qw (q_load1 ty_2.h rfl (Mem.row (i := 4) rfl (ints_getI (i := M.nth (M.taken r sw p.player) k) (by omega)))) <| Qp rfl rfl <| Qa rfl <| JL.nil <| Js.blockEnd <| Js.region <| Qp rfl rfl <| Qm rfl <| JL.nil ?_
   exact zag ⟨k + 1, sm + (M.getI sw.pits (M.nth (M.taken r sw p.player) k)), rfl, rfl, by exact hS2, zt, zt, zt, rfl⟩ x54
  have hsm : sm = M.isum ((M.taken r sw p.player).map (M.getI sw.pits)) := by rw [← hS, List.drop_eq_nil_of_le (by have := h55'; omega)]; simp
  have hO4 := M.cap_nil hcn hsm hO3
  have hl62 : (o2 ++ [M.Fct.mk 4 sw.last sm]).length = o2.length + 1 := by simp
  refine zx ?_
  refine zdr [13, 16] ?_
  refine jM 0 rfl rfl ?_
  refine jM 1 rfl rfl ?_
  refine jN 2 rfl rfl ?_
  refine jF 3 fld_78_1 rfl rfl ?_
  refine jB 4 5 ty_45 rfl rfl rfl rfl ?_
  refine jM 5 rfl rfl ?_
  refine jN 6 rfl rfl ?_
  refine jF 7 fld_83_2 rfl rfl ?_
  refine jF 8 fld_63_2 rfl rfl ?_
  refine jB 9 1 ty_2 rfl rfl rfl rfl ?_
  refine jM 10 rfl rfl ?_
  refine JH.p 11 rfl (q_bld) ?_
  refine y1 12 ?_
  refine ybs rfl fun b58 => ?_
  refine y1 13 ?_
  refine JHo.e rfl (e_append (i := 1) (n' := (o2 ++ [(M.Fct.mk 4 sw.last sm)]).length) (vs' := fltV vcFact (o2 ++ [(M.Fct.mk 4 sw.last sm)])) el_45 rfl rfl rfl rfl (src_row (i := 0) und_45 rfl rfl) (by omega) (by omega) ln2_ (by first | rfl | exact fltV_app _ _ _ | exact fltV_snoc _ _ _ | (simp [fltV]; done))) (.inr rfl) ?_
  rintro v60 _ _ ⟨⟨g61, rfl⟩, rfl⟩ _
  refine JH.fact (row_form' (i := 1) rfl) (fun hf62 => ?_)
  obtain ⟨A62, c62, rfl, bl62, bh62⟩ := hf62
  refine znh ?_
  refine jN 14 rfl rfl ?_
  refine jF 15 fld_78_1 rfl rfl ?_
  refine y1 16 ?_
  refine yst rfl rfl rfl ?_
  refine yd ?_
  refine zS <| Qb ?_
  refine za zeh fun b63 => zw 0 rfl rfl rfl ?_
  refine zJ <| zS <| Qf fh rfl <| Q0 8 rfl rfl rfl <| JL.nil ?_
  refine zi (fun h64 h64' => ?_) fun h64 h64' => ?_
  ·
   have hE2 := M.facts_end hm0 e1 hO4 h64
   refine Js.region <| Qf fh rfl <| zw 0 rfl rfl rfl ?_
   refine zJ ?_
   refine zdr [6] ?_
   refine jM 0 rfl rfl ?_
   refine jN 1 rfl rfl ?_
   refine jF 2 fld_78_1 rfl rfl ?_
   refine jB 3 7 ty_45 rfl rfl rfl rfl ?_
   refine JH.q 4 rfl (L9 0 rfl rfl) ?_
   refine y1 5 ?_
   refine ybs rfl fun b65 => ?_
   refine y1 6 ?_
   refine JHo.e rfl (e_append (i := 3) (n' := ((o2 ++ [(M.Fct.mk 4 sw.last sm)]) ++ [(M.Fct.mk 5 0 0)]).length) (vs' := fltV vcFact ((o2 ++ [(M.Fct.mk 4 sw.last sm)]) ++ [(M.Fct.mk 5 0 0)])) el_45 rfl rfl rfl rfl (src_row (i := 0) und_45 rfl rfl) (by omega) (by omega) ln2_ (by first | rfl | exact fltV_app _ _ _ | exact fltV_snoc _ _ _ | (simp [fltV]; done))) (.inr rfl) ?_
   rintro v67 _ _ ⟨⟨g68, rfl⟩, rfl⟩ _
   refine JH.fact (row_form' (i := 3) rfl) (fun hf69 => ?_)
   obtain ⟨A69, c69, rfl, bl69, bh69⟩ := hf69
   refine znh ?_
   refine jA 7 rfl rfl ?_
   refine jA 8 rfl rfl ?_
   refine yd ?_
   have hq0 : ((o2 ++ [(M.Fct.mk 4 sw.last sm)]) ++ [(M.Fct.mk 5 0 0)]) = (M.factsR r p move).1 := by first | (rw [hE, hE2]; rfl) | (rw [hE]; done) | (rw [hE]; rfl)
   have hq1 : 0 = (M.factsR r p move).2 := by first | (rw [hE, hE2]; rfl) | (rw [hE]; done) | (rw [hE]; rfl)
   exact zro ((((((x5.trans x20).trans x31).trans x39).trans x41).trans x51).trans x54) (g := by exact (gv_tup (gvc (gv_flat lFact (xs := ((o2 ++ [(M.Fct.mk 4 sw.last sm)]) ++ [(M.Fct.mk 5 0 0)])) po_ (by first | rfl | (simp [fltV]; done)) (by first | with_reducible rfl | assumption | rfl)) (gvc gv_ gvn))))
  have hE2 := M.facts_end hm0 e1 hO4 h64
  refine Js.skip <| Js.seq ?_
  refine zdr [6] ?_
  refine jM 0 rfl rfl ?_
  refine jN 1 rfl rfl ?_
  refine jF 2 fld_78_1 rfl rfl ?_
  refine jB 3 7 ty_45 rfl rfl rfl rfl ?_
  refine JH.q 4 rfl (L9 0 rfl rfl) ?_
  refine y1 5 ?_
  refine ybs rfl fun b70 => ?_
  refine y1 6 ?_
  refine JHo.e rfl (e_append (i := 3) (n' := ((o2 ++ [(M.Fct.mk 4 sw.last sm)]) ++ [(M.Fct.mk 6 0 0)]).length) (vs' := fltV vcFact ((o2 ++ [(M.Fct.mk 4 sw.last sm)]) ++ [(M.Fct.mk 6 0 0)])) el_45 rfl rfl rfl rfl (src_row (i := 0) und_45 rfl rfl) (by omega) (by omega) ln2_ (by first | rfl | exact fltV_app _ _ _ | exact fltV_snoc _ _ _ | (simp [fltV]; done))) (.inr rfl) ?_
  rintro v72 _ _ ⟨⟨g73, rfl⟩, rfl⟩ _
  refine JH.fact (row_form' (i := 3) rfl) (fun hf74 => ?_)
  obtain ⟨A74, c74, rfl, bl74, bh74⟩ := hf74
  refine znh ?_
  refine jA 7 rfl rfl ?_
  refine jA 8 rfl rfl ?_
  refine yd ?_
  have hq0 : ((o2 ++ [(M.Fct.mk 4 sw.last sm)]) ++ [(M.Fct.mk 6 0 0)]) = (M.factsR r p move).1 := by first | (rw [hE, hE2]; rfl) | (rw [hE]; done) | (rw [hE]; rfl)
  have hq1 : 0 = (M.factsR r p move).2 := by first | (rw [hE, hE2]; rfl) | (rw [hE]; done) | (rw [hE]; rfl)
  exact zro ((((((x5.trans x20).trans x31).trans x39).trans x41).trans x51).trans x54) (g := by exact (gv_tup (gvc (gv_flat lFact (xs := ((o2 ++ [(M.Fct.mk 4 sw.last sm)]) ++ [(M.Fct.mk 6 0 0)])) po_ (by first | rfl | (simp [fltV]; done)) (by first | with_reducible rfl | assumption | rfl)) (gvc gv_ gvn))))
 have hcn : ¬ ((M.captured r sw p.player) = [] ∧ (M.taken r sw p.player) ≠ []) := (by have h9 := h53; rintro ⟨e1, e2⟩; have h8 := Bool.eq_false_iff.1 h9; apply h8; simp only [Bool.and_eq_true, decide_eq_true_eq]; refine ⟨by rw [e1]; rfl, ?_⟩; have := List.length_pos_iff.2 e2; omega)
 have hO4 := M.cap_non hcn hO3
 refine Js.skip <| zS <| Qb ?_
 refine za zeh fun b75 => zw 0 rfl rfl rfl ?_
 refine zJ <| zS <| Qf fh rfl <| Q0 7 rfl rfl rfl <| JL.nil ?_
 refine zi (fun h76 h76' => ?_) fun h76 h76' => ?_
 ·
  have hE2 := M.facts_end hm0 e1 hO4 h76
  refine Js.region <| Qf fh rfl <| zw 0 rfl rfl rfl ?_
  refine zJ ?_
  refine zdr [6] ?_
  refine jM 0 rfl rfl ?_
  refine jN 1 rfl rfl ?_
  refine jF 2 fld_78_1 rfl rfl ?_
  refine jB 3 6 ty_45 rfl rfl rfl rfl ?_
  refine JH.q 4 rfl (L9 0 rfl rfl) ?_
  refine y1 5 ?_
  refine ybs rfl fun b77 => ?_
  refine y1 6 ?_
  refine JHo.e rfl (e_append (i := 2) (n' := (o2 ++ [(M.Fct.mk 5 0 0)]).length) (vs' := fltV vcFact (o2 ++ [(M.Fct.mk 5 0 0)])) el_45 rfl rfl rfl rfl (src_row (i := 0) und_45 rfl rfl) (by omega) (by omega) ln2_ (by first | rfl | exact fltV_app _ _ _ | exact fltV_snoc _ _ _ | (simp [fltV]; done))) (.inr rfl) ?_
  rintro v79 _ _ ⟨⟨g80, rfl⟩, rfl⟩ _
  refine JH.fact (row_form' (i := 2) rfl) (fun hf81 => ?_)
  obtain ⟨A81, c81, rfl, bl81, bh81⟩ := hf81
  refine znh ?_
  refine jA 7 rfl rfl ?_
  refine jA 8 rfl rfl ?_
  refine yd ?_
  have hq0 : (o2 ++ [(M.Fct.mk 5 0 0)]) = (M.factsR r p move).1 := by first | (rw [hE, hE2]; rfl) | (rw [hE]; done) | (rw [hE]; rfl)
  have hq1 : 0 = (M.factsR r p move).2 := by first | (rw [hE, hE2]; rfl) | (rw [hE]; done) | (rw [hE]; rfl)
  exact zro (((((x5.trans x20).trans x31).trans x39).trans x41).trans x51) (g := by exact (gv_tup (gvc (gv_flat lFact (xs := (o2 ++ [(M.Fct.mk 5 0 0)])) po_ (by first | rfl | (simp [fltV]; done)) (by first | with_reducible rfl | assumption | rfl)) (gvc gv_ gvn))))
 have hE2 := M.facts_end hm0 e1 hO4 h76
 refine Js.skip <| Js.seq ?_
 refine zdr [6] ?_
 refine jM 0 rfl rfl ?_
 refine jN 1 rfl rfl ?_
 refine jF 2 fld_78_1 rfl rfl ?_
 refine jB 3 6 ty_45 rfl rfl rfl rfl ?_
 refine JH.q 4 rfl (L9 0 rfl rfl) ?_
 refine y1 5 ?_
 refine ybs rfl fun b82 => ?_
 refine y1 6 ?_
 refine JHo.e rfl (e_append (i := 2) (n' := (o2 ++ [(M.Fct.mk 6 0 0)]).length) (vs' := fltV vcFact (o2 ++ [(M.Fct.mk 6 0 0)])) el_45 rfl rfl rfl rfl (src_row (i := 0) und_45 rfl rfl) (by omega) (by omega) ln2_ (by first | rfl | exact fltV_app _ _ _ | exact fltV_snoc _ _ _ | (simp [fltV]; done))) (.inr rfl) ?_
 rintro v84 _ _ ⟨⟨g85, rfl⟩, rfl⟩ _
 refine JH.fact (row_form' (i := 2) rfl) (fun hf86 => ?_)
 obtain ⟨A86, c86, rfl, bl86, bh86⟩ := hf86
 refine znh ?_
 refine jA 7 rfl rfl ?_
 refine jA 8 rfl rfl ?_
 refine yd ?_
 have hq0 : (o2 ++ [(M.Fct.mk 6 0 0)]) = (M.factsR r p move).1 := by first | (rw [hE, hE2]; rfl) | (rw [hE]; done) | (rw [hE]; rfl)
 have hq1 : 0 = (M.factsR r p move).2 := by first | (rw [hE, hE2]; rfl) | (rw [hE]; done) | (rw [hE]; rfl)
 exact zro (((((x5.trans x20).trans x31).trans x39).trans x41).trans x51) (g := by exact (gv_tup (gvc (gv_flat lFact (xs := (o2 ++ [(M.Fct.mk 6 0 0)])) po_ (by first | rfl | (simp [fltV]; done)) (by first | with_reducible rfl | assumption | rfl)) (gvc gv_ gvn))))
theorem c_impl_Decimal (n : Int) {w : World} (h_tab : tabT.ok w undef) (r0 : -9223372036854775808 ≤ n := by exact om_) (r1 : n ≤ 9223372036854775807 := by exact om_) : RetV Tryd.prog 50 [.int .i64 n] w (.string (sB (M.dec n))) := by
 refine enter @Tryd.func50 @Tryd.ntmps50 rfl rfl ?_
 refine zent ?_
 refine zS <| Qa rfl <| zN <| Qm rfl <| zv rfl (fun w hw => c_strconv_FormatInt n 10 (ok_ hw)) <| Qa rfl <| JL.nil ?_
 exact zr (Up.refl _ _)
theorem c_impl_Fact_canWrite (f : M.Fct) {v_f : Value} {w : World} (h_f : (Ty.agg (cFact f)).ok w v_f) : RetV Tryd.prog 49 [v_f] w (.bool (M.canW f)) := by
 revert v_f; apply opn
 refine enter @Tryd.func49 @Tryd.ntmps49 rfl rfl ?_
 refine zent ?_
 refine zS <| zb rfl fun b1 => Qa rfl <| zJ <| zS <| Qf fh rfl <| Q0 0 rfl rfl rfl <| JL.nil <| Js.block <| Js.seq <| zS <| Qe rfl rfl <| Qa rfl <| JL.nil ?_
 refine zi (fun h2 h2' => ?_) fun h2 h2' => ?_
 ·
  refine Js.skip ?_
  refine Js.condT rfl h2 ?_
  refine zS <| Qf fh rfl <| Q0 0 rfl rfl rfl <| Qe rfl rfl <| Qm rfl <| zg (Gd.t1 rfl rfl rfl) (fun hc => p_fieldAddr fld_49_2.h rfl) <| zgq (Gd.t1 rfl rfl rfl) (fun hc => q_load1 ty_2.h (gh hc rfl) (Mem.box (i := 0) rfl rfl)) <| zg (Gd.t1 rfl rfl rfl) (fun hc => p_eql (gh hc rfl) rfl) <| Qq (p_pickAnd rfl rfl rfl) <| Qa rfl <| JL.nil ?_
  refine zR (Up.refl _ _) ?_
  first | (simp [outV, M.canW, *]; done) | (simp [outV, M.canW, *]; intros; exfalso; omega) | (simp [outV, M.canW, *]; omega)
 refine Js.region <| Qe rfl rfl <| Qa rfl <| JL.nil ?_
 refine zi (fun h3 h3' => ?_) fun h3 h3' => ?_
 ·
  refine zS <| Qf fh rfl <| Q0 0 rfl rfl rfl <| Qe rfl rfl <| Qm rfl <| zg (Gd.t1 rfl rfl rfl) (fun hc => p_fieldAddr fld_49_2.h rfl) <| zgq (Gd.t1 rfl rfl rfl) (fun hc => q_load1 ty_2.h (gh hc rfl) (Mem.box (i := 0) rfl rfl)) <| zg (Gd.t1 rfl rfl rfl) (fun hc => p_eql (gh hc rfl) rfl) <| Qq (p_pickAnd rfl rfl rfl) <| Qa rfl <| JL.nil ?_
  refine zR (Up.refl _ _) ?_
  first | (simp [outV, M.canW, *]; done) | (simp [outV, M.canW, *]; intros; exfalso; omega) | (simp [outV, M.canW, *]; omega)
 refine Js.seq <| zS <| Qe rfl rfl <| Qa rfl <| JL.nil ?_
 refine zi (fun h4 h4' => ?_) fun h4 h4' => ?_
 ·
  refine Js.skip ?_
  refine Js.condT rfl h4 ?_
  refine zS <| Qf fh rfl <| Q0 0 rfl rfl rfl <| zv rfl (fun w hw => c_impl_between f.count 1 96) <| Qm rfl <| zg (Gd.t1 rfl rfl rfl) (fun hc => p_fieldAddr fld_49_1.h rfl) <| zgq (Gd.t1 rfl rfl rfl) (fun hc => q_load1 ty_2.h (gh hc rfl) (Mem.box (i := 0) rfl rfl)) <| zgv (Gd.t1 rfl rfl rfl) (fun hc => (opds_3 (gh hc rfl) rfl rfl)) (fun hc => (fun w hw => c_impl_between f.place 0 15)) ?_
  refine zg (Gd.t1 rfl rfl rfl) (fun hc => p_move (gh hc rfl)) <| zg (Gd.f2 rfl rfl rfl) (fun hc => p_fieldAddr fld_49_1.h rfl) <| zgq (Gd.f2 rfl rfl rfl) (fun hc => q_load1 ty_2.h (gh hc rfl) (Mem.box (i := 0) rfl rfl)) <| zg (Gd.f2 rfl rfl rfl) (fun hc => p_eql (gh hc rfl) rfl) <| zg (Gd.f2 rfl rfl rfl) (fun hc => p_move (gh hc rfl)) <| zg (Gd.t2 rfl rfl rfl) (fun hc => p_fieldAddr fld_49_0.h rfl) <| zgq (Gd.t2 rfl rfl rfl) (fun hc => q_load1 ty_2.h (gh hc rfl) (Mem.box (i := 0) rfl rfl)) <| zg (Gd.t2 rfl rfl rfl) (fun hc => p_eql (gh hc rfl) rfl) <| zg (Gd.f2 rfl rfl rfl) (fun hc => p_pickAnd (gh hc rfl) (gvl rfl hc) rfl) <| zg (Gd.t1 rfl rfl rfl) (fun hc => p_pickOr (gh hc rfl) rfl (gvl rfl hc)) <| Qq (p_pickAnd rfl rfl rfl) <| Qa rfl <| JL.nil ?_
  refine zR (Up.refl _ _) ?_
  first | (simp [outV, M.canW, *]; done) | (simp [outV, M.canW, *]; intros; exfalso; omega) | (simp [outV, M.canW, *]; omega)
 refine zS <| Qe rfl rfl <| Qa rfl <| JL.nil ?_
 refine zi (fun h5 h5' => ?_) fun h5 h5' => ?_
 ·
  refine Js.skip ?_
  refine Js.condT rfl h5 ?_
  refine zS <| Qf fh rfl <| Q0 0 rfl rfl rfl <| zv rfl (fun w hw => c_impl_between f.count 1 96) <| Qm rfl <| zg (Gd.t1 rfl rfl rfl) (fun hc => p_fieldAddr fld_49_1.h rfl) <| zgq (Gd.t1 rfl rfl rfl) (fun hc => q_load1 ty_2.h (gh hc rfl) (Mem.box (i := 0) rfl rfl)) <| zgv (Gd.t1 rfl rfl rfl) (fun hc => (opds_3 (gh hc rfl) rfl rfl)) (fun hc => (fun w hw => c_impl_between f.place 0 15)) ?_
  refine zg (Gd.t1 rfl rfl rfl) (fun hc => p_move (gh hc rfl)) <| zg (Gd.f2 rfl rfl rfl) (fun hc => p_fieldAddr fld_49_1.h rfl) <| zgq (Gd.f2 rfl rfl rfl) (fun hc => q_load1 ty_2.h (gh hc rfl) (Mem.box (i := 0) rfl rfl)) <| zg (Gd.f2 rfl rfl rfl) (fun hc => p_eql (gh hc rfl) rfl) <| zg (Gd.f2 rfl rfl rfl) (fun hc => p_move (gh hc rfl)) <| zg (Gd.t2 rfl rfl rfl) (fun hc => p_fieldAddr fld_49_0.h rfl) <| zgq (Gd.t2 rfl rfl rfl) (fun hc => q_load1 ty_2.h (gh hc rfl) (Mem.box (i := 0) rfl rfl)) <| zg (Gd.t2 rfl rfl rfl) (fun hc => p_eql (gh hc rfl) rfl) <| zg (Gd.f2 rfl rfl rfl) (fun hc => p_pickAnd (gh hc rfl) (gvl rfl hc) rfl) <| zg (Gd.t1 rfl rfl rfl) (fun hc => p_pickOr (gh hc rfl) rfl (gvl rfl hc)) <| Qq (p_pickAnd rfl rfl rfl) <| Qa rfl <| JL.nil ?_
  refine zR (Up.refl _ _) ?_
  first | (simp [outV, M.canW, *]; done) | (simp [outV, M.canW, *]; intros; exfalso; omega) | (simp [outV, M.canW, *]; omega)
 refine zS <| Qe rfl rfl <| Qa rfl <| JL.nil ?_
 refine zi (fun h6 h6' => ?_) fun h6 h6' => ?_
 ·
  refine Js.skip ?_
  refine Js.condT rfl h6 ?_
  refine zS <| Qf fh rfl <| Q0 0 rfl rfl rfl <| zv rfl (fun w hw => c_impl_between f.count 1 96) <| Qm rfl <| zg (Gd.t1 rfl rfl rfl) (fun hc => p_fieldAddr fld_49_1.h rfl) <| zgq (Gd.t1 rfl rfl rfl) (fun hc => q_load1 ty_2.h (gh hc rfl) (Mem.box (i := 0) rfl rfl)) <| zgv (Gd.t1 rfl rfl rfl) (fun hc => (opds_3 (gh hc rfl) rfl rfl)) (fun hc => (fun w hw => c_impl_between f.place 0 15)) ?_
  refine zg (Gd.t1 rfl rfl rfl) (fun hc => p_move (gh hc rfl)) <| zg (Gd.f2 rfl rfl rfl) (fun hc => p_fieldAddr fld_49_1.h rfl) <| zgq (Gd.f2 rfl rfl rfl) (fun hc => q_load1 ty_2.h (gh hc rfl) (Mem.box (i := 0) rfl rfl)) <| zg (Gd.f2 rfl rfl rfl) (fun hc => p_eql (gh hc rfl) rfl) <| zg (Gd.f2 rfl rfl rfl) (fun hc => p_move (gh hc rfl)) <| zg (Gd.t2 rfl rfl rfl) (fun hc => p_fieldAddr fld_49_0.h rfl) <| zgq (Gd.t2 rfl rfl rfl) (fun hc => q_load1 ty_2.h (gh hc rfl) (Mem.box (i := 0) rfl rfl)) <| zg (Gd.t2 rfl rfl rfl) (fun hc => p_eql (gh hc rfl) rfl) <| zg (Gd.f2 rfl rfl rfl) (fun hc => p_pickAnd (gh hc rfl) (gvl rfl hc) rfl) <| zg (Gd.t1 rfl rfl rfl) (fun hc => p_pickOr (gh hc rfl) rfl (gvl rfl hc)) <| Qq (p_pickAnd rfl rfl rfl) <| Qa rfl <| JL.nil ?_
  refine zR (Up.refl _ _) ?_
  first | (simp [outV, M.canW, *]; done) | (simp [outV, M.canW, *]; intros; exfalso; omega) | (simp [outV, M.canW, *]; omega)
 refine Js.region <| Qe rfl rfl <| Qa rfl <| JL.nil ?_
 refine zi (fun h7 h7' => ?_) fun h7 h7' => ?_
 ·
  refine zS <| Qf fh rfl <| Q0 0 rfl rfl rfl <| zv rfl (fun w hw => c_impl_between f.count 1 96) <| Qm rfl <| zg (Gd.t1 rfl rfl rfl) (fun hc => p_fieldAddr fld_49_1.h rfl) <| zgq (Gd.t1 rfl rfl rfl) (fun hc => q_load1 ty_2.h (gh hc rfl) (Mem.box (i := 0) rfl rfl)) <| zgv (Gd.t1 rfl rfl rfl) (fun hc => (opds_3 (gh hc rfl) rfl rfl)) (fun hc => (fun w hw => c_impl_between f.place 0 15)) ?_
  refine zg (Gd.t1 rfl rfl rfl) (fun hc => p_move (gh hc rfl)) <| zg (Gd.f2 rfl rfl rfl) (fun hc => p_fieldAddr fld_49_1.h rfl) <| zgq (Gd.f2 rfl rfl rfl) (fun hc => q_load1 ty_2.h (gh hc rfl) (Mem.box (i := 0) rfl rfl)) <| zg (Gd.f2 rfl rfl rfl) (fun hc => p_eql (gh hc rfl) rfl) <| zg (Gd.f2 rfl rfl rfl) (fun hc => p_move (gh hc rfl)) <| zg (Gd.t2 rfl rfl rfl) (fun hc => p_fieldAddr fld_49_0.h rfl) <| zgq (Gd.t2 rfl rfl rfl) (fun hc => q_load1 ty_2.h (gh hc rfl) (Mem.box (i := 0) rfl rfl)) <| zg (Gd.t2 rfl rfl rfl) (fun hc => p_eql (gh hc rfl) rfl) <| zg (Gd.f2 rfl rfl rfl) (fun hc => p_pickAnd (gh hc rfl) (gvl rfl hc) rfl) <| zg (Gd.t1 rfl rfl rfl) (fun hc => p_pickOr (gh hc rfl) rfl (gvl rfl hc)) <| Qq (p_pickAnd rfl rfl rfl) <| Qa rfl <| JL.nil ?_
  refine zR (Up.refl _ _) ?_
  first | (simp [outV, M.canW, *]; done) | (simp [outV, M.canW, *]; intros; exfalso; omega) | (simp [outV, M.canW, *]; omega)
 refine Js.skip <| Js.blockEnd <| zS <| Qa rfl <| JL.nil ?_
 refine zR (Up.refl _ _) ?_
 first | (simp [outV, M.canW, *]; done) | (simp [outV, M.canW, *]; intros; exfalso; omega) | (simp [outV, M.canW, *]; omega)
theorem c_impl_FactText (f : M.Fct) {v_f : Value} {w : World} (h_f : (Ty.agg (cFact f)).ok w v_f) (h_tab : tabT.ok w undef) (r0 : -9223372036854775808 ≤ f.count := by exact om_) (r1 : f.count ≤ 9223372036854775807 := by exact om_) (r2 : -9223372036854775808 ≤ f.place := by exact om_) (r3 : f.place ≤ 9223372036854775807 := by exact om_) : RetV Tryd.prog 23 [v_f] w (.string (sB (M.factT f))) := by
 have hl6 : M.fkNames.length = 6 := rfl
 revert v_f; apply opn
 refine enter @Tryd.func23 @Tryd.ntmps23 rfl rfl ?_
 refine zent ?_
 refine zS <| zb rfl fun b1 => Qa rfl <| zJ <| zS <| Q9 0 rfl rfl ?_
 refine zv rfl (fun w hw => c_impl_Fact_canWrite f (ok_ hw)) <| Qt rfl <| JL.nil ?_
 refine zi (fun h2 h2' => ?_) fun h2 h2' => ?_
 ·
  have hE := M.factT_n (f := f) (by simpa using h2)
  refine zS <| Qa rfl <| JL.nil ?_
  refine zR (Up.refl _ _) ?_
  first | (rw [hE]; done) | (rw [hE]; rfl) | (rw [hE]; simp)
 have hcw : M.canW f = true := by simpa using h2
 obtain ⟨hb0, hb1⟩ := M.canW_k hcw
 obtain ⟨ye3, hye3⟩ : ∃ x, M.fkNames[(f.kind - 1).toNat]? = some x := ⟨_, List.getElem?_eq_getElem (by omega)⟩
 have hY : M.fkNames[(f.kind - 1).toNat]? = some ye3 := hye3
 have lb7 : LenB ye3 7 := ⟨M.fkName_len hY⟩
 have hz4 : ([([116, 97, 107, 101] : List UInt8), ([115, 111, 119] : List UInt8), ([99, 97, 112, 116, 117, 114, 101] : List UInt8), ([115, 112, 97, 114, 101] : List UInt8), ([97, 103, 97, 105, 110] : List UInt8), ([116, 117, 114, 110] : List UInt8)] : List (List UInt8))[(f.kind - 1).toNat]? = some ye3 := hye3
 refine Js.skip <| zS <| Qq (q_bldA) <| Qf fh rfl <| Q0 0 rfl rfl rfl <| Qs rfl rfl <| Qq (p_idxS (names := [([116, 97, 107, 101] : List UInt8), ([115, 111, 119] : List UInt8), ([99, 97, 112, 116, 117, 114, 101] : List UInt8), ([115, 112, 97, 114, 101] : List UInt8), ([97, 103, 97, 105, 110] : List UInt8), ([116, 117, 114, 110] : List UInt8)]) (kk := (f.kind - 1).toNat) @Tryd.underlying90 ty_9.h rfl rfl (by omega) (by omega) hz4) <| Qa rfl <| zJ <| zS <| Qf fh rfl <| Q0 0 rfl rfl rfl <| Qe rfl rfl <| Qm rfl ?_
 refine zg (Gd.f1 rfl rfl rfl) (fun hc => p_fieldAddr fld_49_0.h rfl) <| zgq (Gd.f1 rfl rfl rfl) (fun hc => q_load1 ty_2.h (gh hc rfl) (Mem.box (i := 0) rfl rfl)) <| zg (Gd.f1 rfl rfl rfl) (fun hc => p_eql (gh hc rfl) rfl) <| Qq (p_pickOr rfl rfl rfl) <| JL.nil ?_
 refine zi (fun h5 h5' => ?_) fun h5 h5' => ?_
 ·
  have hE := M.factT_word hcw hY (by have h9 := h5; simpa using h9)
  refine zS <| Qm rfl <| Qa rfl <| JL.nil ?_
  refine zR (Up.refl _ _) ?_
  first | (rw [hE]; done) | (rw [hE]; rfl) | (rw [hE]; simp)
 have hk9 : ¬ (f.kind = 5 ∨ f.kind = 6) := by have h9 := h5; simpa using h9
 refine Js.skip <| zS <| Qf fh rfl <| Q0 0 rfl rfl rfl <| zv rfl (fun w hw => c_impl_Decimal f.place (ok_ hw)) <| Qa rfl <| Qa rfl <| zJ <| zS <| Qf fh rfl <| Q0 0 rfl rfl rfl <| Qe rfl rfl <| JL.nil ?_
 refine zi (fun h6 h6' => ?_) fun h6 h6' => ?_
 ·
  have hw9 : ([105, 110, 116, 111] : List UInt8) = if f.kind = 2 then [105, 110, 116, 111] else [102, 114, 111, 109] := (if_pos (by simpa using h6)).symm
  refine Js.region <| Qa rfl <| zJ <| zS <| Qf fh rfl <| Q0 0 rfl rfl rfl <| Ql rfl rfl <| JL.nil ?_
  refine zi (fun h7 h7' => ?_) fun h7 h7' => ?_
  ·
   have hp9 : ([115, 116, 111, 114, 101] : List UInt8) = M.placeT f.place := (if_pos (by simpa using h7)).symm
   have hE := M.factT_long hcw hY hk9 hw9 hp9
   refine Js.region <| Qa rfl <| zN <| Qm rfl <| Qq (q_cat rfl rfl) <| Qf fh rfl <| Q0 0 rfl rfl rfl <| zv rfl (fun w hw => c_impl_Decimal f.count (ok_ hw)) <| Qq (q_cat rfl rfl) <| Qq (q_cat rfl rfl) <| Qm rfl <| Qq (q_cat rfl rfl) <| Qq (q_cat rfl rfl) <| Qm rfl ?_
   refine Qq (q_cat rfl rfl) <| Qa rfl <| JL.nil ?_
   refine zR (Up.refl _ _) ?_
   first | (rw [hE]; done) | (rw [hE]; rfl) | (rw [hE]; simp)
  have hp9 : M.dec f.place = M.placeT f.place := (if_neg (by have := h7'; omega)).symm
  have hE := M.factT_long hcw hY hk9 hw9 hp9
  refine Js.skip <| zS <| Qm rfl <| Qq (q_cat rfl rfl) <| Qf fh rfl <| Q0 0 rfl rfl rfl <| zv rfl (fun w hw => c_impl_Decimal f.count (ok_ hw)) <| Qq (q_cat rfl rfl) <| Qq (q_cat rfl rfl) <| Qm rfl <| Qq (q_cat rfl rfl) <| Qq (q_cat rfl rfl) <| Qm rfl <| Qq (q_cat rfl rfl) ?_
  refine Qa rfl <| JL.nil ?_
  refine zR (Up.refl _ _) ?_
  first | (rw [hE]; done) | (rw [hE]; rfl) | (rw [hE]; simp)
 have hw9 : ([102, 114, 111, 109] : List UInt8) = if f.kind = 2 then [105, 110, 116, 111] else [102, 114, 111, 109] := (if_neg (by simpa using h6)).symm
 refine Js.skip <| Js.seq <| zS <| Qf fh rfl <| Q0 0 rfl rfl rfl <| Ql rfl rfl <| JL.nil ?_
 refine zi (fun h8 h8' => ?_) fun h8 h8' => ?_
 ·
  have hp9 : ([115, 116, 111, 114, 101] : List UInt8) = M.placeT f.place := (if_pos (by simpa using h8)).symm
  have hE := M.factT_long hcw hY hk9 hw9 hp9
  refine Js.region <| Qa rfl <| zN <| Qm rfl <| Qq (q_cat rfl rfl) <| Qf fh rfl <| Q0 0 rfl rfl rfl <| zv rfl (fun w hw => c_impl_Decimal f.count (ok_ hw)) <| Qq (q_cat rfl rfl) <| Qq (q_cat rfl rfl) <| Qm rfl <| Qq (q_cat rfl rfl) <| Qq (q_cat rfl rfl) <| Qm rfl ?_
  refine Qq (q_cat rfl rfl) <| Qa rfl <| JL.nil ?_
  refine zR (Up.refl _ _) ?_
  first | (rw [hE]; done) | (rw [hE]; rfl) | (rw [hE]; simp)
 have hp9 : M.dec f.place = M.placeT f.place := (if_neg (by have := h8'; omega)).symm
 have hE := M.factT_long hcw hY hk9 hw9 hp9
 refine Js.skip <| zS <| Qm rfl <| Qq (q_cat rfl rfl) <| Qf fh rfl <| Q0 0 rfl rfl rfl <| zv rfl (fun w hw => c_impl_Decimal f.count (ok_ hw)) <| Qq (q_cat rfl rfl) <| Qq (q_cat rfl rfl) <| Qm rfl <| Qq (q_cat rfl rfl) <| Qq (q_cat rfl rfl) <| Qm rfl <| Qq (q_cat rfl rfl) ?_
 refine Qa rfl <| JL.nil ?_
 refine zR (Up.refl _ _) ?_
 first | (rw [hE]; done) | (rw [hE]; rfl) | (rw [hE]; simp)
theorem c_impl_WhyNot (r : M.Rul) {v_r : Value} (p : M.Pos) {v_p : Value} (move : Int) {w : World} (h_r : (Ty.agg (cRules r)).ok w v_r) (h_p : (Ty.agg (cPosition p)).ok w v_p) (r0 : p.pits.length ≤ 4194304 := by exact om_) (r1 : p.stores.length ≤ 4194304 := by exact om_) : RetV Tryd.prog 22 [v_r, v_p, .int .i64 move] w (.tuple #[.string (sB ((M.whyR r p move).1)), .int .i64 ((M.whyR r p move).2)]) := by
 revert v_r; apply opn
 revert v_p; apply opn
 intro A1 c1 h1 bl1 bh1 A2 c2 h2 bl2 bh2
 refine enter @Tryd.func22 @Tryd.ntmps22 rfl rfl ?_
 refine zent ?_
 refine zS <| zb rfl fun b3 => zb rfl fun b4 => Qa rfl <| Qa rfl <| zJ <| zS <| Q9 1 rfl rfl ?_
 refine Q9 0 rfl rfl ?_
 refine Qm rfl <| zv rfl (fun w hw => c_impl_MoveFault r p move (ok_ hw) (ok_ hw)) <| Qa rfl <| zN <| Qm rfl <| JL.nil <| Js.block <| zS <| Qe rfl rfl <| Qa rfl <| JL.nil ?_
 refine zi (fun h5 h5' => ?_) fun h5 h5' => ?_
 ·
  have hE := M.whyR_0 (r := r) (p := p) (move := move) (by rw [M.make_code]; simpa using h5)
  refine zS <| Qa rfl <| Qa rfl <| JL.nil ?_
  refine zR (Up.refl _ _) ?_
  first | (rw [hE]; done) | (rw [hE]; rfl)
 have n0 : ¬ (M.make r p move).2 = 0 := by rw [M.make_code]; simpa using h5
 refine zS <| Qe rfl rfl <| Qa rfl <| JL.nil ?_
 refine zi (fun h6 h6' => ?_) fun h6 h6' => ?_
 ·
  have hE := M.whyR_1 (r := r) (p := p) (move := move) (by rw [M.make_code]; simpa using h6)
  refine zS <| Qa rfl <| Qa rfl <| JL.nil ?_
  refine zR (Up.refl _ _) ?_
  first | (rw [hE]; done) | (rw [hE]; rfl)
 have n1 : ¬ (M.make r p move).2 = 1 := by rw [M.make_code]; simpa using h6
 refine zS <| Qe rfl rfl <| Qa rfl <| JL.nil ?_
 refine zi (fun h7 h7' => ?_) fun h7 h7' => ?_
 ·
  have hE := M.whyR_w n0 n1 (M.whyT_2 (by rw [M.make_code]; simpa using h7))
  refine zS <| Qa rfl <| Qa rfl <| JL.nil ?_
  refine zR (Up.refl _ _) ?_
  first | (rw [hE]; done) | (rw [hE]; rfl)
 have n2 : ¬ (M.make r p move).2 = 2 := by rw [M.make_code]; simpa using h7
 refine zS <| Qe rfl rfl <| Qa rfl <| JL.nil ?_
 refine zi (fun h8 h8' => ?_) fun h8 h8' => ?_
 ·
  have hE := M.whyR_w n0 n1 (M.whyT_6 n2 (by rw [M.make_code]; simpa using h8))
  refine zS <| Qa rfl <| Qa rfl <| JL.nil ?_
  refine zR (Up.refl _ _) ?_
  first | (rw [hE]; done) | (rw [hE]; rfl)
 have n6 : ¬ (M.make r p move).2 = 6 := by rw [M.make_code]; simpa using h8
 refine zS <| Qe rfl rfl <| Qa rfl <| JL.nil ?_
 refine zi (fun h9 h9' => ?_) fun h9 h9' => ?_
 ·
  have hE := M.whyR_w n0 n1 (M.whyT_10 n2 n6 (by rw [M.make_code]; simpa using h9))
  refine zS <| Qa rfl <| Qa rfl <| JL.nil ?_
  refine zR (Up.refl _ _) ?_
  first | (rw [hE]; done) | (rw [hE]; rfl)
 have n10 : ¬ (M.make r p move).2 = 10 := by rw [M.make_code]; simpa using h9
 have hz := M.make_9 n0 n1 n2 n6 n10
 obtain ⟨hok, m0, m1, hG, q0, q1, hsum⟩ := M.sowMove_ok hz
 obtain ⟨g1, g2, g3, g4, g5, g6, g7⟩ := M.okP_bd hok
 refine Js.skip <| Js.blockEnd <| zS <| Q9 1 rfl rfl ?_
 refine Q9 0 rfl rfl ?_
 refine Qm rfl <| zp rfl (fun w hw => c_impl_sowMove r p move (ok_ hw) (ok_ hw)) ?_
 intro u10 x10 v11 h11
 refine Qm rfl <| Qx rfl rfl <| Qx rfl rfl <| Qa rfl <| Qa rfl <| zJ <| Js.seq ?_
 refine zdr [] ?_
 refine jF 0 fld_31_8 rfl rfl ?_
 refine jB 1 1 ty_2 rfl rfl rfl rfl ?_
 refine JH.p 2 rfl (p_eql rfl rfl) ?_
 refine jM 3 rfl rfl ?_
 refine JH.qg 4 rfl (Gd.t1 rfl rfl rfl) (fun hc => L9 1 rfl rfl) ?_
 refine JH.pg 5 rfl (Gd.t1 rfl rfl rfl) (fun hc => p_move rfl) ?_
 obtain ⟨b12, o12, A12_10, c12_10, A12_11, c12_11, A12_14, c12_14, rfl, hr12, h12_10, h12_11, h12_14, bl12_10, bh12_10, bl12_11, bh12_11, bl12_14, bh12_14⟩ := ref_sowing (box_ref (opt_yes h11 (by exact decide_eq_true hz)))
 refine JH.pg 6 rfl (Gd.t1 rfl rfl rfl) (fun hc => p_nilCheck (gvt rfl hc)) ?_
 refine JH.pg 7 rfl (Gd.t1 rfl rfl rfl) (fun hc => p_fieldAddr fld_83_2.h (gvt rfl hc)) ?_
 refine JH.wg 8 rfl (Gd.t1 rfl rfl rfl) (fun hc os' u' hv => LS 10 (hr12.vis hv) (gvt rfl hc)) ?_
 refine JH.pg 9 rfl (Gd.t1 rfl rfl rfl) (fun hc => p_fieldAddr fld_33_2.h rfl) ?_
 refine JH.qg 10 rfl (Gd.t1 rfl rfl rfl) (fun hc => q_load1 ty_2.h (gvt rfl hc) (Mem.box (i := 0) rfl rfl)) ?_
 refine y1 11 ?_
 refine JHo.ge rfl (Gd.t1 rfl rfl rfl) (fun hc => e_callV fn_48.h (opds_3 (gvt rfl hc) (gvt rfl hc) (gvt rfl hc)) (fun w hw => c_impl_Rules_slams r ((M.sowMove r p move).2.1) p.player (ok_ hw) (ok_ hw) (r0 := (oh_ hc)) (r1 := (oh_ hc)) (r2 := (oh_ hc)) (r3 := hG) (r4 := (oh_ hc)) (r5 := (oh_ hc)))) ?_
 refine JH.p 12 rfl (p_pickAnd rfl rfl rfl) ?_
 refine yd ?_
 refine zi (fun h13 h13' => ?_) fun h13 h13' => ?_
 ·
  have hE := M.whyR_w n0 n1 (M.whyT_s n2 n6 n10 (by have h9 := h13; simpa using h9))
  refine zS <| Qa rfl <| Qa rfl <| JL.nil ?_
  refine zR x10 ?_
  first | (rw [hE]; done) | (rw [hE]; rfl)
 have hE := M.whyR_w n0 n1 (M.whyT_n n2 n6 n10 (by have h9 := h13; simpa using h9))
 refine Js.skip <| zS <| Qa rfl <| Qa rfl <| JL.nil ?_
 refine zR x10 ?_
 first | (rw [hE]; done) | (rw [hE]; rfl)
theorem c_impl_ExplainMove (r : M.Rul) {v_r : Value} (p : M.Pos) {v_p : Value} (move : Int) {w : World} (h_r : (Ty.agg (cRules r)).ok w v_r) (h_p : (Ty.agg (cPosition p)).ok w v_p) (h_tab : tabT.ok w undef) (r0 : p.pits.length ≤ 4194304 := by exact om_) (r1 : p.stores.length ≤ 4194304 := by exact om_) : Ret Tryd.prog 8 [v_r, v_p, .int .i64 move] w (Ty.tup [Ty.strs 9 ((M.explR r p move).1), Ty.int ((M.explR r p move).2)]) := by
 revert v_r; apply opn
 revert v_p; apply opn
 intro A1 c1 h1 bl1 bh1 A2 c2 h2 bl2 bh2
 refine enter @Tryd.func8 @Tryd.ntmps8 rfl rfl ?_
 refine zent ?_
 refine zS <| zb rfl fun b3 => zb rfl fun b4 => Qa rfl <| Qa rfl <| zJ <| zS <| Q9 1 rfl rfl ?_
 refine Q9 0 rfl rfl ?_
 refine zv rfl (fun w hw => c_impl_ValidPosition r p (ok_ hw) (ok_ hw)) <| Qt rfl <| JL.nil ?_
 refine zi (fun h5 h5' => ?_) fun h5 h5' => ?_
 ·
  have hE := M.explR_1 (move := move) (show M.okP r p = false by simpa using h5)
  have hq0 : [] = (M.explR r p move).1 := by first | (rw [hE, hW]; done) | (rw [hE]; exact hE2.symm) | (rw [hE, ← hE2]; done) | (rw [hE]; done) | (rw [hE]; rfl) | (rw [hE, hW]; rfl)
  have hq1 : 1 = (M.explR r p move).2 := by first | (rw [hE, hW]; done) | (rw [hE]; exact hE2.symm) | (rw [hE, ← hE2]; done) | (rw [hE]; done) | (rw [hE]; rfl) | (rw [hE, hW]; rfl)
  refine zS <| Qa rfl <| Qa rfl <| JL.nil ?_
  exact zro (Up.refl _ _) (g := by exact (gv_tup (gvc (gv_strsN (by first | rfl | assumption)) (gvc gv_ gvn))))
 have hok0 : ¬ M.okP r p = false := by simpa using h5
 refine Js.skip <| zS <| Q9 1 rfl rfl ?_
 refine Q9 0 rfl rfl ?_
 refine Qm rfl <| zp rfl (fun w hw => c_impl_Rules_factsOf r p move (ok_ hw) (ok_ hw)) ?_
 intro u6 x6 A7 c7 h7 bl7 bh7
 have hfc : (M.factsR r p move).2 = (M.make r p move).2 := by by_cases h9 : (M.make r p move).2 = 0; rw [M.factsR_y h9, h9]; rw [M.factsR_n h9]
 refine Qm rfl <| Qx rfl rfl <| Qx rfl rfl <| Qa rfl <| Qa rfl <| zJ <| zS <| Qm rfl <| Qd rfl rfl <| JL.nil ?_
 refine zi (fun h8 h8' => ?_) fun h8 h8' => ?_
 ·
  have hn9 : ¬ (M.make r p move).2 = 0 := by rw [← hfc]; simpa using h8
  have hE := M.explR_w hok0 hn9
  have hn1 : ¬ (M.make r p move).2 = 1 := fun e => hok0 (M.make_1.1 e)
  have hW := M.whyR_w hn9 hn1 rfl
  rw [hE]
  have hW1 : (M.whyR r p move).1 = M.whyT r p move (M.make r p move).2 := by rw [hW]
  rw [← hW1]
  have lb9 : LenB (M.whyR r p move).1 100 := ⟨by rw [hW]; exact M.whyT_len r p move _⟩
  have hq0 : 0 = (M.explR r p move).2 := by first | (rw [hE, hW]; done) | (rw [hE]; exact hE2.symm) | (rw [hE, ← hE2]; done) | (rw [hE]; done) | (rw [hE]; rfl) | (rw [hE, hW]; rfl)
  refine zS <| Q9 1 rfl rfl ?_
  refine Q9 0 rfl rfl ?_
  refine Qm rfl <| zv rfl (fun w hw => c_impl_WhyNot r p move (ok_ hw) (ok_ hw)) <| Qm rfl <| Qx rfl rfl <| Qx rfl rfl <| Qa rfl <| Qa rfl <| zN <| Qm rfl <| zbs fun b9 => ?_
  refine Qa rfl <| Qa rfl <| JL.nil ?_
  exact zro x6 (g := by exact (gv_tup (gvc (gv_strs po_ (by rfl) (by rfl)) (gvc gv_ gvn))))
 have hm0 : (M.make r p move).2 = 0 := by rw [← hfc]; simpa using h8
 have hE := M.explR_f hm0
 have hfl : (M.factsR r p move).1.length ≤ 20000 := by rw [M.factsR_y hm0]; exact M.facts_len hm0
 refine Js.skip <| zS <| zbs fun b11 => ?_
 refine Qa rfl <| zJ <| zS <| Qm rfl <| Qz rfl <| Qm rfl <| JL.nil <| Js.block ?_
 refine zl [38, 39] (fun F U l os u m => ∃ (k : Nat) (out : List (List UInt8)) (A13_12 : Option Addr) (c13_12 : Nat) (g13_12 : List Nat), l = F [(12, .slice A13_12 out.length c13_12), (40, .int .i64 (k : Int))] ∧ os = U [some (rowO 9 1 (.slice A13_12 out.length c13_12) out.length (txs_ out) g13_12)] ∧ (out = ((M.factsR r p move).1.take k).map M.factT0) ∧ (k ≤ (M.factsR r p move).1.length) ∧ (out.length = k) ∧ (out.length ≤ c13_12) ∧ (c13_12 ≤ 9223372036854775807) ∧ m = (M.factsR r p move).1.length - k) ⟨0, [], _, _, _, rfl, rfl, by rfl, zt, by rfl, zu, zu, rfl⟩ ?_
 rintro _ _ u13 _ ⟨k, out, A13_12, c13_12, g13_12, rfl, rfl, hO, hk, hl, f13_3, f13_4, rfl⟩ x13
 refine zn ?_
 refine zS <| Ql rfl rfl <| zJ ?_
 refine zi (fun h14 h14' => ?_) fun h14 h14' => ?_
 ·
  obtain ⟨ye15, hye15⟩ : ∃ x, ((M.factsR r p move).1)[k]? = some x := ⟨_, List.getElem?_eq_getElem (by omega)⟩
  have hY : M.factsR r p move = (M.factsF r p move, 0) := M.factsR_y hm0
  have hcan := M.facts_can hm0 _ (List.mem_of_getElem? (by have h9 := hye15; rw [hY] at h9; exact h9))
  have hft := M.factT_y hcan
  have hO2 := M.texts_step hO hye15
  rw [← hft] at hO2
  have hcb := M.canW_b hcan
  have lb9 : LenB (M.factT ye15) 100 := ⟨by rw [hft]; exact M.factT0_len _⟩
  have hy16 := hye15
  obtain ⟨b16, o16, he16, hr16⟩ := elem_Fact (Ty.mono _ h7 x13.vis) hy16
  refine Js.skip <| Js.seq <| Js.block <| zS <| Qq (p_indexAddr el_45 rfl rfl (by omega) (by omega) he16) <| QS 0 hr16 rfl ?_
  refine za zeh fun b17 => zw 0 rfl rfl rfl ?_
  refine zG <| Qm rfl <| Q9 0 rfl rfl ?_
  refine zv rfl (fun w hw => c_impl_FactText ye15 (ok_ hw) (ok_ hw)) <| zbs fun b18 => ?_
  refine JL.e (e_append (i := 2) (n' := (out ++ [M.factT ye15]).length) (vs' := txs_ (out ++ [M.factT ye15])) el_28 rfl rfl rfl rfl (src_row (i := 0) und_28 rfl rfl) (by omega) (by omega) ln2_ (by first | rfl | (simp [txs_]; done))) ?_
  rintro v20 _ _ ⟨⟨g21, rfl⟩, rfl⟩ _
  refine JL.fact (row_form' (i := 2) rfl) (fun hf22 => ?_)
  obtain ⟨A22, c22, rfl, bl22, bh22⟩ := hf22
  refine znl ?_
  refine Qa rfl <| JL.nil <| Js.blockEnd <| Js.region <| Qp rfl rfl <| Qm rfl <| JL.nil ?_
  refine zd [2, 2, 2] rfl fun u23 x23 => ?_
  exact zag ⟨k + 1, out ++ [M.factT ye15], _, _, _, rfl, rfl, by exact hO2, zt, by simp [hl], zu, zu, rfl⟩ (x13.trans x23)
 have hE2 := M.texts_all hO (by have := h14'; omega)
 rw [M.factsR_y hm0] at hE2
 refine zx ?_
 have hq0 : out = (M.explR r p move).1 := by first | (rw [hE, hW]; done) | (rw [hE]; exact hE2.symm) | (rw [hE, ← hE2]; done) | (rw [hE]; done) | (rw [hE]; rfl) | (rw [hE, hW]; rfl)
 have hq1 : 0 = (M.explR r p move).2 := by first | (rw [hE, hW]; done) | (rw [hE]; exact hE2.symm) | (rw [hE, ← hE2]; done) | (rw [hE]; done) | (rw [hE]; rfl) | (rw [hE, hW]; rfl)
 refine zS <| Qm rfl <| Qa rfl <| Qa rfl <| JL.nil ?_
 exact zro (x6.trans x13) (g := by exact (gv_tup (gvc (gv_strsE (ys := out) po_ (by assumption) (by rfl)) (gvc gv_ gvn))))
theorem c_spec_l00In (n low high : Int) {w : World}  : RetV Tryd.prog 59 [.int .i64 n, .int .i64 low, .int .i64 high] w (.bool (M.betw n low high)) := by
 refine enter @Tryd.func59 @Tryd.ntmps59 rfl rfl ?_
 refine zent ?_
 refine zS <| Qa rfl <| zN <| Qm rfl <| Qm rfl <| Qh rfl rfl <| Qm rfl <| zg (Gd.t1 rfl rfl rfl) (fun hc => p_move rfl) <| zg (Gd.t1 rfl rfl rfl) (fun hc => p_move rfl) <| zg (Gd.t1 rfl rfl rfl) (fun hc => p_leq (gh hc rfl) (gh hc rfl)) <| Qq (p_pickAnd rfl rfl rfl) <| Qa rfl <| JL.nil ?_
 refine zR (Up.refl _ _) ?_
 simp [outV, M.betw]
theorem c_spec_l02Ok (r : M.Rul) {v_r : Value} {w : World} (h_r : (Ty.ref (cRules r)).ok w v_r) : RetV Tryd.prog 79 [v_r] w (.bool (M.okR r)) := by
 revert v_r; apply opn
 intro b1 o1 hr1
 refine enter @Tryd.func79 @Tryd.ntmps79 rfl rfl ?_
 refine zent ?_
 refine zS <| Qa rfl <| zN <| Qm rfl <| Qc rfl <| Qf fh rfl <| QC (hr1 0 _ rfl) rfl <| zv rfl (fun w hw => c_spec_l00In r.pits 2 8) <| Qm rfl <| zg (Gd.t1 rfl rfl rfl) (fun hc => p_move rfl) <| zg (Gd.t1 rfl rfl rfl) (fun hc => p_nilCheck (gh hc rfl)) <| zg (Gd.t1 rfl rfl rfl) (fun hc => p_fieldAddr fld_31_1.h (gh hc rfl)) <| zgq (Gd.t1 rfl rfl rfl) (fun hc => q_load1 ty_2.h (gh hc rfl) (Mem.pub (hr1 1 _ rfl))) <| zgv (Gd.t1 rfl rfl rfl) (fun hc => (opds_3 (gh hc rfl) rfl rfl)) (fun hc => (fun w hw => c_spec_l00In r.seeds 1 6)) ?_
 refine Qq (p_pickAnd rfl rfl rfl) <| Qm rfl <| zg (Gd.t1 rfl rfl rfl) (fun hc => p_move rfl) <| zg (Gd.t1 rfl rfl rfl) (fun hc => p_nilCheck (gh hc rfl)) <| zg (Gd.t1 rfl rfl rfl) (fun hc => p_fieldAddr fld_31_7.h (gh hc rfl)) <| zgq (Gd.t1 rfl rfl rfl) (fun hc => q_load1 ty_2.h (gh hc rfl) (Mem.pub (hr1 7 _ rfl))) <| zgv (Gd.t1 rfl rfl rfl) (fun hc => (opds_3 (gh hc rfl) rfl rfl)) (fun hc => (fun w hw => c_spec_l00In r.capture 0 3)) ?_
 refine Qq (p_pickAnd rfl rfl rfl) <| Qm rfl <| zg (Gd.t1 rfl rfl rfl) (fun hc => p_move rfl) <| zg (Gd.t1 rfl rfl rfl) (fun hc => p_nilCheck (gh hc rfl)) <| zg (Gd.t1 rfl rfl rfl) (fun hc => p_fieldAddr fld_31_8.h (gh hc rfl)) <| zgq (Gd.t1 rfl rfl rfl) (fun hc => q_load1 ty_2.h (gh hc rfl) (Mem.pub (hr1 8 _ rfl))) <| zgv (Gd.t1 rfl rfl rfl) (fun hc => (opds_3 (gh hc rfl) rfl rfl)) (fun hc => (fun w hw => c_spec_l00In r.slam 0 2)) ?_
 refine Qq (p_pickAnd rfl rfl rfl) <| Qm rfl <| zg (Gd.t1 rfl rfl rfl) (fun hc => p_move rfl) <| zg (Gd.t1 rfl rfl rfl) (fun hc => p_nilCheck (gh hc rfl)) <| zg (Gd.t1 rfl rfl rfl) (fun hc => p_fieldAddr fld_31_2.h (gh hc rfl)) <| zgq (Gd.t1 rfl rfl rfl) (fun hc => q_load1 ty_4.h (gh hc rfl) (Mem.pub (hr1 2 _ rfl))) <| zg (Gd.t1 rfl rfl rfl) (fun hc => p_move (gh hc rfl)) <| zg (Gd.f2 rfl rfl rfl) (fun hc => p_move rfl) <| zg (Gd.f2 rfl rfl rfl) (fun hc => p_nilCheck (gh hc rfl)) <| zg (Gd.f2 rfl rfl rfl) (fun hc => p_fieldAddr fld_31_6.h (gh hc rfl)) <| zgq (Gd.f2 rfl rfl rfl) (fun hc => q_load1 ty_4.h (gh hc rfl) (Mem.pub (hr1 6 _ rfl))) <| zg (Gd.f2 rfl rfl rfl) (fun hc => p_not (gh hc rfl)) <| zg (Gd.t1 rfl rfl rfl) (fun hc => p_pickOr (gh hc rfl) rfl (gvl rfl hc)) <| Qq (p_pickAnd rfl rfl rfl) ?_
 refine Qa rfl <| JL.nil ?_
 refine zR (Up.refl _ _) ?_
 simp [outV, M.okR, Bool.and_assoc]
theorem c_spec_l04Sum (list : List Int) {v_list : Value} {w : World} (h_list : (Ty.ints 2 list).ok w v_list) (r0 : list.length ≤ 4194304 := by exact om_) : RetV Tryd.prog 80 [v_list] w (.int .i64 (M.sum4 list)) := by
 revert v_list; apply opn
 intro A1 c1 h1 bl1 bh1
 have h_list := h1
 refine enter @Tryd.func80 @Tryd.ntmps80 rfl rfl ?_
 refine zent ?_
 refine zS <| Qa rfl <| zN <| Qa rfl <| zJ <| zS <| Qa rfl <| JL.nil <| Js.block ?_
 refine zl [0] (fun F U l os u m => ∃ (k : Nat) (t : Int), l = F [(3, .int .i64 t), (4, .int .i64 (k : Int))] ∧ os = U [] ∧ (k ≤ list.length) ∧ (0 ≤ t) ∧ (t ≤ 96 * k) ∧ (M.sumFrom t (list.drop k) = M.sumFrom 0 list) ∧ m = list.length - k) ⟨0, 0, rfl, rfl, zt, zt, zt, zt, rfl⟩ ?_
 rintro _ _ u2 _ ⟨k, t, rfl, rfl, hk, t0, t9, hS, rfl⟩ x2
 refine zn ?_
 refine Js.seq <| zS <| Qm rfl <| Qm rfl <| Qz rfl <| Ql rfl rfl <| JL.nil ?_
 refine zi (fun h3 h3' => ?_) fun h3 h3' => ?_
 ·
  obtain ⟨b4, o4, he4, hc4⟩ := ints_elem (Ty.mono _ h1 x2.vis) (i := k) (by omega)
  refine Js.skip <| Js.seq <| Js.block <| Js.seq <| zS <| Qm rfl <| Qm rfl <| Qq (p_indexAddr el_24 rfl rfl (by omega) (by omega) he4) <| QC hc4 rfl <| zv rfl (fun w hw => c_spec_l00In (M.nth list k) 0 96) <| Qt rfl <| JL.nil ?_
  refine zi (fun h5 h5' => ?_) fun h5 h5' => ?_
  ·
   have e1 : M.sum4 list = -1 := M.sum4_no (by rw [M.sumFrom_step (by omega), if_neg (by simpa using h5)] at hS; exact M.sumFrom_none hS.symm)
   refine zS <| Qa rfl <| JL.nil ?_
   refine zR x2 ?_
   rw [e1]; rfl
  have hb : M.betw (M.nth list k) 0 96 = true := by simpa using h5
  obtain ⟨hb0, hb1⟩ := M.betw_iff.1 hb
  obtain ⟨b6, o6, he6, hc6⟩ := ints_elem (Ty.mono _ h1 x2.vis) (i := k) (by omega)
  refine Js.skip <| Js.region <| Qm rfl <| Qm rfl <| Qm rfl <| Qq (p_indexAddr el_24 rfl rfl (by omega) (by omega) he6) <| QC hc6 rfl <| Qp rfl rfl <| Qa rfl <| JL.nil <| Js.blockEnd <| Js.region <| Qm rfl <| Qp rfl rfl ?_
  refine Qa rfl <| JL.nil ?_
  exact zag ⟨k + 1, t + (M.nth list k), rfl, rfl, zt, zt, zt, by rw [M.sumFrom_step (by omega), if_pos hb] at hS; exact hS, rfl⟩ x2
 obtain ⟨e1, e2⟩ := M.sumFrom_some (by rw [← hS]; exact M.sumFrom_end (by omega))
 refine zx ?_
 refine Js.seq <| zS <| Qm rfl <| Qg rfl rfl <| JL.nil ?_
 refine zi (fun h7 h7' => ?_) fun h7 h7' => ?_
 ·
  have e1 : M.sum4 list = -1 := M.sum4_big (by omega)
  refine zS <| Qa rfl <| JL.nil ?_
  refine zR x2 ?_
  rw [e1]; rfl
 have e1 : M.sum4 list = t := by rw [M.sum4_ok e1 (by omega), e2]
 refine Js.skip <| zS <| Qm rfl <| Qa rfl <| JL.nil ?_
 refine zR x2 ?_
 rw [e1]; rfl
theorem c_spec_l04Ok (r : M.Rul) {v_r : Value} (p : M.Pos) {v_p : Value} {w : World} (h_r : (Ty.ref (cRules r)).ok w v_r) (h_p : (Ty.ref (cPosition p)).ok w v_p) (r0 : p.pits.length ≤ 4194304 := by exact om_) (r1 : p.stores.length ≤ 4194304 := by exact om_) : RetV Tryd.prog 72 [v_r, v_p] w (.bool (M.okP r p)) := by
 have b1 := M.sum4_bd p.pits
 have b2 := M.sum4_bd p.stores
 revert v_r; apply opn
 intro b1 o1 hr1
 revert v_p; apply opn
 intro b4 o4 A2 c2 h2 bl2 bh2 A3 c3 h3 bl3 bh3 hr4
 refine enter @Tryd.func72 @Tryd.ntmps72 rfl rfl ?_
 refine zent ?_
 refine zS <| Qa rfl <| zJ <| Js.seq ?_
 refine zdr [] ?_
 refine jM 0 rfl rfl ?_
 refine y1 1 ?_
 refine yv rfl rfl (fun w hw => c_spec_l02Ok r (ok_ hw)) ?_
 refine JH.p 2 rfl (p_not rfl) ?_
 refine jM 3 rfl rfl ?_
 refine JH.pg 4 rfl (Gd.f1 rfl rfl rfl) (fun hc => p_move rfl) ?_
 refine JH.pg 5 rfl (Gd.f1 rfl rfl rfl) (fun hc => p_nilCheck (gvt rfl hc)) ?_
 refine JH.pg 6 rfl (Gd.f1 rfl rfl rfl) (fun hc => p_fieldAddr fld_33_0.h (gvt rfl hc)) ?_
 refine JH.wg 7 rfl (Gd.f1 rfl rfl rfl) (fun hc os' u' hv => q_load1 ty_24.h (gvt rfl hc) (Mem.pub ((hr4.vis hv) 0 _ rfl))) ?_
 refine JH.pg 8 rfl (Gd.f1 rfl rfl rfl) (fun hc => p_len el_24 (gvt rfl hc)) ?_
 refine JH.pg 9 rfl (Gd.f1 rfl rfl rfl) (fun hc => p_move rfl) ?_
 refine JH.pg 10 rfl (Gd.f1 rfl rfl rfl) (fun hc => p_nilCheck (gvt rfl hc)) ?_
 refine JH.pg 11 rfl (Gd.f1 rfl rfl rfl) (fun hc => p_fieldAddr fld_31_0.h (gvt rfl hc)) ?_
 refine JH.wg 12 rfl (Gd.f1 rfl rfl rfl) (fun hc os' u' hv => q_load1 ty_2.h (gvt rfl hc) (Mem.pub ((hr1.vis hv) 0 _ rfl))) ?_
 refine JH.pg 13 rfl (Gd.f1 rfl rfl rfl) (fun hc => p_mul rfl (gvt rfl hc) (IntWalk.i64_in _ (by have := M.okR_bd (r := r) (by simpa using hc); omega))) ?_
 refine JH.pg 14 rfl (Gd.f1 rfl rfl rfl) (fun hc => p_neq (gvt rfl hc) (gvt rfl hc)) ?_
 refine JH.p 15 rfl (p_pickOr rfl rfl rfl) ?_
 refine jM 16 rfl rfl ?_
 refine JH.pg 17 rfl (Gd.f1 rfl rfl rfl) (fun hc => p_move rfl) ?_
 refine JH.pg 18 rfl (Gd.f1 rfl rfl rfl) (fun hc => p_nilCheck (gvt rfl hc)) ?_
 refine JH.pg 19 rfl (Gd.f1 rfl rfl rfl) (fun hc => p_fieldAddr fld_33_1.h (gvt rfl hc)) ?_
 refine JH.wg 20 rfl (Gd.f1 rfl rfl rfl) (fun hc os' u' hv => q_load1 ty_24.h (gvt rfl hc) (Mem.pub ((hr4.vis hv) 1 _ rfl))) ?_
 refine JH.pg 21 rfl (Gd.f1 rfl rfl rfl) (fun hc => p_len el_24 (gvt rfl hc)) ?_
 refine JH.pg 22 rfl (Gd.f1 rfl rfl rfl) (fun hc => p_neq (gvt rfl hc) rfl) ?_
 refine JH.p 23 rfl (p_pickOr rfl rfl rfl) ?_
 refine jM 24 rfl rfl ?_
 refine JH.pg 25 rfl (Gd.f1 rfl rfl rfl) (fun hc => p_move rfl) ?_
 refine JH.pg 26 rfl (Gd.f1 rfl rfl rfl) (fun hc => p_nilCheck (gvt rfl hc)) ?_
 refine JH.pg 27 rfl (Gd.f1 rfl rfl rfl) (fun hc => p_fieldAddr fld_33_2.h (gvt rfl hc)) ?_
 refine JH.wg 28 rfl (Gd.f1 rfl rfl rfl) (fun hc os' u' hv => q_load1 ty_2.h (gvt rfl hc) (Mem.pub ((hr4.vis hv) 2 _ rfl))) ?_
 refine y1 29 ?_
 refine JHo.ge rfl (Gd.f1 rfl rfl rfl) (fun hc => e_callV fn_59.h (opds_3 (gvt rfl hc) rfl rfl) (fun w hw => c_spec_l00In p.player 0 1)) ?_
 refine JH.pg 30 rfl (Gd.f1 rfl rfl rfl) (fun hc => p_not (gvt rfl hc)) ?_
 refine JH.p 31 rfl (p_pickOr rfl rfl rfl) ?_
 refine yd ?_
 refine zi (fun h5 h5' => ?_) fun h5 h5' => ?_
 ·
  refine zS <| Qa rfl <| JL.nil ?_
  refine zR (Up.refl _ _) ?_
  rw [M.okP_no (by simpa [or_assoc] using h5)]; rfl
 obtain ⟨⟨⟨q1, q2⟩, q3⟩, q4⟩ : ((M.okR r = true ∧ (p.pits.length : Int) = 2 * r.pits) ∧ (p.stores.length : Int) = 2) ∧ M.betw p.player 0 1 = true := by simpa using h5
 refine Js.skip <| zS <| Qm rfl <| Qc rfl <| Qf fh rfl <| QC (hr4 0 _ rfl) rfl <| zv rfl (fun w hw => c_spec_l04Sum p.pits (ok_ hw)) <| Qa rfl <| zN <| Qm rfl <| Qc rfl <| Qf fh rfl <| QC (hr4 1 _ rfl) rfl <| zv rfl (fun w hw => c_spec_l04Sum p.stores (ok_ hw)) ?_
 refine Qa rfl <| zN <| Qm rfl <| Qh rfl rfl <| Qm rfl <| zg (Gd.t1 rfl rfl rfl) (fun hc => p_move rfl) <| zg (Gd.t1 rfl rfl rfl) (fun hc => p_geq (gh hc rfl) rfl) <| Qq (p_pickAnd rfl rfl rfl) <| Qm rfl <| zg (Gd.t1 rfl rfl rfl) (fun hc => p_move rfl) <| zg (Gd.t1 rfl rfl rfl) (fun hc => p_move rfl) <| zg (Gd.t1 rfl rfl rfl) (fun hc => p_add (gh hc rfl) (gh hc rfl) (IntWalk.i64_in _ (by have hc9 := hc; (try simp only [Bool.and_eq_true, decide_eq_true_eq] at hc9); omega))) ?_
 refine zg (Gd.t1 rfl rfl rfl) (fun hc => p_leq (gh hc rfl) rfl) <| Qq (p_pickAnd rfl rfl rfl) <| Qa rfl <| JL.nil ?_
 refine zR (Up.refl _ _) ?_
 rw [M.okP_yes4 q1 q2 q3 q4]; rfl
theorem c_spec_l00Own (list : List Int) {v_list : Value} {w : World} (h_list : (Ty.ints 2 list).ok w v_list) (r0 : list.length ≤ 4194304 := by exact om_) : Ret Tryd.prog 57 [v_list] w (Ty.ints 2 list) := by
 revert v_list; apply opn
 intro A1 c1 h1 bl1 bh1
 have h_list := h1
 refine enter @Tryd.func57 @Tryd.ntmps57 rfl rfl ?_
 refine zent ?_
 refine zS <| Qa rfl <| zN <| zbs fun b2 => ?_
 refine Qm rfl ?_
 refine JL.e (e_append (i := 0) (n' := list.length) (vs' := ints_ list) el_24 rfl rfl rfl rfl (src_ints und_24 h1) (by omega) (by omega) ln2_ (by simp [ints_])) ?_
 rintro v4 _ _ ⟨⟨g5, rfl⟩, rfl⟩ _
 refine JL.fact (row_form' (i := 0) rfl) (fun hf6 => ?_)
 obtain ⟨A6, c6, rfl, bl6, bh6⟩ := hf6
 refine znl ?_
 refine Qa rfl <| JL.nil ?_
 exact zro (Up.refl _ _)
theorem c_spec_l02Owner (r : M.Rul) {v_r : Value} (pit : Int) {w : World} (h_r : (Ty.ref (cRules r)).ok w v_r) (r0 : 2 ≤ r.pits := by exact om_) (r1 : r.pits ≤ 8 := by exact om_) (r2 : 0 ≤ pit := by exact om_) (r3 : pit ≤ 1000 := by exact om_) : RetV Tryd.prog 56 [v_r, .int .i64 pit] w (.int .i64 (M.owner r pit)) := by
 revert v_r; apply opn
 intro b1 o1 hr1
 refine enter @Tryd.func56 @Tryd.ntmps56 rfl rfl ?_
 refine zent ?_
 refine zS <| Qa rfl <| zN <| Qm rfl <| Qm rfl <| Qc rfl <| Qf fh rfl <| QC (hr1 0 _ rfl) rfl <| Qq (p_quo rfl rfl (by omega) (wrap_quo (by omega) (by omega) (by omega))) <| Qa rfl <| JL.nil ?_
 refine zR (Up.refl _ _) ?_
 rfl
theorem c_spec_l02Opposite (r : M.Rul) {v_r : Value} (pit : Int) {w : World} (h_r : (Ty.ref (cRules r)).ok w v_r) (r0 : 2 ≤ r.pits := by exact om_) (r1 : r.pits ≤ 8 := by exact om_) (r2 : 0 ≤ pit := by exact om_) (r3 : pit ≤ 1000 := by exact om_) : RetV Tryd.prog 60 [v_r, .int .i64 pit] w (.int .i64 (M.opp r pit)) := by
 revert v_r; apply opn
 intro b1 o1 hr1
 refine enter @Tryd.func60 @Tryd.ntmps60 rfl rfl ?_
 refine zent ?_
 refine zS <| Qa rfl <| zN <| Qm rfl <| Qc rfl <| Qf fh rfl <| QC (hr1 0 _ rfl) rfl <| Qu rfl rfl <| Qs rfl rfl <| Qm rfl <| Qs rfl rfl <| Qa rfl <| JL.nil ?_
 refine zR (Up.refl _ _) ?_
 rfl
theorem c_spec_l02Next (r : M.Rul) {v_r : Value} (pit : Int) {w : World} (h_r : (Ty.ref (cRules r)).ok w v_r) (r0 : 2 ≤ r.pits := by exact om_) (r1 : r.pits ≤ 8 := by exact om_) (r2 : -1 ≤ pit := by exact om_) (r3 : pit ≤ 1000 := by exact om_) : RetV Tryd.prog 86 [v_r, .int .i64 pit] w (.int .i64 ((pit + 1) % (2 * r.pits))) := by
 revert v_r; apply opn
 intro b1 o1 hr1
 refine enter @Tryd.func86 @Tryd.ntmps86 rfl rfl ?_
 refine zent ?_
 have hrn2 := Int.emod_nonneg (pit + 1) (b := 2 * r.pits) (by omega)
 have hrl2 := Int.emod_lt_of_pos (pit + 1) (show 0 < 2 * r.pits by omega)
 refine zS <| Qa rfl <| zN <| Qm rfl <| Qp rfl rfl <| Qm rfl <| Qc rfl <| Qf fh rfl <| QC (hr1 0 _ rfl) rfl <| Qu rfl rfl <| Qq (p_rem rfl rfl (by omega) (Int.tmod_eq_emod_of_nonneg (by omega))) <| Qa rfl <| JL.nil ?_
 exact zr (Up.refl _ _)
theorem c_spec_l05Next (r : M.Rul) {v_r : Value} (player place : Int) {w : World} (h_r : (Ty.ref (cRules r)).ok w v_r) (r0 : 2 ≤ r.pits := by exact om_) (r1 : r.pits ≤ 8 := by exact om_) (r2 : player = 0 ∨ player = 1 := by exact om_) (r3 : -1 ≤ place := by exact om_) (r4 : place ≤ 1000 := by exact om_) : RetV Tryd.prog 81 [v_r, .int .i64 player, .int .i64 place] w (.int .i64 (M.after r player place)) := by
 have hq := M.mul_bd r2 r0 r1
 revert v_r; apply opn
 intro b1 o1 hr1
 refine enter @Tryd.func81 @Tryd.ntmps81 rfl rfl ?_
 refine zent ?_
 refine zS <| Qa rfl <| zN <| Qm rfl <| Qp rfl rfl <| Qm rfl <| Qc rfl <| Qf fh rfl <| QC (hr1 0 _ rfl) rfl <| Qu rfl rfl <| Qs rfl rfl <| Qa rfl <| zJ <| zS ?_
 refine Qm rfl <| Qe rfl rfl <| JL.nil ?_
 refine zi (fun h2 h2' => ?_) fun h2 h2' => ?_
 ·
  have e1 := M.after_m1 (r := r) (player := player) (place := place) (by simpa using h2) (by omega)
  refine zS <| Qm rfl <| Qm rfl <| zv rfl (fun w hw => c_spec_l02Next r (((player + 1) * r.pits) - 1) (ok_ hw)) <| Qa rfl <| JL.nil ?_
  refine zR (Up.refl _ _) ?_
  rw [e1]; rfl
 refine Js.skip <| Js.seq <| zS <| Qm rfl <| Qc rfl <| Qf fh rfl <| QC (hr1 2 _ rfl) rfl <| Qm rfl <| zg (Gd.t1 rfl rfl rfl) (fun hc => p_move rfl) <| zg (Gd.t1 rfl rfl rfl) (fun hc => p_move rfl) <| zg (Gd.t1 rfl rfl rfl) (fun hc => p_eql (gh hc rfl) (gh hc rfl)) <| Qq (p_pickAnd rfl rfl rfl) <| JL.nil ?_
 refine zi (fun h3 h3' => ?_) fun h3 h3' => ?_
 ·
  have e1 := M.after_end (r := r) (player := player) (place := place) (by simpa using h3)
  refine zS <| Qa rfl <| JL.nil ?_
  refine zR (Up.refl _ _) ?_
  rw [e1]; rfl
 have e1 := M.after_else (r := r) (player := player) (place := place) (by simpa using h3) (by omega)
 refine Js.skip <| zS <| Qm rfl <| Qm rfl <| zv rfl (fun w hw => c_spec_l02Next r place (ok_ hw)) <| Qa rfl <| JL.nil ?_
 refine zR (Up.refl _ _) ?_
 rw [e1]; rfl
theorem c_spec_l04Side (r : M.Rul) {v_r : Value} (pits : List Int) {v_pits : Value} (player : Int) {w : World} (h_r : (Ty.ref (cRules r)).ok w v_r) (h_pits : (Ty.ints 2 pits).ok w v_pits) (r0 : 2 ≤ r.pits := by exact om_) (r1 : r.pits ≤ 8 := by exact om_) (r2 : player = 0 ∨ player = 1 := by exact om_) (r3 : (pits.length : Int) = 2 * r.pits := by exact om_) (r4 : M.allOk pits = true := by exact om_) : RetV Tryd.prog 53 [v_r, v_pits, .int .i64 player] w (.int .i64 (M.side r pits player)) := by
 have hq := M.mul_bd r2 r0 r1
 have hsp := M.side_part (ps := pits) (r := r) (player := player) (by omega)
 revert v_r; apply opn
 intro b1 o1 hr1
 revert v_pits; apply opn
 intro A2 c2 h2 bl2 bh2
 have h_pits := h2
 refine enter @Tryd.func53 @Tryd.ntmps53 rfl rfl ?_
 refine zent ?_
 refine zS <| Qa rfl <| zN <| Qa rfl <| zJ <| zS <| Qm rfl <| Qm rfl <| Qc rfl <| Qf fh rfl <| QC (hr1 0 _ rfl) rfl <| Qu rfl rfl <| Qa rfl <| JL.nil ?_
 refine Js.block ?_
 refine zl [0, 1, 2] (fun F U l os u m => ∃ (k t : Int), l = F [(7, .int .i64 t), (8, .int .i64 k)] ∧ os = U [] ∧ (t + M.part pits k ((player + 1) * r.pits) = M.side r pits player) ∧ (player * r.pits ≤ k) ∧ (k ≤ (player + 1) * r.pits) ∧ (0 ≤ t) ∧ (t ≤ 96 * (k - player * r.pits)) ∧ m = ((player + 1) * r.pits - k).toNat) ⟨player * r.pits, 0, rfl, rfl, by rw [hsp]; omega, zt, zt, zt, zt, rfl⟩ ?_
 rintro _ _ u3 _ ⟨k, t, rfl, rfl, hS, k0, k1, t0, t1, rfl⟩ x3
 refine zn ?_
 have hv := M.allOk_nth r4 k.toNat
 refine Js.seq <| zS <| Qm rfl <| Qm rfl <| Qp rfl rfl <| Qm rfl <| Qc rfl <| Qf fh rfl <| QC ((hr1.vis x3.vis) 0 _ rfl) rfl <| Qu rfl rfl <| Ql rfl rfl <| JL.nil ?_
 refine zi (fun h4 h4' => ?_) fun h4 h4' => ?_
 ·
  obtain ⟨b5, o5, he5, hc5⟩ := ints_elem (Ty.mono _ h2 x3.vis) (i := k.toNat) (by omega)
  refine Js.skip <| Js.seq <| Js.block <| Js.region <| Qm rfl <| Qm rfl <| Qm rfl <| Qq (p_indexAddr el_24 rfl rfl (by omega) (by omega) he5) <| QC hc5 rfl <| Qp rfl rfl <| Qa rfl <| JL.nil <| Js.blockEnd <| Js.region ?_
  refine Qm rfl <| Qp rfl rfl <| Qa rfl <| JL.nil ?_
  exact zag ⟨k + 1, t + (M.nth pits k.toNat), rfl, rfl, by rw [M.part_step (by omega) (by omega) (by omega)] at hS; simp only [M.getI] at hS; omega, zt, zt, zt, zt, rfl⟩ x3
 have e1 : M.side r pits player = t := by rw [M.part_end (by omega)] at hS; omega
 refine zx ?_
 refine zS <| Qm rfl <| Qa rfl <| JL.nil ?_
 refine zR x3 ?_
 rw [e1]; rfl
theorem c_spec_l05Code (r : M.Rul) {v_r : Value} (p : M.Pos) {v_p : Value} (move : Int) {w : World} (h_r : (Ty.ref (cRules r)).ok w v_r) (h_p : (Ty.ref (cPosition p)).ok w v_p) (r0 : p.pits.length ≤ 4194304 := by exact om_) (r1 : p.stores.length ≤ 4194304 := by exact om_) : RetV Tryd.prog 54 [v_r, v_p, .int .i64 move] w (.int .i64 (M.sowCode r p move)) := by
 revert v_r; apply opn
 intro b1 o1 hr1
 revert v_p; apply opn
 intro b4 o4 A2 c2 h2 bl2 bh2 A3 c3 h3 bl3 bh3 hr4
 refine enter @Tryd.func54 @Tryd.ntmps54 rfl rfl ?_
 refine zent ?_
 refine zS <| Qa rfl <| zJ <| zS <| Qm rfl <| Qm rfl <| zv rfl (fun w hw => c_spec_l04Ok r p (ok_ hw) (ok_ hw)) <| Qt rfl <| JL.nil ?_
 refine zi (fun h5 h5' => ?_) fun h5 h5' => ?_
 ·
  refine zS <| Qa rfl <| JL.nil ?_
  refine zR (Up.refl _ _) ?_
  simp_all [outV, M.sowCode, M.getI]
 have hok : M.okP r p = true := by simpa using h5
 obtain ⟨g1, g2, g3, g4, g5, g6, g7⟩ := M.okP_bd hok
 have hq := M.mul_bd g7 g1 g2
 refine Js.skip <| Js.seq <| zS <| Qm rfl <| Qm rfl <| Qc rfl <| Qf fh rfl <| QC (hr1 0 _ rfl) rfl <| Qs rfl rfl <| zv rfl (fun w hw => c_spec_l00In move 0 (r.pits - 1)) <| Qt rfl <| JL.nil ?_
 refine zi (fun h6 h6' => ?_) fun h6 h6' => ?_
 ·
  refine zS <| Qa rfl <| JL.nil ?_
  refine zR (Up.refl _ _) ?_
  simp_all [outV, M.sowCode, M.getI]
 obtain ⟨m0, m1⟩ := M.betw_iff.1 (show M.betw move 0 (r.pits - 1) = true by simpa using h6)
 refine Js.skip <| Js.seq <| Js.seq ?_
 refine zdr [] ?_
 refine jM 0 rfl rfl ?_
 refine jN 1 rfl rfl ?_
 refine jF 2 fld_33_0 rfl rfl ?_
 refine jW 3 ty_24 rfl rfl (fun hv => (hr4.vis hv) 0 _ rfl) ?_
 refine jM 4 rfl rfl ?_
 refine jN 5 rfl rfl ?_
 refine jF 6 fld_33_2 rfl rfl ?_
 refine jW 7 ty_2 rfl rfl (fun hv => (hr4.vis hv) 2 _ rfl) ?_
 refine jM 8 rfl rfl ?_
 refine jN 9 rfl rfl ?_
 refine jF 10 fld_31_0 rfl rfl ?_
 refine jW 11 ty_2 rfl rfl (fun hv => (hr1.vis hv) 0 _ rfl) ?_
 refine JH.p 12 rfl (p_mul rfl rfl (IntWalk.i64_in _ (by omega))) ?_
 refine jM 13 rfl rfl ?_
 refine JH.p 14 rfl (p_add rfl rfl (IntWalk.i64_in _ (by omega))) ?_
 obtain ⟨b7, o7, he7, hc7⟩ := ints_elem h2 (i := ((p.player * r.pits) + move).toNat) (by omega)
 refine jI 15 el_24 rfl rfl rfl he7 ?_
 refine jW 16 ty_2 rfl rfl hc7.vis ?_
 refine JH.p 17 rfl (p_eql rfl rfl) ?_
 refine yd ?_
 refine zi (fun h8 h8' => ?_) fun h8 h8' => ?_
 ·
  refine zS <| Qa rfl <| JL.nil ?_
  refine zR (Up.refl _ _) ?_
  simp_all [outV, M.sowCode, M.getI]
 refine Js.skip <| zS <| Qa rfl <| JL.nil ?_
 refine zR (Up.refl _ _) ?_
 simp_all [outV, M.sowCode, M.getI]
theorem c_spec_l05Lap (r : M.Rul) {v_r : Value} (s_pits s_stores : List Int) (s_last s_laps : Int) {As_0 : Option Addr} {cs_0 : Nat} {gs_0 : List Nat} {As_1 : Option Addr} {cs_1 : Nat} {gs_1 : List Nat} (player from_ : Int) (path : List Int) {Apath_0 : Option Addr} {cpath_0 : Nat} {gpath_0 : List Nat} {bs : Nat} {w : World} (hb : Bw w [boxO bs [.slice As_0 s_pits.length cs_0, .slice As_1 s_stores.length cs_1, .int .i64 s_last, .int .i64 s_laps] 63, rowO 2 1 (.slice As_0 s_pits.length cs_0) s_pits.length (ints_ s_pits) gs_0, rowO 2 1 (.slice As_1 s_stores.length cs_1) s_stores.length (ints_ s_stores) gs_1, rowO 2 1 (.slice Apath_0 path.length cpath_0) path.length (ints_ path) gpath_0]) (h_r : (Ty.ref (cRules r)).ok (offW w (([boxO bs [.slice As_0 s_pits.length cs_0, .slice As_1 s_stores.length cs_1, .int .i64 s_last, .int .i64 s_laps] 63, rowO 2 1 (.slice As_0 s_pits.length cs_0) s_pits.length (ints_ s_pits) gs_0, rowO 2 1 (.slice As_1 s_stores.length cs_1) s_stores.length (ints_ s_stores) gs_1, rowO 2 1 (.slice Apath_0 path.length cpath_0) path.length (ints_ path) gpath_0] : List Own).flatMap (·.fp))) v_r) (bd0 : s_pits.length ≤ cs_0 := by exact om_) (bd1 : cs_0 ≤ 9223372036854775807 := by exact om_) (bd2 : s_stores.length ≤ cs_1 := by exact om_) (bd3 : cs_1 ≤ 9223372036854775807 := by exact om_) (bd4 : path.length ≤ cpath_0 := by exact om_) (bd5 : cpath_0 ≤ 9223372036854775807 := by exact om_) (r0 : 2 ≤ r.pits := by exact om_) (r1 : r.pits ≤ 8 := by exact om_) (r2 : player = 0 ∨ player = 1 := by exact om_) (r3 : 0 ≤ from_ := by exact om_) (r4 : from_ < 2 * r.pits := by exact om_) (r5 : M.Good r s_pits s_stores 0 := by exact om_) (r6 : 0 < (M.getI s_pits from_) := by exact om_) (r7 : 0 ≤ s_laps := by exact om_) (r8 : s_laps ≤ 99 := by exact om_) (r9 : path.length ≤ 10000 := by exact om_) : RetB Tryd.prog 73 [v_r, .pointer (some ⟨bs, 0, none⟩), .int .i64 player, .int .i64 from_, .slice Apath_0 path.length cpath_0] w [boxO bs [.slice As_0 s_pits.length cs_0, .slice As_1 s_stores.length cs_1, .int .i64 s_last, .int .i64 s_laps] 63, rowO 2 1 (.slice As_0 s_pits.length cs_0) s_pits.length (ints_ s_pits) gs_0, rowO 2 1 (.slice As_1 s_stores.length cs_1) s_stores.length (ints_ s_stores) gs_1, rowO 2 1 (.slice Apath_0 path.length cpath_0) path.length (ints_ path) gpath_0] (fun v bs' => ∃ (Axs_0 : Option Addr) (cxs_0 : Nat) (gxs_0 : List Nat) (Axs_1 : Option Addr) (cxs_1 : Nat) (gxs_1 : List Nat) (Axr : Option Addr) (cxr : Nat) (gxr : List Nat), v = .slice Axr (((M.lap r player from_ (M.Sw.mk s_pits s_stores s_last s_laps) path).2).length) cxr ∧ bs' = [boxO bs [.slice Axs_0 (((M.lap r player from_ (M.Sw.mk s_pits s_stores s_last s_laps) path).1.pits).length) cxs_0, .slice Axs_1 (((M.lap r player from_ (M.Sw.mk s_pits s_stores s_last s_laps) path).1.stores).length) cxs_1, .int .i64 ((M.lap r player from_ (M.Sw.mk s_pits s_stores s_last s_laps) path).1.last), .int .i64 ((M.lap r player from_ (M.Sw.mk s_pits s_stores s_last s_laps) path).1.laps)] 63, rowO 2 1 (.slice Axs_0 (((M.lap r player from_ (M.Sw.mk s_pits s_stores s_last s_laps) path).1.pits).length) cxs_0) (((M.lap r player from_ (M.Sw.mk s_pits s_stores s_last s_laps) path).1.pits).length) (ints_ ((M.lap r player from_ (M.Sw.mk s_pits s_stores s_last s_laps) path).1.pits)) gxs_0, rowO 2 1 (.slice Axs_1 (((M.lap r player from_ (M.Sw.mk s_pits s_stores s_last s_laps) path).1.stores).length) cxs_1) (((M.lap r player from_ (M.Sw.mk s_pits s_stores s_last s_laps) path).1.stores).length) (ints_ ((M.lap r player from_ (M.Sw.mk s_pits s_stores s_last s_laps) path).1.stores)) gxs_1, rowO 2 1 (.slice Axr (((M.lap r player from_ (M.Sw.mk s_pits s_stores s_last s_laps) path).2).length) cxr) (((M.lap r player from_ (M.Sw.mk s_pits s_stores s_last s_laps) path).2).length) (ints_ ((M.lap r player from_ (M.Sw.mk s_pits s_stores s_last s_laps) path).2)) gxr] ∧ ((M.lap r player from_ (M.Sw.mk s_pits s_stores s_last s_laps) path).1.pits).length ≤ cxs_0 ∧ cxs_0 ≤ 9223372036854775807 ∧ ((M.lap r player from_ (M.Sw.mk s_pits s_stores s_last s_laps) path).1.stores).length ≤ cxs_1 ∧ cxs_1 ≤ 9223372036854775807 ∧ ((M.lap r player from_ (M.Sw.mk s_pits s_stores s_last s_laps) path).2).length ≤ cxr ∧ cxr ≤ 9223372036854775807) := by
 have l1 := r5.lp
 have l2 := r5.ls
 have hk0 := r5.pit from_
 revert v_r; apply opn
 intro b1 o1 hr1
 refine enterB hb @Tryd.func73 @Tryd.ntmps73 rfl rfl ?_
 refine zent ?_
 refine Js.trashE ?_
 refine zn ?_
 refine Js.fact (row_some (i := 1) rfl (by omega)) (fun hf2 => ?_)
 obtain ⟨b2, rfl⟩ := hf2
 refine Js.fact (row_some (i := 2) rfl (by omega)) (fun hf3 => ?_)
 obtain ⟨b3, rfl⟩ := hf3
 refine zS <| Qa rfl <| zN <| Qm rfl <| Qc rfl <| Qf fh rfl <| Q0 0 rfl rfl rfl <| Qm rfl <| Qq (p_indexAddr el_24 rfl rfl (by omega) (by omega) rfl) <| Qw (q_load1 ty_2.h rfl (Mem.row (i := 1) rfl (ints_getI (i := from_) (by omega)))) <| Qa rfl <| zN <| Qm rfl <| Qc rfl ?_
 refine Qf fh rfl <| Q0 0 rfl rfl rfl <| Qm rfl <| Qq (p_indexAddr el_24 rfl rfl (by omega) (by omega) rfl) ?_
 refine JL.s (e_storeRow (i := 1) (xs' := ints_ (M.setI s_pits from_ 0)) ty_2.h rfl rfl rfl rfl rfl rfl (ints_lt (i := from_.toNat) (by omega)) (ints_setL (i := from_.toNat) (by omega))) ?_
 rintro _ _ _ ⟨rfl, rfl⟩ _
 refine znl ?_
 refine zN <| Qm rfl <| Qa rfl <| zJ <| Js.block ?_
 refine zl [0, 1, 2, 3] (fun F U l os u m => ∃ (k place : Int) (ps ss pth : List Int) (A6_4 : Option Addr) (c6_4 : Nat) (g6_4 : List Nat) (G6_4 : List Nat), l = F [(4, .slice A6_4 pth.length c6_4), (11, .int .i64 k), (12, .int .i64 place)] ∧ os = U [nO, some (rowO 2 1 (.slice (some ⟨b2, 0, none⟩) s_pits.length cs_0) s_pits.length (ints_ ps) gs_0), some (rowO 2 1 (.slice (some ⟨b3, 0, none⟩) s_stores.length cs_1) s_stores.length (ints_ ss) gs_1), some (rowO 2 1 (.slice A6_4 pth.length c6_4) pth.length (ints_ pth) g6_4), some (anyO G6_4)] ∧ (M.sow r player from_ k.toNat place ps ss pth = M.sow r player from_ (M.getI s_pits from_).toNat from_ (M.setI s_pits from_ 0) s_stores path) ∧ (M.Good r ps ss k) ∧ (-1 ≤ place) ∧ (place < 2 * r.pits) ∧ ((pth.length : Int) + k = path.length + (M.getI s_pits from_)) ∧ (0 ≤ k) ∧ (pth.length ≤ c6_4) ∧ (c6_4 ≤ 9223372036854775807) ∧ m = M.ms k place from_) ⟨M.getI s_pits from_, from_, M.setI s_pits from_ 0, s_stores, path, _, _, _, _, rfl, rfl, by rfl, by exact r5.takeUp r3 r4, zt, zt, zt, zt, zu, zu, rfl⟩ ?_
 rintro _ _ u6 _ ⟨k, place, ps, ss, pth, A6_4, c6_4, g6_4, G6_4, rfl, rfl, hS, hG, p0, p1, hl, hk, f6_6, f6_7, rfl⟩ x6
 refine zn ?_
 have l3 := hG.lp
 have l4 := hG.ls
 have hs0 := hG.store player
 have ha := M.after_bd r (player := player) (n := place) r1 r0 r2 p0
 refine Js.seq <| zS <| Qm rfl <| Qg rfl rfl <| JL.nil ?_
 refine zi (fun h7 h7' => ?_) fun h7 h7' => ?_
 ·
  refine Js.skip <| Js.block <| zS <| Qm rfl <| Qm rfl <| Qm rfl <| zv rfl (fun w hw => c_spec_l05Next r player place (ok_ hw)) <| Qa rfl <| zJ <| zS <| Qm rfl <| Qc rfl <| Qf fh rfl <| QC ((hr1.vis x6.vis) 3 _ rfl) rfl ?_
  refine Qm rfl <| zg (Gd.t1 rfl rfl rfl) (fun hc => p_move rfl) <| zg (Gd.t1 rfl rfl rfl) (fun hc => p_move rfl) <| zg (Gd.t1 rfl rfl rfl) (fun hc => p_eql (gh hc rfl) (gh hc rfl)) <| Qq (p_pickAnd rfl rfl rfl) <| JL.nil ?_
  refine zi (fun h8 h8' => ?_) fun h8 h8' => ?_
  ·
   have hc : r.skip = true ∧ M.after r player place = from_ := by simpa using h8
   have hS2 : M.sow r player from_ k.toNat (M.after r player place) ps ss pth = M.sow r player from_ (M.getI s_pits from_).toNat from_ (M.setI s_pits from_ 0) s_stores path := by rw [hc.2, ← M.sow_skip r1 r0 r3 r4 hc (by omega)]; exact hS
   have hm2 := M.ms_skip (k := k) r1 r0 r3 r4 hc.2
   refine zx ?_
   exact zag ⟨k, M.after r player place, ps, ss, pth, _, _, _, _, rfl, rfl, by exact hS2, by first | exact hG2 | exact hG, zt, zt, by first | omega | (simp only [List.length_append, List.length_cons, List.length_nil]; omega), zt, zu, zu, rfl⟩ x6 (by exact hm2)
  have hc : ¬(r.skip = true ∧ M.after r player place = from_) := by simpa using h8
  have hq := M.nxt_no hc
  have hm2 := M.ms_lt (a := (M.after r player place)) (b := place) (frm := from_) (show 0 < k by omega)
  refine Js.skip <| Js.seq <| zS <| Qm rfl <| Qe rfl rfl <| JL.nil ?_
  refine zi (fun h9 h9' => ?_) fun h9 h9' => ?_
  ·
   have hq0 : (M.after r player place) = -1 := by simpa using h9
   have hS2 : M.sow r player from_ (k - 1).toNat (M.after r player place) ps (M.setI ss player (M.getI ss player + 1)) (pth ++ [(M.after r player place)]) = M.sow r player from_ (M.getI s_pits from_).toNat from_ (M.setI s_pits from_ 0) s_stores path := by rw [← hS, show k.toNat = (k - 1).toNat + 1 by omega, M.sow_succ hq, if_pos (by omega)]
   have hG2 := hG.putStore (k := player) (by omega) (by omega) (by omega)
   refine Js.region <| Qm rfl <| Qc rfl <| Qf fh rfl <| Q0 0 rfl rfl rfl <| Qm rfl <| Qq (p_indexAddr el_24 rfl rfl (by omega) (by omega) rfl) <| Qw (q_load1 ty_2.h rfl (Mem.row (i := 2) rfl (ints_getI (i := player) (by omega)))) <| Qp rfl rfl <| Qq (p_indexAddr el_24 rfl rfl (by omega) (by omega) rfl) ?_
   refine JL.s (e_storeRow (i := 2) (xs' := ints_ (M.setI ss player ((M.getI ss player) + 1))) ty_2.h rfl rfl rfl rfl rfl rfl (ints_lt (i := player.toNat) (by omega)) (ints_setL (i := player.toNat) (by omega))) ?_
   rintro _ _ _ ⟨rfl, rfl⟩ _
   refine znl ?_
   refine zN <| Qm rfl <| Qm rfl <| zbs fun b12 => ?_
   refine JL.e (e_append (i := 4) (n' := (pth ++ [(M.after r player place)]).length) (vs' := ints_ (pth ++ [(M.after r player place)])) el_24 rfl rfl rfl rfl (src_row (i := 0) und_24 rfl rfl) (by omega) (by omega) ln2_ (by simp [ints_])) ?_
   rintro v14 _ _ ⟨⟨g15, rfl⟩, rfl⟩ _
   refine JL.fact (row_form' (i := 4) rfl) (fun hf16 => ?_)
   obtain ⟨A16, c16, rfl, bl16, bh16⟩ := hf16
   refine znl ?_
   refine Qa rfl <| zG <| Qm rfl <| Qs rfl rfl <| Qa rfl <| JL.nil <| Js.blockEnd ?_
   refine zf [1, 1, 1, 1] fun GG17 => ?_
   refine zn ?_
   exact zag ⟨k - 1, M.after r player place, ps, M.setI ss player ((M.getI ss player) + 1), pth ++ [(M.after r player place)], _, _, _, _, rfl, rfl, by exact hS2, by first | exact hG2 | exact hG, zt, zt, by first | omega | (simp only [List.length_append, List.length_cons, List.length_nil]; omega), zt, zu, zu, rfl⟩ x6 (by exact hm2)
  have hq0 : ¬ (M.after r player place) = -1 := by simpa using h9
  have hS2 : M.sow r player from_ (k - 1).toNat (M.after r player place) (M.setI ps (M.after r player place) (M.getI ps (M.after r player place) + 1)) ss (pth ++ [(M.after r player place)]) = M.sow r player from_ (M.getI s_pits from_).toNat from_ (M.setI s_pits from_ 0) s_stores path := by rw [← hS, show k.toNat = (k - 1).toNat + 1 by omega, M.sow_succ hq, if_neg (by omega)]
  have hG2 := hG.putPit (k := (M.after r player place)) (by omega) (by omega) ha.2
  have hpq := hG.pit (M.after r player place)
  refine Js.region <| Qm rfl <| Qc rfl <| Qf fh rfl <| Q0 0 rfl rfl rfl <| Qm rfl <| Qq (p_indexAddr el_24 rfl rfl (by omega) (by omega) rfl) <| Qw (q_load1 ty_2.h rfl (Mem.row (i := 1) rfl (ints_getI (i := M.after r player place) (by omega)))) <| Qp rfl rfl <| Qq (p_indexAddr el_24 rfl rfl (by omega) (by omega) rfl) ?_
  refine JL.s (e_storeRow (i := 1) (xs' := ints_ (M.setI ps (M.after r player place) ((M.getI ps (M.after r player place)) + 1))) ty_2.h rfl rfl rfl rfl rfl rfl (ints_lt (i := (M.after r player place).toNat) (by omega)) (ints_setL (i := (M.after r player place).toNat) (by omega))) ?_
  rintro _ _ _ ⟨rfl, rfl⟩ _
  refine znl ?_
  refine zN <| Qm rfl <| Qm rfl <| zbs fun b20 => ?_
  refine JL.e (e_append (i := 4) (n' := (pth ++ [(M.after r player place)]).length) (vs' := ints_ (pth ++ [(M.after r player place)])) el_24 rfl rfl rfl rfl (src_row (i := 0) und_24 rfl rfl) (by omega) (by omega) ln2_ (by simp [ints_])) ?_
  rintro v22 _ _ ⟨⟨g23, rfl⟩, rfl⟩ _
  refine JL.fact (row_form' (i := 4) rfl) (fun hf24 => ?_)
  obtain ⟨A24, c24, rfl, bl24, bh24⟩ := hf24
  refine znl ?_
  refine Qa rfl <| zG <| Qm rfl <| Qs rfl rfl <| Qa rfl <| JL.nil <| Js.blockEnd ?_
  refine zf [1, 1, 1, 1] fun GG25 => ?_
  refine zn ?_
  exact zag ⟨k - 1, M.after r player place, M.setI ps (M.after r player place) ((M.getI ps (M.after r player place)) + 1), ss, pth ++ [(M.after r player place)], _, _, _, _, rfl, rfl, by exact hS2, by first | exact hG2 | exact hG, zt, zt, by first | omega | (simp only [List.length_append, List.length_cons, List.length_nil]; omega), zt, zu, zu, rfl⟩ x6 (by exact hm2)
 have hL : M.lap r player from_ (M.Sw.mk s_pits s_stores s_last s_laps) path = (⟨ps, ss, place, s_laps + 1⟩, pth) := by unfold M.lap; dsimp only; rw [← hS]; simp [show k.toNat = 0 by omega, M.sow]
 clear hS
 refine zx ?_
 refine zS <| Qm rfl <| Qm rfl <| Qc rfl <| Qf fh rfl <| zw 0 rfl rfl rfl ?_
 refine zN <| Qm rfl <| Qc rfl <| Qf fh rfl <| Q0 0 rfl rfl rfl <| Qp rfl rfl <| Qc rfl <| Qf fh rfl <| zw 0 rfl rfl rfl ?_
 refine zN <| Qm rfl <| Qa rfl <| JL.nil ?_
 refine zrb [0, 0, 0, 0] hb x6 ?_
 have hN1 : ((M.lap r player from_ (M.Sw.mk s_pits s_stores s_last s_laps) path).1.pits).length = s_pits.length := by first | (rw [hL]; done) | (rw [hL]; show ps.length = _; omega) | (rw [hL]; show ss.length = _; omega)
 have hE1 : (M.lap r player from_ (M.Sw.mk s_pits s_stores s_last s_laps) path).1.pits = ps := by rw [hL]
 have hN2 : ((M.lap r player from_ (M.Sw.mk s_pits s_stores s_last s_laps) path).1.stores).length = s_stores.length := by first | (rw [hL]; done) | (rw [hL]; show ps.length = _; omega) | (rw [hL]; show ss.length = _; omega)
 have hE2 : (M.lap r player from_ (M.Sw.mk s_pits s_stores s_last s_laps) path).1.stores = ss := by rw [hL]
 have hE3 : (M.lap r player from_ (M.Sw.mk s_pits s_stores s_last s_laps) path).1.last = place := by rw [hL]
 have hE4 : (M.lap r player from_ (M.Sw.mk s_pits s_stores s_last s_laps) path).1.laps = (s_laps + 1) := by rw [hL]
 have hN5 : ((M.lap r player from_ (M.Sw.mk s_pits s_stores s_last s_laps) path).2).length = pth.length := by first | (rw [hL]; done) | (rw [hL]; show ps.length = _; omega) | (rw [hL]; show ss.length = _; omega)
 have hE5 : (M.lap r player from_ (M.Sw.mk s_pits s_stores s_last s_laps) path).2 = pth := by rw [hL]
 refine ⟨(some ⟨b2, 0, none⟩), cs_0, gs_0, (some ⟨b3, 0, none⟩), cs_1, gs_1, A6_4, c6_4, g6_4, (by first | rfl | (rw [hN5]; done) | (rw [hN5]; rfl) | (rw [hE5]; done) | (rw [hE5]; rfl)), ?_, ?_, ?_, ?_, ?_, ?_, ?_⟩
 · rw [hN1, hE1, hN2, hE2, hE3, hE4, hN5, hE5]
 all_goals (first | (rw [hN1, hE1, hN2, hE2, hE3, hE4, hN5, hE5]; omega) | omega | (simp only [*]; omega) | (simp; done))
theorem c_spec_l05Sow (r : M.Rul) {v_r : Value} (p : M.Pos) {v_p : Value} (from_ : Int) {w : World} (h_r : (Ty.ref (cRules r)).ok w v_r) (h_p : (Ty.ref (cPosition p)).ok w v_p) (r0 : 2 ≤ r.pits := by exact om_) (r1 : r.pits ≤ 8 := by exact om_) (r2 : p.player = 0 ∨ p.player = 1 := by exact om_) (r3 : 0 ≤ from_ := by exact om_) (r4 : from_ < 2 * r.pits := by exact om_) (r5 : M.Good r p.pits p.stores 0 := by exact om_) (r6 : 0 < M.getI p.pits from_ := by exact om_) : Ret Tryd.prog 55 [v_r, v_p, .int .i64 from_] w (Ty.tup [Ty.agg (cSown ((M.sowT r p from_).1)), Ty.ints 2 ((M.sowT r p from_).2.1), Ty.bool ((M.sowT r p from_).2.2)]) := by
 have l1 := r5.lp
 have l2 := r5.ls
 obtain ⟨ha, hb1, hc1, hd, he, hf⟩ := M.lap_keeps (s := ⟨p.pits, p.stores, 0, 0⟩) r [] r1 r0 r2 r3 r4 r5
 replace hf : (M.lap r p.player from_ (M.Sw.mk p.pits p.stores 0 0) []).1.laps = 1 := hf
 replace hd : (M.lap r p.player from_ (M.Sw.mk p.pits p.stores 0 0) []).2.length ≤ 96 := by simpa using hd
 revert v_r; apply opn
 intro b1 o1 hr1
 revert v_p; apply opn
 intro b4 o4 A2 c2 h2 bl2 bh2 A3 c3 h3 bl3 bh3 hr4
 refine enter @Tryd.func55 @Tryd.ntmps55 rfl rfl ?_
 refine zent ?_
 refine zS <| za zeh fun b5 => Qa rfl <| Qa rfl <| zJ ?_
 refine zk [0, 1, 2, 6] (fun F U l os u => ∃ (b8 : Nat) (A6 : Option Addr) (c6 : Nat) (A7 : Option Addr) (c7 : Nat), l = F [(9, .pointer (some ⟨b8, 0, none⟩))] ∧ os = [boxO b8 [.slice A6 p.pits.length c6, .slice A7 p.stores.length c7, .int .i64 0, .int .i64 0] 63, rowO 2 1 (.slice A7 p.stores.length c7) p.stores.length (ints_ p.stores) [], rowO 2 1 (.slice A6 p.pits.length c6) p.pits.length (ints_ p.pits) []] ++ U [] ∧ (p.pits.length ≤ c6) ∧ (c6 ≤ 9223372036854775807) ∧ (p.stores.length ≤ c7) ∧ (c7 ≤ 9223372036854775807)) ?_ ?_
 ·
  refine zdr [12] ?_
  refine jM 0 rfl rfl ?_
  refine jN 1 rfl rfl ?_
  refine jF 2 fld_33_0 rfl rfl ?_
  refine jW 3 ty_24 rfl rfl (fun hv => (hr4.vis hv) 0 _ rfl) ?_
  refine jM 5 rfl rfl ?_
  refine jN 6 rfl rfl ?_
  refine jF 7 fld_33_1 rfl rfl ?_
  refine jW 8 ty_24 rfl rfl (fun hv => (hr4.vis hv) 1 _ rfl) ?_
  refine y2 4 11 ?_ ?_
  ·
   refine ycs rfl rfl (fun w hw => c_spec_l00Own p.pits (ok_ hw)) ?_
   intro A15 c15 bl15 bh15
   refine y2 9 11 ?_ ?_
   ·
    refine ycs rfl rfl (fun w hw => c_spec_l00Own p.stores (ok_ hw)) ?_
    intro A16 c16 bl16 bh16
    refine JH.p 10 rfl (q_bld) ?_
    refine y1 11 ?_
    refine ya rfl fun b17 => ?_
    refine y1 12 ?_
    refine yst rfl rfl rfl ?_
    refine yd ?_
    exact zm ⟨_, _, _, _, _, rfl, rfl, zt, zt, zt, zt⟩ (Up.refl _ _)
   refine ya rfl fun b18 => ?_
   refine y1 9 ?_
   refine ycs rfl rfl (fun w hw => c_spec_l00Own p.stores (ok_ hw)) ?_
   intro A19 c19 bl19 bh19
   refine JH.p 10 rfl (q_bld) ?_
   refine y1 12 ?_
   refine yst rfl rfl rfl ?_
   refine yd ?_
   refine zh [1, 0, 0, 0] ?_
   exact zm ⟨_, _, _, _, _, rfl, rfl, zt, zt, zt, zt⟩ (Up.refl _ _)
  refine ya rfl fun b20 => ?_
  refine y1 4 ?_
  refine ycs rfl rfl (fun w hw => c_spec_l00Own p.pits (ok_ hw)) ?_
  intro A21 c21 bl21 bh21
  refine y1 9 ?_
  refine ycs rfl rfl (fun w hw => c_spec_l00Own p.stores (ok_ hw)) ?_
  intro A22 c22 bl22 bh22
  refine JH.p 10 rfl (q_bld) ?_
  refine y1 12 ?_
  refine yst rfl rfl rfl ?_
  refine yd ?_
  refine zh [2, 0, 0, 0] ?_
  exact zm ⟨_, _, _, _, _, rfl, rfl, zt, zt, zt, zt⟩ (Up.refl _ _)
 rintro _ _ u14 ⟨b8, A6, c6, A7, c7, rfl, rfl, f14_0, f14_1, f14_2, f14_3⟩ x14
 refine zn ?_
 refine zS <| Qm rfl <| Qm rfl <| Qc rfl <| Qf fh rfl <| QC ((hr4.vis x14.vis) 2 _ rfl) rfl <| Qm rfl <| zbs fun b23 => ?_
 refine zhl [1, 2, 1, 0] ?_
 refine zB 4 sp_ rfl (fun w hb hw => c_spec_l05Lap r p.pits p.stores 0 0 p.player from_ [] hb (ok_ hw) (r3 := r3) (r5 := r5) (r6 := r6) (r9 := (by simp))) ?_
 rintro _ _ G25 ⟨A25s_0, c25s_0, g25s_0, A25s_1, c25s_1, g25s_1, A25_r, c25_r, g25_r, rfl, rfl, bl25_0, bl25_1, bl25_2, bl25_3, bl25_4, bl25_5⟩
 refine znl ?_
 refine Qa rfl <| zJ <| Js.block ?_
 refine zl [0, 1, 6, 9] (fun F U l os u m => ∃ (sw : M.Sw) (path : List Int) (A26_10 : Option Addr) (c26_10 : Nat) (g26_10 : List Nat) (A26_9_0 : Option Addr) (c26_9_0 : Nat) (g26_9_0 : List Nat) (A26_9_1 : Option Addr) (c26_9_1 : Nat) (g26_9_1 : List Nat) (G26_4 : List Nat), l = F [(10, .slice A26_10 path.length c26_10)] ∧ os = U [some (boxO b8 [.slice A26_9_0 sw.pits.length c26_9_0, .slice A26_9_1 sw.stores.length c26_9_1, .int .i64 sw.last, .int .i64 sw.laps] 63), some (rowO 2 1 (.slice A26_9_0 sw.pits.length c26_9_0) sw.pits.length (ints_ sw.pits) g26_9_0), some (rowO 2 1 (.slice A26_9_1 sw.stores.length c26_9_1) sw.stores.length (ints_ sw.stores) g26_9_1), some (rowO 2 1 (.slice A26_10 path.length c26_10) path.length (ints_ path) g26_10), some (anyO G26_4)] ∧ (M.moreT r p.player sw path = (M.mvT r p.player 100 from_ ⟨p.pits, p.stores, 0, 0⟩ [])) ∧ (M.Good r sw.pits sw.stores 0) ∧ (-1 ≤ sw.last) ∧ (sw.last < 2 * r.pits) ∧ (1 ≤ sw.laps) ∧ (sw.laps ≤ 100) ∧ (path.length ≤ 96 * sw.laps) ∧ (path.length ≤ c26_10) ∧ (c26_10 ≤ 9223372036854775807) ∧ (sw.pits.length ≤ c26_9_0) ∧ (c26_9_0 ≤ 9223372036854775807) ∧ (sw.stores.length ≤ c26_9_1) ∧ (c26_9_1 ≤ 9223372036854775807) ∧ m = (101 - sw.laps).toNat) ⟨(M.lap r p.player from_ (M.Sw.mk p.pits p.stores 0 0) []).1, (M.lap r p.player from_ (M.Sw.mk p.pits p.stores 0 0) []).2, _, _, _, _, _, _, _, _, _, _, rfl, rfl, by exact (M.mvT_moreT (s := ⟨p.pits, p.stores, 0, 0⟩) (Int.le_refl 0) (show (0 : Int) ≤ 99 by decide)).symm, by exact ha, zt, zt, zt, zt, by omega, zu, zu, zu, zu, zu, zu, rfl⟩ ?_
 rintro _ _ u26 _ ⟨sw, path, A26_10, c26_10, g26_10, A26_9_0, c26_9_0, g26_9_0, A26_9_1, c26_9_1, g26_9_1, G26_4, rfl, rfl, hS, hG, q0, q1, la0, la1, hl, f26_7, f26_8, f26_9, f26_10, f26_11, f26_12, rfl⟩ x26
 refine zn ?_
 have l3 := hG.lp
 have l4 := hG.ls
 refine Js.seq <| zS <| Qm rfl <| Qc rfl <| Qf fh rfl <| QC ((hr1.vis (x14.vis.trans x26.vis)) 4 _ rfl) rfl <| Qm rfl <| zg (Gd.t1 rfl rfl rfl) (fun hc => p_fieldAddr fld_63_2.h rfl) <| zgq (Gd.t1 rfl rfl rfl) (fun hc => q_load1 ty_2.h (gh hc rfl) (Mem.box (i := 0) rfl rfl)) <| zg (Gd.t1 rfl rfl rfl) (fun hc => p_geq (gh hc rfl) rfl) <| Qq (p_pickAnd rfl rfl rfl) <| Qm rfl <| zg (Gd.t1 rfl rfl rfl) (fun hc => p_fieldAddr fld_63_0.h rfl) <| zgq (Gd.t1 rfl rfl rfl) (fun hc => q_load1 ty_24.h (gh hc rfl) (Mem.box (i := 0) rfl rfl)) ?_
 refine zg (Gd.t1 rfl rfl rfl) (fun hc => p_fieldAddr fld_63_2.h rfl) <| zgq (Gd.t1 rfl rfl rfl) (fun hc => q_load1 ty_2.h (gh hc rfl) (Mem.box (i := 0) rfl rfl)) ?_
 refine JL.fact (row_some (i := 1) rfl (by omega)) (fun hf28 => ?_)
 obtain ⟨b28, rfl⟩ := hf28
 refine zg (Gd.t1 rfl rfl rfl) (fun hc => p_indexAddr el_24 (gh hc rfl) (gh hc rfl) (by have hc9 := hc; (try simp only [Bool.and_eq_true, decide_eq_true_eq] at hc9); omega) (by have hc9 := hc; (try simp only [Bool.and_eq_true, decide_eq_true_eq] at hc9); omega) rfl) ?_
 refine zgq (Gd.t1 rfl rfl rfl) (fun hc => q_load1 ty_2.h (gh hc rfl) (Mem.row (i := 1) rfl (ints_getI (i := sw.last) (by have hc9 := hc; (try simp only [Bool.and_eq_true, decide_eq_true_eq] at hc9); omega)))) ?_
 refine zg (Gd.t1 rfl rfl rfl) (fun hc => p_gtr (gh hc rfl) rfl) <| Qq (p_pickAnd rfl rfl rfl) <| JL.nil ?_
 refine zi (fun h29 h29' => ?_) fun h29 h29' => ?_
 ·
  have hm : M.more r sw = true := h29
  have hmm := M.more_get hm
  obtain ⟨ka, kb, kc, kd, ke, kf⟩ := M.lap_keeps r path r1 r0 r2 hmm.1 q1 hG
  have hgp := hmm.2
  refine Js.skip <| Js.block <| Js.seq <| zS <| Qf fh rfl <| Q0 0 rfl rfl rfl <| Qh rfl rfl <| JL.nil ?_
  refine zi (fun h30 h30' => ?_) fun h30 h30' => ?_
  ·
   have hT := M.sowT_no (r := r) (p := p) (frm := from_) (by rw [← hS, M.moreT_yes hm, show (100 - sw.laps).toNat = 0 by omega]; rfl)
   have hq0 : [] = ((M.sowT r p from_).1).pits := rp_ hT
   have hq1 : [] = ((M.sowT r p from_).1).stores := rp_ hT
   have hq2 : 0 = ((M.sowT r p from_).1).last := rp_ hT
   have hq3 : 0 = ((M.sowT r p from_).1).laps := rp_ hT
   have hq4 : [] = (M.sowT r p from_).2.1 := rp_ hT
   have hq5 : false = (M.sowT r p from_).2.2 := rp_ hT
   refine zS <| Qb ?_
   refine zw 5 rfl rfl rfl ?_
   refine Qa rfl <| Qa rfl <| JL.nil ?_
   exact zro (x14.trans x26)
  have hS2 : M.moreT r p.player (M.lap r p.player sw.last sw path).1 (M.lap r p.player sw.last sw path).2 = (M.mvT r p.player 100 from_ ⟨p.pits, p.stores, 0, 0⟩ []) := by rw [← hS, M.moreT_yes hm, M.mvT_moreT (by omega) (by omega)]
  refine Js.skip ?_
  refine zdr [8] ?_
  refine jM 0 rfl rfl ?_
  refine jM 1 rfl rfl ?_
  refine jN 2 rfl rfl ?_
  refine jF 3 fld_33_2 rfl rfl ?_
  refine JH.w 4 rfl (fun os' u' hv => q_load1 ty_2.h rfl (Mem.pub ((hr4.vis ((x14.vis.trans x26.vis).trans hv)) 2 _ rfl))) ?_
  refine jF 5 fld_63_2 rfl rfl ?_
  refine jB 6 0 ty_2 rfl rfl rfl rfl ?_
  refine jM 7 rfl rfl ?_
  refine y1 8 ?_
  refine yB 4 sp_ rfl rfl (fun w hb hw => c_spec_l05Lap r sw.pits sw.stores sw.last sw.laps p.player sw.last path hb (ok_ hw) (r3 := hmm.1) (r5 := hG)) ?_
  rintro _ _ G31 ⟨A31s_0, c31s_0, g31s_0, A31s_1, c31s_1, g31s_1, A31_r, c31_r, g31_r, rfl, rfl, bl31_0, bl31_1, bl31_2, bl31_3, bl31_4, bl31_5⟩
  refine znh ?_
  refine jA 9 rfl rfl ?_
  refine yd ?_
  refine Js.blockEnd ?_
  refine zd [0, 0, 0, 0, 1, 1] rfl fun u32 x32 => ?_
  exact zag ⟨(M.lap r p.player sw.last sw path).1, (M.lap r p.player sw.last sw path).2, _, _, _, _, _, _, _, _, _, _, rfl, rfl, by exact hS2, by exact ka, zt, zt, zt, zt, zt, zu, zu, zu, zu, zu, zu, rfl⟩ (x26.trans x32)
 have hm : M.more r sw = false := h29
 have hT := M.sowT_done (by rw [← hS]; exact M.moreT_no hm)
 refine zx ?_
 have hq0 : sw.pits = ((M.sowT r p from_).1).pits := rp_ hT
 have hq1 : sw.stores = ((M.sowT r p from_).1).stores := rp_ hT
 have hq2 : sw.last = ((M.sowT r p from_).1).last := rp_ hT
 have hq3 : sw.laps = ((M.sowT r p from_).1).laps := rp_ hT
 have hq4 : path = (M.sowT r p from_).2.1 := rp_ hT
 have hq5 : true = (M.sowT r p from_).2.2 := rp_ hT
 refine zS <| Q9 0 rfl rfl ?_
 refine Qm rfl <| zw 5 rfl rfl rfl ?_
 refine Qa rfl <| Qa rfl <| JL.nil ?_
 exact zro (x14.trans x26)
theorem c_spec_l05Move (r : M.Rul) {v_r : Value} (p : M.Pos) {v_p : Value} (move : Int) {w : World} (h_r : (Ty.ref (cRules r)).ok w v_r) (h_p : (Ty.ref (cPosition p)).ok w v_p) (r0 : p.pits.length ≤ 4194304 := by exact om_) (r1 : p.stores.length ≤ 4194304 := by exact om_) : Ret Tryd.prog 28 [v_r, v_p, .int .i64 move] w (Ty.tup [Ty.agg (cSown ((M.sowMove r p move).2.1)), Ty.ints 2 ((M.sowMove r p move).2.2), Ty.int ((M.sowMove r p move).1)]) := by
 revert v_r; apply opn
 intro b1 o1 hr1
 revert v_p; apply opn
 intro b4 o4 A2 c2 h2 bl2 bh2 A3 c3 h3 bl3 bh3 hr4
 refine enter @Tryd.func28 @Tryd.ntmps28 rfl rfl ?_
 refine zent ?_
 refine zS <| za zeh fun b5 => Qa rfl <| Qa rfl <| zN <| Qm rfl <| Qm rfl <| Qm rfl <| zv rfl (fun w hw => c_spec_l05Code r p move (ok_ hw) (ok_ hw)) <| Qa rfl <| zJ <| zS <| Qm rfl <| Qd rfl rfl ?_
 refine JL.nil ?_
 refine zi (fun h6 h6' => ?_) fun h6 h6' => ?_
 ·
  have hT := M.sowMove_code (r := r) (p := p) (move := move) (by simpa using h6)
  have hq0 : [] = ((M.sowMove r p move).2.1).pits := rp_ hT
  have hq1 : [] = ((M.sowMove r p move).2.1).stores := rp_ hT
  have hq2 : 0 = ((M.sowMove r p move).2.1).last := rp_ hT
  have hq3 : 0 = ((M.sowMove r p move).2.1).laps := rp_ hT
  have hq4 : [] = (M.sowMove r p move).2.2 := rp_ hT
  have hq5 : (M.sowCode r p move) = (M.sowMove r p move).1 := rp_ hT
  refine zS <| Qb ?_
  refine Qm rfl <| zw 0 rfl rfl rfl ?_
  refine Qa rfl <| Qa rfl <| JL.nil ?_
  exact zro (Up.refl _ _)
 have hc : M.sowCode r p move = 0 := by simpa using h6
 obtain ⟨hok, m0, m1, hg⟩ := M.sowCode_ok hc
 obtain ⟨g1, g2, g3, g4, g5, g6, g7⟩ := M.okP_bd hok
 have hq := M.mul_bd g7 g1 g2
 have hG := M.Good.of_ok hok
 refine Js.skip <| Js.seq ?_
 refine zk [6] (fun F U l os u => ∃ (b12 : Nat) (A11 : Option Addr) (c11 : Nat) (A9 : Option Addr) (c9 : Nat) (A10 : Option Addr) (c10 : Nat), l = F [(10, .pointer (some ⟨b12, 0, none⟩)), (11, .slice A11 (((M.sowT r p ((p.player * r.pits) + move)).2.1).length) c11), (12, .bool ((M.sowT r p ((p.player * r.pits) + move)).2.2))] ∧ os = [boxO b12 [.slice A9 ((((M.sowT r p ((p.player * r.pits) + move)).1).pits).length) c9, .slice A10 ((((M.sowT r p ((p.player * r.pits) + move)).1).stores).length) c10, .int .i64 (((M.sowT r p ((p.player * r.pits) + move)).1).last), .int .i64 (((M.sowT r p ((p.player * r.pits) + move)).1).laps)] 63, rowO 2 1 (.slice A11 (((M.sowT r p ((p.player * r.pits) + move)).2.1).length) c11) (((M.sowT r p ((p.player * r.pits) + move)).2.1).length) (ints_ ((M.sowT r p ((p.player * r.pits) + move)).2.1)) [], rowO 2 1 (.slice A10 ((((M.sowT r p ((p.player * r.pits) + move)).1).stores).length) c10) ((((M.sowT r p ((p.player * r.pits) + move)).1).stores).length) (ints_ (((M.sowT r p ((p.player * r.pits) + move)).1).stores)) [], rowO 2 1 (.slice A9 ((((M.sowT r p ((p.player * r.pits) + move)).1).pits).length) c9) ((((M.sowT r p ((p.player * r.pits) + move)).1).pits).length) (ints_ (((M.sowT r p ((p.player * r.pits) + move)).1).pits)) []] ++ U [] ∧ (((M.sowT r p ((p.player * r.pits) + move)).2.1).length ≤ c11) ∧ (c11 ≤ 9223372036854775807) ∧ ((((M.sowT r p ((p.player * r.pits) + move)).1).pits).length ≤ c9) ∧ (c9 ≤ 9223372036854775807) ∧ ((((M.sowT r p ((p.player * r.pits) + move)).1).stores).length ≤ c10) ∧ (c10 ≤ 9223372036854775807)) ?_ ?_
 ·
  refine zdr [19] ?_
  refine jM 0 rfl rfl ?_
  refine jM 1 rfl rfl ?_
  refine jM 2 rfl rfl ?_
  refine jN 3 rfl rfl ?_
  refine jF 4 fld_33_2 rfl rfl ?_
  refine jW 5 ty_2 rfl rfl (fun hv => (hr4.vis hv) 2 _ rfl) ?_
  refine jM 6 rfl rfl ?_
  refine jN 7 rfl rfl ?_
  refine jF 8 fld_31_0 rfl rfl ?_
  refine jW 9 ty_2 rfl rfl (fun hv => (hr1.vis hv) 0 _ rfl) ?_
  refine JH.p 10 rfl (p_mul rfl rfl (IntWalk.i64_in _ (by omega))) ?_
  refine jM 11 rfl rfl ?_
  refine JH.p 12 rfl (p_add rfl rfl (IntWalk.i64_in _ (by omega))) ?_
  refine y2 13 18 ?_ ?_
  ·
   refine yc rfl rfl (fun w hw => c_spec_l05Sow r p ((p.player * r.pits) + move) (ok_ hw) (ok_ hw) (r5 := hG) (r6 := hg)) ?_
   intro A22 c22 bl22 bh22 A23 c23 bl23 bh23 A24 c24 bl24 bh24
   refine jM 14 rfl rfl ?_
   refine JH.p 15 rfl (p_extract rfl rfl) ?_
   refine JH.p 16 rfl (p_extract rfl rfl) ?_
   refine JH.p 17 rfl (p_extract rfl rfl) ?_
   refine y1 18 ?_
   refine ya rfl fun b25 => ?_
   refine y1 19 ?_
   refine yst rfl rfl rfl ?_
   refine jA 20 rfl rfl ?_
   refine jA 21 rfl rfl ?_
   refine yd ?_
   exact zm ⟨_, _, _, _, _, _, _, rfl, rfl, zt, zt, zt, zt, zt, zt⟩ (Up.refl _ _)
  refine ya rfl fun b26 => ?_
  refine y1 13 ?_
  refine yc rfl rfl (fun w hw => c_spec_l05Sow r p ((p.player * r.pits) + move) (ok_ hw) (ok_ hw) (r5 := hG) (r6 := hg)) ?_
  intro A29 c29 bl29 bh29 A30 c30 bl30 bh30 A31 c31 bl31 bh31
  refine jM 14 rfl rfl ?_
  refine JH.p 15 rfl (p_extract rfl rfl) ?_
  refine JH.p 16 rfl (p_extract rfl rfl) ?_
  refine JH.p 17 rfl (p_extract rfl rfl) ?_
  refine y1 19 ?_
  refine yst rfl rfl rfl ?_
  refine jA 20 rfl rfl ?_
  refine jA 21 rfl rfl ?_
  refine yd ?_
  refine zh [3, 0, 0, 0, 0] ?_
  exact zm ⟨_, _, _, _, _, _, _, rfl, rfl, zt, zt, zt, zt, zt, zt⟩ (Up.refl _ _)
 rintro _ _ u19 ⟨b12, A11, c11, A9, c9, A10, c10, rfl, rfl, f19_0, f19_1, f19_2, f19_3, f19_4, f19_5⟩ x19
 refine zn ?_
 refine Js.seq <| zS <| Qm rfl <| Qt rfl <| JL.nil ?_
 refine zi (fun h32 h32' => ?_) fun h32 h32' => ?_
 ·
  have hT := M.sowMove_fail hc (by simpa using h32)
  have hq0 : [] = ((M.sowMove r p move).2.1).pits := rp_ hT
  have hq1 : [] = ((M.sowMove r p move).2.1).stores := rp_ hT
  have hq2 : 0 = ((M.sowMove r p move).2.1).last := rp_ hT
  have hq3 : 0 = ((M.sowMove r p move).2.1).laps := rp_ hT
  have hq4 : [] = (M.sowMove r p move).2.2 := rp_ hT
  have hq5 : 10 = (M.sowMove r p move).1 := rp_ hT
  refine zS <| Qb ?_
  refine zw 4 rfl rfl rfl ?_
  refine Qa rfl <| Qa rfl <| JL.nil ?_
  exact zro x19
 have hT := M.sowMove_T2 hc (by simpa using h32)
 have hq0 : (((M.sowT r p ((p.player * r.pits) + move)).1).pits) = ((M.sowMove r p move).2.1).pits := rp_ hT
 have hq1 : (((M.sowT r p ((p.player * r.pits) + move)).1).stores) = ((M.sowMove r p move).2.1).stores := rp_ hT
 have hq2 : (((M.sowT r p ((p.player * r.pits) + move)).1).last) = ((M.sowMove r p move).2.1).last := rp_ hT
 have hq3 : (((M.sowT r p ((p.player * r.pits) + move)).1).laps) = ((M.sowMove r p move).2.1).laps := rp_ hT
 have hq4 : ((M.sowT r p ((p.player * r.pits) + move)).2.1) = (M.sowMove r p move).2.2 := rp_ hT
 have hq5 : 0 = (M.sowMove r p move).1 := rp_ hT
 refine Js.skip <| zS <| Q9 0 rfl rfl ?_
 refine Qm rfl <| zw 4 rfl rfl rfl ?_
 refine Qa rfl <| Qa rfl <| JL.nil ?_
 exact zro x19
end Go.Proofs.YtjgohnaobbphpaaDoor

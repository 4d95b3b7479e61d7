/- Walks: K5. -/
import Derived.Test.YtejnmechnhgmfaaZpTn
import Derived.Test.YtejnmechnhgmfaaZpNK4
set_option linter.unusedSimpArgs false
set_option linter.unusedVariables false
set_option maxRecDepth 100000
attribute [local irreducible] Go.Proofs.Ytejnmechnhgmfaa.gv
namespace Go.Proofs.Ytejnmechnhgmfaa
open Go.RowKit

set_option maxHeartbeats 1000000 in
theorem c_spec_l07All (r : M.Rul) {v_r : Value} (p : M.Pos) {v_p : Value} {w : World} (h_r : (Ty.ref (cRules r)).ok w v_r) (h_p : (Ty.ref (cPosition p)).ok w v_p) (r0 : M.okP r p = true := by exact om_) : Ret Try.prog 132 [v_r, v_p] w (Ty.sl 84 6 (M.results r p).length (lResult (M.results r p))) := by
 obtain ⟨g1, g2, g3, g4, g5, g6, g7⟩ := M.okP_bd r0
 revert v_r; apply opn
 intro b1 o1 hr1
 revert v_p; apply opn
 intro b4 o4 A2 c2 h2 bl2 bh2 A3 c3 h3 bl3 bh3 hr4
 refine enter @Try.func132 @Try.ntmps132 rfl rfl ?_
 refine zent ?_
 refine zS <| Qa rfl <| zN <| zbs fun b5 => ?_
 refine Qa rfl <| zJ <| zS <| Qa rfl <| JL.nil <| Js.block ?_
 refine Js.vals (Ts := lResult []) (vs := []) (fun w => rfl) ?_
 refine zl [0, 1] (fun F U l os u m => ∃ (k : Nat) (acc : List M.Res) (A7_5 : Option Addr) (c7_5 : Nat) (g7_5 : List Nat) (vs7_5 : List Value) (fl7_5 : List Nat), l = F [(5, .slice A7_5 acc.length c7_5), (6, .int .i64 (k : Int))] ∧ os = U [some (ownC (lResult acc) vs7_5 fl7_5), some (rowO 84 6 (.slice A7_5 acc.length c7_5) acc.length vs7_5 g7_5)] ∧ (acc = M.resultsTo r p k) ∧ (k ≤ r.pits) ∧ (acc.length ≤ c7_5) ∧ (c7_5 ≤ 9223372036854775807) ∧ m = (r.pits - k).toNat) ⟨0, [], _, _, _, _, _, rfl, rfl, by rfl, zt, zu, zu, rfl⟩ ?_
 rintro _ _ u7 _ ⟨k, acc, A7_5, c7_5, g7_5, vs7_5, fl7_5, rfl, rfl, hacc, hk, f7_2, f7_3, rfl⟩ x7
 refine zn ?_
 have hlen := M.resultsTo_len (r := r) (p := p) k
 have hlacc : acc.length ≤ k := by rw [hacc]; exact hlen
 refine Js.seq <| zS <| Qm rfl <| Qm rfl <| Qc rfl <| Qf fh rfl <| QC ((hr1.vis x7.vis) 0 _ rfl) rfl <| Ql rfl rfl <| JL.nil ?_
 refine zi (fun h8 h8' => ?_) fun h8 h8' => ?_
 ·
  refine Js.skip <| Js.seq <| Js.block <| zS <| Qm rfl <| Qm rfl <| Qm rfl <| zc rfl (fun w hw => c_spec_l07Make r p (k : Int) (ok_ hw) (ok_ hw)) ?_
  intro A11 c11 bl11 bh11 A12 c12 bl12 bh12
  refine Qm rfl <| Qx rfl rfl <| Qx rfl rfl <| za zeh fun b13 => zw 0 rfl rfl rfl ?_
  refine Qa rfl <| zN <| Qm rfl <| Qe rfl rfl <| JL.nil ?_
  refine zi (fun h14 h14' => ?_) fun h14 h14' => ?_
  ·
   have hacc2 := (M.resultsTo_yes2 (r := r) (p := p) (k := k) (by simpa using h14)).symm
   refine Js.region <| Qm rfl <| Q9 0 rfl rfl ?_
   refine zbs fun b15 => ?_
   refine JL.e (e_append (i := 5) (n' := (acc ++ [((M.make r p (k : Int)).1)]).length) (vs' := vs7_5 ++ [.int .i64 (((M.make r p (k : Int)).1).move), .int .i64 (((M.make r p (k : Int)).1).gain), .bool (((M.make r p (k : Int)).1).again), .slice A11 (((((M.make r p (k : Int)).1).next).pits).length) c11, .slice A12 (((((M.make r p (k : Int)).1).next).stores).length) c12, .int .i64 ((((M.make r p (k : Int)).1).next).player)]) el_74 rfl rfl rfl rfl (src_row (i := 0) und_74 rfl rfl) (by omega) (by omega) (by first | omega | (simp only [List.length_append, List.length_cons, List.length_nil] <;> omega)) (rfl)) ?_
   rintro v17 _ _ ⟨⟨g18, rfl⟩, rfl⟩ _
   refine JL.fact (row_form' (i := 5) rfl) (fun hf19 => ?_)
   obtain ⟨A19, c19, rfl, bl19, bh19⟩ := hf19
   refine znl ?_
   refine Qa rfl <| JL.nil ?_
   refine Js.pack2 (i := 3) (j := 2) (cResult ((M.make r p (k : Int)).1)) [.int .i64 (((M.make r p (k : Int)).1).move), .int .i64 (((M.make r p (k : Int)).1).gain), .bool (((M.make r p (k : Int)).1).again), .slice A11 (((((M.make r p (k : Int)).1).next).pits).length) c11, .slice A12 (((((M.make r p (k : Int)).1).next).stores).length) c12, .int .i64 ((((M.make r p (k : Int)).1).next).player)] rfl rfl (fun w h1 h2 => pack_Result (ints_row h1 rfl) (ints_row h2 rfl)) (fun f20 => ?_)
   refine Js.joinL (i := 3) (j := 0) (Vs := lResult (acc ++ [((M.make r p (k : Int)).1)])) rfl rfl (lResult_snoc _ _) (fun f21 => ?_)
   refine zn ?_
   refine Js.blockEnd <| Js.region <| Qm rfl <| Qp rfl rfl <| Qa rfl <| JL.nil ?_
   refine zd [0, 2] rfl fun u22 x22 => ?_
   exact zag ⟨k + 1, acc ++ [((M.make r p (k : Int)).1)], _, _, _, _, _, rfl, rfl, by rw [hacc]; exact hacc2, zt, zu, zu, rfl⟩ (x7.trans x22)
  have hacc2 := (M.resultsTo_no2 (r := r) (p := p) (k := k) (by simpa using h14)).symm
  refine Js.skip <| Js.blockEnd <| Js.region <| Qm rfl <| Qp rfl rfl <| Qa rfl <| JL.nil ?_
  refine zd [3, 3] rfl fun u23 x23 => ?_
  exact zag ⟨k + 1, acc, _, _, _, _, _, rfl, rfl, by rw [hacc]; exact hacc2, zt, zu, zu, rfl⟩ (x7.trans x23)
 have hR : acc = M.results r p := by rw [hacc]; unfold M.results; rw [show k = r.pits.toNat by have := h8'; omega]
 refine zx ?_
 have hq0 : acc = M.results r p := by exact hR
 refine zS <| Qm rfl <| Qa rfl <| JL.nil ?_
 exact zro x7

end Go.Proofs.Ytejnmechnhgmfaa

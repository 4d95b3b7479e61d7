/- Walks: G34. -/
import Derived.Test.YtcmfnlleikcpnaaGreatZxA3
import Derived.Test.YtcmfnlleikcpnaaGreatZxA10
set_option linter.unusedSimpArgs false
set_option linter.unusedVariables false
set_option maxRecDepth 100000
attribute [local irreducible] Go.Proofs.YtcmfnlleikcpnaaGreat.gv
set_option maxHeartbeats 4000000
namespace Go.Proofs.YtcmfnlleikcpnaaGreat
open Go.RowKit
theorem c_impl_Book_count (b_rules : M.Rul) (b_entries : List M.Ent) {Ab_9 : Option Addr} {cb_9 : Nat} {gb_9 : List Nat} {vsb_9 : List Value} {fb_9 : List Nat} (pits : List Int) {v_pits : Value} (c : M.Cho) {v_c : Value} {bb : Nat} {w : World} (hb : Bw w [boxO bb [.int .i64 b_rules.pits, .int .i64 b_rules.seeds, .bool b_rules.stores, .bool b_rules.skip, .bool b_rules.relay, .bool b_rules.feed, .bool b_rules.again, .int .i64 b_rules.capture, .int .i64 b_rules.slam, .slice Ab_9 b_entries.length cb_9] 37, rowO 89 2 (.slice Ab_9 b_entries.length cb_9) b_entries.length vsb_9 gb_9, ownC (lBookEntry b_entries) vsb_9 fb_9]) (h_pits : (Ty.ints 2 pits).ok (offW w (([boxO bb [.int .i64 b_rules.pits, .int .i64 b_rules.seeds, .bool b_rules.stores, .bool b_rules.skip, .bool b_rules.relay, .bool b_rules.feed, .bool b_rules.again, .int .i64 b_rules.capture, .int .i64 b_rules.slam, .slice Ab_9 b_entries.length cb_9] 37, rowO 89 2 (.slice Ab_9 b_entries.length cb_9) b_entries.length vsb_9 gb_9, ownC (lBookEntry b_entries) vsb_9 fb_9] : List Own).flatMap (·.fp))) v_pits) (h_c : (Ty.agg (cChoice c)).ok (offW w (([boxO bb [.int .i64 b_rules.pits, .int .i64 b_rules.seeds, .bool b_rules.stores, .bool b_rules.skip, .bool b_rules.relay, .bool b_rules.feed, .bool b_rules.again, .int .i64 b_rules.capture, .int .i64 b_rules.slam, .slice Ab_9 b_entries.length cb_9] 37, rowO 89 2 (.slice Ab_9 b_entries.length cb_9) b_entries.length vsb_9 gb_9, ownC (lBookEntry b_entries) vsb_9 fb_9] : List Own).flatMap (·.fp))) v_c) (bd0 : b_entries.length ≤ cb_9 := by exact om_) (bd1 : cb_9 ≤ 9223372036854775807 := by exact om_) (r0 : b_entries.length ≤ 4194303 := by exact om_) (r1 : ∀ x ∈ b_entries, x.pits.length ≤ 4194304 ∧ x.choices.length ≤ 4194304 := by exact om_) (r2 : M.EB 1000000000000000 b_entries := by exact om_) (r3 : pits.length ≤ 4194304 := by exact om_) (r4 : 0 ≤ c.games := by exact om_) (r5 : c.games ≤ 2000000 := by exact om_) (r6 : 0 ≤ c.score := by exact om_) (r7 : c.score ≤ 2000000 := by exact om_) : RetB Tryz.prog 78 [.pointer (some ⟨bb, 0, none⟩), v_pits, v_c] w [boxO bb [.int .i64 b_rules.pits, .int .i64 b_rules.seeds, .bool b_rules.stores, .bool b_rules.skip, .bool b_rules.relay, .bool b_rules.feed, .bool b_rules.again, .int .i64 b_rules.capture, .int .i64 b_rules.slam, .slice Ab_9 b_entries.length cb_9] 37, rowO 89 2 (.slice Ab_9 b_entries.length cb_9) b_entries.length vsb_9 gb_9, ownC (lBookEntry b_entries) vsb_9 fb_9] (fun v bs' => ∃ (Axb_9 : Option Addr) (cxb_9 : Nat) (gxb_9 : List Nat) (vsxb_9 : List Value) (fxb_9 : List Nat), v = .tuple #[] ∧ bs' = [boxO bb [.int .i64 b_rules.pits, .int .i64 b_rules.seeds, .bool b_rules.stores, .bool b_rules.skip, .bool b_rules.relay, .bool b_rules.feed, .bool b_rules.again, .int .i64 b_rules.capture, .int .i64 b_rules.slam, .slice Axb_9 ((M.addE b_entries pits c).length) cxb_9] 37, rowO 89 2 (.slice Axb_9 ((M.addE b_entries pits c).length) cxb_9) ((M.addE b_entries pits c).length) vsxb_9 gxb_9, ownC (lBookEntry (M.addE b_entries pits c)) vsxb_9 fxb_9] ∧ (M.addE b_entries pits c).length ≤ cxb_9 ∧ cxb_9 ≤ 9223372036854775807) := by
 revert v_pits; apply opn
 intro A1 c1 h1 bl1 bh1
 have h_pits := h1
 revert v_c; apply opn
 refine enterB hb @Tryz.func78 @Tryz.ntmps78 rfl rfl ?_
 refine zent ?_
 refine Js.trashE ?_
 refine zn ?_
 refine zS <| zb rfl fun b2 => zN <| Qa rfl <| zJ <| Js.block ?_
 refine zl [0, 1, 5] (fun F U l os u m => ∃ (k : Nat) (G3_4 : List Nat), l = F [(6, .int .i64 (k : Int))] ∧ os = U [nO, nO, nO, nO, some (anyO G3_4)] ∧ (k + M.findE (b_entries.drop k) pits = M.findE b_entries pits) ∧ (k ≤ b_entries.length) ∧ m = b_entries.length - k) ⟨0, _, rfl, rfl, by simp, zt, rfl⟩ ?_
 rintro _ _ u3 _ ⟨k, G3_4, rfl, rfl, hL, hk, rfl⟩ x3
 refine zn ?_
 refine Js.seq <| Js.seq ?_
 refine zk [0, 1, 5, 6] (fun F U l os u => ∃ (e30_ : Bool) (G4_4 : List Nat), l = F [(30, .bool e30_)] ∧ os = U [nO, nO, nO, nO, some (anyO G4_4)] ∧ (e30_ = (decide ((k : Int) < (b_entries.length : Int)) && decide (M.cmpL (M.ent b_entries k).pits pits < 0)))) ?_ ?_
 ·
  rcases Bool.eq_false_or_eq_true (decide ((k : Int) < (b_entries.length : Int))) with h5 | h5
  ·
   have h5' := h5; simp only [decide_eq_true_eq, Int.not_lt, Int.not_le] at h5'
   try have hel := r1 _ (M.ent_mem (es := b_entries) (k := k) (by omega))
   refine Js.region <| Qm rfl <| Qm rfl <| Qc rfl <| Qf fh rfl <| Q0 1 rfl rfl rfl <| Qz rfl <| Ql rfl rfl <| Qm rfl <| zT (Gd.t1 rfl rfl rfl) (show (decide ((k : Int) < (b_entries.length : Int))) = true by first | exact h5 | (rw [h5]; rfl) | simp [h5]) <| Qm rfl <| zT (Gd.t1 rfl rfl rfl) (show (decide ((k : Int) < (b_entries.length : Int))) = true by first | exact h5 | (rw [h5]; rfl) | simp [h5]) <| Qc rfl <| zT (Gd.t1 rfl rfl rfl) (show (decide ((k : Int) < (b_entries.length : Int))) = true by first | exact h5 | (rw [h5]; rfl) | simp [h5]) ?_
   refine Qf fh rfl <| zT (Gd.t1 rfl rfl rfl) (show (decide ((k : Int) < (b_entries.length : Int))) = true by first | exact h5 | (rw [h5]; rfl) | simp [h5]) <| Q0 1 rfl rfl rfl <| zT (Gd.t1 rfl rfl rfl) (show (decide ((k : Int) < (b_entries.length : Int))) = true by first | exact h5 | (rw [h5]; rfl) | simp [h5]) <| Qm rfl <| zT (Gd.t1 rfl rfl rfl) (show (decide ((k : Int) < (b_entries.length : Int))) = true by first | exact h5 | (rw [h5]; rfl) | simp [h5]) ?_
   refine JL.fact (row_some (i := 2) rfl (by omega)) (fun hf7 => ?_)
   obtain ⟨b7, rfl⟩ := hf7
   have hy6 : b_entries[k]? = some (M.ent b_entries k) := M.ent_get len_
   refine JL.fact (fun w hw => elemv_BookEntry (Mem.ownC (i := 3) rfl w hw) hy6) (fun hf6 => ?_)
   obtain ⟨A6_0, c6_0, A6_1, c6_1, he6, bl6_0, bh6_0, bl6_1, bh6_1⟩ := hf6
   refine Qq (p_indexAddr el_35 rfl rfl (by omega) (by omega) rfl) <| zT (Gd.t1 rfl rfl rfl) (show (decide ((k : Int) < (b_entries.length : Int))) = true by first | exact h5 | (rw [h5]; rfl) | simp [h5]) <| Qf fh rfl <| zT (Gd.t1 rfl rfl rfl) (show (decide ((k : Int) < (b_entries.length : Int))) = true by first | exact h5 | (rw [h5]; rfl) | simp [h5]) <| Qw (q_load1 ty_27.h rfl (fun w hw => (Mem.rowR' (i := 2) rfl he6 w hw) 0 _ rfl)) <| zT (Gd.t1 rfl rfl rfl) (show (decide ((k : Int) < (b_entries.length : Int))) = true by first | exact h5 | (rw [h5]; rfl) | simp [h5]) <| Qm rfl <| zT (Gd.t1 rfl rfl rfl) (show (decide ((k : Int) < (b_entries.length : Int))) = true by first | exact h5 | (rw [h5]; rfl) | simp [h5]) <| zv rfl (fun w hw => c_impl_compareNumbers ((M.ent b_entries k).pits) pits (elemOk cBookEntry (m := 2) (k := k) (xs := b_entries) (fun _ => rfl) (Mem.ownC (i := 3) rfl w hw) hy6 he6).1 (ok_ hw)) <| zT (Gd.t1 rfl rfl rfl) (show (decide ((k : Int) < (b_entries.length : Int))) = true by first | exact h5 | (rw [h5]; rfl) | simp [h5]) <| Ql rfl rfl <| Qq (p_pickAnd2 rfl rfl rfl) <| JL.nil ?_
   exact zm ⟨((decide ((k : Int) < (b_entries.length : Int))) && (decide (M.cmpL ((M.ent b_entries k).pits) pits < 0))), _, rfl, rfl, by first | rfl | (rw [‹decide ((k : Int) < (b_entries.length : Int)) = false›]; rfl) | (rw [‹decide ((k : Int) < (b_entries.length : Int)) = true›]; simp)⟩ (Up.refl _ _)
  have h5' := h5; simp only [decide_eq_false_iff_not, Int.not_lt, Int.not_le] at h5'
  try have hel := r1 _ (M.ent_mem (es := b_entries) (k := k) (by omega))
  refine Js.region <| Qm rfl <| Qm rfl <| Qc rfl <| Qf fh rfl <| Q0 1 rfl rfl rfl <| Qz rfl <| Ql rfl rfl <| Qm rfl ?_
  refine JL.g (v := undef) (Gd.t1 rfl rfl rfl) (fun hc => absurd hc (by first | (rw [h5]; simp; done) | simp [h5])) ?_
  refine JL.g (v := undef) (Gd.t1 rfl rfl rfl) (fun hc => absurd hc (by first | (rw [h5]; simp; done) | simp [h5])) ?_
  refine JL.g (v := undef) (Gd.t1 rfl rfl rfl) (fun hc => absurd hc (by first | (rw [h5]; simp; done) | simp [h5])) ?_
  refine JL.g (v := undef) (Gd.t1 rfl rfl rfl) (fun hc => absurd hc (by first | (rw [h5]; simp; done) | simp [h5])) ?_
  refine JL.g (v := undef) (Gd.t1 rfl rfl rfl) (fun hc => absurd hc (by first | (rw [h5]; simp; done) | simp [h5])) ?_
  refine JL.g (v := undef) (Gd.t1 rfl rfl rfl) (fun hc => absurd hc (by first | (rw [h5]; simp; done) | simp [h5])) ?_
  refine JL.g (v := undef) (Gd.t1 rfl rfl rfl) (fun hc => absurd hc (by first | (rw [h5]; simp; done) | simp [h5])) ?_
  refine JL.g (v := undef) (Gd.t1 rfl rfl rfl) (fun hc => absurd hc (by first | (rw [h5]; simp; done) | simp [h5])) ?_
  refine JL.g (v := undef) (Gd.t1 rfl rfl rfl) (fun hc => absurd hc (by first | (rw [h5]; simp; done) | simp [h5])) ?_
  refine JL.g (v := undef) (Gd.t1 rfl rfl rfl) (fun hc => absurd hc (by first | (rw [h5]; simp; done) | simp [h5])) ?_
  refine JL.g (v := .bool false) (Gd.t1 rfl rfl rfl) (fun hc => absurd hc (by first | (rw [h5]; simp; done) | simp [h5])) ?_
  refine Qq (p_pickAnd rfl rfl rfl) <| JL.nil ?_
  exact zm ⟨((decide ((k : Int) < (b_entries.length : Int))) && false), _, rfl, rfl, by first | rfl | (rw [‹decide ((k : Int) < (b_entries.length : Int)) = false›]; rfl) | (rw [‹decide ((k : Int) < (b_entries.length : Int)) = true›]; simp)⟩ (Up.refl _ _)
 rintro _ _ u4 ⟨e30_, G4_4, rfl, rfl, hB30⟩ x4
 refine zn ?_
 refine zi (fun h8 h8' => ?_) fun h8 h8' => ?_
 ·
  have q30 := hB30.symm.trans h8; simp only [Bool.and_eq_true, Bool.or_eq_true, decide_eq_true_eq, Bool.and_eq_false_iff, Bool.or_eq_false_iff, decide_eq_false_iff_not, Int.not_lt, Decidable.not_not] at q30
  have hL2 := M.findE_step hL (by omega) (by omega)
  refine Js.skip <| Js.block <| Js.region <| Qm rfl <| Qp rfl rfl <| Qa rfl <| JL.nil <| Js.blockEnd ?_
  exact zag ⟨k + 1, _, rfl, rfl, by exact hL2, zt, rfl⟩ (x3.trans x4)
 have q30 := hB30.symm.trans h8; simp only [Bool.and_eq_true, Bool.or_eq_true, decide_eq_true_eq, Bool.and_eq_false_iff, Bool.or_eq_false_iff, decide_eq_false_iff_not, Int.not_lt, Decidable.not_not] at q30
 have hE : M.findE b_entries pits = k := q30.elim (fun q => by have q9 := M.findE_end hL (by omega) hk; omega) (fun q => if q8 : k < b_entries.length then M.findE_hit hL q8 (by omega) else by have q9 := M.findE_end hL (by omega) hk; omega)
 refine zx ?_
 refine Js.seq <| Js.seq ?_
 refine zk [0, 1, 5, 6] (fun F U l os u => ∃ (e52_ : Bool) (G9_4 : List Nat), l = F [(52, .bool e52_)] ∧ os = U [nO, nO, nO, nO, some (anyO G9_4)] ∧ (e52_ = (decide ((k : Int) = (b_entries.length : Int)) || decide (¬ (M.ent b_entries k).pits = pits)))) ?_ ?_
 ·
  rcases Bool.eq_false_or_eq_true (decide ((k : Int) = (b_entries.length : Int))) with h10 | h10
  ·
   have h10' := h10; simp only [decide_eq_true_eq, Int.not_lt, Int.not_le] at h10'
   try have hel := r1 _ (M.ent_mem (es := b_entries) (k := k) (by omega))
   refine Js.region <| Qm rfl <| Qm rfl <| Qc rfl <| Qf fh rfl <| Q0 1 rfl rfl rfl <| Qz rfl <| Qe rfl rfl <| Qm rfl ?_
   refine JL.g (v := undef) (Gd.f1 rfl rfl rfl) (fun hc => absurd hc (by first | (rw [h10]; simp; done) | simp [h10])) ?_
   refine JL.g (v := undef) (Gd.f1 rfl rfl rfl) (fun hc => absurd hc (by first | (rw [h10]; simp; done) | simp [h10])) ?_
   refine JL.g (v := undef) (Gd.f1 rfl rfl rfl) (fun hc => absurd hc (by first | (rw [h10]; simp; done) | simp [h10])) ?_
   refine JL.g (v := undef) (Gd.f1 rfl rfl rfl) (fun hc => absurd hc (by first | (rw [h10]; simp; done) | simp [h10])) ?_
   refine JL.g (v := undef) (Gd.f1 rfl rfl rfl) (fun hc => absurd hc (by first | (rw [h10]; simp; done) | simp [h10])) ?_
   refine JL.g (v := undef) (Gd.f1 rfl rfl rfl) (fun hc => absurd hc (by first | (rw [h10]; simp; done) | simp [h10])) ?_
   refine JL.g (v := undef) (Gd.f1 rfl rfl rfl) (fun hc => absurd hc (by first | (rw [h10]; simp; done) | simp [h10])) ?_
   refine JL.g (v := undef) (Gd.f1 rfl rfl rfl) (fun hc => absurd hc (by first | (rw [h10]; simp; done) | simp [h10])) ?_
   refine JL.g (v := undef) (Gd.f1 rfl rfl rfl) (fun hc => absurd hc (by first | (rw [h10]; simp; done) | simp [h10])) ?_
   refine JL.g (v := .bool false) (Gd.f1 rfl rfl rfl) (fun hc => absurd hc (by first | (rw [h10]; simp; done) | simp [h10])) ?_
   refine JL.g (v := .bool false) (Gd.f1 rfl rfl rfl) (fun hc => absurd hc (by first | (rw [h10]; simp; done) | simp [h10])) ?_
   refine Qq (p_pickOr rfl rfl rfl) <| JL.nil ?_
   exact zm ⟨((decide ((k : Int) = (b_entries.length : Int))) || false), _, rfl, rfl, by first | rfl | (rw [‹decide ((k : Int) = (b_entries.length : Int)) = true›]; rfl) | (rw [‹decide ((k : Int) = (b_entries.length : Int)) = false›]; simp)⟩ (Up.refl _ _)
  have h10' := h10; simp only [decide_eq_false_iff_not, Int.not_lt, Int.not_le] at h10'
  try have hel := r1 _ (M.ent_mem (es := b_entries) (k := k) (by omega))
  refine Js.region <| Qm rfl <| Qm rfl <| Qc rfl <| Qf fh rfl <| Q0 1 rfl rfl rfl <| Qz rfl <| Qe rfl rfl <| Qm rfl <| zT (Gd.f1 rfl rfl rfl) (show (!(decide ((k : Int) = (b_entries.length : Int)))) = true by first | exact h10 | (rw [h10]; rfl) | simp [h10]) <| Qm rfl <| zT (Gd.f1 rfl rfl rfl) (show (!(decide ((k : Int) = (b_entries.length : Int)))) = true by first | exact h10 | (rw [h10]; rfl) | simp [h10]) <| Qc rfl <| zT (Gd.f1 rfl rfl rfl) (show (!(decide ((k : Int) = (b_entries.length : Int)))) = true by first | exact h10 | (rw [h10]; rfl) | simp [h10]) ?_
  refine Qf fh rfl <| zT (Gd.f1 rfl rfl rfl) (show (!(decide ((k : Int) = (b_entries.length : Int)))) = true by first | exact h10 | (rw [h10]; rfl) | simp [h10]) <| Q0 1 rfl rfl rfl <| zT (Gd.f1 rfl rfl rfl) (show (!(decide ((k : Int) = (b_entries.length : Int)))) = true by first | exact h10 | (rw [h10]; rfl) | simp [h10]) <| Qm rfl <| zT (Gd.f1 rfl rfl rfl) (show (!(decide ((k : Int) = (b_entries.length : Int)))) = true by first | exact h10 | (rw [h10]; rfl) | simp [h10]) ?_
  refine JL.fact (row_some (i := 2) rfl (by omega)) (fun hf12 => ?_)
  obtain ⟨b12, rfl⟩ := hf12
  have hy11 : b_entries[k]? = some (M.ent b_entries k) := M.ent_get len_
  refine JL.fact (fun w hw => elemv_BookEntry (Mem.ownC (i := 3) rfl w hw) hy11) (fun hf11 => ?_)
  obtain ⟨A11_0, c11_0, A11_1, c11_1, he11, bl11_0, bh11_0, bl11_1, bh11_1⟩ := hf11
  refine Qq (p_indexAddr el_35 rfl rfl (by omega) (by omega) rfl) <| zT (Gd.f1 rfl rfl rfl) (show (!(decide ((k : Int) = (b_entries.length : Int)))) = true by first | exact h10 | (rw [h10]; rfl) | simp [h10]) <| Qf fh rfl <| zT (Gd.f1 rfl rfl rfl) (show (!(decide ((k : Int) = (b_entries.length : Int)))) = true by first | exact h10 | (rw [h10]; rfl) | simp [h10]) <| Qw (q_load1 ty_27.h rfl (fun w hw => (Mem.rowR' (i := 2) rfl he11 w hw) 0 _ rfl)) <| zT (Gd.f1 rfl rfl rfl) (show (!(decide ((k : Int) = (b_entries.length : Int)))) = true by first | exact h10 | (rw [h10]; rfl) | simp [h10]) <| Qm rfl <| zT (Gd.f1 rfl rfl rfl) (show (!(decide ((k : Int) = (b_entries.length : Int)))) = true by first | exact h10 | (rw [h10]; rfl) | simp [h10]) <| zv rfl (fun w hw => c_impl_sameNumbers ((M.ent b_entries k).pits) pits (elemOk cBookEntry (m := 2) (k := k) (xs := b_entries) (fun _ => rfl) (Mem.ownC (i := 3) rfl w hw) hy11 he11).1 (ok_ hw)) <| zT (Gd.f1 rfl rfl rfl) (show (!(decide ((k : Int) = (b_entries.length : Int)))) = true by first | exact h10 | (rw [h10]; rfl) | simp [h10]) <| Qt rfl <| Qq (p_pickOr2 rfl rfl rfl) <| JL.nil ?_
  exact zm ⟨((decide ((k : Int) = (b_entries.length : Int))) || (!(decide (((M.ent b_entries k).pits) = pits)))), _, rfl, rfl, by first | rfl | (rw [‹decide ((k : Int) = (b_entries.length : Int)) = true›]; rfl) | (rw [‹decide ((k : Int) = (b_entries.length : Int)) = false›]; simp)⟩ (Up.refl _ _)
 rintro _ _ u9 ⟨e52_, G9_4, rfl, rfl, hB52⟩ x9
 refine zn ?_
 refine zk [0, 5, 6] (fun F U l os u => ∃ (ES : List M.Ent) (A13_0_9 : Option Addr) (c13_0_9 : Nat) (g13_0_9 : List Nat) (vs13_0_9 : List Value) (fl13_0_9 : List Nat) (G13_4 : List Nat), l = F [] ∧ os = U [nO, some (boxO bb [.int .i64 b_rules.pits, .int .i64 b_rules.seeds, .bool b_rules.stores, .bool b_rules.skip, .bool b_rules.relay, .bool b_rules.feed, .bool b_rules.again, .int .i64 b_rules.capture, .int .i64 b_rules.slam, .slice A13_0_9 ES.length c13_0_9] 37), some (rowO 89 2 (.slice A13_0_9 ES.length c13_0_9) ES.length vs13_0_9 g13_0_9), some (ownC (lBookEntry ES) vs13_0_9 fl13_0_9), some (anyO G13_4)] ∧ (ES = M.atE b_entries pits) ∧ (k < ES.length) ∧ (ES.length ≤ 4194304) ∧ (ES.length ≤ c13_0_9) ∧ (c13_0_9 ≤ 9223372036854775807)) ?_ ?_
 ·
  refine zi (fun h14 h14' => ?_) fun h14 h14' => ?_
  ·
   have q52 := hB52.symm.trans h14; simp only [Bool.and_eq_true, Bool.or_eq_true, decide_eq_true_eq, Bool.and_eq_false_iff, Bool.or_eq_false_iff, decide_eq_false_iff_not, Int.not_lt, Decidable.not_not] at q52
   have hno : ¬ M.hasE b_entries pits = true := q52.elim (fun q => M.hasE_len hE (by omega)) (fun q => M.hasE_ne hE q)
   have hA : b_entries.take k ++ [(M.Ent.mk pits [])] ++ b_entries.drop k = M.atE b_entries pits := M.atE_no hE hno
   have hAl : (b_entries.take k ++ [(M.Ent.mk pits [])] ++ b_entries.drop k).length = b_entries.length + 1 := by simp; omega
   refine Js.seq ?_
   refine zdr [10] ?_
   refine jM 0 rfl rfl ?_
   refine jM 4 rfl rfl ?_
   refine jN 5 rfl rfl ?_
   refine jF 6 fld_37_1 rfl rfl ?_
   refine jB 7 1 ty_35 rfl rfl rfl rfl ?_
   refine jM 8 rfl rfl ?_
   refine JH.p 9 rfl (p_slice (lo' := k) (hi' := b_entries.length) (mx' := cb_9) el_35 rfl rfl ⟨rfl, rfl⟩ ⟨_, rfl, by omega⟩) ?_
   refine y1 1 ?_
   refine ycs rfl rfl (fun w hw => c_impl_copyNumbers pits (ok_ hw)) ?_
   intro A15 c15 bl15 bh15
   refine JH.p 2 rfl (q_bld) ?_
   refine y1 3 ?_
   refine ybs rfl fun b16 => ?_
   refine y1 10 ?_
   refine JHo.e rfl (e_append (i := 0) (n' := (([(M.Ent.mk pits [])]) ++ (b_entries.drop k)).length) (vs' := [.slice A15 pits.length c15, .slice none 0 0] ++ (vsb_9.drop (k * 2))) el_35 rfl rfl rfl rfl (src_suf (i := 4) (a := k) und_35 rfl (fun w hw => (ownOne (i := 5) rfl (OneL.flat (F := cBookEntry) (fun _ => (.consSl (.consSl .nil))) _) w hw)) (by omega) (by omega)) (by omega) (by omega) ln2_ (rfl)) (.inr rfl) ?_
   rintro v18 _ _ ⟨⟨g19, rfl⟩, rfl⟩ _
   refine JH.fact (row_form' (i := 0) rfl) (fun hf20 => ?_)
   obtain ⟨A20, c20, rfl, bl20, bh20⟩ := hf20
   refine znh ?_
   refine jA 11 rfl rfl ?_
   refine yd ?_
   refine Js.region <| Qm rfl <| Qm rfl <| Qc rfl <| Qf fh rfl <| Q0 3 rfl rfl rfl <| Qm rfl <| Qm rfl <| Qq (p_slice (lo' := 0) (hi' := k) (mx' := k) el_35 rfl ⟨_, rfl, by omega⟩ ⟨_, rfl, by omega⟩ rfl) <| Qm rfl ?_
   refine JL.e (e_appendG (n' := (b_entries.take k ++ [(M.Ent.mk pits [])] ++ b_entries.drop k).length) (vs' := (vsb_9.take (k * 2)) ++ ([.slice A15 pits.length c15, .slice none 0 0] ++ (vsb_9.drop (k * 2)))) el_35 rfl rfl (src_pre (i := 4) (b := k) und_35 rfl (fun w hw => (ownOne (i := 5) rfl (OneL.flat (F := cBookEntry) (fun _ => (.consSl (.consSl .nil))) _) w hw)) (by omega) (by omega)) rfl (src_rowW (i := 0) und_35 rfl (fun w hw => (one_app (by rfl) (one_drop _ (ownOne (i := 5) rfl (OneL.flat (F := cBookEntry) (fun _ => (.consSl (.consSl .nil))) _) w hw))))) len_ len_ len_ ln2_ (rfl)) ?_
   rintro _ _ _ ⟨A21, c21, rfl, rfl, rfl⟩ _
   refine JL.fact (row_form' (i := 0) rfl) (fun hf21 => ?_)
   obtain ⟨A921, c921, e921, bl21, bh21⟩ := hf21
   obtain ⟨rfl, rfl⟩ : A21 = A921 ∧ c21 = c921 := by injection e921 with e1 _ e3; exact ⟨e1, e3⟩
   refine znl ?_
   refine Qc rfl <| Qf fh rfl <| zw 4 rfl rfl rfl ?_
   refine JL.nil ?_
   refine Js.pk (cBookEntry (M.Ent.mk pits [])) [.slice A15 pits.length c15, .slice none 0 0] (fun f22 G22 => ?_)
   refine zn ?_
   refine Js.insL cBookEntry (i := 7) (j := 0) (m := 2) (k := k) (vs' := (vsb_9.take (k * 2)) ++ ([.slice A15 pits.length c15, .slice none 0 0] ++ (vsb_9.drop (k * 2)))) (fun _ => rfl) rfl rfl (by omega) (by first | rfl | simp) (fun f23 => ?_)
   refine zn ?_
   refine zf [4, 4, 2, 0] fun GG24 => ?_
   refine zn ?_
   exact zm ⟨(b_entries.take k ++ [(M.Ent.mk pits [])] ++ b_entries.drop k), _, _, _, _, _, _, rfl, rfl, by exact hA, by omega, by omega, by first | assumption | omega | rfl | (dsimp only; omega) | (simp; done), by first | assumption | omega | rfl | (dsimp only; omega) | (simp; done)⟩ (Up.refl _ _)
  have q52 := hB52.symm.trans h14; simp only [Bool.and_eq_true, Bool.or_eq_true, decide_eq_true_eq, Bool.and_eq_false_iff, Bool.or_eq_false_iff, decide_eq_false_iff_not, Int.not_lt, Decidable.not_not] at q52
  have hA : b_entries = M.atE b_entries pits := M.atE_yes (M.hasE_yes hE (by omega) q52.2)
  refine Js.skip ?_
  exact zm ⟨(b_entries), _, _, _, _, _, _, rfl, rfl, by exact hA, by omega, by omega, by first | assumption | omega | rfl | (dsimp only; omega) | (simp; done), by first | assumption | omega | rfl | (dsimp only; omega) | (simp; done)⟩ (Up.refl _ _)
 rintro _ _ u13 ⟨ES, A13_0_9, c13_0_9, g13_0_9, vs13_0_9, fl13_0_9, G13_4, rfl, rfl, hA, hAk, hAl, f13_3, f13_4⟩ x13
 refine zn ?_
 refine zS <| Qm rfl <| Qc rfl <| Qf fh rfl <| Q0 1 rfl rfl rfl <| Qm rfl ?_
 refine JL.fact (row_some (i := 2) rfl (by omega)) (fun hf26 => ?_)
 obtain ⟨b26, rfl⟩ := hf26
 have hy25 : ES[k]? = some (M.ent ES k) := M.ent_get len_
 refine JL.fact (fun w hw => elemv_BookEntry (Mem.ownC (i := 3) rfl w hw) hy25) (fun hf25 => ?_)
 obtain ⟨A25_0, c25_0, A25_1, c25_1, he25, bl25_0, bh25_0, bl25_1, bh25_1⟩ := hf25
 refine Qq (p_indexAddr el_35 rfl rfl (by omega) (by omega) rfl) <| Qa rfl <| zJ ?_
 refine Js.fact (fun w hw => elem_in cBookEntry (m := 2) (k := k) (xs := ES) (fun _ => rfl) (Mem.ownC (i := 3) rfl w hw) (by omega)) (fun hl27 => ?_)
 refine Js.ex3 (fun w hw => St.elemS cBookEntry (m := 2) (i := 3) (xs := ES) (fun _ => rfl) rfl hy25 he25 hw) (fun f27_1 f27_2 f27_3 => ?_)
 refine Js.unp 0 ?_
 refine zn ?_
 have hsz := (hA.symm ▸ (M.SzE.at_ (n := 4194304) r1 r3) : M.SzE 4194304 ES) _ (M.ent_mem hAk)
 refine Js.region <| Qa rfl <| zJ <| Js.block ?_
 refine zl [5, 8] (fun F U l os u m => ∃ (j : Nat) (G28_7 : List Nat), l = F [(9, .int .i64 (j : Int))] ∧ os = U [nO, nO, nO, nO, nO, nO, nO, some (anyO G28_7)] ∧ (j + M.findC ((M.ent ES k).choices.drop j) c.move = M.findC (M.ent ES k).choices c.move) ∧ (j ≤ (M.ent ES k).choices.length) ∧ m = (M.ent ES k).choices.length - j) ⟨0, _, rfl, rfl, by simp, zt, rfl⟩ ?_
 rintro _ _ u28 _ ⟨j, G28_7, rfl, rfl, hM, hj, rfl⟩ x28
 refine zn ?_
 refine Js.seq <| Js.seq ?_
 refine zk [5, 8, 9] (fun F U l os u => ∃ (e101_ : Bool) (G29_7 : List Nat), l = F [(101, .bool e101_)] ∧ os = U [nO, nO, nO, nO, nO, nO, nO, some (anyO G29_7)] ∧ (e101_ = (decide ((j : Int) < ((M.ent ES k).choices.length : Int)) && decide ((M.cho (M.ent ES k).choices j).move < c.move)))) ?_ ?_
 ·
  rcases Bool.eq_false_or_eq_true (decide ((j : Int) < ((((M.ent ES k).choices).length) : Int))) with h30 | h30
  ·
   have h30' := h30; simp only [decide_eq_true_eq, Int.not_lt, Int.not_le] at h30'
   refine zdr [] ?_
   refine jM 0 rfl rfl ?_
   refine jM 1 rfl rfl ?_
   refine jN 2 rfl rfl ?_
   refine jF 3 fld_89_1 rfl rfl ?_
   refine JH.q 4 rfl (q_load1 ty_67.h rfl (fun w hw => (Mem.rowR' (i := 6) rfl he25 w hw) 1 _ rfl)) ?_
   refine JH.p 5 rfl (p_len el_67 rfl) ?_
   refine JH.p 6 rfl (p_lss rfl rfl) ?_
   refine jM 7 rfl rfl ?_
   refine JH.pgT 8 rfl (Gd.t1 rfl rfl rfl) (show (decide ((j : Int) < ((((M.ent ES k).choices).length) : Int))) = true by first | exact h30 | (rw [h30]; rfl) | simp [h30]) (p_move rfl) ?_
   refine JH.pgT 9 rfl (Gd.t1 rfl rfl rfl) (show (decide ((j : Int) < ((((M.ent ES k).choices).length) : Int))) = true by first | exact h30 | (rw [h30]; rfl) | simp [h30]) (p_nilCheck rfl) ?_
   refine JH.pgT 10 rfl (Gd.t1 rfl rfl rfl) (show (decide ((j : Int) < ((((M.ent ES k).choices).length) : Int))) = true by first | exact h30 | (rw [h30]; rfl) | simp [h30]) (p_fieldAddr fld_89_1.h rfl) ?_
   refine JH.qgT 11 rfl (Gd.t1 rfl rfl rfl) (show (decide ((j : Int) < ((((M.ent ES k).choices).length) : Int))) = true by first | exact h30 | (rw [h30]; rfl) | simp [h30]) (q_load1 ty_67.h rfl (fun w hw => (Mem.rowR' (i := 6) rfl he25 w hw) 1 _ rfl)) ?_
   refine JH.pgT 12 rfl (Gd.t1 rfl rfl rfl) (show (decide ((j : Int) < ((((M.ent ES k).choices).length) : Int))) = true by first | exact h30 | (rw [h30]; rfl) | simp [h30]) (p_move rfl) ?_
   refine JH.fact (row_some (i := 0) rfl len_) (fun hf32 => ?_)
   obtain ⟨b32, rfl⟩ := hf32
   have hy31 : ((M.ent ES k).choices)[j]? = some (M.cho ((M.ent ES k).choices) j) := M.cho_get len_
   refine JH.pgT 13 rfl (Gd.t1 rfl rfl rfl) (show (decide ((j : Int) < ((((M.ent ES k).choices).length) : Int))) = true by first | exact h30 | (rw [h30]; rfl) | simp [h30]) (p_indexAddr el_67 rfl rfl len_ len_ rfl) ?_
   refine JH.pgT 14 rfl (Gd.t1 rfl rfl rfl) (show (decide ((j : Int) < ((((M.ent ES k).choices).length) : Int))) = true by first | exact h30 | (rw [h30]; rfl) | simp [h30]) (p_fieldAddr fld_81_0.h rfl) ?_
   refine JH.qgT 15 rfl (Gd.t1 rfl rfl rfl) (show (decide ((j : Int) < ((((M.ent ES k).choices).length) : Int))) = true by first | exact h30 | (rw [h30]; rfl) | simp [h30]) (q_load1 ty_2.h rfl (fun w hw => (Mem.rowR' (i := 0) rfl (fltV_at (C := vcChoice) (fun _ => rfl) hy31) w hw) 0 _ rfl)) ?_
   refine JH.pgT 16 rfl (Gd.t1 rfl rfl rfl) (show (decide ((j : Int) < ((((M.ent ES k).choices).length) : Int))) = true by first | exact h30 | (rw [h30]; rfl) | simp [h30]) (p_fieldAddr fld_81_0.h rfl) ?_
   refine JH.qgT 17 rfl (Gd.t1 rfl rfl rfl) (show (decide ((j : Int) < ((((M.ent ES k).choices).length) : Int))) = true by first | exact h30 | (rw [h30]; rfl) | simp [h30]) (q_load1 ty_2.h rfl (Mem.box (i := 4) rfl rfl)) ?_
   refine JH.pgT 18 rfl (Gd.t1 rfl rfl rfl) (show (decide ((j : Int) < ((((M.ent ES k).choices).length) : Int))) = true by first | exact h30 | (rw [h30]; rfl) | simp [h30]) (p_lss rfl rfl) ?_
   refine JH.p 19 rfl (p_pickAnd2 rfl rfl rfl) ?_
   refine yd ?_
   exact zm ⟨((decide ((j : Int) < ((((M.ent ES k).choices).length) : Int))) && (decide ((M.cho ((M.ent ES k).choices) j).move < c.move))), _, rfl, rfl, by first | rfl | (rw [‹decide ((j : Int) < ((M.ent ES k).choices.length : Int)) = false›]; rfl) | (rw [‹decide ((j : Int) < ((M.ent ES k).choices.length : Int)) = true›]; simp)⟩ (Up.refl _ _)
  have h30' := h30; simp only [decide_eq_false_iff_not, Int.not_lt, Int.not_le] at h30'
  refine zdr [] ?_
  refine jM 0 rfl rfl ?_
  refine jM 1 rfl rfl ?_
  refine jN 2 rfl rfl ?_
  refine jF 3 fld_89_1 rfl rfl ?_
  refine JH.q 4 rfl (q_load1 ty_67.h rfl (fun w hw => (Mem.rowR' (i := 6) rfl he25 w hw) 1 _ rfl)) ?_
  refine JH.p 5 rfl (p_len el_67 rfl) ?_
  refine JH.p 6 rfl (p_lss rfl rfl) ?_
  refine jM 7 rfl rfl ?_
  refine jU 8 rfl (Gd.t1 rfl rfl rfl) h30 ?_
  refine jU 9 rfl (Gd.t1 rfl rfl rfl) h30 ?_
  refine jU 10 rfl (Gd.t1 rfl rfl rfl) h30 ?_
  refine jU 11 rfl (Gd.t1 rfl rfl rfl) h30 ?_
  refine jU 12 rfl (Gd.t1 rfl rfl rfl) h30 ?_
  refine jU 13 rfl (Gd.t1 rfl rfl rfl) h30 ?_
  refine jU 14 rfl (Gd.t1 rfl rfl rfl) h30 ?_
  refine jU 15 rfl (Gd.t1 rfl rfl rfl) h30 ?_
  refine jU 16 rfl (Gd.t1 rfl rfl rfl) h30 ?_
  refine jU 17 rfl (Gd.t1 rfl rfl rfl) h30 ?_
  refine JH.pg (v := .bool false) 18 rfl (Gd.t1 rfl rfl rfl) (fun hc => absurd hc (by first | (rw [h30]; simp; done) | simp [h30])) ?_
  refine JH.p 19 rfl (p_pickAnd rfl rfl rfl) ?_
  refine yd ?_
  exact zm ⟨((decide ((j : Int) < ((((M.ent ES k).choices).length) : Int))) && false), _, rfl, rfl, by first | rfl | (rw [‹decide ((j : Int) < ((M.ent ES k).choices.length : Int)) = false›]; rfl) | (rw [‹decide ((j : Int) < ((M.ent ES k).choices.length : Int)) = true›]; simp)⟩ (Up.refl _ _)
 rintro _ _ u29 ⟨e101_, G29_7, rfl, rfl, hB101⟩ x29
 refine zn ?_
 refine zi (fun h33 h33' => ?_) fun h33 h33' => ?_
 ·
  have q101 := hB101.symm.trans h33; simp only [Bool.and_eq_true, Bool.or_eq_true, decide_eq_true_eq, Bool.and_eq_false_iff, Bool.or_eq_false_iff, decide_eq_false_iff_not, Int.not_lt, Decidable.not_not] at q101
  have hM2 := M.findC_step hM (by omega) (by omega)
  refine Js.skip <| Js.block <| Js.region <| Qm rfl <| Qp rfl rfl <| Qa rfl <| JL.nil <| Js.blockEnd ?_
  exact zag ⟨j + 1, _, rfl, rfl, by exact hM2, zt, rfl⟩ (x28.trans x29)
 have q101 := hB101.symm.trans h33; simp only [Bool.and_eq_true, Bool.or_eq_true, decide_eq_true_eq, Bool.and_eq_false_iff, Bool.or_eq_false_iff, decide_eq_false_iff_not, Int.not_lt, Decidable.not_not] at q101
 have hN : M.findC (M.ent ES k).choices c.move = j := q101.elim (fun q => M.findC_end hM (by omega)) (fun q => if q8 : j < (M.ent ES k).choices.length then M.findC_hit hM q8 (by omega) else M.findC_end hM (by omega))
 have hcb := (hA.symm ▸ r2.at_ : M.EB 1000000000000000 ES) _ (M.ent_mem hAk)
 refine zx ?_
 refine Js.seq <| Js.seq ?_
 refine zk [5, 8, 9] (fun F U l os u => ∃ (e123_ : Bool) (G34_7 : List Nat), l = F [(123, .bool e123_)] ∧ os = U [nO, nO, nO, nO, nO, nO, nO, some (anyO G34_7)] ∧ (e123_ = (decide ((j : Int) = ((M.ent ES k).choices.length : Int)) || decide (¬ (M.cho (M.ent ES k).choices j).move = c.move)))) ?_ ?_
 ·
  rcases Bool.eq_false_or_eq_true (decide ((j : Int) = ((((M.ent ES k).choices).length) : Int))) with h35 | h35
  ·
   have h35' := h35; simp only [decide_eq_true_eq, Int.not_lt, Int.not_le] at h35'
   refine zdr [] ?_
   refine jM 0 rfl rfl ?_
   refine jM 1 rfl rfl ?_
   refine jN 2 rfl rfl ?_
   refine jF 3 fld_89_1 rfl rfl ?_
   refine JH.q 4 rfl (q_load1 ty_67.h rfl (fun w hw => (Mem.rowR' (i := 6) rfl he25 w hw) 1 _ rfl)) ?_
   refine JH.p 5 rfl (p_len el_67 rfl) ?_
   refine JH.p 6 rfl (p_eql rfl rfl) ?_
   refine jM 7 rfl rfl ?_
   refine jU 8 rfl (Gd.f1 rfl rfl rfl) h35 ?_
   refine jU 9 rfl (Gd.f1 rfl rfl rfl) h35 ?_
   refine jU 10 rfl (Gd.f1 rfl rfl rfl) h35 ?_
   refine jU 11 rfl (Gd.f1 rfl rfl rfl) h35 ?_
   refine jU 12 rfl (Gd.f1 rfl rfl rfl) h35 ?_
   refine jU 13 rfl (Gd.f1 rfl rfl rfl) h35 ?_
   refine jU 14 rfl (Gd.f1 rfl rfl rfl) h35 ?_
   refine jU 15 rfl (Gd.f1 rfl rfl rfl) h35 ?_
   refine jU 16 rfl (Gd.f1 rfl rfl rfl) h35 ?_
   refine jU 17 rfl (Gd.f1 rfl rfl rfl) h35 ?_
   refine JH.pg (v := .bool false) 18 rfl (Gd.f1 rfl rfl rfl) (fun hc => absurd hc (by first | (rw [h35]; simp; done) | simp [h35])) ?_
   refine JH.p 19 rfl (p_pickOr rfl rfl rfl) ?_
   refine yd ?_
   exact zm ⟨((decide ((j : Int) = ((((M.ent ES k).choices).length) : Int))) || false), _, rfl, rfl, by first | rfl | (rw [‹decide ((j : Int) = ((M.ent ES k).choices.length : Int)) = true›]; rfl) | (rw [‹decide ((j : Int) = ((M.ent ES k).choices.length : Int)) = false›]; simp)⟩ (Up.refl _ _)
  have h35' := h35; simp only [decide_eq_false_iff_not, Int.not_lt, Int.not_le] at h35'
  refine zdr [] ?_
  refine jM 0 rfl rfl ?_
  refine jM 1 rfl rfl ?_
  refine jN 2 rfl rfl ?_
  refine jF 3 fld_89_1 rfl rfl ?_
  refine JH.q 4 rfl (q_load1 ty_67.h rfl (fun w hw => (Mem.rowR' (i := 6) rfl he25 w hw) 1 _ rfl)) ?_
  refine JH.p 5 rfl (p_len el_67 rfl) ?_
  refine JH.p 6 rfl (p_eql rfl rfl) ?_
  refine jM 7 rfl rfl ?_
  refine JH.pgT 8 rfl (Gd.f1 rfl rfl rfl) (show (!(decide ((j : Int) = ((((M.ent ES k).choices).length) : Int)))) = true by first | exact h35 | (rw [h35]; rfl) | simp [h35]) (p_move rfl) ?_
  refine JH.pgT 9 rfl (Gd.f1 rfl rfl rfl) (show (!(decide ((j : Int) = ((((M.ent ES k).choices).length) : Int)))) = true by first | exact h35 | (rw [h35]; rfl) | simp [h35]) (p_nilCheck rfl) ?_
  refine JH.pgT 10 rfl (Gd.f1 rfl rfl rfl) (show (!(decide ((j : Int) = ((((M.ent ES k).choices).length) : Int)))) = true by first | exact h35 | (rw [h35]; rfl) | simp [h35]) (p_fieldAddr fld_89_1.h rfl) ?_
  refine JH.qgT 11 rfl (Gd.f1 rfl rfl rfl) (show (!(decide ((j : Int) = ((((M.ent ES k).choices).length) : Int)))) = true by first | exact h35 | (rw [h35]; rfl) | simp [h35]) (q_load1 ty_67.h rfl (fun w hw => (Mem.rowR' (i := 6) rfl he25 w hw) 1 _ rfl)) ?_
  refine JH.pgT 12 rfl (Gd.f1 rfl rfl rfl) (show (!(decide ((j : Int) = ((((M.ent ES k).choices).length) : Int)))) = true by first | exact h35 | (rw [h35]; rfl) | simp [h35]) (p_move rfl) ?_
  refine JH.fact (row_some (i := 0) rfl len_) (fun hf37 => ?_)
  obtain ⟨b37, rfl⟩ := hf37
  have hy36 : ((M.ent ES k).choices)[j]? = some (M.cho ((M.ent ES k).choices) j) := M.cho_get len_
  refine JH.pgT 13 rfl (Gd.f1 rfl rfl rfl) (show (!(decide ((j : Int) = ((((M.ent ES k).choices).length) : Int)))) = true by first | exact h35 | (rw [h35]; rfl) | simp [h35]) (p_indexAddr el_67 rfl rfl len_ len_ rfl) ?_
  refine JH.pgT 14 rfl (Gd.f1 rfl rfl rfl) (show (!(decide ((j : Int) = ((((M.ent ES k).choices).length) : Int)))) = true by first | exact h35 | (rw [h35]; rfl) | simp [h35]) (p_fieldAddr fld_81_0.h rfl) ?_
  refine JH.qgT 15 rfl (Gd.f1 rfl rfl rfl) (show (!(decide ((j : Int) = ((((M.ent ES k).choices).length) : Int)))) = true by first | exact h35 | (rw [h35]; rfl) | simp [h35]) (q_load1 ty_2.h rfl (fun w hw => (Mem.rowR' (i := 0) rfl (fltV_at (C := vcChoice) (fun _ => rfl) hy36) w hw) 0 _ rfl)) ?_
  refine JH.pgT 16 rfl (Gd.f1 rfl rfl rfl) (show (!(decide ((j : Int) = ((((M.ent ES k).choices).length) : Int)))) = true by first | exact h35 | (rw [h35]; rfl) | simp [h35]) (p_fieldAddr fld_81_0.h rfl) ?_
  refine JH.qgT 17 rfl (Gd.f1 rfl rfl rfl) (show (!(decide ((j : Int) = ((((M.ent ES k).choices).length) : Int)))) = true by first | exact h35 | (rw [h35]; rfl) | simp [h35]) (q_load1 ty_2.h rfl (Mem.box (i := 4) rfl rfl)) ?_
  refine JH.pgT 18 rfl (Gd.f1 rfl rfl rfl) (show (!(decide ((j : Int) = ((((M.ent ES k).choices).length) : Int)))) = true by first | exact h35 | (rw [h35]; rfl) | simp [h35]) (p_neq rfl rfl) ?_
  refine JH.p 19 rfl (p_pickOr2 rfl rfl rfl) ?_
  refine yd ?_
  exact zm ⟨((decide ((j : Int) = ((((M.ent ES k).choices).length) : Int))) || (!decide ((M.cho ((M.ent ES k).choices) j).move = c.move))), _, rfl, rfl, by first | rfl | (rw [‹decide ((j : Int) = ((M.ent ES k).choices.length : Int)) = true›]; rfl) | (rw [‹decide ((j : Int) = ((M.ent ES k).choices.length : Int)) = false›]; simp)⟩ (Up.refl _ _)
 rintro _ _ u34 ⟨e123_, G34_7, rfl, rfl, hB123⟩ x34
 refine zn ?_
 refine zi (fun h38 h38' => ?_) fun h38 h38' => ?_
 ·
  have q123 := hB123.symm.trans h38; simp only [Bool.and_eq_true, Bool.or_eq_true, decide_eq_true_eq, Bool.and_eq_false_iff, Bool.or_eq_false_iff, decide_eq_false_iff_not, Int.not_lt, Decidable.not_not] at q123
  have hC := M.addC_no (c := c) hN (fun a => q123.elim (fun q => by omega) (fun q => q a.2))
  have hB9 := M.bump_no (show j ≤ (M.ent ES k).choices.length by omega) hC
  have hcj := fun (y : M.Cho) (hy : y ∈ (M.ent ES k).choices) => hcb y hy
  refine Js.seq ?_
  refine zdr [10] ?_
  refine jF 0 fld_81_0 rfl rfl ?_
  refine jB 1 4 ty_2 rfl rfl rfl rfl ?_
  refine JH.p 2 rfl (q_bld) ?_
  refine jM 4 rfl rfl ?_
  refine jN 5 rfl rfl ?_
  refine jF 6 fld_89_1 rfl rfl ?_
  refine JH.q 7 rfl (q_load1 ty_67.h rfl (fun w hw => (Mem.rowR' (i := 6) rfl he25 w hw) 1 _ rfl)) ?_
  refine jM 8 rfl rfl ?_
  refine JH.p 9 rfl (p_slice (lo' := j) (hi' := ((M.ent ES k).choices).length) (mx' := c25_1) el_67 rfl rfl ⟨rfl, rfl⟩ ⟨_, rfl, by omega⟩) ?_
  refine y1 3 ?_
  refine ybs rfl fun b39 => ?_
  refine y1 10 ?_
  refine JHo.e rfl (e_append (i := 0) (n' := ([(M.Cho.mk c.move 0 0)] ++ (((M.ent ES k).choices).drop j)).length) (vs' := fltV vcChoice ([(M.Cho.mk c.move 0 0)] ++ (((M.ent ES k).choices).drop j))) el_67 rfl rfl rfl rfl (src_suf (i := 1) (a := j) und_67 rfl (fun w hw => (FltL.one (F := lChoice) _)) (by omega) (by omega)) (by omega) (by omega) ln2_ (by rw [(fltV_split (F := lChoice) _ _).2]; first | rfl | exact fltV_app _ _ _ | (simp [fltV]; done))) (.inr rfl) ?_
  rintro v41 _ _ ⟨⟨g42, rfl⟩, rfl⟩ _
  refine JH.fact (row_form' (i := 0) rfl) (fun hf43 => ?_)
  obtain ⟨A43, c43, rfl, bl43, bh43⟩ := hf43
  refine znh ?_
  refine jA 11 rfl rfl ?_
  refine yd ?_
  refine Js.region <| Qm rfl <| Qm rfl <| Qc rfl <| Qf fh rfl <| Qw (q_load1 ty_67.h rfl (fun w hw => (Mem.rowR' (i := 7) rfl he25 w hw) 1 _ rfl)) <| Qm rfl <| Qm rfl <| Qq (p_slice (lo' := 0) (hi' := j) (mx' := j) el_67 rfl ⟨_, rfl, by omega⟩ ⟨_, rfl, by omega⟩ rfl) <| Qm rfl ?_
  refine JL.e (e_appendG (n' := ((((M.ent ES k).choices).take j) ++ ([(M.Cho.mk c.move 0 0)] ++ (((M.ent ES k).choices).drop j))).length) (vs' := fltV vcChoice ((((M.ent ES k).choices).take j) ++ ([(M.Cho.mk c.move 0 0)] ++ (((M.ent ES k).choices).drop j)))) el_67 rfl rfl (src_pre (i := 1) (b := j) und_67 rfl (fun w hw => (FltL.one (F := lChoice) _)) (by omega) (by omega)) rfl (src_rowW (i := 0) und_67 rfl (fun w hw => (FltL.one (F := lChoice) _))) len_ len_ len_ ln2_ (by rw [(fltV_split (F := lChoice) _ _).1]; exact fltV_app _ _ _)) ?_
  rintro _ _ _ ⟨A44, c44, rfl, rfl, rfl⟩ _
  refine JL.fact (row_form' (i := 0) rfl) (fun hf44 => ?_)
  obtain ⟨A944, c944, e944, bl44, bh44⟩ := hf44
  obtain ⟨rfl, rfl⟩ : A44 = A944 ∧ c44 = c944 := by injection e944 with e1 _ e3; exact ⟨e1, e3⟩
  refine znl ?_
  refine Qc rfl <| Qf fh rfl ?_
  refine JL.s (e_storeRow (i := 8) (xs' := setL vs13_0_9 (0 + k * 2) [.slice A25_0 (((M.ent ES k).pits).length) c25_0, .slice A44 (((((M.ent ES k).choices).take j) ++ ([(M.Cho.mk c.move 0 0)] ++ (((M.ent ES k).choices).drop j))).length) c44]) ty_67.h rfl rfl rfl rfl rfl rfl (by omega) (setL_at (j := 1) he25 (by decide) hl27 rfl)) ?_
  rintro _ _ _ ⟨rfl, rfl⟩ _
  refine znl ?_
  have hx14 : 0 ≤ (M.cho ((((M.ent ES k).choices).take j) ++ ([(M.Cho.mk c.move 0 0)] ++ (((M.ent ES k).choices).drop j))) j).games ∧ (M.cho ((((M.ent ES k).choices).take j) ++ ([(M.Cho.mk c.move 0 0)] ++ (((M.ent ES k).choices).drop j))) j).games ≤ 1000000000000000 ∧ 0 ≤ (M.cho ((((M.ent ES k).choices).take j) ++ ([(M.Cho.mk c.move 0 0)] ++ (((M.ent ES k).choices).drop j))) j).score ∧ (M.cho ((((M.ent ES k).choices).take j) ++ ([(M.Cho.mk c.move 0 0)] ++ (((M.ent ES k).choices).drop j))) j).score ≤ 1000000000000000 := by first | exact hcb _ (M.cho_mem (by omega)) | (rw [← List.append_assoc, M.cho_mid _ _ (by omega)]; simp)
  refine zJ ?_
  refine zdr [13] ?_
  refine jM 0 rfl rfl ?_
  refine jN 1 rfl rfl ?_
  refine jF 2 fld_89_1 rfl rfl ?_
  refine JH.q 3 rfl (q_load1 ty_67.h rfl (fun w hw => (Mem.rowR' (i := 8) rfl (setL_get (c := [.slice A25_0 (((M.ent ES k).pits).length) c25_0, .slice A44 (((((M.ent ES k).choices).take j) ++ ([(M.Cho.mk c.move 0 0)] ++ (((M.ent ES k).choices).drop j))).length) c44]) (m := 2) rfl hl27) w hw) 1 _ rfl)) ?_
  refine jM 4 rfl rfl ?_
  refine JH.fact (row_some (i := 0) rfl len_) (fun hf46 => ?_)
  obtain ⟨b46, rfl⟩ := hf46
  have hy45 : ((((M.ent ES k).choices).take j) ++ ([(M.Cho.mk c.move 0 0)] ++ (((M.ent ES k).choices).drop j)))[j]? = some (M.cho ((((M.ent ES k).choices).take j) ++ ([(M.Cho.mk c.move 0 0)] ++ (((M.ent ES k).choices).drop j))) j) := M.cho_get len_
  refine jI 5 el_67 rfl rfl rfl rfl ?_
  refine jF 6 fld_81_1 rfl rfl ?_
  refine JH.q 7 rfl (q_load1 ty_2.h rfl (fun w hw => (Mem.rowR' (i := 0) rfl (fltV_at (C := vcChoice) (fun _ => rfl) hy45) w hw) 1 _ rfl)) ?_
  refine jF 8 fld_81_1 rfl rfl ?_
  refine jB 9 6 ty_2 rfl rfl rfl rfl ?_
  refine JH.p 10 rfl (p_add rfl rfl (IntWalk.i64_in _ (by omega))) ?_
  have hy47 : ((((M.ent ES k).choices).take j) ++ ([(M.Cho.mk c.move 0 0)] ++ (((M.ent ES k).choices).drop j)))[j]? = some (M.cho ((((M.ent ES k).choices).take j) ++ ([(M.Cho.mk c.move 0 0)] ++ (((M.ent ES k).choices).drop j))) j) := M.cho_get len_
  refine jI 11 el_67 rfl rfl rfl rfl ?_
  refine jF 12 fld_81_1 rfl rfl ?_
  refine y1 13 ?_
  refine JHo.s rfl (e_storeRow (i := 0) (xs' := fltV vcChoice (((((M.ent ES k).choices).take j) ++ ([(M.Cho.mk c.move 0 0)] ++ (((M.ent ES k).choices).drop j))).set j (M.Cho.mk ((M.cho ((((M.ent ES k).choices).take j) ++ ([(M.Cho.mk c.move 0 0)] ++ (((M.ent ES k).choices).drop j))) j).move) (((M.cho ((((M.ent ES k).choices).take j) ++ ([(M.Cho.mk c.move 0 0)] ++ (((M.ent ES k).choices).drop j))) j).games) + c.games) ((M.cho ((((M.ent ES k).choices).take j) ++ ([(M.Cho.mk c.move 0 0)] ++ (((M.ent ES k).choices).drop j))) j).score)))) ty_2.h rfl rfl rfl rfl rfl rfl (fltV_lt (C := vcChoice) (j := 1) (fun _ => rfl) len_ (by decide)) (fltV_cell (C := vcChoice) (j := 1) (y' := (M.Cho.mk ((M.cho ((((M.ent ES k).choices).take j) ++ ([(M.Cho.mk c.move 0 0)] ++ (((M.ent ES k).choices).drop j))) j).move) (((M.cho ((((M.ent ES k).choices).take j) ++ ([(M.Cho.mk c.move 0 0)] ++ (((M.ent ES k).choices).drop j))) j).games) + c.games) ((M.cho ((((M.ent ES k).choices).take j) ++ ([(M.Cho.mk c.move 0 0)] ++ (((M.ent ES k).choices).drop j))) j).score))) (fun _ => rfl) hy47 (by decide) rfl)) (.inr rfl) ?_
  rintro _ _ _ ⟨rfl, rfl⟩ _
  refine znh ?_
  refine yd ?_
  have hx15 : (M.cho (((((M.ent ES k).choices).take j) ++ ([(M.Cho.mk c.move 0 0)] ++ (((M.ent ES k).choices).drop j))).set j (M.Cho.mk ((M.cho ((((M.ent ES k).choices).take j) ++ ([(M.Cho.mk c.move 0 0)] ++ (((M.ent ES k).choices).drop j))) j).move) (((M.cho ((((M.ent ES k).choices).take j) ++ ([(M.Cho.mk c.move 0 0)] ++ (((M.ent ES k).choices).drop j))) j).games) + c.games) ((M.cho ((((M.ent ES k).choices).take j) ++ ([(M.Cho.mk c.move 0 0)] ++ (((M.ent ES k).choices).drop j))) j).score))) j).score = (M.cho ((((M.ent ES k).choices).take j) ++ ([(M.Cho.mk c.move 0 0)] ++ (((M.ent ES k).choices).drop j))) j).score := by rw [M.cho_set (by first | omega | (simp only [List.length_append, List.length_cons, List.length_nil, List.length_take, List.length_drop]; omega))]
  refine zdr [13] ?_
  refine jM 0 rfl rfl ?_
  refine jN 1 rfl rfl ?_
  refine jF 2 fld_89_1 rfl rfl ?_
  refine JH.q 3 rfl (q_load1 ty_67.h rfl (fun w hw => (Mem.rowR' (i := 8) rfl (setL_get (c := [.slice A25_0 (((M.ent ES k).pits).length) c25_0, .slice (some ⟨b46, 0, none⟩) (((((M.ent ES k).choices).take j) ++ ([(M.Cho.mk c.move 0 0)] ++ (((M.ent ES k).choices).drop j))).length) c44]) (m := 2) rfl hl27) w hw) 1 _ rfl)) ?_
  refine jM 4 rfl rfl ?_
  have hy48 : (((((M.ent ES k).choices).take j) ++ ([(M.Cho.mk c.move 0 0)] ++ (((M.ent ES k).choices).drop j))).set j (M.Cho.mk ((M.cho ((((M.ent ES k).choices).take j) ++ ([(M.Cho.mk c.move 0 0)] ++ (((M.ent ES k).choices).drop j))) j).move) (((M.cho ((((M.ent ES k).choices).take j) ++ ([(M.Cho.mk c.move 0 0)] ++ (((M.ent ES k).choices).drop j))) j).games) + c.games) ((M.cho ((((M.ent ES k).choices).take j) ++ ([(M.Cho.mk c.move 0 0)] ++ (((M.ent ES k).choices).drop j))) j).score)))[j]? = some (M.cho (((((M.ent ES k).choices).take j) ++ ([(M.Cho.mk c.move 0 0)] ++ (((M.ent ES k).choices).drop j))).set j (M.Cho.mk ((M.cho ((((M.ent ES k).choices).take j) ++ ([(M.Cho.mk c.move 0 0)] ++ (((M.ent ES k).choices).drop j))) j).move) (((M.cho ((((M.ent ES k).choices).take j) ++ ([(M.Cho.mk c.move 0 0)] ++ (((M.ent ES k).choices).drop j))) j).games) + c.games) ((M.cho ((((M.ent ES k).choices).take j) ++ ([(M.Cho.mk c.move 0 0)] ++ (((M.ent ES k).choices).drop j))) j).score))) j) := M.cho_get len_
  refine jI 5 el_67 rfl rfl rfl rfl ?_
  refine jF 6 fld_81_2 rfl rfl ?_
  refine JH.q 7 rfl (q_load1 ty_2.h rfl (fun w hw => (Mem.rowR' (i := 0) rfl (fltV_at (C := vcChoice) (fun _ => rfl) hy48) w hw) 2 _ rfl)) ?_
  refine jF 8 fld_81_2 rfl rfl ?_
  refine jB 9 6 ty_2 rfl rfl rfl rfl ?_
  refine JH.p 10 rfl (p_add rfl rfl (IntWalk.i64_in _ (by omega))) ?_
  have hy49 : (((((M.ent ES k).choices).take j) ++ ([(M.Cho.mk c.move 0 0)] ++ (((M.ent ES k).choices).drop j))).set j (M.Cho.mk ((M.cho ((((M.ent ES k).choices).take j) ++ ([(M.Cho.mk c.move 0 0)] ++ (((M.ent ES k).choices).drop j))) j).move) (((M.cho ((((M.ent ES k).choices).take j) ++ ([(M.Cho.mk c.move 0 0)] ++ (((M.ent ES k).choices).drop j))) j).games) + c.games) ((M.cho ((((M.ent ES k).choices).take j) ++ ([(M.Cho.mk c.move 0 0)] ++ (((M.ent ES k).choices).drop j))) j).score)))[j]? = some (M.cho (((((M.ent ES k).choices).take j) ++ ([(M.Cho.mk c.move 0 0)] ++ (((M.ent ES k).choices).drop j))).set j (M.Cho.mk ((M.cho ((((M.ent ES k).choices).take j) ++ ([(M.Cho.mk c.move 0 0)] ++ (((M.ent ES k).choices).drop j))) j).move) (((M.cho ((((M.ent ES k).choices).take j) ++ ([(M.Cho.mk c.move 0 0)] ++ (((M.ent ES k).choices).drop j))) j).games) + c.games) ((M.cho ((((M.ent ES k).choices).take j) ++ ([(M.Cho.mk c.move 0 0)] ++ (((M.ent ES k).choices).drop j))) j).score))) j) := M.cho_get len_
  refine jI 11 el_67 rfl rfl rfl rfl ?_
  refine jF 12 fld_81_2 rfl rfl ?_
  refine y1 13 ?_
  refine JHo.s rfl (e_storeRow (i := 0) (xs' := fltV vcChoice ((((((M.ent ES k).choices).take j) ++ ([(M.Cho.mk c.move 0 0)] ++ (((M.ent ES k).choices).drop j))).set j (M.Cho.mk ((M.cho ((((M.ent ES k).choices).take j) ++ ([(M.Cho.mk c.move 0 0)] ++ (((M.ent ES k).choices).drop j))) j).move) (((M.cho ((((M.ent ES k).choices).take j) ++ ([(M.Cho.mk c.move 0 0)] ++ (((M.ent ES k).choices).drop j))) j).games) + c.games) ((M.cho ((((M.ent ES k).choices).take j) ++ ([(M.Cho.mk c.move 0 0)] ++ (((M.ent ES k).choices).drop j))) j).score))).set j (M.Cho.mk ((M.cho (((((M.ent ES k).choices).take j) ++ ([(M.Cho.mk c.move 0 0)] ++ (((M.ent ES k).choices).drop j))).set j (M.Cho.mk ((M.cho ((((M.ent ES k).choices).take j) ++ ([(M.Cho.mk c.move 0 0)] ++ (((M.ent ES k).choices).drop j))) j).move) (((M.cho ((((M.ent ES k).choices).take j) ++ ([(M.Cho.mk c.move 0 0)] ++ (((M.ent ES k).choices).drop j))) j).games) + c.games) ((M.cho ((((M.ent ES k).choices).take j) ++ ([(M.Cho.mk c.move 0 0)] ++ (((M.ent ES k).choices).drop j))) j).score))) j).move) ((M.cho (((((M.ent ES k).choices).take j) ++ ([(M.Cho.mk c.move 0 0)] ++ (((M.ent ES k).choices).drop j))).set j (M.Cho.mk ((M.cho ((((M.ent ES k).choices).take j) ++ ([(M.Cho.mk c.move 0 0)] ++ (((M.ent ES k).choices).drop j))) j).move) (((M.cho ((((M.ent ES k).choices).take j) ++ ([(M.Cho.mk c.move 0 0)] ++ (((M.ent ES k).choices).drop j))) j).games) + c.games) ((M.cho ((((M.ent ES k).choices).take j) ++ ([(M.Cho.mk c.move 0 0)] ++ (((M.ent ES k).choices).drop j))) j).score))) j).games) (((M.cho (((((M.ent ES k).choices).take j) ++ ([(M.Cho.mk c.move 0 0)] ++ (((M.ent ES k).choices).drop j))).set j (M.Cho.mk ((M.cho ((((M.ent ES k).choices).take j) ++ ([(M.Cho.mk c.move 0 0)] ++ (((M.ent ES k).choices).drop j))) j).move) (((M.cho ((((M.ent ES k).choices).take j) ++ ([(M.Cho.mk c.move 0 0)] ++ (((M.ent ES k).choices).drop j))) j).games) + c.games) ((M.cho ((((M.ent ES k).choices).take j) ++ ([(M.Cho.mk c.move 0 0)] ++ (((M.ent ES k).choices).drop j))) j).score))) j).score) + c.score)))) ty_2.h rfl rfl rfl rfl rfl rfl (fltV_lt (C := vcChoice) (j := 2) (fun _ => rfl) len_ (by decide)) (fltV_cell (C := vcChoice) (j := 2) (y' := (M.Cho.mk ((M.cho (((((M.ent ES k).choices).take j) ++ ([(M.Cho.mk c.move 0 0)] ++ (((M.ent ES k).choices).drop j))).set j (M.Cho.mk ((M.cho ((((M.ent ES k).choices).take j) ++ ([(M.Cho.mk c.move 0 0)] ++ (((M.ent ES k).choices).drop j))) j).move) (((M.cho ((((M.ent ES k).choices).take j) ++ ([(M.Cho.mk c.move 0 0)] ++ (((M.ent ES k).choices).drop j))) j).games) + c.games) ((M.cho ((((M.ent ES k).choices).take j) ++ ([(M.Cho.mk c.move 0 0)] ++ (((M.ent ES k).choices).drop j))) j).score))) j).move) ((M.cho (((((M.ent ES k).choices).take j) ++ ([(M.Cho.mk c.move 0 0)] ++ (((M.ent ES k).choices).drop j))).set j (M.Cho.mk ((M.cho ((((M.ent ES k).choices).take j) ++ ([(M.Cho.mk c.move 0 0)] ++ (((M.ent ES k).choices).drop j))) j).move) (((M.cho ((((M.ent ES k).choices).take j) ++ ([(M.Cho.mk c.move 0 0)] ++ (((M.ent ES k).choices).drop j))) j).games) + c.games) ((M.cho ((((M.ent ES k).choices).take j) ++ ([(M.Cho.mk c.move 0 0)] ++ (((M.ent ES k).choices).drop j))) j).score))) j).games) (((M.cho (((((M.ent ES k).choices).take j) ++ ([(M.Cho.mk c.move 0 0)] ++ (((M.ent ES k).choices).drop j))).set j (M.Cho.mk ((M.cho ((((M.ent ES k).choices).take j) ++ ([(M.Cho.mk c.move 0 0)] ++ (((M.ent ES k).choices).drop j))) j).move) (((M.cho ((((M.ent ES k).choices).take j) ++ ([(M.Cho.mk c.move 0 0)] ++ (((M.ent ES k).choices).drop j))) j).games) + c.games) ((M.cho ((((M.ent ES k).choices).take j) ++ ([(M.Cho.mk c.move 0 0)] ++ (((M.ent ES k).choices).drop j))) j).score))) j).score) + c.score))) (fun _ => rfl) hy49 (by decide) rfl)) (.inr rfl) ?_
  rintro _ _ _ ⟨rfl, rfl⟩ _
  refine znh ?_
  refine yd ?_
  refine Js.pk (cBookEntry (M.Ent.mk ((M.ent ES k).pits) ((((((M.ent ES k).choices).take j) ++ ([(M.Cho.mk c.move 0 0)] ++ (((M.ent ES k).choices).drop j))).set j (M.Cho.mk ((M.cho ((((M.ent ES k).choices).take j) ++ ([(M.Cho.mk c.move 0 0)] ++ (((M.ent ES k).choices).drop j))) j).move) (((M.cho ((((M.ent ES k).choices).take j) ++ ([(M.Cho.mk c.move 0 0)] ++ (((M.ent ES k).choices).drop j))) j).games) + c.games) ((M.cho ((((M.ent ES k).choices).take j) ++ ([(M.Cho.mk c.move 0 0)] ++ (((M.ent ES k).choices).drop j))) j).score))).set j (M.Cho.mk ((M.cho (((((M.ent ES k).choices).take j) ++ ([(M.Cho.mk c.move 0 0)] ++ (((M.ent ES k).choices).drop j))).set j (M.Cho.mk ((M.cho ((((M.ent ES k).choices).take j) ++ ([(M.Cho.mk c.move 0 0)] ++ (((M.ent ES k).choices).drop j))) j).move) (((M.cho ((((M.ent ES k).choices).take j) ++ ([(M.Cho.mk c.move 0 0)] ++ (((M.ent ES k).choices).drop j))) j).games) + c.games) ((M.cho ((((M.ent ES k).choices).take j) ++ ([(M.Cho.mk c.move 0 0)] ++ (((M.ent ES k).choices).drop j))) j).score))) j).move) ((M.cho (((((M.ent ES k).choices).take j) ++ ([(M.Cho.mk c.move 0 0)] ++ (((M.ent ES k).choices).drop j))).set j (M.Cho.mk ((M.cho ((((M.ent ES k).choices).take j) ++ ([(M.Cho.mk c.move 0 0)] ++ (((M.ent ES k).choices).drop j))) j).move) (((M.cho ((((M.ent ES k).choices).take j) ++ ([(M.Cho.mk c.move 0 0)] ++ (((M.ent ES k).choices).drop j))) j).games) + c.games) ((M.cho ((((M.ent ES k).choices).take j) ++ ([(M.Cho.mk c.move 0 0)] ++ (((M.ent ES k).choices).drop j))) j).score))) j).games) (((M.cho (((((M.ent ES k).choices).take j) ++ ([(M.Cho.mk c.move 0 0)] ++ (((M.ent ES k).choices).drop j))).set j (M.Cho.mk ((M.cho ((((M.ent ES k).choices).take j) ++ ([(M.Cho.mk c.move 0 0)] ++ (((M.ent ES k).choices).drop j))) j).move) (((M.cho ((((M.ent ES k).choices).take j) ++ ([(M.Cho.mk c.move 0 0)] ++ (((M.ent ES k).choices).drop j))) j).games) + c.games) ((M.cho ((((M.ent ES k).choices).take j) ++ ([(M.Cho.mk c.move 0 0)] ++ (((M.ent ES k).choices).drop j))) j).score))) j).score) + c.score))))) [.slice A25_0 (((M.ent ES k).pits).length) c25_0, .slice (some ⟨b46, 0, none⟩) (((((M.ent ES k).choices).take j) ++ ([(M.Cho.mk c.move 0 0)] ++ (((M.ent ES k).choices).drop j))).length) c44] (fun f51 G51 => ?_) (by exact (gv_agg (gvc gv_ (gvc (gv_flat lChoice (xs := ((((((M.ent ES k).choices).take j) ++ ([(M.Cho.mk c.move 0 0)] ++ (((M.ent ES k).choices).drop j))).set j (M.Cho.mk ((M.cho ((((M.ent ES k).choices).take j) ++ ([(M.Cho.mk c.move 0 0)] ++ (((M.ent ES k).choices).drop j))) j).move) (((M.cho ((((M.ent ES k).choices).take j) ++ ([(M.Cho.mk c.move 0 0)] ++ (((M.ent ES k).choices).drop j))) j).games) + c.games) ((M.cho ((((M.ent ES k).choices).take j) ++ ([(M.Cho.mk c.move 0 0)] ++ (((M.ent ES k).choices).drop j))) j).score))).set j (M.Cho.mk ((M.cho (((((M.ent ES k).choices).take j) ++ ([(M.Cho.mk c.move 0 0)] ++ (((M.ent ES k).choices).drop j))).set j (M.Cho.mk ((M.cho ((((M.ent ES k).choices).take j) ++ ([(M.Cho.mk c.move 0 0)] ++ (((M.ent ES k).choices).drop j))) j).move) (((M.cho ((((M.ent ES k).choices).take j) ++ ([(M.Cho.mk c.move 0 0)] ++ (((M.ent ES k).choices).drop j))) j).games) + c.games) ((M.cho ((((M.ent ES k).choices).take j) ++ ([(M.Cho.mk c.move 0 0)] ++ (((M.ent ES k).choices).drop j))) j).score))) j).move) ((M.cho (((((M.ent ES k).choices).take j) ++ ([(M.Cho.mk c.move 0 0)] ++ (((M.ent ES k).choices).drop j))).set j (M.Cho.mk ((M.cho ((((M.ent ES k).choices).take j) ++ ([(M.Cho.mk c.move 0 0)] ++ (((M.ent ES k).choices).drop j))) j).move) (((M.cho ((((M.ent ES k).choices).take j) ++ ([(M.Cho.mk c.move 0 0)] ++ (((M.ent ES k).choices).drop j))) j).games) + c.games) ((M.cho ((((M.ent ES k).choices).take j) ++ ([(M.Cho.mk c.move 0 0)] ++ (((M.ent ES k).choices).drop j))) j).score))) j).games) (((M.cho (((((M.ent ES k).choices).take j) ++ ([(M.Cho.mk c.move 0 0)] ++ (((M.ent ES k).choices).drop j))).set j (M.Cho.mk ((M.cho ((((M.ent ES k).choices).take j) ++ ([(M.Cho.mk c.move 0 0)] ++ (((M.ent ES k).choices).drop j))) j).move) (((M.cho ((((M.ent ES k).choices).take j) ++ ([(M.Cho.mk c.move 0 0)] ++ (((M.ent ES k).choices).drop j))) j).games) + c.games) ((M.cho ((((M.ent ES k).choices).take j) ++ ([(M.Cho.mk c.move 0 0)] ++ (((M.ent ES k).choices).drop j))) j).score))) j).score) + c.score)))) po_ (by first | rfl | (simp [fltV]; done)) (by first | with_reducible rfl | assumption | rfl)) gvn))))
  refine Js.front (i := 4) rfl ?_
  refine zn ?_
  refine Js.front (i := 1) rfl ?_
  refine zn ?_
  refine Js.front (i := 5) rfl ?_
  refine zn ?_
  refine Js.conv (fun w hw => St.closeE cBookEntry (k := k) (m := 2) (xs := ES) (y := (M.Ent.mk ((M.ent ES k).pits) ((((((M.ent ES k).choices).take j) ++ ([(M.Cho.mk c.move 0 0)] ++ (((M.ent ES k).choices).drop j))).set j (M.Cho.mk ((M.cho ((((M.ent ES k).choices).take j) ++ ([(M.Cho.mk c.move 0 0)] ++ (((M.ent ES k).choices).drop j))) j).move) (((M.cho ((((M.ent ES k).choices).take j) ++ ([(M.Cho.mk c.move 0 0)] ++ (((M.ent ES k).choices).drop j))) j).games) + c.games) ((M.cho ((((M.ent ES k).choices).take j) ++ ([(M.Cho.mk c.move 0 0)] ++ (((M.ent ES k).choices).drop j))) j).score))).set j (M.Cho.mk ((M.cho (((((M.ent ES k).choices).take j) ++ ([(M.Cho.mk c.move 0 0)] ++ (((M.ent ES k).choices).drop j))).set j (M.Cho.mk ((M.cho ((((M.ent ES k).choices).take j) ++ ([(M.Cho.mk c.move 0 0)] ++ (((M.ent ES k).choices).drop j))) j).move) (((M.cho ((((M.ent ES k).choices).take j) ++ ([(M.Cho.mk c.move 0 0)] ++ (((M.ent ES k).choices).drop j))) j).games) + c.games) ((M.cho ((((M.ent ES k).choices).take j) ++ ([(M.Cho.mk c.move 0 0)] ++ (((M.ent ES k).choices).drop j))) j).score))) j).move) ((M.cho (((((M.ent ES k).choices).take j) ++ ([(M.Cho.mk c.move 0 0)] ++ (((M.ent ES k).choices).drop j))).set j (M.Cho.mk ((M.cho ((((M.ent ES k).choices).take j) ++ ([(M.Cho.mk c.move 0 0)] ++ (((M.ent ES k).choices).drop j))) j).move) (((M.cho ((((M.ent ES k).choices).take j) ++ ([(M.Cho.mk c.move 0 0)] ++ (((M.ent ES k).choices).drop j))) j).games) + c.games) ((M.cho ((((M.ent ES k).choices).take j) ++ ([(M.Cho.mk c.move 0 0)] ++ (((M.ent ES k).choices).drop j))) j).score))) j).games) (((M.cho (((((M.ent ES k).choices).take j) ++ ([(M.Cho.mk c.move 0 0)] ++ (((M.ent ES k).choices).drop j))).set j (M.Cho.mk ((M.cho ((((M.ent ES k).choices).take j) ++ ([(M.Cho.mk c.move 0 0)] ++ (((M.ent ES k).choices).drop j))) j).move) (((M.cho ((((M.ent ES k).choices).take j) ++ ([(M.Cho.mk c.move 0 0)] ++ (((M.ent ES k).choices).drop j))) j).games) + c.games) ((M.cho ((((M.ent ES k).choices).take j) ++ ([(M.Cho.mk c.move 0 0)] ++ (((M.ent ES k).choices).drop j))) j).score))) j).score) + c.score))))) (vs := vs13_0_9) (vs' := (setL vs13_0_9 (0 + k * 2) [.slice A25_0 (((M.ent ES k).pits).length) c25_0, .slice (some ⟨b46, 0, none⟩) (((((M.ent ES k).choices).take j) ++ ([(M.Cho.mk c.move 0 0)] ++ (((M.ent ES k).choices).drop j))).length) c44])) (by omega) rfl rfl hw) ?_
  refine zn ?_
  refine zrbE [5, 5, 0] hb ((((((x3.trans x4).trans x9).trans x13).trans x28).trans x29).trans x34) ?_
  have hN10 : (M.addE b_entries pits c).length = ES.length := by first | (rw [← M.addE_at (c := c) hE hA]; simp; done) | exact (M.addE_at (c := c) hE hA).symm.trans (by rw [← hB9])
  have hE10 : M.addE b_entries pits c = (ES.set k (M.Ent.mk ((M.ent ES k).pits) ((((((M.ent ES k).choices).take j) ++ ([(M.Cho.mk c.move 0 0)] ++ (((M.ent ES k).choices).drop j))).set j (M.Cho.mk ((M.cho ((((M.ent ES k).choices).take j) ++ ([(M.Cho.mk c.move 0 0)] ++ (((M.ent ES k).choices).drop j))) j).move) (((M.cho ((((M.ent ES k).choices).take j) ++ ([(M.Cho.mk c.move 0 0)] ++ (((M.ent ES k).choices).drop j))) j).games) + c.games) ((M.cho ((((M.ent ES k).choices).take j) ++ ([(M.Cho.mk c.move 0 0)] ++ (((M.ent ES k).choices).drop j))) j).score))).set j (M.Cho.mk ((M.cho (((((M.ent ES k).choices).take j) ++ ([(M.Cho.mk c.move 0 0)] ++ (((M.ent ES k).choices).drop j))).set j (M.Cho.mk ((M.cho ((((M.ent ES k).choices).take j) ++ ([(M.Cho.mk c.move 0 0)] ++ (((M.ent ES k).choices).drop j))) j).move) (((M.cho ((((M.ent ES k).choices).take j) ++ ([(M.Cho.mk c.move 0 0)] ++ (((M.ent ES k).choices).drop j))) j).games) + c.games) ((M.cho ((((M.ent ES k).choices).take j) ++ ([(M.Cho.mk c.move 0 0)] ++ (((M.ent ES k).choices).drop j))) j).score))) j).move) ((M.cho (((((M.ent ES k).choices).take j) ++ ([(M.Cho.mk c.move 0 0)] ++ (((M.ent ES k).choices).drop j))).set j (M.Cho.mk ((M.cho ((((M.ent ES k).choices).take j) ++ ([(M.Cho.mk c.move 0 0)] ++ (((M.ent ES k).choices).drop j))) j).move) (((M.cho ((((M.ent ES k).choices).take j) ++ ([(M.Cho.mk c.move 0 0)] ++ (((M.ent ES k).choices).drop j))) j).games) + c.games) ((M.cho ((((M.ent ES k).choices).take j) ++ ([(M.Cho.mk c.move 0 0)] ++ (((M.ent ES k).choices).drop j))) j).score))) j).games) (((M.cho (((((M.ent ES k).choices).take j) ++ ([(M.Cho.mk c.move 0 0)] ++ (((M.ent ES k).choices).drop j))).set j (M.Cho.mk ((M.cho ((((M.ent ES k).choices).take j) ++ ([(M.Cho.mk c.move 0 0)] ++ (((M.ent ES k).choices).drop j))) j).move) (((M.cho ((((M.ent ES k).choices).take j) ++ ([(M.Cho.mk c.move 0 0)] ++ (((M.ent ES k).choices).drop j))) j).games) + c.games) ((M.cho ((((M.ent ES k).choices).take j) ++ ([(M.Cho.mk c.move 0 0)] ++ (((M.ent ES k).choices).drop j))) j).score))) j).score) + c.score))))) := by first | (rw [← M.addE_at (c := c) hE hA]; simp; done) | exact (M.addE_at (c := c) hE hA).symm.trans (by rw [← hB9])
  refine ⟨(some ⟨b26, 0, none⟩), c13_0_9, g13_0_9, (setL vs13_0_9 (0 + k * 2) [.slice A25_0 (((M.ent ES k).pits).length) c25_0, .slice (some ⟨b46, 0, none⟩) (((((M.ent ES k).choices).take j) ++ ([(M.Cho.mk c.move 0 0)] ++ (((M.ent ES k).choices).drop j))).length) c44]), (f27_3 ++ f51 ++ f27_2), rfl, ?_, ?_, ?_⟩
  · first | rfl | (dsimp only; rw [hN10, hE10]; done) | (dsimp only; rw [hN10, hE10]; rfl) | (dsimp only; simp only [hN10, hE10]) | (rw [hN10, hE10]; done) | (rw [hN10, hE10]; rfl)
  all_goals (try dsimp only)
  all_goals (first | (rw [hN10, hE10]; omega) | omega | (simp only [*]; omega))
 have q123 := hB123.symm.trans h38; simp only [Bool.and_eq_true, Bool.or_eq_true, decide_eq_true_eq, Bool.and_eq_false_iff, Bool.or_eq_false_iff, decide_eq_false_iff_not, Int.not_lt, Decidable.not_not] at q123
 have hC := M.addC_yes (c := c) hN (by omega) q123.2
 have hB9 := M.bump_yes (show j < (M.ent ES k).choices.length by omega) hC
 have hcj := hcb _ (M.cho_mem (show j < (M.ent ES k).choices.length by omega))
 have hx14 : 0 ≤ (M.cho ((M.ent ES k).choices) j).games ∧ (M.cho ((M.ent ES k).choices) j).games ≤ 1000000000000000 ∧ 0 ≤ (M.cho ((M.ent ES k).choices) j).score ∧ (M.cho ((M.ent ES k).choices) j).score ≤ 1000000000000000 := by first | exact hcb _ (M.cho_mem (by omega)) | (rw [← List.append_assoc, M.cho_mid _ _ (by omega)]; simp)
 refine Js.skip <| Js.seq ?_
 refine zdr [13] ?_
 refine jM 0 rfl rfl ?_
 refine jN 1 rfl rfl ?_
 refine jF 2 fld_89_1 rfl rfl ?_
 refine JH.q 3 rfl (q_load1 ty_67.h rfl (fun w hw => (Mem.rowR' (i := 6) rfl he25 w hw) 1 _ rfl)) ?_
 refine jM 4 rfl rfl ?_
 refine JH.fact (row_some (i := 0) rfl len_) (fun hf53 => ?_)
 obtain ⟨b53, rfl⟩ := hf53
 have hy52 : ((M.ent ES k).choices)[j]? = some (M.cho ((M.ent ES k).choices) j) := M.cho_get len_
 refine jI 5 el_67 rfl rfl rfl rfl ?_
 refine jF 6 fld_81_1 rfl rfl ?_
 refine JH.q 7 rfl (q_load1 ty_2.h rfl (fun w hw => (Mem.rowR' (i := 0) rfl (fltV_at (C := vcChoice) (fun _ => rfl) hy52) w hw) 1 _ rfl)) ?_
 refine jF 8 fld_81_1 rfl rfl ?_
 refine jB 9 4 ty_2 rfl rfl rfl rfl ?_
 refine JH.p 10 rfl (p_add rfl rfl (IntWalk.i64_in _ (by omega))) ?_
 have hy54 : ((M.ent ES k).choices)[j]? = some (M.cho ((M.ent ES k).choices) j) := M.cho_get len_
 refine jI 11 el_67 rfl rfl rfl rfl ?_
 refine jF 12 fld_81_1 rfl rfl ?_
 refine y1 13 ?_
 refine JHo.s rfl (e_storeRow (i := 0) (xs' := fltV vcChoice (((M.ent ES k).choices).set j (M.Cho.mk ((M.cho ((M.ent ES k).choices) j).move) (((M.cho ((M.ent ES k).choices) j).games) + c.games) ((M.cho ((M.ent ES k).choices) j).score)))) ty_2.h rfl rfl rfl rfl rfl rfl (fltV_lt (C := vcChoice) (j := 1) (fun _ => rfl) len_ (by decide)) (fltV_cell (C := vcChoice) (j := 1) (y' := (M.Cho.mk ((M.cho ((M.ent ES k).choices) j).move) (((M.cho ((M.ent ES k).choices) j).games) + c.games) ((M.cho ((M.ent ES k).choices) j).score))) (fun _ => rfl) hy54 (by decide) rfl)) (.inr rfl) ?_
 rintro _ _ _ ⟨rfl, rfl⟩ _
 refine znh ?_
 refine yd ?_
 have hx15 : (M.cho (((M.ent ES k).choices).set j (M.Cho.mk ((M.cho ((M.ent ES k).choices) j).move) (((M.cho ((M.ent ES k).choices) j).games) + c.games) ((M.cho ((M.ent ES k).choices) j).score))) j).score = (M.cho ((M.ent ES k).choices) j).score := by rw [M.cho_set (by first | omega | (simp only [List.length_append, List.length_cons, List.length_nil, List.length_take, List.length_drop]; omega))]
 refine zdr [13] ?_
 refine jM 0 rfl rfl ?_
 refine jN 1 rfl rfl ?_
 refine jF 2 fld_89_1 rfl rfl ?_
 refine JH.q 3 rfl (q_load1 ty_67.h rfl (fun w hw => (Mem.rowR' (i := 6) rfl he25 w hw) 1 _ rfl)) ?_
 refine jM 4 rfl rfl ?_
 have hy55 : (((M.ent ES k).choices).set j (M.Cho.mk ((M.cho ((M.ent ES k).choices) j).move) (((M.cho ((M.ent ES k).choices) j).games) + c.games) ((M.cho ((M.ent ES k).choices) j).score)))[j]? = some (M.cho (((M.ent ES k).choices).set j (M.Cho.mk ((M.cho ((M.ent ES k).choices) j).move) (((M.cho ((M.ent ES k).choices) j).games) + c.games) ((M.cho ((M.ent ES k).choices) j).score))) j) := M.cho_get len_
 refine jI 5 el_67 rfl rfl rfl rfl ?_
 refine jF 6 fld_81_2 rfl rfl ?_
 refine JH.q 7 rfl (q_load1 ty_2.h rfl (fun w hw => (Mem.rowR' (i := 0) rfl (fltV_at (C := vcChoice) (fun _ => rfl) hy55) w hw) 2 _ rfl)) ?_
 refine jF 8 fld_81_2 rfl rfl ?_
 refine jB 9 4 ty_2 rfl rfl rfl rfl ?_
 refine JH.p 10 rfl (p_add rfl rfl (IntWalk.i64_in _ (by omega))) ?_
 have hy56 : (((M.ent ES k).choices).set j (M.Cho.mk ((M.cho ((M.ent ES k).choices) j).move) (((M.cho ((M.ent ES k).choices) j).games) + c.games) ((M.cho ((M.ent ES k).choices) j).score)))[j]? = some (M.cho (((M.ent ES k).choices).set j (M.Cho.mk ((M.cho ((M.ent ES k).choices) j).move) (((M.cho ((M.ent ES k).choices) j).games) + c.games) ((M.cho ((M.ent ES k).choices) j).score))) j) := M.cho_get len_
 refine jI 11 el_67 rfl rfl rfl rfl ?_
 refine jF 12 fld_81_2 rfl rfl ?_
 refine y1 13 ?_
 refine JHo.s rfl (e_storeRow (i := 0) (xs' := fltV vcChoice ((((M.ent ES k).choices).set j (M.Cho.mk ((M.cho ((M.ent ES k).choices) j).move) (((M.cho ((M.ent ES k).choices) j).games) + c.games) ((M.cho ((M.ent ES k).choices) j).score))).set j (M.Cho.mk ((M.cho (((M.ent ES k).choices).set j (M.Cho.mk ((M.cho ((M.ent ES k).choices) j).move) (((M.cho ((M.ent ES k).choices) j).games) + c.games) ((M.cho ((M.ent ES k).choices) j).score))) j).move) ((M.cho (((M.ent ES k).choices).set j (M.Cho.mk ((M.cho ((M.ent ES k).choices) j).move) (((M.cho ((M.ent ES k).choices) j).games) + c.games) ((M.cho ((M.ent ES k).choices) j).score))) j).games) (((M.cho (((M.ent ES k).choices).set j (M.Cho.mk ((M.cho ((M.ent ES k).choices) j).move) (((M.cho ((M.ent ES k).choices) j).games) + c.games) ((M.cho ((M.ent ES k).choices) j).score))) j).score) + c.score)))) ty_2.h rfl rfl rfl rfl rfl rfl (fltV_lt (C := vcChoice) (j := 2) (fun _ => rfl) len_ (by decide)) (fltV_cell (C := vcChoice) (j := 2) (y' := (M.Cho.mk ((M.cho (((M.ent ES k).choices).set j (M.Cho.mk ((M.cho ((M.ent ES k).choices) j).move) (((M.cho ((M.ent ES k).choices) j).games) + c.games) ((M.cho ((M.ent ES k).choices) j).score))) j).move) ((M.cho (((M.ent ES k).choices).set j (M.Cho.mk ((M.cho ((M.ent ES k).choices) j).move) (((M.cho ((M.ent ES k).choices) j).games) + c.games) ((M.cho ((M.ent ES k).choices) j).score))) j).games) (((M.cho (((M.ent ES k).choices).set j (M.Cho.mk ((M.cho ((M.ent ES k).choices) j).move) (((M.cho ((M.ent ES k).choices) j).games) + c.games) ((M.cho ((M.ent ES k).choices) j).score))) j).score) + c.score))) (fun _ => rfl) hy56 (by decide) rfl)) (.inr rfl) ?_
 rintro _ _ _ ⟨rfl, rfl⟩ _
 refine znh ?_
 refine yd ?_
 refine Js.pk (cBookEntry (M.Ent.mk ((M.ent ES k).pits) ((((M.ent ES k).choices).set j (M.Cho.mk ((M.cho ((M.ent ES k).choices) j).move) (((M.cho ((M.ent ES k).choices) j).games) + c.games) ((M.cho ((M.ent ES k).choices) j).score))).set j (M.Cho.mk ((M.cho (((M.ent ES k).choices).set j (M.Cho.mk ((M.cho ((M.ent ES k).choices) j).move) (((M.cho ((M.ent ES k).choices) j).games) + c.games) ((M.cho ((M.ent ES k).choices) j).score))) j).move) ((M.cho (((M.ent ES k).choices).set j (M.Cho.mk ((M.cho ((M.ent ES k).choices) j).move) (((M.cho ((M.ent ES k).choices) j).games) + c.games) ((M.cho ((M.ent ES k).choices) j).score))) j).games) (((M.cho (((M.ent ES k).choices).set j (M.Cho.mk ((M.cho ((M.ent ES k).choices) j).move) (((M.cho ((M.ent ES k).choices) j).games) + c.games) ((M.cho ((M.ent ES k).choices) j).score))) j).score) + c.score))))) [.slice A25_0 (((M.ent ES k).pits).length) c25_0, .slice (some ⟨b53, 0, none⟩) (((M.ent ES k).choices).length) c25_1] (fun f58 G58 => ?_) (by exact (gv_agg (gvc gv_ (gvc (gv_flat lChoice (xs := ((((M.ent ES k).choices).set j (M.Cho.mk ((M.cho ((M.ent ES k).choices) j).move) (((M.cho ((M.ent ES k).choices) j).games) + c.games) ((M.cho ((M.ent ES k).choices) j).score))).set j (M.Cho.mk ((M.cho (((M.ent ES k).choices).set j (M.Cho.mk ((M.cho ((M.ent ES k).choices) j).move) (((M.cho ((M.ent ES k).choices) j).games) + c.games) ((M.cho ((M.ent ES k).choices) j).score))) j).move) ((M.cho (((M.ent ES k).choices).set j (M.Cho.mk ((M.cho ((M.ent ES k).choices) j).move) (((M.cho ((M.ent ES k).choices) j).games) + c.games) ((M.cho ((M.ent ES k).choices) j).score))) j).games) (((M.cho (((M.ent ES k).choices).set j (M.Cho.mk ((M.cho ((M.ent ES k).choices) j).move) (((M.cho ((M.ent ES k).choices) j).games) + c.games) ((M.cho ((M.ent ES k).choices) j).score))) j).score) + c.score)))) po_ (by first | rfl | (simp [fltV]; done)) (by first | with_reducible rfl | assumption | rfl)) gvn))))
 refine Js.front (i := 2) rfl ?_
 refine zn ?_
 refine Js.front (i := 1) rfl ?_
 refine zn ?_
 refine Js.front (i := 3) rfl ?_
 refine zn ?_
 refine Js.conv (fun w hw => St.closeE cBookEntry (k := k) (m := 2) (xs := ES) (y := (M.Ent.mk ((M.ent ES k).pits) ((((M.ent ES k).choices).set j (M.Cho.mk ((M.cho ((M.ent ES k).choices) j).move) (((M.cho ((M.ent ES k).choices) j).games) + c.games) ((M.cho ((M.ent ES k).choices) j).score))).set j (M.Cho.mk ((M.cho (((M.ent ES k).choices).set j (M.Cho.mk ((M.cho ((M.ent ES k).choices) j).move) (((M.cho ((M.ent ES k).choices) j).games) + c.games) ((M.cho ((M.ent ES k).choices) j).score))) j).move) ((M.cho (((M.ent ES k).choices).set j (M.Cho.mk ((M.cho ((M.ent ES k).choices) j).move) (((M.cho ((M.ent ES k).choices) j).games) + c.games) ((M.cho ((M.ent ES k).choices) j).score))) j).games) (((M.cho (((M.ent ES k).choices).set j (M.Cho.mk ((M.cho ((M.ent ES k).choices) j).move) (((M.cho ((M.ent ES k).choices) j).games) + c.games) ((M.cho ((M.ent ES k).choices) j).score))) j).score) + c.score))))) (vs := vs13_0_9) (vs' := vs13_0_9) (by omega) rfl (setL_same he25 rfl) hw) ?_
 refine zn ?_
 refine zrbE [3, 3, 0] hb ((((((x3.trans x4).trans x9).trans x13).trans x28).trans x29).trans x34) ?_
 have hN10 : (M.addE b_entries pits c).length = ES.length := by first | (rw [← M.addE_at (c := c) hE hA]; simp; done) | exact (M.addE_at (c := c) hE hA).symm.trans (by rw [← hB9])
 have hE10 : M.addE b_entries pits c = (ES.set k (M.Ent.mk ((M.ent ES k).pits) ((((M.ent ES k).choices).set j (M.Cho.mk ((M.cho ((M.ent ES k).choices) j).move) (((M.cho ((M.ent ES k).choices) j).games) + c.games) ((M.cho ((M.ent ES k).choices) j).score))).set j (M.Cho.mk ((M.cho (((M.ent ES k).choices).set j (M.Cho.mk ((M.cho ((M.ent ES k).choices) j).move) (((M.cho ((M.ent ES k).choices) j).games) + c.games) ((M.cho ((M.ent ES k).choices) j).score))) j).move) ((M.cho (((M.ent ES k).choices).set j (M.Cho.mk ((M.cho ((M.ent ES k).choices) j).move) (((M.cho ((M.ent ES k).choices) j).games) + c.games) ((M.cho ((M.ent ES k).choices) j).score))) j).games) (((M.cho (((M.ent ES k).choices).set j (M.Cho.mk ((M.cho ((M.ent ES k).choices) j).move) (((M.cho ((M.ent ES k).choices) j).games) + c.games) ((M.cho ((M.ent ES k).choices) j).score))) j).score) + c.score))))) := by first | (rw [← M.addE_at (c := c) hE hA]; simp; done) | exact (M.addE_at (c := c) hE hA).symm.trans (by rw [← hB9])
 refine ⟨(some ⟨b26, 0, none⟩), c13_0_9, g13_0_9, vs13_0_9, (f27_3 ++ f58 ++ f27_2), rfl, ?_, ?_, ?_⟩
 · first | rfl | (dsimp only; rw [hN10, hE10]; done) | (dsimp only; rw [hN10, hE10]; rfl) | (dsimp only; simp only [hN10, hE10]) | (rw [hN10, hE10]; done) | (rw [hN10, hE10]; rfl)
 all_goals (try dsimp only)
 all_goals (first | (rw [hN10, hE10]; omega) | omega | (simp only [*]; omega))
theorem c_impl_Book_copied (b : M.Boo) {v_b : Value} {w : World} (h_b : (Ty.agg (cBook b)).ok w v_b) (r0 : b.entries.length ≤ 4194304 := by exact om_) (r1 : ∀ x ∈ b.entries, x.pits.length ≤ 4194304 ∧ x.choices.length ≤ 4194304 := by exact om_) : Ret Tryz.prog 77 [v_b] w (Ty.agg (cBook b)) := by
 revert v_b; apply opn
 intro A1 c1 h1 bl1 bh1
 refine enter @Tryz.func77 @Tryz.ntmps77 rfl rfl ?_
 refine zent ?_
 refine zS <| zb rfl fun b2 => za zeh fun b3 => zN <| Qf fh rfl <| Q9 1 rfl rfl ?_
 refine Qb ?_
 refine za zeh fun b4 => zw 0 rfl rfl rfl ?_
 refine zJ <| zS <| Qf fh rfl <| Q0 2 rfl rfl rfl <| Qz rfl <| Qm rfl <| JL.nil <| Js.block ?_
 refine Js.conv (fun w hw => St.nilRowS 89 2 hw) ?_
 refine Js.vals (Ts := lBookEntry []) (vs := []) (fun w => rfl) ?_
 refine zl [2, 3, 10, 11] (fun F U l os u m => ∃ (k : Nat) (acc : List M.Ent) (A5_3_9 : Option Addr) (c5_3_9 : Nat) (g5_3_9 : List Nat) (vs5_3_9 : List Value) (fl5_3_9 : List Nat), l = F [(12, .int .i64 (k : Int))] ∧ os = U [some (ownC (lBookEntry acc) vs5_3_9 fl5_3_9), some (rowO 89 2 (.slice A5_3_9 acc.length c5_3_9) acc.length vs5_3_9 g5_3_9), some (boxO b4 [.int .i64 b.rules.pits, .int .i64 b.rules.seeds, .bool b.rules.stores, .bool b.rules.skip, .bool b.rules.relay, .bool b.rules.feed, .bool b.rules.again, .int .i64 b.rules.capture, .int .i64 b.rules.slam, .slice A5_3_9 acc.length c5_3_9] 37)] ∧ (acc = b.entries.take k) ∧ (k ≤ b.entries.length) ∧ (acc.length ≤ c5_3_9) ∧ (c5_3_9 ≤ 9223372036854775807) ∧ m = b.entries.length - k) ⟨0, [], _, _, _, _, _, rfl, rfl, by rfl, zt, zu, zu, rfl⟩ ?_
 rintro _ _ u5 _ ⟨k, acc, A5_3_9, c5_3_9, g5_3_9, vs5_3_9, fl5_3_9, rfl, rfl, hA, hk, f5_2, f5_3, rfl⟩ x5
 refine zn ?_
 have hla : acc.length = k := by rw [hA, List.length_take]; omega
 refine zS <| Ql rfl rfl <| zJ ?_
 refine zi (fun h6 h6' => ?_) fun h6 h6' => ?_
 ·
  have hkk : k < b.entries.length := by have := h6'; omega
  obtain ⟨e1_, e2_⟩ := r1 _ (M.ent_mem (es := b.entries) (k := k) hkk)
  have hA2 := M.takeE hkk
  rw [← hA] at hA2
  have hA2 := hA2.symm
  have hy7 : b.entries[k]? = some (M.ent b.entries k) := M.ent_get (by omega)
  obtain ⟨b7, o7, A7_0, c7_0, A7_1, c7_1, he7, hr7, h7_0, h7_1, bl7_0, bh7_0, bl7_1, bh7_1⟩ := elem_BookEntry (Ty.mono _ h1 x5.vis) hy7
  refine Js.skip <| Js.seq <| Js.block <| zS <| Qq (p_indexAddr el_35 rfl rfl (by omega) (by omega) he7) <| QS 0 hr7 rfl ?_
  refine za zeh fun b8 => zw 0 rfl rfl rfl ?_
  refine JL.nil ?_
  refine zk [2, 3, 10, 11, 12] (fun F U l os u => ∃ (b15 : Nat) (A9 : Option Addr) (c9 : Nat) (A14 : Option Addr) (c14 : Nat) (g13 : List Nat) (A19 : Option Addr) (c19 : Nat) (g18 : List Nat), l = F [] ∧ os = [rowO 89 2 (.slice (some ⟨b15, 0, none⟩) 1 1) 1 [.slice A9 (((M.ent b.entries k).pits).length) c9, .slice A14 (((M.ent b.entries k).choices).length) c14] [], rowO 81 3 (.slice A14 (((M.ent b.entries k).choices).length) c14) (((M.ent b.entries k).choices).length) (fltV vcChoice ((M.ent b.entries k).choices)) g13, rowO 2 1 (.slice A9 (((M.ent b.entries k).pits).length) c9) (((M.ent b.entries k).pits).length) (ints_ ((M.ent b.entries k).pits)) []] ++ U [nO, nO, some (rowO 89 2 (.slice A19 ((acc ++ [(M.ent b.entries k)]).length) c19) ((acc ++ [(M.ent b.entries k)]).length) (vs5_3_9 ++ [.slice A9 (((M.ent b.entries k).pits).length) c9, .slice A14 (((M.ent b.entries k).choices).length) c14]) g18), some (boxO b4 [.int .i64 b.rules.pits, .int .i64 b.rules.seeds, .bool b.rules.stores, .bool b.rules.skip, .bool b.rules.relay, .bool b.rules.feed, .bool b.rules.again, .int .i64 b.rules.capture, .int .i64 b.rules.slam, .slice A19 ((acc ++ [(M.ent b.entries k)]).length) c19] 37)] ∧ (((M.ent b.entries k).choices).length ≤ c14) ∧ (c14 ≤ 9223372036854775807) ∧ (((M.ent b.entries k).pits).length ≤ c9) ∧ (c9 ≤ 9223372036854775807) ∧ ((acc ++ [(M.ent b.entries k)]).length ≤ c19) ∧ (c19 ≤ 9223372036854775807)) ?_ ?_
  ·
   refine zdr [8, 11, 13] ?_
   refine jF 0 fld_37_1 rfl rfl ?_
   refine jF 2 fld_89_0 rfl rfl ?_
   refine jB 3 0 ty_27 rfl rfl rfl rfl ?_
   refine jF 6 fld_89_1 rfl rfl ?_
   refine jB 7 0 ty_67 rfl rfl rfl rfl ?_
   refine y3 1 4 5 ?_ ?_ ?_
   ·
    refine JHo.q rfl (q_load1 ty_35.h rfl (Mem.box (i := 3) rfl rfl)) ?_
    refine y2 4 5 ?_ ?_
    ·
     refine ycs rfl rfl (fun w hw => c_impl_copyNumbers ((M.ent b.entries k).pits) (ok_ hw)) ?_
     intro A99 c99 bl99 bh99
     refine y1 5 ?_
     refine ybs rfl fun b100 => ?_
     refine y1 8 ?_
     refine JHo.e rfl (e_append (i := 0) (n' := ((M.ent b.entries k).choices).length) (vs' := fltV vcChoice ((M.ent b.entries k).choices)) el_67 rfl rfl rfl rfl (src_flat lChoice und_67 rfl h7_1) (by omega) (by omega) ln2_ (by first | rfl | exact fltV_app _ _ _ | exact fltV_snoc _ _ _ | (simp [fltV]; done))) (.inr rfl) ?_
     rintro v102 _ _ ⟨⟨g103, rfl⟩, rfl⟩ _
     refine JH.fact (row_form' (i := 0) rfl) (fun hf104 => ?_)
     obtain ⟨A104, c104, rfl, bl104, bh104⟩ := hf104
     refine znh ?_
     refine JH.p 9 rfl (q_bld) ?_
     refine y1 10 ?_
     refine ybs rfl fun b105 => ?_
     refine y1 11 ?_
     refine JHo.e rfl (e_append (i := 5) (n' := (acc ++ [(M.ent b.entries k)]).length) (vs' := vs5_3_9 ++ [.slice A99 (((M.ent b.entries k).pits).length) c99, .slice A104 (((M.ent b.entries k).choices).length) c104]) el_35 rfl rfl rfl rfl (src_row (i := 0) und_35 rfl rfl) (by omega) (by omega) ln2_ (rfl)) (.inr rfl) ?_
     rintro v107 _ _ ⟨⟨g108, rfl⟩, rfl⟩ _
     refine JH.fact (row_form' (i := 5) rfl) (fun hf109 => ?_)
     obtain ⟨A109, c109, rfl, bl109, bh109⟩ := hf109
     refine znh ?_
     refine jF 12 fld_37_1 rfl rfl ?_
     refine y1 13 ?_
     refine yst rfl rfl rfl ?_
     refine yd ?_
     exact zm ⟨_, _, _, _, _, _, _, _, _, rfl, rfl, zt, zt, zt, zt, zt, zt⟩ (Up.refl _ _)
    refine ybs rfl fun b110 => ?_
    refine y1 4 ?_
    refine ycs rfl rfl (fun w hw => c_impl_copyNumbers ((M.ent b.entries k).pits) (ok_ hw)) ?_
    intro A112 c112 bl112 bh112
    refine y1 8 ?_
    refine JHo.e rfl (e_append (i := 1) (n' := ((M.ent b.entries k).choices).length) (vs' := fltV vcChoice ((M.ent b.entries k).choices)) el_67 rfl rfl rfl rfl (src_flat lChoice und_67 rfl h7_1) (by omega) (by omega) ln2_ (by first | rfl | exact fltV_app _ _ _ | exact fltV_snoc _ _ _ | (simp [fltV]; done))) (.inr rfl) ?_
    rintro v113 _ _ ⟨⟨g114, rfl⟩, rfl⟩ _
    refine JH.fact (row_form' (i := 1) rfl) (fun hf115 => ?_)
    obtain ⟨A115, c115, rfl, bl115, bh115⟩ := hf115
    refine znh ?_
    refine JH.p 9 rfl (q_bld) ?_
    refine y1 10 ?_
    refine ybs rfl fun b116 => ?_
    refine y1 11 ?_
    refine JHo.e rfl (e_append (i := 5) (n' := (acc ++ [(M.ent b.entries k)]).length) (vs' := vs5_3_9 ++ [.slice A112 (((M.ent b.entries k).pits).length) c112, .slice A115 (((M.ent b.entries k).choices).length) c115]) el_35 rfl rfl rfl rfl (src_row (i := 0) und_35 rfl rfl) (by omega) (by omega) ln2_ (rfl)) (.inr rfl) ?_
    rintro v118 _ _ ⟨⟨g119, rfl⟩, rfl⟩ _
    refine JH.fact (row_form' (i := 5) rfl) (fun hf120 => ?_)
    obtain ⟨A120, c120, rfl, bl120, bh120⟩ := hf120
    refine znh ?_
    refine jF 12 fld_37_1 rfl rfl ?_
    refine y1 13 ?_
    refine yst rfl rfl rfl ?_
    refine yd ?_
    refine zh [0, 1, 0, 0, 0, 0, 0, 0, 0] ?_
    exact zm ⟨_, _, _, _, _, _, _, _, _, rfl, rfl, zt, zt, zt, zt, zt, zt⟩ (Up.refl _ _)
   ·
    refine ycs rfl rfl (fun w hw => c_impl_copyNumbers ((M.ent b.entries k).pits) (ok_ hw)) ?_
    intro A121 c121 bl121 bh121
    refine y2 1 5 ?_ ?_
    ·
     refine JHo.q rfl (q_load1 ty_35.h rfl (Mem.box (i := 4) rfl rfl)) ?_
     refine y1 5 ?_
     refine ybs rfl fun b122 => ?_
     refine y1 8 ?_
     refine JHo.e rfl (e_append (i := 0) (n' := ((M.ent b.entries k).choices).length) (vs' := fltV vcChoice ((M.ent b.entries k).choices)) el_67 rfl rfl rfl rfl (src_flat lChoice und_67 rfl h7_1) (by omega) (by omega) ln2_ (by first | rfl | exact fltV_app _ _ _ | exact fltV_snoc _ _ _ | (simp [fltV]; done))) (.inr rfl) ?_
     rintro v124 _ _ ⟨⟨g125, rfl⟩, rfl⟩ _
     refine JH.fact (row_form' (i := 0) rfl) (fun hf126 => ?_)
     obtain ⟨A126, c126, rfl, bl126, bh126⟩ := hf126
     refine znh ?_
     refine JH.p 9 rfl (q_bld) ?_
     refine y1 10 ?_
     refine ybs rfl fun b127 => ?_
     refine y1 11 ?_
     refine JHo.e rfl (e_append (i := 5) (n' := (acc ++ [(M.ent b.entries k)]).length) (vs' := vs5_3_9 ++ [.slice A121 (((M.ent b.entries k).pits).length) c121, .slice A126 (((M.ent b.entries k).choices).length) c126]) el_35 rfl rfl rfl rfl (src_row (i := 0) und_35 rfl rfl) (by omega) (by omega) ln2_ (rfl)) (.inr rfl) ?_
     rintro v129 _ _ ⟨⟨g130, rfl⟩, rfl⟩ _
     refine JH.fact (row_form' (i := 5) rfl) (fun hf131 => ?_)
     obtain ⟨A131, c131, rfl, bl131, bh131⟩ := hf131
     refine znh ?_
     refine jF 12 fld_37_1 rfl rfl ?_
     refine y1 13 ?_
     refine yst rfl rfl rfl ?_
     refine yd ?_
     exact zm ⟨_, _, _, _, _, _, _, _, _, rfl, rfl, zt, zt, zt, zt, zt, zt⟩ (Up.refl _ _)
    refine ybs rfl fun b132 => ?_
    refine y2 1 8 ?_ ?_
    ·
     refine JHo.q rfl (q_load1 ty_35.h rfl (Mem.box (i := 5) rfl rfl)) ?_
     refine y1 8 ?_
     refine JHo.e rfl (e_append (i := 0) (n' := ((M.ent b.entries k).choices).length) (vs' := fltV vcChoice ((M.ent b.entries k).choices)) el_67 rfl rfl rfl rfl (src_flat lChoice und_67 rfl h7_1) (by omega) (by omega) ln2_ (by first | rfl | exact fltV_app _ _ _ | exact fltV_snoc _ _ _ | (simp [fltV]; done))) (.inr rfl) ?_
     rintro v134 _ _ ⟨⟨g135, rfl⟩, rfl⟩ _
     refine JH.fact (row_form' (i := 0) rfl) (fun hf136 => ?_)
     obtain ⟨A136, c136, rfl, bl136, bh136⟩ := hf136
     refine znh ?_
     refine JH.p 9 rfl (q_bld) ?_
     refine y1 10 ?_
     refine ybs rfl fun b137 => ?_
     refine y1 11 ?_
     refine JHo.e rfl (e_append (i := 5) (n' := (acc ++ [(M.ent b.entries k)]).length) (vs' := vs5_3_9 ++ [.slice A121 (((M.ent b.entries k).pits).length) c121, .slice A136 (((M.ent b.entries k).choices).length) c136]) el_35 rfl rfl rfl rfl (src_row (i := 0) und_35 rfl rfl) (by omega) (by omega) ln2_ (rfl)) (.inr rfl) ?_
     rintro v139 _ _ ⟨⟨g140, rfl⟩, rfl⟩ _
     refine JH.fact (row_form' (i := 5) rfl) (fun hf141 => ?_)
     obtain ⟨A141, c141, rfl, bl141, bh141⟩ := hf141
     refine znh ?_
     refine jF 12 fld_37_1 rfl rfl ?_
     refine y1 13 ?_
     refine yst rfl rfl rfl ?_
     refine yd ?_
     exact zm ⟨_, _, _, _, _, _, _, _, _, rfl, rfl, zt, zt, zt, zt, zt, zt⟩ (Up.refl _ _)
    refine JHo.e rfl (e_append (i := 0) (n' := ((M.ent b.entries k).choices).length) (vs' := fltV vcChoice ((M.ent b.entries k).choices)) el_67 rfl rfl rfl rfl (src_flat lChoice und_67 rfl h7_1) (by omega) (by omega) ln2_ (by first | rfl | exact fltV_app _ _ _ | exact fltV_snoc _ _ _ | (simp [fltV]; done))) (.inr rfl) ?_
    rintro v142 _ _ ⟨⟨g143, rfl⟩, rfl⟩ _
    refine JH.fact (row_form' (i := 0) rfl) (fun hf144 => ?_)
    obtain ⟨A144, c144, rfl, bl144, bh144⟩ := hf144
    refine znh ?_
    refine JH.p 9 rfl (q_bld) ?_
    refine y2 1 10 ?_ ?_
    ·
     refine JHo.q rfl (q_load1 ty_35.h rfl (Mem.box (i := 5) rfl rfl)) ?_
     refine y1 10 ?_
     refine ybs rfl fun b145 => ?_
     refine y1 11 ?_
     refine JHo.e rfl (e_append (i := 5) (n' := (acc ++ [(M.ent b.entries k)]).length) (vs' := vs5_3_9 ++ [.slice A121 (((M.ent b.entries k).pits).length) c121, .slice A144 (((M.ent b.entries k).choices).length) c144]) el_35 rfl rfl rfl rfl (src_row (i := 0) und_35 rfl rfl) (by omega) (by omega) ln2_ (rfl)) (.inr rfl) ?_
     rintro v147 _ _ ⟨⟨g148, rfl⟩, rfl⟩ _
     refine JH.fact (row_form' (i := 5) rfl) (fun hf149 => ?_)
     obtain ⟨A149, c149, rfl, bl149, bh149⟩ := hf149
     refine znh ?_
     refine jF 12 fld_37_1 rfl rfl ?_
     refine y1 13 ?_
     refine yst rfl rfl rfl ?_
     refine yd ?_
     exact zm ⟨_, _, _, _, _, _, _, _, _, rfl, rfl, zt, zt, zt, zt, zt, zt⟩ (Up.refl _ _)
    refine ybs rfl fun b150 => ?_
    refine y1 1 ?_
    refine JHo.q rfl (q_load1 ty_35.h rfl (Mem.box (i := 6) rfl rfl)) ?_
    refine y1 11 ?_
    refine JHo.e rfl (e_append (i := 5) (n' := (acc ++ [(M.ent b.entries k)]).length) (vs' := vs5_3_9 ++ [.slice A121 (((M.ent b.entries k).pits).length) c121, .slice A144 (((M.ent b.entries k).choices).length) c144]) el_35 rfl rfl rfl rfl (src_row (i := 0) und_35 rfl rfl) (by omega) (by omega) ln2_ (rfl)) (.inr rfl) ?_
    rintro v152 _ _ ⟨⟨g153, rfl⟩, rfl⟩ _
    refine JH.fact (row_form' (i := 5) rfl) (fun hf154 => ?_)
    obtain ⟨A154, c154, rfl, bl154, bh154⟩ := hf154
    refine znh ?_
    refine jF 12 fld_37_1 rfl rfl ?_
    refine y1 13 ?_
    refine yst rfl rfl rfl ?_
    refine yd ?_
    exact zm ⟨_, _, _, _, _, _, _, _, _, rfl, rfl, zt, zt, zt, zt, zt, zt⟩ (Up.refl _ _)
   refine ybs rfl fun b155 => ?_
   refine y2 1 4 ?_ ?_
   ·
    refine JHo.q rfl (q_load1 ty_35.h rfl (Mem.box (i := 4) rfl rfl)) ?_
    refine y1 4 ?_
    refine ycs rfl rfl (fun w hw => c_impl_copyNumbers ((M.ent b.entries k).pits) (ok_ hw)) ?_
    intro A157 c157 bl157 bh157
    refine y1 8 ?_
    refine JHo.e rfl (e_append (i := 1) (n' := ((M.ent b.entries k).choices).length) (vs' := fltV vcChoice ((M.ent b.entries k).choices)) el_67 rfl rfl rfl rfl (src_flat lChoice und_67 rfl h7_1) (by omega) (by omega) ln2_ (by first | rfl | exact fltV_app _ _ _ | exact fltV_snoc _ _ _ | (simp [fltV]; done))) (.inr rfl) ?_
    rintro v158 _ _ ⟨⟨g159, rfl⟩, rfl⟩ _
    refine JH.fact (row_form' (i := 1) rfl) (fun hf160 => ?_)
    obtain ⟨A160, c160, rfl, bl160, bh160⟩ := hf160
    refine znh ?_
    refine JH.p 9 rfl (q_bld) ?_
    refine y1 10 ?_
    refine ybs rfl fun b161 => ?_
    refine y1 11 ?_
    refine JHo.e rfl (e_append (i := 5) (n' := (acc ++ [(M.ent b.entries k)]).length) (vs' := vs5_3_9 ++ [.slice A157 (((M.ent b.entries k).pits).length) c157, .slice A160 (((M.ent b.entries k).choices).length) c160]) el_35 rfl rfl rfl rfl (src_row (i := 0) und_35 rfl rfl) (by omega) (by omega) ln2_ (rfl)) (.inr rfl) ?_
    rintro v163 _ _ ⟨⟨g164, rfl⟩, rfl⟩ _
    refine JH.fact (row_form' (i := 5) rfl) (fun hf165 => ?_)
    obtain ⟨A165, c165, rfl, bl165, bh165⟩ := hf165
    refine znh ?_
    refine jF 12 fld_37_1 rfl rfl ?_
    refine y1 13 ?_
    refine yst rfl rfl rfl ?_
    refine yd ?_
    refine zh [0, 1, 0, 0, 0, 0, 0, 0, 0] ?_
    exact zm ⟨_, _, _, _, _, _, _, _, _, rfl, rfl, zt, zt, zt, zt, zt, zt⟩ (Up.refl _ _)
   refine ycs rfl rfl (fun w hw => c_impl_copyNumbers ((M.ent b.entries k).pits) (ok_ hw)) ?_
   intro A166 c166 bl166 bh166
   refine y2 1 8 ?_ ?_
   ·
    refine JHo.q rfl (q_load1 ty_35.h rfl (Mem.box (i := 5) rfl rfl)) ?_
    refine y1 8 ?_
    refine JHo.e rfl (e_append (i := 1) (n' := ((M.ent b.entries k).choices).length) (vs' := fltV vcChoice ((M.ent b.entries k).choices)) el_67 rfl rfl rfl rfl (src_flat lChoice und_67 rfl h7_1) (by omega) (by omega) ln2_ (by first | rfl | exact fltV_app _ _ _ | exact fltV_snoc _ _ _ | (simp [fltV]; done))) (.inr rfl) ?_
    rintro v167 _ _ ⟨⟨g168, rfl⟩, rfl⟩ _
    refine JH.fact (row_form' (i := 1) rfl) (fun hf169 => ?_)
    obtain ⟨A169, c169, rfl, bl169, bh169⟩ := hf169
    refine znh ?_
    refine JH.p 9 rfl (q_bld) ?_
    refine y1 10 ?_
    refine ybs rfl fun b170 => ?_
    refine y1 11 ?_
    refine JHo.e rfl (e_append (i := 5) (n' := (acc ++ [(M.ent b.entries k)]).length) (vs' := vs5_3_9 ++ [.slice A166 (((M.ent b.entries k).pits).length) c166, .slice A169 (((M.ent b.entries k).choices).length) c169]) el_35 rfl rfl rfl rfl (src_row (i := 0) und_35 rfl rfl) (by omega) (by omega) ln2_ (rfl)) (.inr rfl) ?_
    rintro v172 _ _ ⟨⟨g173, rfl⟩, rfl⟩ _
    refine JH.fact (row_form' (i := 5) rfl) (fun hf174 => ?_)
    obtain ⟨A174, c174, rfl, bl174, bh174⟩ := hf174
    refine znh ?_
    refine jF 12 fld_37_1 rfl rfl ?_
    refine y1 13 ?_
    refine yst rfl rfl rfl ?_
    refine yd ?_
    refine zh [0, 1, 0, 0, 0, 0, 0, 0, 0] ?_
    exact zm ⟨_, _, _, _, _, _, _, _, _, rfl, rfl, zt, zt, zt, zt, zt, zt⟩ (Up.refl _ _)
   refine JHo.e rfl (e_append (i := 1) (n' := ((M.ent b.entries k).choices).length) (vs' := fltV vcChoice ((M.ent b.entries k).choices)) el_67 rfl rfl rfl rfl (src_flat lChoice und_67 rfl h7_1) (by omega) (by omega) ln2_ (by first | rfl | exact fltV_app _ _ _ | exact fltV_snoc _ _ _ | (simp [fltV]; done))) (.inr rfl) ?_
   rintro v175 _ _ ⟨⟨g176, rfl⟩, rfl⟩ _
   refine JH.fact (row_form' (i := 1) rfl) (fun hf177 => ?_)
   obtain ⟨A177, c177, rfl, bl177, bh177⟩ := hf177
   refine znh ?_
   refine JH.p 9 rfl (q_bld) ?_
   refine y2 1 10 ?_ ?_
   ·
    refine JHo.q rfl (q_load1 ty_35.h rfl (Mem.box (i := 5) rfl rfl)) ?_
    refine y1 10 ?_
    refine ybs rfl fun b178 => ?_
    refine y1 11 ?_
    refine JHo.e rfl (e_append (i := 5) (n' := (acc ++ [(M.ent b.entries k)]).length) (vs' := vs5_3_9 ++ [.slice A166 (((M.ent b.entries k).pits).length) c166, .slice A177 (((M.ent b.entries k).choices).length) c177]) el_35 rfl rfl rfl rfl (src_row (i := 0) und_35 rfl rfl) (by omega) (by omega) ln2_ (rfl)) (.inr rfl) ?_
    rintro v180 _ _ ⟨⟨g181, rfl⟩, rfl⟩ _
    refine JH.fact (row_form' (i := 5) rfl) (fun hf182 => ?_)
    obtain ⟨A182, c182, rfl, bl182, bh182⟩ := hf182
    refine znh ?_
    refine jF 12 fld_37_1 rfl rfl ?_
    refine y1 13 ?_
    refine yst rfl rfl rfl ?_
    refine yd ?_
    refine zh [0, 1, 0, 0, 0, 0, 0, 0, 0] ?_
    exact zm ⟨_, _, _, _, _, _, _, _, _, rfl, rfl, zt, zt, zt, zt, zt, zt⟩ (Up.refl _ _)
   refine ybs rfl fun b183 => ?_
   refine y1 1 ?_
   refine JHo.q rfl (q_load1 ty_35.h rfl (Mem.box (i := 6) rfl rfl)) ?_
   refine y1 11 ?_
   refine JHo.e rfl (e_append (i := 5) (n' := (acc ++ [(M.ent b.entries k)]).length) (vs' := vs5_3_9 ++ [.slice A166 (((M.ent b.entries k).pits).length) c166, .slice A177 (((M.ent b.entries k).choices).length) c177]) el_35 rfl rfl rfl rfl (src_row (i := 0) und_35 rfl rfl) (by omega) (by omega) ln2_ (rfl)) (.inr rfl) ?_
   rintro v185 _ _ ⟨⟨g186, rfl⟩, rfl⟩ _
   refine JH.fact (row_form' (i := 5) rfl) (fun hf187 => ?_)
   obtain ⟨A187, c187, rfl, bl187, bh187⟩ := hf187
   refine znh ?_
   refine jF 12 fld_37_1 rfl rfl ?_
   refine y1 13 ?_
   refine yst rfl rfl rfl ?_
   refine yd ?_
   refine zh [0, 1, 0, 0, 0, 0, 0, 0, 0] ?_
   exact zm ⟨_, _, _, _, _, _, _, _, _, rfl, rfl, zt, zt, zt, zt, zt, zt⟩ (Up.refl _ _)
  rintro _ _ u98 ⟨b15, A9, c9, A14, c14, g13, A19, c19, g18, rfl, rfl, f98_0, f98_1, f98_2, f98_3, f98_4, f98_5⟩ x98
  refine zn ?_
  refine Js.pk (cBookEntry (M.ent b.entries k)) [.slice A9 (((M.ent b.entries k).pits).length) c9, .slice A14 (((M.ent b.entries k).choices).length) c14] (fun f189 G189 => ?_) (by exact (gv_agg (gvc gv_ (gvc (gv_flat lChoice (xs := ((M.ent b.entries k).choices)) po_ (by first | rfl | (simp [fltV]; done)) (by first | with_reducible rfl | assumption | rfl)) gvn))))
  refine zn ?_
  refine Js.joinL (i := 4) (j := 0) (Vs := lBookEntry (acc ++ [(M.ent b.entries k)])) rfl rfl (lBookEntry_snoc _ _) (fun f190 => ?_)
  refine zn ?_
  refine Js.blockEnd <| Js.region <| Qp rfl rfl <| Qm rfl <| JL.nil ?_
  refine zd [0, 3, 3, 3, 3] rfl fun u191 x191 => ?_
  exact zag ⟨k + 1, acc ++ [(M.ent b.entries k)], _, _, _, _, _, rfl, rfl, by exact hA2, zt, zu, zu, rfl⟩ ((x5.trans x98).trans x191)
 have hE : acc = b.entries := by rw [hA, List.take_of_length_le (by have := h6'; omega)]
 refine zx ?_
 have hq0 : acc = b.entries := by first | rfl | (rw [hE]; done) | (rw [hE]; rfl)
 refine zS <| Q9 2 rfl rfl ?_
 refine zw 3 rfl rfl rfl ?_
 refine JL.nil ?_
 exact zro x5
theorem c_impl_Book_whole (b : M.Boo) {v_b : Value} {w : World} (h_b : (Ty.agg (cBook b)).ok w v_b) (r0 : b.entries.length ≤ 4194304 := by exact om_) (r1 : ∀ x ∈ b.entries, x.pits.length ≤ 4194304 ∧ x.choices.length ≤ 4194304 := by exact om_) : RetX Tryz.prog 80 [v_b] w (fun v => v = if M.okB b = true then .tuple #[v_b, .int .i64 0] else .tuple #[.agg #[.int .i64 0, .int .i64 0, .bool false, .bool false, .bool false, .bool false, .bool false, .int .i64 0, .int .i64 0, .slice none 0 0], .int .i64 5]) := by
 revert v_b; apply opn
 intro A1 c1 h1 bl1 bh1
 refine enter @Tryz.func80 @Tryz.ntmps80 rfl rfl ?_
 refine zent ?_
 refine zS <| zb rfl fun b2 => za zeh fun b3 => Qa rfl <| zJ <| zS <| Q9 1 rfl rfl ?_
 refine zv rfl (fun w hw => c_impl_ValidBook b (ok_ hw) (r1 := r1)) <| Qt rfl <| JL.nil ?_
 refine zi (fun h4 h4' => ?_) fun h4 h4' => ?_
 ·
  have hno : ¬ M.okB b = true := by simpa using h4
  refine zS <| Qb ?_
  refine zw 0 rfl rfl rfl ?_
  refine Qa rfl <| JL.nil ?_
  refine zX (Up.refl _ _) ?_
  show _ = _; first | rw [if_pos hok] | rw [if_neg hno]
 have hok : M.okB b = true := by simpa using h4
 refine Js.skip <| zS <| Q9 1 rfl rfl ?_
 refine zw 0 rfl rfl rfl ?_
 refine Qa rfl <| JL.nil ?_
 refine zX (Up.refl _ _) ?_
 show _ = _; first | rw [if_pos hok] | rw [if_neg hno]
theorem c_impl_MergeBooks (a : M.Boo) {v_a : Value} (b : M.Boo) {v_b : Value} {w : World} (h_a : (Ty.agg (cBook a)).ok w v_a) (h_b : (Ty.agg (cBook b)).ok w v_b) (r0 : a.entries.length + M.totE a.entries ≤ 1048576 := by exact om_) (r1 : b.entries.length + M.totE b.entries ≤ 1048576 := by exact om_) : Ret Tryz.prog 51 [v_a, v_b] w (Ty.tup [Ty.agg (cBook ((M.merge a b).1)), Ty.int ((M.merge a b).2)]) := by
 have sa := M.totE_small (es := a.entries) (n := 4194304) (by omega)
 have sb := M.totE_small (es := b.entries) (n := 4194304) (by omega)
 revert v_a; apply opn
 intro A1 c1 h1 bl1 bh1
 revert v_b; apply opn
 intro A2 c2 h2 bl2 bh2
 refine enter @Tryz.func51 @Tryz.ntmps51 rfl rfl ?_
 refine zent ?_
 refine zS <| zb rfl fun b3 => zb rfl fun b4 => za zeh fun b5 => Qa rfl <| zJ <| zS <| Q9 2 rfl rfl ?_
 refine zv rfl (fun w hw => c_impl_ValidBook a (ok_ hw) (r1 := (by first | exact sa | exact sb))) <| Qt rfl <| Qm rfl <| zgq (Gd.f1 rfl rfl rfl) (fun hc => L9 1 rfl rfl) <| zgv (Gd.f1 rfl rfl rfl) (fun hc => (opds_1 (gh hc rfl))) (fun hc => (fun w hw => c_impl_ValidBook b (ok_ hw) (r0 := (by have hc9 := hc; (try simp only [Bool.not_eq_true', Bool.not_eq_false'] at hc9); omega)) (r1 := (by first | exact sa | exact sb)))) ?_
 refine zg (Gd.f1 rfl rfl rfl) (fun hc => p_not (gh hc rfl)) <| Qq (p_pickOr rfl rfl rfl) <| JL.nil ?_
 refine zi (fun h6 h6' => ?_) fun h6 h6' => ?_
 ·
  have hno : ¬ (M.okB a = true ∧ M.okB b = true) := by have h9 := h6; rintro ⟨a1, a2⟩; rw [a1, a2] at h9; simp at h9
  have hP := M.merge_1 hno
  have hq0 : 0 = (((M.merge a b).1).rules).pits := rp_ hP
  have hq1 : 0 = (((M.merge a b).1).rules).seeds := rp_ hP
  have hq2 : false = (((M.merge a b).1).rules).stores := rp_ hP
  have hq3 : false = (((M.merge a b).1).rules).skip := rp_ hP
  have hq4 : false = (((M.merge a b).1).rules).relay := rp_ hP
  have hq5 : false = (((M.merge a b).1).rules).feed := rp_ hP
  have hq6 : false = (((M.merge a b).1).rules).again := rp_ hP
  have hq7 : 0 = (((M.merge a b).1).rules).capture := rp_ hP
  have hq8 : 0 = (((M.merge a b).1).rules).slam := rp_ hP
  have hq9 : [] = ((M.merge a b).1).entries := rp_ hP
  have hq10 : 1 = (M.merge a b).2 := rp_ hP
  refine zS <| Qb ?_
  refine zw 0 rfl rfl rfl ?_
  refine Qa rfl <| JL.nil ?_
  exact zro (Up.refl _ _)
 have hok : M.okB a = true ∧ M.okB b = true := by have h9 := h6; simpa using h9
 refine Js.skip <| Js.seq <| zS <| Qf fh rfl <| Q9 2 rfl rfl ?_
 refine Qf fh rfl <| Q9 1 rfl rfl ?_
 refine Qq (p_neqS (by kernel_rfl) (fun w => eqs_Rules a.rules b.rules w) rfl rfl) <| JL.nil ?_
 refine zi (fun h7 h7' => ?_) fun h7 h7' => ?_
 ·
  have hP := M.merge_6 hok (by simpa using h7)
  have hq0 : 0 = (((M.merge a b).1).rules).pits := rp_ hP
  have hq1 : 0 = (((M.merge a b).1).rules).seeds := rp_ hP
  have hq2 : false = (((M.merge a b).1).rules).stores := rp_ hP
  have hq3 : false = (((M.merge a b).1).rules).skip := rp_ hP
  have hq4 : false = (((M.merge a b).1).rules).relay := rp_ hP
  have hq5 : false = (((M.merge a b).1).rules).feed := rp_ hP
  have hq6 : false = (((M.merge a b).1).rules).again := rp_ hP
  have hq7 : 0 = (((M.merge a b).1).rules).capture := rp_ hP
  have hq8 : 0 = (((M.merge a b).1).rules).slam := rp_ hP
  have hq9 : [] = ((M.merge a b).1).entries := rp_ hP
  have hq10 : 6 = (M.merge a b).2 := rp_ hP
  refine zS <| Qb ?_
  refine zw 0 rfl rfl rfl ?_
  refine Qa rfl <| JL.nil ?_
  exact zro (Up.refl _ _)
 have hru : a.rules = b.rules := by simpa using h7
 refine Js.skip <| zS <| Q9 2 rfl rfl ?_
 refine zc rfl (fun w hw => c_impl_Book_copied a (ok_ hw) (r1 := sa)) ?_
 intro A9 c9 vs9 f9 bl9 bh9
 refine za zeh fun b10 => zw 0 rfl rfl rfl ?_
 refine zJ <| zS <| Qf fh rfl <| Q0 4 rfl rfl rfl <| Qz rfl <| Qm rfl <| JL.nil <| Js.block ?_
 refine zl [4, 6, 29, 30] (fun F U l os u m => ∃ (k : Nat) (acc : List M.Ent) (A11_6_9 : Option Addr) (c11_6_9 : Nat) (g11_6_9 : List Nat) (vs11_6_9 : List Value) (fl11_6_9 : List Nat), l = F [(31, .int .i64 (k : Int))] ∧ os = U [some (boxO b10 [.int .i64 a.rules.pits, .int .i64 a.rules.seeds, .bool a.rules.stores, .bool a.rules.skip, .bool a.rules.relay, .bool a.rules.feed, .bool a.rules.again, .int .i64 a.rules.capture, .int .i64 a.rules.slam, .slice A11_6_9 acc.length c11_6_9] 37), some (rowO 89 2 (.slice A11_6_9 acc.length c11_6_9) acc.length vs11_6_9 g11_6_9), some (ownC (lBookEntry acc) vs11_6_9 fl11_6_9)] ∧ (acc = M.mergeE a.entries (b.entries.take k)) ∧ (k ≤ b.entries.length) ∧ (M.MI (M.cntE (b.entries.take k)) acc) ∧ (acc.length ≤ c11_6_9) ∧ (c11_6_9 ≤ 9223372036854775807) ∧ m = b.entries.length - k) ⟨0, a.entries, _, _, _, _, _, rfl, rfl, by rfl, zt, by exact M.MI_0 hok.1 r0, zu, zu, rfl⟩ ?_
 rintro _ _ u11 _ ⟨k, acc, A11_6_9, c11_6_9, g11_6_9, vs11_6_9, fl11_6_9, rfl, rfl, hA, hk, hI, f11_3, f11_4, rfl⟩ x11
 refine zn ?_
 refine zS <| Ql rfl rfl <| zJ ?_
 refine zi (fun h12 h12' => ?_) fun h12 h12' => ?_
 ·
  have hkk : k < b.entries.length := by have := h12'; omega
  obtain ⟨e1_, e2_⟩ := sb _ (M.ent_mem (es := b.entries) (k := k) hkk)
  have e3_ := M.totE_mem (M.ent_mem (es := b.entries) (k := k) hkk)
  have e4_ := M.cntE_step hkk
  have e5_ := M.cntE_take b.entries (k + 1)
  have e6_ := M.EB_ok hok.2 _ (M.ent_mem (es := b.entries) (k := k) hkk)
  have hy13 : b.entries[k]? = some (M.ent b.entries k) := M.ent_get (by omega)
  obtain ⟨b13, o13, A13_0, c13_0, A13_1, c13_1, he13, hr13, h13_0, h13_1, bl13_0, bh13_0, bl13_1, bh13_1⟩ := elem_BookEntry (Ty.mono _ h2 x11.vis) hy13
  refine Js.skip <| Js.seq <| Js.block <| zS <| Qq (p_indexAddr el_35 rfl rfl (by omega) (by omega) he13) <| QS 0 hr13 rfl ?_
  refine za zeh fun b14 => zw 0 rfl rfl rfl ?_
  refine zN <| Qf fh rfl <| Q0 0 rfl rfl rfl <| Qz rfl <| Qm rfl <| JL.nil <| Js.block ?_
  refine zl [4, 6, 8, 29, 30, 31, 36, 37] (fun F U l os u m => ∃ (j : Nat) (acc2 : List M.Ent) (A15_6_9 : Option Addr) (c15_6_9 : Nat) (g15_6_9 : List Nat) (vs15_6_9 : List Value) (fl15_6_9 : List Nat), l = F [(38, .int .i64 (j : Int))] ∧ os = U [nO, some (boxO b10 [.int .i64 a.rules.pits, .int .i64 a.rules.seeds, .bool a.rules.stores, .bool a.rules.skip, .bool a.rules.relay, .bool a.rules.feed, .bool a.rules.again, .int .i64 a.rules.capture, .int .i64 a.rules.slam, .slice A15_6_9 acc2.length c15_6_9] 37), some (rowO 89 2 (.slice A15_6_9 acc2.length c15_6_9) acc2.length vs15_6_9 g15_6_9), some (ownC (lBookEntry acc2) vs15_6_9 fl15_6_9)] ∧ (acc2 = M.addAll acc (M.ent b.entries k).pits ((M.ent b.entries k).choices.take j)) ∧ (j ≤ (M.ent b.entries k).choices.length) ∧ (M.MI ((M.cntE (b.entries.take k)) + j) acc2) ∧ (acc2.length ≤ c15_6_9) ∧ (c15_6_9 ≤ 9223372036854775807) ∧ m = (M.ent b.entries k).choices.length - j) ⟨0, acc, _, _, _, _, _, rfl, rfl, by rfl, zt, by exact hI, zu, zu, rfl⟩ ?_
  rintro _ _ u15 _ ⟨j, acc2, A15_6_9, c15_6_9, g15_6_9, vs15_6_9, fl15_6_9, rfl, rfl, hC, hj, hJ, f15_3, f15_4, rfl⟩ x15
  refine zn ?_
  refine zS <| Ql rfl rfl <| zJ ?_
  refine zi (fun h16 h16' => ?_) fun h16 h16' => ?_
  ·
   have hjj : j < (M.ent b.entries k).choices.length := by have := h16'; omega
   have hc_ := e6_ _ (M.cho_mem hjj)
   have hq := hJ.req (by omega)
   have hC2 := M.addAll_step (es := acc) (pits := (M.ent b.entries k).pits) hjj
   rw [← hC] at hC2
   have hC2 := hC2.symm
   have hJ2 := hJ.step (pits := (M.ent b.entries k).pits) (c := M.cho (M.ent b.entries k).choices j) (by omega) (by omega) (by omega) (by omega) (by omega)
   have hy17 : ((M.ent b.entries k).choices)[j]? = some (M.cho ((M.ent b.entries k).choices) j) := M.cho_get (by omega)
   obtain ⟨b17, o17, he17, hr17⟩ := elem_Choice (Ty.mono _ h13_1 x15.vis) hy17
   refine Js.skip <| Js.seq <| Js.block <| zS <| Qq (p_indexAddr el_67 rfl rfl (by omega) (by omega) he17) <| QS 0 hr17 rfl ?_
   refine za zeh fun b18 => zw 0 rfl rfl rfl ?_
   refine zG <| Qf fh rfl <| Q0 1 rfl rfl rfl <| Q9 0 rfl rfl ?_
   refine zhl [2, 2, 2] ?_
   refine zB 3 sp_ rfl (fun w hb hw => c_impl_Book_count a.rules acc2 ((M.ent b.entries k).pits) (M.cho ((M.ent b.entries k).choices) j) hb (ok_ hw) (ok_ hw) (r1 := hq.2.1) (r2 := hq.2.2)) ?_
   rintro _ _ G19 ⟨A19b_9, c19b_9, g19b_9, vs19b_9, f19b_9, rfl, rfl, bl19_0, bl19_1⟩
   refine znl ?_
   refine JL.nil <| Js.blockEnd <| Js.region <| Qp rfl rfl <| Qm rfl <| JL.nil ?_
   refine zd [5, 0, 0, 0, 2, 2, 2] rfl fun u20 x20 => ?_
   exact zag ⟨j + 1, M.addE acc2 ((M.ent b.entries k).pits) (M.cho ((M.ent b.entries k).choices) j), _, _, _, _, _, rfl, rfl, by exact hC2, zt, by exact hJ2, zu, zu, rfl⟩ (x15.trans x20)
  have hj9 : j = (M.ent b.entries k).choices.length := by have := h16'; omega
  have hA2 := M.mergeE_step (es := a.entries) hkk
  rw [← hA] at hA2
  have hC3 : acc2 = M.addAll acc (M.ent b.entries k).pits (M.ent b.entries k).choices := by rw [hC, hj9, List.take_length]
  rw [← hC3] at hA2
  have hA2 := hA2.symm
  have hI2 : M.MI (M.cntE (b.entries.take (k + 1))) acc2 := by rw [e4_, ← hj9]; exact hJ
  refine zx ?_
  refine Js.blockEnd <| Js.region <| Qp rfl rfl <| Qm rfl <| JL.nil ?_
  refine zd [1, 1, 1, 1, 1, 1] rfl fun u21 x21 => ?_
  exact zag ⟨k + 1, acc2, _, _, _, _, _, rfl, rfl, by exact hA2, zt, by exact hI2, zu, zu, rfl⟩ ((x11.trans x15).trans x21)
 have hk9 : k = b.entries.length := by have := h12'; omega
 have hE9 : (M.Boo.mk a.rules acc) = M.mrgB a b := by unfold M.mrgB; rw [hA, hk9, List.take_length]
 have e5_ := M.cntE_take b.entries k
 have hq := hI.req (by omega)
 refine zx ?_
 refine Js.seq ?_
 rcases Bool.eq_false_or_eq_true (M.okB (M.Boo.mk a.rules acc)) with h22 | h22
 ·
  refine Js.region <| Q9 0 rfl rfl ?_
  refine zxc (fun v => v = .tuple #[.agg #[.int .i64 a.rules.pits, .int .i64 a.rules.seeds, .bool a.rules.stores, .bool a.rules.skip, .bool a.rules.relay, .bool a.rules.feed, .bool a.rules.again, .int .i64 a.rules.capture, .int .i64 a.rules.slam, .slice A11_6_9 acc.length c11_6_9], .int .i64 0]) rfl (fun w hw => c_impl_Book_whole (M.Boo.mk a.rules acc) (by exact ⟨_, rfl, ⟨rfl, rfl, rfl, rfl, rfl, rfl, rfl, rfl, rfl, (srow_ok lBookEntry (xs := acc) (hw.pr (i := 1) rfl) (hw.pr (i := 2) rfl) (lBookEntry_length _)), trivial⟩⟩) (r1 := hq.2.1)) (fun w9 v9 hw9 g9 => by rw [if_pos h22] at g9; exact g9) ?_
  rintro _ rfl
  have hP := M.merge_0 hok hru (by rw [← hE9]; exact h22); rw [← hE9] at hP
  have hq0 : a.rules.pits = (((M.merge a b).1).rules).pits := rp_ hP
  have hq1 : a.rules.seeds = (((M.merge a b).1).rules).seeds := rp_ hP
  have hq2 : a.rules.stores = (((M.merge a b).1).rules).stores := rp_ hP
  have hq3 : a.rules.skip = (((M.merge a b).1).rules).skip := rp_ hP
  have hq4 : a.rules.relay = (((M.merge a b).1).rules).relay := rp_ hP
  have hq5 : a.rules.feed = (((M.merge a b).1).rules).feed := rp_ hP
  have hq6 : a.rules.again = (((M.merge a b).1).rules).again := rp_ hP
  have hq7 : a.rules.capture = (((M.merge a b).1).rules).capture := rp_ hP
  have hq8 : a.rules.slam = (((M.merge a b).1).rules).slam := rp_ hP
  have hq9 : acc = ((M.merge a b).1).entries := rp_ hP
  have hq10 : 0 = (M.merge a b).2 := rp_ hP
  refine Qx rfl rfl <| Qx rfl rfl <| zw 3 rfl rfl rfl ?_
  refine Qa rfl <| JL.nil ?_
  exact zro x11
 refine Js.region <| Q9 0 rfl rfl ?_
 refine zxc (fun v => v = .tuple #[.agg #[.int .i64 0, .int .i64 0, .bool false, .bool false, .bool false, .bool false, .bool false, .int .i64 0, .int .i64 0, .slice none 0 0], .int .i64 5]) rfl (fun w hw => c_impl_Book_whole (M.Boo.mk a.rules acc) (by exact ⟨_, rfl, ⟨rfl, rfl, rfl, rfl, rfl, rfl, rfl, rfl, rfl, (srow_ok lBookEntry (xs := acc) (hw.pr (i := 1) rfl) (hw.pr (i := 2) rfl) (lBookEntry_length _)), trivial⟩⟩) (r1 := hq.2.1)) (fun w9 v9 hw9 g9 => by rw [if_neg (by simp [h22])] at g9; exact g9) ?_
 rintro _ rfl
 have hP := M.merge_5 hok hru (by rw [← hE9, h22]; simp)
 have hq0 : 0 = (((M.merge a b).1).rules).pits := rp_ hP
 have hq1 : 0 = (((M.merge a b).1).rules).seeds := rp_ hP
 have hq2 : false = (((M.merge a b).1).rules).stores := rp_ hP
 have hq3 : false = (((M.merge a b).1).rules).skip := rp_ hP
 have hq4 : false = (((M.merge a b).1).rules).relay := rp_ hP
 have hq5 : false = (((M.merge a b).1).rules).feed := rp_ hP
 have hq6 : false = (((M.merge a b).1).rules).again := rp_ hP
 have hq7 : 0 = (((M.merge a b).1).rules).capture := rp_ hP
 have hq8 : 0 = (((M.merge a b).1).rules).slam := rp_ hP
 have hq9 : [] = ((M.merge a b).1).entries := rp_ hP
 have hq10 : 5 = (M.merge a b).2 := rp_ hP
 refine Qx rfl rfl <| Qx rfl rfl <| zw 3 rfl rfl rfl ?_
 refine Qa rfl <| JL.nil ?_
 exact zro x11
end Go.Proofs.YtcmfnlleikcpnaaGreat

/- Walks: L41. -/
import Derived.Test.YtcmfnlleikcpnaaGreatZxA3
import Derived.Test.YtcmfnlleikcpnaaGreatZxA9
import Derived.Test.YtcmfnlleikcpnaaGreatZxA10
import Derived.Test.YtcmfnlleikcpnaaGreatZxA11
import Derived.Test.YtcmfnlleikcpnaaGreatZxA12
import Derived.Test.YtcmfnlleikcpnaaGreatZxA8
import Derived.Test.YtcmfnlleikcpnaaGreatZxA1
import Derived.Test.YtcmfnlleikcpnaaGreatZxA2
import Derived.Test.YtcmfnlleikcpnaaGreatZxA4
set_option linter.unusedSimpArgs false
set_option linter.unusedVariables false
set_option maxRecDepth 100000
attribute [local irreducible] Go.Proofs.YtcmfnlleikcpnaaGreat.gv
set_option maxHeartbeats 16000000
namespace Go.Proofs.YtcmfnlleikcpnaaGreat
open Go.RowKit
theorem c_laws_FnBookGames (code : Nat) {v_code : Value} {w : World} (h_code : (Ty.bytes 5 code).ok w v_code) : RetV Tryz.prog 7 [v_code] w (.bool true) := by
 revert v_code; apply opn
 intro A1 c1 h1 bl1 bh1
 have h_code := h1
 refine enter @Tryz.func7 @Tryz.ntmps7 rfl rfl ?_
 refine zent ?_
 refine zS <| Qa rfl <| zJ <| zS <| Qm rfl <| zv rfl (fun w hw => c_laws_f6big code (ok_ hw)) <| JL.nil ?_
 refine zi (fun h2 h2' => ?_) fun h2 h2' => ?_
 ·
  refine zS <| Qa rfl <| JL.nil ?_
  refine zR (Up.refl _ _) ?_
  first | rfl | (simp [outV, e1]; done) | (simp only [outV]; congr 1; simpa using e1)
 refine Js.skip <| zS <| Qm rfl <| zp rfl (fun w hw => c_spec_DrawAddGame code (ok_ hw)) ?_
 intro u3 x3 X4 hX4 A5 c5 h5 bl5 bh5 X6 hX6 A7 c7 h7 bl7 bh7 A8 c8 h8 bl8 bh8 A9 c9 h9 bl9 bh9 A10 c10 h10 bl10 bh10 A11 c11 h11 bl11 bh11
 refine Qm rfl <| Qx rfl rfl <| Qx rfl rfl <| za zeh fun b12 => za zeh fun b13 => zw 1 rfl rfl rfl ?_
 refine zw 0 rfl rfl rfl ?_
 refine zN <| Q9 1 rfl rfl ?_
 refine Q9 0 rfl rfl ?_
 refine zp rfl (fun w hw => c_impl_AddGame X4 X6 (ok_ hw) (ok_ hw)) ?_
 intro u14 x14 A15 c15 h15 bl15 bh15
 refine Qm rfl <| Qx rfl rfl <| Qx rfl rfl <| za zeh fun b16 => zw 0 rfl rfl rfl ?_
 refine Qa rfl <| zN <| Q9 2 rfl rfl ?_
 refine Q9 1 rfl rfl ?_
 refine zp rfl (fun w hw => c_spec_AddGame X4 X6 (ok_ hw) (ok_ hw)) ?_
 intro u17 x17 A18 c18 h18 bl18 bh18
 refine Qm rfl <| Qx rfl rfl <| Qx rfl rfl <| za zeh fun b19 => zw 0 rfl rfl rfl ?_
 refine Qa rfl <| zN <| Qm rfl <| zp rfl (fun w hw => c_spec_DrawPruneBook code (ok_ hw)) ?_
 intro u20 x20 X21 hX21 A22 c22 h22 bl22 bh22 X23 hX23
 have u9 := M.totE_small (es := X21.entries) (n := 4194304) (by omega)
 refine Qm rfl <| Qx rfl rfl <| Qx rfl rfl <| za zeh fun b24 => zw 0 rfl rfl rfl ?_
 refine Qa rfl <| zN <| Q9 0 rfl rfl ?_
 refine Qm rfl <| zp rfl (fun w hw => c_impl_PruneBook X21 X23 (ok_ hw) (r1 := (by assumption))) ?_
 intro u25 x25 A26 c26 h26 bl26 bh26
 refine Qm rfl <| Qx rfl rfl <| Qx rfl rfl <| za zeh fun b27 => zw 0 rfl rfl rfl ?_
 refine Qa rfl <| zN <| Q9 1 rfl rfl ?_
 refine Qm rfl <| zp rfl (fun w hw => c_spec_PruneBook X21 X23 (ok_ hw) (r1 := (by assumption))) ?_
 intro u28 x28 A29 c29 h29 bl29 bh29
 have t1 := M.addGame_tot (b := X4) X6 (by omega)
 have u1 := M.totE_small (es := (M.addGame X4 X6).1.entries) (n := 4194304) (by omega)
 have t2 := M.prune_tot X21 X23
 have u2 := M.totE_small (es := (M.prune X21 X23).1.entries) (n := 4194304) (by omega)
 refine Qm rfl <| Qx rfl rfl <| Qx rfl rfl <| za zeh fun b30 => zw 0 rfl rfl rfl ?_
 refine Qa rfl <| zJ <| zS <| Qm rfl <| Qm rfl <| Qd rfl rfl <| Qm rfl <| zgq (Gd.f1 rfl rfl rfl) (fun hc => L9 4 rfl rfl) <| zgq (Gd.f1 rfl rfl rfl) (fun hc => L9 3 rfl rfl) <| zgv (Gd.f1 rfl rfl rfl) (fun hc => (opds_2 (gh hc rfl) (gh hc rfl))) (fun hc => (fun w hw => c_spec_SameBook ((M.addGame X4 X6).1) ((M.addGame X4 X6).1) (ok_ hw) (ok_ hw) (r0 := (by have hc9 := hc; (try simp only [Bool.not_eq_true', Bool.not_eq_false', decide_eq_true_eq] at hc9); omega)) (r1 := (by assumption)) (r2 := (by have hc9 := hc; (try simp only [Bool.not_eq_true', Bool.not_eq_false', decide_eq_true_eq] at hc9); omega)) (r3 := (by assumption)))) ?_
 refine zg (Gd.f1 rfl rfl rfl) (fun hc => p_not (gh hc rfl)) <| Qq (p_pickOr rfl rfl rfl) <| Qm rfl <| zg (Gd.f1 rfl rfl rfl) (fun hc => p_move rfl) <| zg (Gd.f1 rfl rfl rfl) (fun hc => p_move rfl) <| zg (Gd.f1 rfl rfl rfl) (fun hc => p_neq (gh hc rfl) (gh hc rfl)) <| Qq (p_pickOr rfl rfl rfl) <| Qm rfl <| zgq (Gd.f1 rfl rfl rfl) (fun hc => L9 1 rfl rfl) <| zgq (Gd.f1 rfl rfl rfl) (fun hc => L9 0 rfl rfl) <| zgv (Gd.f1 rfl rfl rfl) (fun hc => (opds_2 (gh hc rfl) (gh hc rfl))) (fun hc => (fun w hw => c_spec_SameBook ((M.prune X21 X23).1) ((M.prune X21 X23).1) (ok_ hw) (ok_ hw) (r0 := (by have hc9 := hc; (try simp only [Bool.not_eq_true', Bool.or_eq_false_iff, Bool.not_eq_false', decide_eq_true_eq] at hc9); omega)) (r1 := (by assumption)) (r2 := (by have hc9 := hc; (try simp only [Bool.not_eq_true', Bool.or_eq_false_iff, Bool.not_eq_false', decide_eq_true_eq] at hc9); omega)) (r3 := (by assumption)))) ?_
 refine zg (Gd.f1 rfl rfl rfl) (fun hc => p_not (gh hc rfl)) <| Qq (p_pickOr rfl rfl rfl) <| JL.nil ?_
 refine zi (fun h31 h31' => ?_) fun h31 h31' => ?_
 · exact absurd h31 (by simp)
 refine Js.skip <| Js.seq <| zS <| Qm rfl <| Qe rfl rfl <| JL.nil ?_
 refine zi (fun h32 h32' => ?_) fun h32 h32' => ?_
 ·
  have hp0 := h32'
  obtain ⟨hp1, hp2⟩ := M.prune_twice (b := X21) (lo := X23) (by simpa using hp0)
  refine zS <| Q9 1 rfl rfl ?_
  refine Qm rfl <| zp rfl (fun w hw => c_impl_PruneBook ((M.prune X21 X23).1) X23 (ok_ hw) (r1 := (by assumption))) ?_
  intro u33 x33 A34 c34 h34 bl34 bh34
  have t3 := M.prune_tot (M.prune X21 X23).1 X23
  have u3 := M.totE_small (es := (M.prune (M.prune X21 X23).1 X23).1.entries) (n := 4194304) (by omega)
  refine Qm rfl <| Qx rfl rfl <| Qx rfl rfl <| za zeh fun b35 => zw 0 rfl rfl rfl ?_
  refine Qa rfl <| zN <| Qm rfl <| Qd rfl rfl <| Qm rfl <| zgq (Gd.f1 rfl rfl rfl) (fun hc => L9 0 rfl rfl) <| zgq (Gd.f1 rfl rfl rfl) (fun hc => L9 2 rfl rfl) <| zgv (Gd.f1 rfl rfl rfl) (fun hc => (opds_2 (gh hc rfl) (gh hc rfl))) (fun hc => (fun w hw => c_spec_SameBook ((M.prune ((M.prune X21 X23).1) X23).1) ((M.prune X21 X23).1) (ok_ hw) (ok_ hw) (r0 := (by have hc9 := hc; (try simp only [Bool.not_eq_true', Bool.not_eq_false', decide_eq_true_eq] at hc9); omega)) (r1 := (by assumption)) (r2 := (by have hc9 := hc; (try simp only [Bool.not_eq_true', Bool.not_eq_false', decide_eq_true_eq] at hc9); omega)) (r3 := (by assumption)))) ?_
  refine zg (Gd.f1 rfl rfl rfl) (fun hc => p_not (gh hc rfl)) <| Qq (p_pickOr rfl rfl rfl) <| Qm rfl <| zgq (Gd.f1 rfl rfl rfl) (fun hc => L9 2 rfl rfl) <| zgv (Gd.f1 rfl rfl rfl) (fun hc => (opds_1 (gh hc rfl))) (fun hc => (fun w hw => c_impl_ValidBook ((M.prune X21 X23).1) (ok_ hw) (r0 := (by have hc9 := hc; (try simp only [Bool.not_eq_true', Bool.or_eq_false_iff, Bool.not_eq_false', decide_eq_true_eq] at hc9); omega)) (r1 := (by assumption)))) ?_
  refine zg (Gd.f1 rfl rfl rfl) (fun hc => p_not (gh hc rfl)) <| Qq (p_pickOr rfl rfl rfl) <| JL.nil ?_
  refine zi (fun h36 h36' => ?_) fun h36 h36' => ?_
  · exact absurd h36 (by simp [hp1, hp2])
  refine Js.skip <| Js.seq <| zS <| Qm rfl <| Qd rfl rfl <| JL.nil ?_
  refine zi (fun h37 h37' => ?_) fun h37 h37' => ?_
  ·
   refine zS <| Qa rfl <| JL.nil ?_
   refine zR ((((((x3.trans x14).trans x17).trans x20).trans x25).trans x28).trans x33) ?_
   first | rfl | (simp [outV, e1]; done) | (simp only [outV]; congr 1; simpa using e1)
  have hz0 := h37'
  have hG := M.gamed (b := X4) (g := X6) (by simpa using hz0)
  refine Js.skip <| zS <| Qf fh rfl <| Q9 6 rfl rfl ?_
  refine zp rfl (fun w hw => c_impl_NewBook X6.rules (ok_ hw)) ?_
  intro u38 x38 A39 c39 h39 bl39 bh39
  refine Qm rfl <| Qx rfl rfl <| Qx rfl rfl <| za zeh fun b40 => zw 0 rfl rfl rfl ?_
  refine Qa rfl <| zN <| Q9 0 rfl rfl ?_
  refine Q9 7 rfl rfl ?_
  refine zp rfl (fun w hw => c_impl_AddGame ((M.newB X6.rules).1) X6 (ok_ hw) (ok_ hw) (r0 := (by rw [hG.emp]; simp [M.totE]))) ?_
  intro u41 x41 A42 c42 h42 bl42 bh42
  refine Qm rfl <| Qx rfl rfl <| Qx rfl rfl <| za zeh fun b43 => zw 0 rfl rfl rfl ?_
  refine Qa rfl <| zN <| Q9 9 rfl rfl ?_
  refine Q9 0 rfl rfl ?_
  refine zp rfl (fun w hw => c_impl_MergeBooks X4 ((M.addGame ((M.newB X6.rules).1) X6).1) (ok_ hw) (ok_ hw) (r1 := (by rw [hG.emp, hG.own]; have := hG.sz; dsimp only; omega))) ?_
  intro u44 x44 A45 c45 h45 bl45 bh45
  have e3 : (M.merge X4 (M.addGame (M.newB X6.rules).1 X6).1).1 = (M.addGame X4 X6).1 := by rw [hG.emp, hG.own, hG.both]
  have t4 : (M.merge X4 (M.addGame (M.newB X6.rules).1 X6).1).1.entries.length ≤ 4194304 := by rw [e3]; omega
  have u4 : ∀ x ∈ (M.merge X4 (M.addGame (M.newB X6.rules).1 X6).1).1.entries, x.pits.length ≤ 4194304 ∧ x.choices.length ≤ 4194304 := by rw [e3]; exact u1
  refine Qm rfl <| Qx rfl rfl <| Qx rfl rfl <| za zeh fun b46 => zw 0 rfl rfl rfl ?_
  refine Qa rfl <| zJ <| zS <| Qm rfl <| Qd rfl rfl <| Qm rfl <| zg (Gd.f1 rfl rfl rfl) (fun hc => p_move rfl) <| zg (Gd.f1 rfl rfl rfl) (fun hc => p_neq (gh hc rfl) rfl) <| Qq (p_pickOr rfl rfl rfl) <| Qm rfl <| zg (Gd.f1 rfl rfl rfl) (fun hc => p_move rfl) <| zg (Gd.f1 rfl rfl rfl) (fun hc => p_neq (gh hc rfl) rfl) <| Qq (p_pickOr rfl rfl rfl) <| Qm rfl ?_
  refine zgq (Gd.f1 rfl rfl rfl) (fun hc => L9 0 rfl rfl) <| zgq (Gd.f1 rfl rfl rfl) (fun hc => L9 8 rfl rfl) <| zgv (Gd.f1 rfl rfl rfl) (fun hc => (opds_2 (gh hc rfl) (gh hc rfl))) (fun hc => (fun w hw => c_spec_SameBook ((M.merge X4 ((M.addGame ((M.newB X6.rules).1) X6).1)).1) ((M.addGame X4 X6).1) (ok_ hw) (ok_ hw) (r0 := (by have hc9 := hc; (try simp only [Bool.not_eq_true', Bool.or_eq_false_iff, Bool.not_eq_false', decide_eq_true_eq] at hc9); omega)) (r1 := (by assumption)) (r2 := (by have hc9 := hc; (try simp only [Bool.not_eq_true', Bool.or_eq_false_iff, Bool.not_eq_false', decide_eq_true_eq] at hc9); omega)) (r3 := (by assumption)))) ?_
  refine zg (Gd.f1 rfl rfl rfl) (fun hc => p_not (gh hc rfl)) <| Qq (p_pickOr rfl rfl rfl) <| JL.nil ?_
  refine zi (fun h47 h47' => ?_) fun h47 h47' => ?_
  · exact absurd h47 (by simp [hG.emp, hG.own, hG.both])
  have hO : (M.addGame (M.newB X6.rules).1 X6).1.entries = M.gmE X6 [] (M.gmL X6) := by rw [hG.emp, hG.own]
  have hnn : ∀ x ∈ (M.addGame (M.newB X6.rules).1 X6).1.entries, ∀ c ∈ x.choices, 0 ≤ c.games := by rw [hO]; exact hG.nn
  have htt := hG.tot
  rw [← hO] at htt
  have htb : M.totG (M.addGame (M.newB X6.rules).1 X6).1.entries ≤ 20 := by rw [htt]; split <;> omega
  refine Js.skip <| zS <| Qa rfl <| zJ <| zS <| Qa rfl <| JL.nil <| Js.block ?_
  refine zl [4, 19] (fun F U l os u m => ∃ (i : Nat) (n : Int), l = F [(23, .int .i64 n), (24, .int .i64 (i : Int))] ∧ os = U [] ∧ (n = M.totG ((M.addGame (M.newB X6.rules).1 X6).1.entries.take i)) ∧ (i ≤ (M.addGame (M.newB X6.rules).1 X6).1.entries.length) ∧ m = (M.addGame (M.newB X6.rules).1 X6).1.entries.length - i) ⟨0, 0, rfl, rfl, by rfl, zt, rfl⟩ ?_
  rintro _ _ u48 _ ⟨i, n, rfl, rfl, hN, hi, rfl⟩ x48
  refine zn ?_
  refine Js.seq <| zS <| Qm rfl <| Qf fh rfl <| Q0 1 rfl rfl rfl <| Qz rfl <| Ql rfl rfl <| JL.nil ?_
  refine zi (fun h49 h49' => ?_) fun h49 h49' => ?_
  ·
   have hii : i < (M.addGame (M.newB X6.rules).1 X6).1.entries.length := by have := h49'; omega
   have hst := M.totG_step hii
   have hb2 := M.totG_bd hnn (i + 1)
   have hb3 := M.totG_bd hnn i
   refine Js.skip <| Js.seq <| Js.block <| zS <| Qa rfl <| JL.nil <| Js.block ?_
   refine zl [4, 19, 24] (fun F U l os u m => ∃ (k : Nat) (nn : Int), l = F [(23, .int .i64 nn), (25, .int .i64 (k : Int))] ∧ os = U [] ∧ (nn = M.totG ((M.addGame (M.newB X6.rules).1 X6).1.entries.take i) + M.sumG ((M.ent (M.addGame (M.newB X6.rules).1 X6).1.entries i).choices.take k)) ∧ (k ≤ (M.ent (M.addGame (M.newB X6.rules).1 X6).1.entries i).choices.length) ∧ m = (M.ent (M.addGame (M.newB X6.rules).1 X6).1.entries i).choices.length - k) ⟨0, n, rfl, rfl, by rw [hN]; exact (Int.add_zero _).symm, zt, rfl⟩ ?_
   rintro _ _ u50 _ ⟨k, nn, rfl, rfl, hK, hk, rfl⟩ x50
   refine zn ?_
   have hy51 : (((M.addGame ((M.newB X6.rules).1) X6).1).entries)[i]? = some (M.ent (((M.addGame ((M.newB X6.rules).1) X6).1).entries) i) := M.ent_get (by omega)
   obtain ⟨b51, o51, A51_0, c51_0, A51_1, c51_1, he51, hr51, h51_0, h51_1, bl51_0, bh51_0, bl51_1, bh51_1⟩ := elem_BookEntry (Ty.mono _ h42 ((x44.vis.trans x48.vis).trans x50.vis)) hy51
   refine Js.seq <| zS <| Qm rfl <| Qf fh rfl <| Q0 1 rfl rfl rfl <| Qm rfl <| Qq (p_indexAddr el_35 rfl rfl (by omega) (by omega) he51) <| Qf fh rfl <| QC (hr51 1 _ rfl) rfl <| Qz rfl <| Ql rfl rfl <| JL.nil ?_
   refine zi (fun h52 h52' => ?_) fun h52 h52' => ?_
   ·
    have hkk : k < (M.ent (M.addGame (M.newB X6.rules).1 X6).1.entries i).choices.length := by have := h52'; omega
    have hs1 := M.sumG_step hkk
    have hb1 := M.sumG_bd (hnn _ (M.ent_mem hii)) (k + 1)
    have hb4 := M.sumG_bd (hnn _ (M.ent_mem hii)) k
    have hy53 : (((M.addGame ((M.newB X6.rules).1) X6).1).entries)[i]? = some (M.ent (((M.addGame ((M.newB X6.rules).1) X6).1).entries) i) := M.ent_get (by omega)
    obtain ⟨b53, o53, A53_0, c53_0, A53_1, c53_1, he53, hr53, h53_0, h53_1, bl53_0, bh53_0, bl53_1, bh53_1⟩ := elem_BookEntry (Ty.mono _ h42 ((x44.vis.trans x48.vis).trans x50.vis)) hy53
    have hy54 : ((M.ent (((M.addGame ((M.newB X6.rules).1) X6).1).entries) i).choices)[k]? = some (M.cho ((M.ent (((M.addGame ((M.newB X6.rules).1) X6).1).entries) i).choices) k) := M.cho_get (by omega)
    obtain ⟨b54, o54, he54, hr54⟩ := elem_Choice h53_1 hy54
    refine Js.skip <| Js.seq <| Js.block <| Js.region <| Qm rfl <| Qf fh rfl <| Q0 1 rfl rfl rfl <| Qm rfl <| Qq (p_indexAddr el_35 rfl rfl (by omega) (by omega) he53) <| Qf fh rfl <| QC (hr53 1 _ rfl) rfl <| Qm rfl <| Qq (p_indexAddr el_67 rfl rfl (by omega) (by omega) he54) <| Qf fh rfl ?_
    refine QC (hr54 1 _ rfl) rfl <| Qp rfl rfl <| Qa rfl <| JL.nil <| Js.blockEnd <| Js.region <| Qm rfl <| Qp rfl rfl <| Qa rfl <| JL.nil ?_
    exact zag ⟨k + 1, nn + ((M.cho ((M.ent (((M.addGame ((M.newB X6.rules).1) X6).1).entries) i).choices) k).games), rfl, rfl, by rw [hs1]; omega, zt, rfl⟩ x50
   have hn2 : nn = M.totG ((M.addGame (M.newB X6.rules).1 X6).1.entries.take (i + 1)) := by rw [hst, hK, List.take_of_length_le (l := (M.ent (M.addGame (M.newB X6.rules).1 X6).1.entries i).choices) (by have := h52'; omega)]
   refine zx ?_
   refine Js.blockEnd <| Js.region <| Qm rfl <| Qp rfl rfl <| Qa rfl <| JL.nil ?_
   exact zag ⟨i + 1, nn, rfl, rfl, by exact hn2, zt, rfl⟩ (x48.trans x50)
  have hE : n = M.totG (M.addGame (M.newB X6.rules).1 X6).1.entries := by rw [hN, List.take_of_length_le (by have := h49'; omega)]
  have e1 : n = (if (20 : Int) < (X6.moves.length : Int) then 20 else (X6.moves.length : Int)) := by rw [hE, htt]; split <;> split <;> omega
  refine zx ?_
  refine zS <| Qm rfl <| Qf fh rfl <| Q0 9 rfl rfl rfl <| Qz rfl <| Qq (p_min rfl rfl) <| Qe rfl rfl <| Qa rfl <| JL.nil ?_
  refine zR ((((((((((x3.trans x14).trans x17).trans x20).trans x25).trans x28).trans x33).trans x38).trans x41).trans x44).trans x48) ?_
  first | rfl | (simp [outV, e1]; done) | (simp only [outV]; congr 1; simpa using e1)
 refine Js.skip <| Js.seq <| zS <| Qm rfl <| Qd rfl rfl <| JL.nil ?_
 refine zi (fun h55 h55' => ?_) fun h55 h55' => ?_
 ·
  refine zS <| Qa rfl <| JL.nil ?_
  refine zR (((((x3.trans x14).trans x17).trans x20).trans x25).trans x28) ?_
  first | rfl | (simp [outV, e1]; done) | (simp only [outV]; congr 1; simpa using e1)
 have hz0 := h55'
 have hG := M.gamed (b := X4) (g := X6) (by simpa using hz0)
 refine Js.skip <| zS <| Qf fh rfl <| Q9 5 rfl rfl ?_
 refine zp rfl (fun w hw => c_impl_NewBook X6.rules (ok_ hw)) ?_
 intro u56 x56 A57 c57 h57 bl57 bh57
 refine Qm rfl <| Qx rfl rfl <| Qx rfl rfl <| za zeh fun b58 => zw 0 rfl rfl rfl ?_
 refine Qa rfl <| zN <| Q9 0 rfl rfl ?_
 refine Q9 6 rfl rfl ?_
 refine zp rfl (fun w hw => c_impl_AddGame ((M.newB X6.rules).1) X6 (ok_ hw) (ok_ hw) (r0 := (by rw [hG.emp]; simp [M.totE]))) ?_
 intro u59 x59 A60 c60 h60 bl60 bh60
 refine Qm rfl <| Qx rfl rfl <| Qx rfl rfl <| za zeh fun b61 => zw 0 rfl rfl rfl ?_
 refine Qa rfl <| zN <| Q9 8 rfl rfl ?_
 refine Q9 0 rfl rfl ?_
 refine zp rfl (fun w hw => c_impl_MergeBooks X4 ((M.addGame ((M.newB X6.rules).1) X6).1) (ok_ hw) (ok_ hw) (r1 := (by rw [hG.emp, hG.own]; have := hG.sz; dsimp only; omega))) ?_
 intro u62 x62 A63 c63 h63 bl63 bh63
 have e3 : (M.merge X4 (M.addGame (M.newB X6.rules).1 X6).1).1 = (M.addGame X4 X6).1 := by rw [hG.emp, hG.own, hG.both]
 have t4 : (M.merge X4 (M.addGame (M.newB X6.rules).1 X6).1).1.entries.length ≤ 4194304 := by rw [e3]; omega
 have u4 : ∀ x ∈ (M.merge X4 (M.addGame (M.newB X6.rules).1 X6).1).1.entries, x.pits.length ≤ 4194304 ∧ x.choices.length ≤ 4194304 := by rw [e3]; exact u1
 refine Qm rfl <| Qx rfl rfl <| Qx rfl rfl <| za zeh fun b64 => zw 0 rfl rfl rfl ?_
 refine Qa rfl <| zJ <| zS <| Qm rfl <| Qd rfl rfl <| Qm rfl <| zg (Gd.f1 rfl rfl rfl) (fun hc => p_move rfl) <| zg (Gd.f1 rfl rfl rfl) (fun hc => p_neq (gh hc rfl) rfl) <| Qq (p_pickOr rfl rfl rfl) <| Qm rfl <| zg (Gd.f1 rfl rfl rfl) (fun hc => p_move rfl) <| zg (Gd.f1 rfl rfl rfl) (fun hc => p_neq (gh hc rfl) rfl) <| Qq (p_pickOr rfl rfl rfl) <| Qm rfl ?_
 refine zgq (Gd.f1 rfl rfl rfl) (fun hc => L9 0 rfl rfl) <| zgq (Gd.f1 rfl rfl rfl) (fun hc => L9 7 rfl rfl) <| zgv (Gd.f1 rfl rfl rfl) (fun hc => (opds_2 (gh hc rfl) (gh hc rfl))) (fun hc => (fun w hw => c_spec_SameBook ((M.merge X4 ((M.addGame ((M.newB X6.rules).1) X6).1)).1) ((M.addGame X4 X6).1) (ok_ hw) (ok_ hw) (r0 := (by have hc9 := hc; (try simp only [Bool.not_eq_true', Bool.or_eq_false_iff, Bool.not_eq_false', decide_eq_true_eq] at hc9); omega)) (r1 := (by assumption)) (r2 := (by have hc9 := hc; (try simp only [Bool.not_eq_true', Bool.or_eq_false_iff, Bool.not_eq_false', decide_eq_true_eq] at hc9); omega)) (r3 := (by assumption)))) ?_
 refine zg (Gd.f1 rfl rfl rfl) (fun hc => p_not (gh hc rfl)) <| Qq (p_pickOr rfl rfl rfl) <| JL.nil ?_
 refine zi (fun h65 h65' => ?_) fun h65 h65' => ?_
 · exact absurd h65 (by simp [hG.emp, hG.own, hG.both])
 have hO : (M.addGame (M.newB X6.rules).1 X6).1.entries = M.gmE X6 [] (M.gmL X6) := by rw [hG.emp, hG.own]
 have hnn : ∀ x ∈ (M.addGame (M.newB X6.rules).1 X6).1.entries, ∀ c ∈ x.choices, 0 ≤ c.games := by rw [hO]; exact hG.nn
 have htt := hG.tot
 rw [← hO] at htt
 have htb : M.totG (M.addGame (M.newB X6.rules).1 X6).1.entries ≤ 20 := by rw [htt]; split <;> omega
 refine Js.skip <| zS <| Qa rfl <| zJ <| zS <| Qa rfl <| JL.nil <| Js.block ?_
 refine zl [4, 19] (fun F U l os u m => ∃ (i : Nat) (n : Int), l = F [(23, .int .i64 n), (24, .int .i64 (i : Int))] ∧ os = U [] ∧ (n = M.totG ((M.addGame (M.newB X6.rules).1 X6).1.entries.take i)) ∧ (i ≤ (M.addGame (M.newB X6.rules).1 X6).1.entries.length) ∧ m = (M.addGame (M.newB X6.rules).1 X6).1.entries.length - i) ⟨0, 0, rfl, rfl, by rfl, zt, rfl⟩ ?_
 rintro _ _ u66 _ ⟨i, n, rfl, rfl, hN, hi, rfl⟩ x66
 refine zn ?_
 refine Js.seq <| zS <| Qm rfl <| Qf fh rfl <| Q0 1 rfl rfl rfl <| Qz rfl <| Ql rfl rfl <| JL.nil ?_
 refine zi (fun h67 h67' => ?_) fun h67 h67' => ?_
 ·
  have hii : i < (M.addGame (M.newB X6.rules).1 X6).1.entries.length := by have := h67'; omega
  have hst := M.totG_step hii
  have hb2 := M.totG_bd hnn (i + 1)
  have hb3 := M.totG_bd hnn i
  refine Js.skip <| Js.seq <| Js.block <| zS <| Qa rfl <| JL.nil <| Js.block ?_
  refine zl [4, 19, 24] (fun F U l os u m => ∃ (k : Nat) (nn : Int), l = F [(23, .int .i64 nn), (25, .int .i64 (k : Int))] ∧ os = U [] ∧ (nn = M.totG ((M.addGame (M.newB X6.rules).1 X6).1.entries.take i) + M.sumG ((M.ent (M.addGame (M.newB X6.rules).1 X6).1.entries i).choices.take k)) ∧ (k ≤ (M.ent (M.addGame (M.newB X6.rules).1 X6).1.entries i).choices.length) ∧ m = (M.ent (M.addGame (M.newB X6.rules).1 X6).1.entries i).choices.length - k) ⟨0, n, rfl, rfl, by rw [hN]; exact (Int.add_zero _).symm, zt, rfl⟩ ?_
  rintro _ _ u68 _ ⟨k, nn, rfl, rfl, hK, hk, rfl⟩ x68
  refine zn ?_
  have hy69 : (((M.addGame ((M.newB X6.rules).1) X6).1).entries)[i]? = some (M.ent (((M.addGame ((M.newB X6.rules).1) X6).1).entries) i) := M.ent_get (by omega)
  obtain ⟨b69, o69, A69_0, c69_0, A69_1, c69_1, he69, hr69, h69_0, h69_1, bl69_0, bh69_0, bl69_1, bh69_1⟩ := elem_BookEntry (Ty.mono _ h60 ((x62.vis.trans x66.vis).trans x68.vis)) hy69
  refine Js.seq <| zS <| Qm rfl <| Qf fh rfl <| Q0 1 rfl rfl rfl <| Qm rfl <| Qq (p_indexAddr el_35 rfl rfl (by omega) (by omega) he69) <| Qf fh rfl <| QC (hr69 1 _ rfl) rfl <| Qz rfl <| Ql rfl rfl <| JL.nil ?_
  refine zi (fun h70 h70' => ?_) fun h70 h70' => ?_
  ·
   have hkk : k < (M.ent (M.addGame (M.newB X6.rules).1 X6).1.entries i).choices.length := by have := h70'; omega
   have hs1 := M.sumG_step hkk
   have hb1 := M.sumG_bd (hnn _ (M.ent_mem hii)) (k + 1)
   have hb4 := M.sumG_bd (hnn _ (M.ent_mem hii)) k
   have hy71 : (((M.addGame ((M.newB X6.rules).1) X6).1).entries)[i]? = some (M.ent (((M.addGame ((M.newB X6.rules).1) X6).1).entries) i) := M.ent_get (by omega)
   obtain ⟨b71, o71, A71_0, c71_0, A71_1, c71_1, he71, hr71, h71_0, h71_1, bl71_0, bh71_0, bl71_1, bh71_1⟩ := elem_BookEntry (Ty.mono _ h60 ((x62.vis.trans x66.vis).trans x68.vis)) hy71
   have hy72 : ((M.ent (((M.addGame ((M.newB X6.rules).1) X6).1).entries) i).choices)[k]? = some (M.cho ((M.ent (((M.addGame ((M.newB X6.rules).1) X6).1).entries) i).choices) k) := M.cho_get (by omega)
   obtain ⟨b72, o72, he72, hr72⟩ := elem_Choice h71_1 hy72
   refine Js.skip <| Js.seq <| Js.block <| Js.region <| Qm rfl <| Qf fh rfl <| Q0 1 rfl rfl rfl <| Qm rfl <| Qq (p_indexAddr el_35 rfl rfl (by omega) (by omega) he71) <| Qf fh rfl <| QC (hr71 1 _ rfl) rfl <| Qm rfl <| Qq (p_indexAddr el_67 rfl rfl (by omega) (by omega) he72) <| Qf fh rfl ?_
   refine QC (hr72 1 _ rfl) rfl <| Qp rfl rfl <| Qa rfl <| JL.nil <| Js.blockEnd <| Js.region <| Qm rfl <| Qp rfl rfl <| Qa rfl <| JL.nil ?_
   exact zag ⟨k + 1, nn + ((M.cho ((M.ent (((M.addGame ((M.newB X6.rules).1) X6).1).entries) i).choices) k).games), rfl, rfl, by rw [hs1]; omega, zt, rfl⟩ x68
  have hn2 : nn = M.totG ((M.addGame (M.newB X6.rules).1 X6).1.entries.take (i + 1)) := by rw [hst, hK, List.take_of_length_le (l := (M.ent (M.addGame (M.newB X6.rules).1 X6).1.entries i).choices) (by have := h70'; omega)]
  refine zx ?_
  refine Js.blockEnd <| Js.region <| Qm rfl <| Qp rfl rfl <| Qa rfl <| JL.nil ?_
  exact zag ⟨i + 1, nn, rfl, rfl, by exact hn2, zt, rfl⟩ (x66.trans x68)
 have hE : n = M.totG (M.addGame (M.newB X6.rules).1 X6).1.entries := by rw [hN, List.take_of_length_le (by have := h67'; omega)]
 have e1 : n = (if (20 : Int) < (X6.moves.length : Int) then 20 else (X6.moves.length : Int)) := by rw [hE, htt]; split <;> split <;> omega
 refine zx ?_
 refine zS <| Qm rfl <| Qf fh rfl <| Q0 8 rfl rfl rfl <| Qz rfl <| Qq (p_min rfl rfl) <| Qe rfl rfl <| Qa rfl <| JL.nil ?_
 refine zR (((((((((x3.trans x14).trans x17).trans x20).trans x25).trans x28).trans x56).trans x59).trans x62).trans x66) ?_
 first | rfl | (simp [outV, e1]; done) | (simp only [outV]; congr 1; simpa using e1)
end Go.Proofs.YtcmfnlleikcpnaaGreat

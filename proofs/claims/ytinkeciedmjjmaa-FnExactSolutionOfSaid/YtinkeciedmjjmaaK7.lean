/- Walks: K7. -/
import Derived.Test.YtinkeciedmjjmaaTy
import Derived.Test.YtinkeciedmjjmaaK5
import Derived.Test.YtinkeciedmjjmaaG9
set_option linter.unusedSimpArgs false
set_option linter.unusedVariables false
namespace Go.Proofs.Ytinkeciedmjjmaa
open Go.RowKit

set_option maxRecDepth 100000 in
set_option maxHeartbeats 400000 in
theorem c_spec_l15End (r : M.Rul) (v_r : Value) (p : M.Pos) (v_p : Value) (w : World) (h_r : (Ty.ref (cRules r)).ok w v_r) (h_p : (Ty.ref (cPosition p)).ok w v_p) (r0 : M.okP r p = true) : RetV Try.prog 91 [v_r, v_p] w (.int .i64 (M.endV r p)) := by
  obtain ⟨g1, g2, g3, g4, g5, g6, g7⟩ := M.okP_bd r0
  have g8 := M.results_8 r0
  have b1 := M.side_bd g5 g2 p.player
  have b2 := M.side_bd g5 g2 (1 - p.player)
  obtain ⟨b1, o1, rfl, hr1⟩ := ref_Rules h_r
  obtain ⟨b2, o2, A2_0, c2_0, A2_1, c2_1, rfl, hr2, h2_0, h2_1, bl2_0, bh2_0, bl2_1, bh2_1⟩ := ref_Position h_p
  refine enter @Try.func91 @Try.ntmps91 rfl rfl ?_
  refine Js.seq ?_
  refine Js.region ?_
  refine JL.q (OpP.q (p_assign rfl)) ?_
  refine JL.nil ?_
  refine Js.seq ?_
  refine Js.drawn _ [] mixed_ (fun _ h => h) ?_
  refine JH.p 0 rfl (p_move rfl) ?_
  refine JH.p 1 rfl (p_move rfl) ?_
  refine JH.p 2 rfl (p_nilCheck rfl) ?_
  refine JH.p 3 rfl (p_fieldAddr fld_33_0 rfl) ?_
  refine JH.w 4 rfl (fun os' u' hv => q_load1 ty_24 rfl (Mem.pub ((hr2.vis hv) 0 _ rfl))) ?_
  refine JH.p 5 rfl (p_move rfl) ?_
  refine JH.p 6 rfl (p_nilCheck rfl) ?_
  refine JH.p 7 rfl (p_fieldAddr fld_33_2 rfl) ?_
  refine JH.w 8 rfl (fun os' u' hv => q_load1 ty_2 rfl (Mem.pub ((hr2.vis hv) 2 _ rfl))) ?_
  refine JH.p 10 rfl (p_move rfl) ?_
  refine JH.p 11 rfl (p_move rfl) ?_
  refine JH.p 12 rfl (p_nilCheck rfl) ?_
  refine JH.p 13 rfl (p_fieldAddr fld_33_0 rfl) ?_
  refine JH.w 14 rfl (fun os' u' hv => q_load1 ty_24 rfl (Mem.pub ((hr2.vis hv) 0 _ rfl))) ?_
  refine JH.p 15 rfl (p_move rfl) ?_
  refine JH.p 16 rfl (p_nilCheck rfl) ?_
  refine JH.p 17 rfl (p_fieldAddr fld_33_2 rfl) ?_
  refine JH.w 18 rfl (fun os' u' hv => q_load1 ty_2 rfl (Mem.pub ((hr2.vis hv) 2 _ rfl))) ?_
  refine JH.p 19 rfl (p_sub rfl rfl (IntWalk.i64_in _ (by omega))) ?_
  refine JH.one (i := 9) (by kernel_rfl) ?_
  refine JHo.e rfl (e_callV fn_73 rfl (fun w hw => c_spec_l04Side r _ p.pits _ p.player w ⟨_, _, [.int .i64 r.pits, .int .i64 r.seeds, .bool r.stores, .bool r.skip, .bool r.relay, .bool r.feed, .bool r.again, .int .i64 r.capture, .int .i64 r.slam], rfl, ⟨rfl, rfl, rfl, rfl, rfl, rfl, rfl, rfl, rfl, trivial⟩, (hr1.vis hw.vis)⟩ (Ty.mono _ h2_0 hw.vis) (by omega) (by omega) (by omega) (by omega) g5)) (.inl rfl) ?_
  rintro _ _ _ ⟨rfl, rfl, rfl⟩ _
  refine JH.one (i := 20) (by kernel_rfl) ?_
  refine JHo.e rfl (e_callV fn_73 rfl (fun w hw => c_spec_l04Side r _ p.pits _ (1 - p.player) w ⟨_, _, [.int .i64 r.pits, .int .i64 r.seeds, .bool r.stores, .bool r.skip, .bool r.relay, .bool r.feed, .bool r.again, .int .i64 r.capture, .int .i64 r.slam], rfl, ⟨rfl, rfl, rfl, rfl, rfl, rfl, rfl, rfl, rfl, trivial⟩, (hr1.vis hw.vis)⟩ (Ty.mono _ h2_0 hw.vis) (by omega) (by omega) (by omega) (by omega) g5)) (.inl rfl) ?_
  rintro _ _ _ ⟨rfl, rfl, rfl⟩ _
  refine JH.p 21 rfl (p_sub rfl rfl (IntWalk.i64_in _ (by omega))) ?_
  refine JH.p 22 rfl (p_assign rfl) ?_
  refine JH.done (by kernel_rfl) ?_
  refine Js.ret (R := RV w (.int .i64 (M.endV r p))) @Try.results91 (fun _ _ => rfl) (ResOk.tmp rfl ResOk.nil) (fun w1 hw => ?_)
  refine ⟨?_, hw.ext (Up.refl _ _)⟩
  rfl

def S_spec_l15S_value (N : Nat) : Prop := ∀ (s_r : M.Rul) (s_size : Int) (bs_0 : Nat) (os_0 : Nat) (p : M.Pos) (v_p : Value) (depth : Int) (bs : Nat) (w : World) (hb : Bw w [boxO bs [.pointer (some ⟨bs_0, os_0, none⟩), .int .i64 s_size] 89]) (hps_0 : RowAt (offW w (([boxO bs [.pointer (some ⟨bs_0, os_0, none⟩), .int .i64 s_size] 89] : List Own).flatMap (·.fp))) bs_0 os_0 [.int .i64 s_r.pits, .int .i64 s_r.seeds, .bool s_r.stores, .bool s_r.skip, .bool s_r.relay, .bool s_r.feed, .bool s_r.again, .int .i64 s_r.capture, .int .i64 s_r.slam]) (h_p : (Ty.ref (cPosition p)).ok (offW w (([boxO bs [.pointer (some ⟨bs_0, os_0, none⟩), .int .i64 s_size] 89] : List Own).flatMap (·.fp))) v_p) (r0 : M.okP s_r p = true) (r1 : 0 ≤ depth) (r2 : depth ≤ 8) (r3 : 0 ≤ s_size) (r4 : s_size ≤ 100000) (_ : depth.toNat = N), RetB Try.prog 68 [.pointer (some ⟨bs, 0, none⟩), v_p, .int .i64 depth] w [boxO bs [.pointer (some ⟨bs_0, os_0, none⟩), .int .i64 s_size] 89] (fun v bs' => v = .int .i64 ((M.sv s_r depth.toNat p s_size).1) ∧ bs' = [boxO bs [.pointer (some ⟨bs_0, os_0, none⟩), .int .i64 ((M.sv s_r depth.toNat p s_size).2)] 89])
set_option maxRecDepth 100000 in
set_option maxHeartbeats 400000 in
theorem c_spec_l15S_option_ (N : Nat) (ih : ∀ m, m < N → S_spec_l15S_value m) (s_r : M.Rul) (s_size : Int) (bs_0 : Nat) (os_0 : Nat) (x : M.Res) (v_x : Value) (depth : Int) (bs : Nat) (w : World) (hb : Bw w [boxO bs [.pointer (some ⟨bs_0, os_0, none⟩), .int .i64 s_size] 89]) (hps_0 : RowAt (offW w (([boxO bs [.pointer (some ⟨bs_0, os_0, none⟩), .int .i64 s_size] 89] : List Own).flatMap (·.fp))) bs_0 os_0 [.int .i64 s_r.pits, .int .i64 s_r.seeds, .bool s_r.stores, .bool s_r.skip, .bool s_r.relay, .bool s_r.feed, .bool s_r.again, .int .i64 s_r.capture, .int .i64 s_r.slam]) (h_x : (Ty.ref (cResult x)).ok (offW w (([boxO bs [.pointer (some ⟨bs_0, os_0, none⟩), .int .i64 s_size] 89] : List Own).flatMap (·.fp))) v_x) (r0 : M.okP s_r x.next = true) (r1 : 1 ≤ depth) (r2 : depth ≤ 8) (r3 : 0 ≤ s_size) (r4 : s_size ≤ 100000) (r5 : -96 ≤ x.gain ∧ x.gain ≤ 96) (hN : depth.toNat = N) : RetB Try.prog 65 [.pointer (some ⟨bs, 0, none⟩), v_x, .int .i64 depth] w [boxO bs [.pointer (some ⟨bs_0, os_0, none⟩), .int .i64 s_size] 89] (fun v bs' => v = .int .i64 (M.moveV x (M.sv s_r (depth - 1).toNat x.next s_size).1) ∧ bs' = [boxO bs [.pointer (some ⟨bs_0, os_0, none⟩), .int .i64 ((M.sv s_r (depth - 1).toNat x.next s_size).2)] 89]) := by
  have hvb := M.sv_vbd (depth - 1).toNat x.next s_size r0
  have g9 := M.okP_len r0
  obtain ⟨b1, o1, A1_3, c1_3, A1_4, c1_4, rfl, hr1, h1_3, h1_4, bl1_3, bh1_3, bl1_4, bh1_4⟩ := ref_Result h_x
  refine enterB hb @Try.func65 @Try.ntmps65 rfl rfl ?_
  refine Js.trashE ?_
  refine Js.seq ?_
  refine Js.region ?_
  refine JL.q (OpP.q (p_assign rfl)) ?_
  refine JL.nil ?_
  refine Js.seq ?_
  refine Js.region ?_
  refine JL.q (OpP.q (p_move rfl)) ?_
  refine JL.q (OpP.q (p_move rfl)) ?_
  refine JL.q (OpP.q (p_nilCheck rfl)) ?_
  refine JL.q (OpP.q (p_fieldAddr fld_74_3 rfl)) ?_
  refine JL.q (OpP.q (p_move rfl)) ?_
  refine JL.q (OpP.q (p_sub rfl rfl (IntWalk.i64_in _ (by omega)))) ?_
  refine JL.e (e_callBB (bs := [boxO bs [.pointer (some ⟨bs_0, os_0, none⟩), .int .i64 s_size] 89]) (rest := [anyO []]) fn_68 rfl (fun w hb ⟨_, hw⟩ => ih ((depth - 1).toNat) (by omega) s_r s_size bs_0 os_0 x.next _ (depth - 1) bs w hb (hps_0.vis hw.vis) ⟨_, _, [.slice A1_3 x.next.pits.length c1_3, .slice A1_4 x.next.stores.length c1_4, .int .i64 x.next.player], rfl, ⟨(Ty.mono _ h1_3 hw.vis), (Ty.mono _ h1_4 hw.vis), rfl, trivial⟩, ((hr1.vis hw.vis).sub 3 3)⟩ r0 (by omega) (by omega) (by omega) (by omega) rfl)) ?_
  rintro _ _ _ ⟨_, G2, ⟨rfl, rfl⟩, rfl, rfl⟩ _
  refine JL.q (OpP.q (p_assign rfl)) ?_
  refine JL.nil ?_
  refine Js.seq ?_
  refine Js.seq ?_
  refine Js.region ?_
  refine JL.q (OpP.q (p_move rfl)) ?_
  refine JL.q (OpP.q (p_nilCheck rfl)) ?_
  refine JL.q (OpP.q (p_fieldAddr fld_74_2 rfl)) ?_
  refine JL.q (q_load1 ty_4 rfl (Mem.pub (hr1 2 _ rfl))) ?_
  refine JL.nil ?_
  refine Js.cond rfl (fun h3 => ?_) (fun h3 => ?_)
  ·
    have h3' := h3
    have hQ := M.moveV_y (v := (M.sv s_r (depth - 1).toNat x.next s_size).1) h3
    refine Js.seq ?_
    refine Js.region ?_
    refine JL.q (OpP.q (p_move rfl)) ?_
    refine JL.q (OpP.q (p_nilCheck rfl)) ?_
    refine JL.q (OpP.q (p_fieldAddr fld_74_1 rfl)) ?_
    refine JL.q (q_load1 ty_2 rfl (Mem.pub (hr1 1 _ rfl))) ?_
    refine JL.q (OpP.q (p_move rfl)) ?_
    refine JL.q (OpP.q (p_add rfl rfl (IntWalk.i64_in _ (by omega)))) ?_
    refine JL.q (OpP.q (p_assign rfl)) ?_
    refine JL.nil ?_
    refine Js.eat (i := 1) (j := 2) rfl rfl rfl ?_
    refine Js.ret (R := RB w [boxO bs [.pointer (some ⟨bs_0, os_0, none⟩), .int .i64 s_size] 89] (fun v bs' => v = .int .i64 (M.moveV x (M.sv s_r (depth - 1).toNat x.next s_size).1) ∧ bs' = [boxO bs [.pointer (some ⟨bs_0, os_0, none⟩), .int .i64 ((M.sv s_r (depth - 1).toNat x.next s_size).2)] 89])) @Try.results65 (fun _ _ => rfl) (ResOk.tmp rfl ResOk.nil) (fun w1 hw => ?_)
    have hE : (.int .i64 (x.gain + ((M.sv s_r (depth - 1).toNat x.next s_size).1)) : Value) = .int .i64 (M.moveV x (M.sv s_r (depth - 1).toNat x.next s_size).1) := by rw [hQ]
    refine ⟨_, [boxO bs [.pointer (some ⟨bs_0, os_0, none⟩), .int .i64 ((M.sv s_r (depth - 1).toNat x.next s_size).2)] 89], _, rfl, ⟨hE, ?_⟩, hw.giveBack hb (Up.refl _ _)⟩
    · rfl
  ·
    have h3' := h3
    have hQ := M.moveV_n (v := (M.sv s_r (depth - 1).toNat x.next s_size).1) (by simpa using h3)
    refine Js.skip ?_
    refine Js.seq ?_
    refine Js.region ?_
    refine JL.q (OpP.q (p_move rfl)) ?_
    refine JL.q (OpP.q (p_nilCheck rfl)) ?_
    refine JL.q (OpP.q (p_fieldAddr fld_74_1 rfl)) ?_
    refine JL.q (q_load1 ty_2 rfl (Mem.pub (hr1 1 _ rfl))) ?_
    refine JL.q (OpP.q (p_move rfl)) ?_
    refine JL.q (OpP.q (p_sub rfl rfl (IntWalk.i64_in _ (by omega)))) ?_
    refine JL.q (OpP.q (p_assign rfl)) ?_
    refine JL.nil ?_
    refine Js.eat (i := 1) (j := 2) rfl rfl rfl ?_
    refine Js.ret (R := RB w [boxO bs [.pointer (some ⟨bs_0, os_0, none⟩), .int .i64 s_size] 89] (fun v bs' => v = .int .i64 (M.moveV x (M.sv s_r (depth - 1).toNat x.next s_size).1) ∧ bs' = [boxO bs [.pointer (some ⟨bs_0, os_0, none⟩), .int .i64 ((M.sv s_r (depth - 1).toNat x.next s_size).2)] 89])) @Try.results65 (fun _ _ => rfl) (ResOk.tmp rfl ResOk.nil) (fun w1 hw => ?_)
    have hE : (.int .i64 (x.gain - ((M.sv s_r (depth - 1).toNat x.next s_size).1)) : Value) = .int .i64 (M.moveV x (M.sv s_r (depth - 1).toNat x.next s_size).1) := by rw [hQ]
    refine ⟨_, [boxO bs [.pointer (some ⟨bs_0, os_0, none⟩), .int .i64 ((M.sv s_r (depth - 1).toNat x.next s_size).2)] 89], _, rfl, ⟨hE, ?_⟩, hw.giveBack hb (Up.refl _ _)⟩
    · rfl

set_option maxRecDepth 100000 in
set_option maxHeartbeats 400000 in
theorem c_spec_l15S_value_ : ∀ N, S_spec_l15S_value N := by
  intro N
  induction N using Nat.strongRecOn with
  | ind N ih =>
  intro s_r s_size bs_0 os_0 p v_p depth bs w hb hps_0 h_p r0 r1 r2 r3 r4 hN
  obtain ⟨g1, g2, g3, g4, g5, g6, g7⟩ := M.okP_bd r0
  have g8 := M.results_8 r0
  have g9 := M.okP_len r0
  have g10 := M.results_8R (M.okP_okR r0)
  obtain ⟨b1, o1, A1_0, c1_0, A1_1, c1_1, rfl, hr1, h1_0, h1_1, bl1_0, bh1_0, bl1_1, bh1_1⟩ := ref_Position h_p
  refine enterB hb @Try.func68 @Try.ntmps68 rfl rfl ?_
  refine Js.trashE ?_
  refine Js.seq ?_
  refine Js.region ?_
  refine JL.q (OpP.q (p_assign rfl)) ?_
  refine JL.nil ?_
  refine Js.seq ?_
  refine Js.region ?_
  refine JL.q (OpP.q (p_move rfl)) ?_
  refine JL.q (OpP.q (p_nilCheck rfl)) ?_
  refine JL.q (OpP.q (p_fieldAddr fld_89_1 rfl)) ?_
  refine JL.q (q_load1 ty_2 rfl (Mem.box (i := 0) rfl rfl)) ?_
  refine JL.q (OpP.q (p_add rfl rfl (IntWalk.i64_in _ (by omega)))) ?_
  refine JL.q (OpP.q (p_nilCheck rfl)) ?_
  refine JL.q (OpP.q (p_fieldAddr fld_89_1 rfl)) ?_
  refine JL.s (e_store (i := 0) (c' := [.pointer (some ⟨bs_0, os_0, none⟩), .int .i64 (s_size + 1)]) ty_2 rfl rfl rfl rfl rfl rfl rfl rfl) ?_
  rintro _ _ _ ⟨rfl, rfl⟩ _
  refine JL.nil ?_
  refine Js.seq ?_
  refine Js.seq ?_
  refine Js.region ?_
  refine JL.q (OpP.q (p_move rfl)) ?_
  refine JL.q (OpP.q (p_nilCheck rfl)) ?_
  refine JL.q (OpP.q (p_fieldAddr fld_89_1 rfl)) ?_
  refine JL.q (q_load1 ty_2 rfl (Mem.box (i := 0) rfl rfl)) ?_
  refine JL.q (OpP.q (p_gtr rfl rfl)) ?_
  refine JL.nil ?_
  refine Js.cond rfl (fun h2 => ?_) (fun h2 => ?_)
  ·
    have h2' := h2
    try simp only [decide_eq_true_eq] at h2'
    have hQ := M.sv_big (r := s_r) (d := depth.toNat) (p := p) (s := s_size) (by have := h2'; omega)
    refine Js.seq ?_
    refine Js.region ?_
    refine JL.q (OpP.q (p_assign rfl)) ?_
    refine JL.nil ?_
    refine Js.ret (R := RB w [boxO bs [.pointer (some ⟨bs_0, os_0, none⟩), .int .i64 s_size] 89] (fun v bs' => v = .int .i64 ((M.sv s_r depth.toNat p s_size).1) ∧ bs' = [boxO bs [.pointer (some ⟨bs_0, os_0, none⟩), .int .i64 ((M.sv s_r depth.toNat p s_size).2)] 89])) @Try.results68 (fun _ _ => rfl) (ResOk.tmp rfl ResOk.nil) (fun w1 hw => ?_)
    have hE : (.int .i64 0 : Value) = .int .i64 ((M.sv s_r depth.toNat p s_size).1) := by rw [hQ]
    have hE1 : (M.sv s_r depth.toNat p s_size).2 = (s_size + 1) := by rw [hQ]
    refine ⟨_, [boxO bs [.pointer (some ⟨bs_0, os_0, none⟩), .int .i64 (s_size + 1)] 89], _, rfl, ⟨hE, ?_⟩, hw.giveBack hb (Up.refl _ _)⟩
    · rw [hE1]
  ·
    have h2' := h2
    try simp only [decide_eq_false_iff_not, Int.not_lt] at h2'
    have hbg : ¬ 3000 < s_size + 1 := by have := h2'; omega
    refine Js.skip ?_
    refine Js.seq ?_
    refine Js.region ?_
    refine JL.q (OpP.q (p_move rfl)) ?_
    refine JL.q (OpP.q (p_nilCheck rfl)) ?_
    refine JL.q (OpP.q (p_fieldAddr fld_89_0 rfl)) ?_
    refine JL.q (q_load1 ty_62 rfl (Mem.box (i := 0) rfl rfl)) ?_
    refine JL.q (OpP.q (p_move rfl)) ?_
    refine JL.e (e_callP fn_64 rfl (fun w hw => c_spec_l07All s_r _ p _ w ⟨_, _, [.int .i64 s_r.pits, .int .i64 s_r.seeds, .bool s_r.stores, .bool s_r.skip, .bool s_r.relay, .bool s_r.feed, .bool s_r.again, .int .i64 s_r.capture, .int .i64 s_r.slam], rfl, ⟨rfl, rfl, rfl, rfl, rfl, rfl, rfl, rfl, rfl, trivial⟩, (hps_0.vis hw.vis)⟩ ⟨_, _, [.slice A1_0 p.pits.length c1_0, .slice A1_1 p.stores.length c1_1, .int .i64 p.player], rfl, ⟨(Ty.mono _ h1_0 hw.vis), (Ty.mono _ h1_1 hw.vis), rfl, trivial⟩, (hr1.vis hw.vis)⟩ r0)) ?_
    rintro v3 _ u5 ⟨h4, rfl⟩ x5
    obtain ⟨A6, c6, rfl, bl6, bh6⟩ := sl_form h4
    refine JL.q (OpP.q (p_assign rfl)) ?_
    refine JL.nil ?_
    refine Js.seq ?_
    refine Js.seq ?_
    refine Js.region ?_
    refine JL.q (OpP.q (p_move rfl)) ?_
    refine JL.q (OpP.q (p_len el_90 rfl)) ?_
    refine JL.q (OpP.q (p_eql rfl rfl)) ?_
    refine JL.nil ?_
    refine Js.cond rfl (fun h7 => ?_) (fun h7 => ?_)
    ·
      have h7' := h7
      try simp only [decide_eq_true_eq] at h7'
      have hQ := M.sv_end (r := s_r) (p := p) (d := depth.toNat) hbg (by have := h7'; omega)
      refine Js.seq ?_
      refine Js.region ?_
      refine JL.q (OpP.q (p_move rfl)) ?_
      refine JL.q (OpP.q (p_nilCheck rfl)) ?_
      refine JL.q (OpP.q (p_fieldAddr fld_89_0 rfl)) ?_
      refine JL.q (q_load1 ty_62 rfl (Mem.box (i := 0) rfl rfl)) ?_
      refine JL.q (OpP.q (p_move rfl)) ?_
      refine JL.e (e_callV fn_91 rfl (fun w hw => c_spec_l15End s_r _ p _ w ⟨_, _, [.int .i64 s_r.pits, .int .i64 s_r.seeds, .bool s_r.stores, .bool s_r.skip, .bool s_r.relay, .bool s_r.feed, .bool s_r.again, .int .i64 s_r.capture, .int .i64 s_r.slam], rfl, ⟨rfl, rfl, rfl, rfl, rfl, rfl, rfl, rfl, rfl, trivial⟩, (hps_0.vis (x5.vis.trans hw.vis))⟩ ⟨_, _, [.slice A1_0 p.pits.length c1_0, .slice A1_1 p.stores.length c1_1, .int .i64 p.player], rfl, ⟨(Ty.mono _ h1_0 (x5.vis.trans hw.vis)), (Ty.mono _ h1_1 (x5.vis.trans hw.vis)), rfl, trivial⟩, (hr1.vis (x5.vis.trans hw.vis))⟩ r0)) ?_
      rintro _ _ _ ⟨rfl, rfl, rfl⟩ _
      refine JL.q (OpP.q (p_assign rfl)) ?_
      refine JL.nil ?_
      refine Js.ret (R := RB w [boxO bs [.pointer (some ⟨bs_0, os_0, none⟩), .int .i64 s_size] 89] (fun v bs' => v = .int .i64 ((M.sv s_r depth.toNat p s_size).1) ∧ bs' = [boxO bs [.pointer (some ⟨bs_0, os_0, none⟩), .int .i64 ((M.sv s_r depth.toNat p s_size).2)] 89])) @Try.results68 (fun _ _ => rfl) (ResOk.tmp rfl ResOk.nil) (fun w1 hw => ?_)
      have hE : (.int .i64 (M.endV s_r p) : Value) = .int .i64 ((M.sv s_r depth.toNat p s_size).1) := by rw [hQ]
      have hE1 : (M.sv s_r depth.toNat p s_size).2 = (s_size + 1) := by rw [hQ]
      refine ⟨_, [boxO bs [.pointer (some ⟨bs_0, os_0, none⟩), .int .i64 (s_size + 1)] 89], _, rfl, ⟨hE, ?_⟩, hw.giveBack hb (x5)⟩
      · rw [hE1]
    ·
      have h7' := h7
      try simp only [decide_eq_false_iff_not] at h7'
      have hne : (M.results s_r p).length ≠ 0 := by have := h7'; omega
      refine Js.skip ?_
      refine Js.seq ?_
      refine Js.seq ?_
      refine Js.region ?_
      refine JL.q (OpP.q (p_move rfl)) ?_
      refine JL.q (OpP.q (p_eql rfl rfl)) ?_
      refine JL.nil ?_
      refine Js.cond rfl (fun h8 => ?_) (fun h8 => ?_)
      ·
        have h8' := h8
        try simp only [decide_eq_true_eq] at h8'
        have hQ : (M.sv s_r depth.toNat p s_size) = (0, s_size + 1) := by rw [show depth.toNat = 0 by have := h8'; omega]; exact M.sv_0 hbg hne
        refine Js.seq ?_
        refine Js.region ?_
        refine JL.q (OpP.q (p_assign rfl)) ?_
        refine JL.nil ?_
        refine Js.ret (R := RB w [boxO bs [.pointer (some ⟨bs_0, os_0, none⟩), .int .i64 s_size] 89] (fun v bs' => v = .int .i64 ((M.sv s_r depth.toNat p s_size).1) ∧ bs' = [boxO bs [.pointer (some ⟨bs_0, os_0, none⟩), .int .i64 ((M.sv s_r depth.toNat p s_size).2)] 89])) @Try.results68 (fun _ _ => rfl) (ResOk.tmp rfl ResOk.nil) (fun w1 hw => ?_)
        have hE : (.int .i64 0 : Value) = .int .i64 ((M.sv s_r depth.toNat p s_size).1) := by rw [hQ]
        have hE1 : (M.sv s_r depth.toNat p s_size).2 = (s_size + 1) := by rw [hQ]
        refine ⟨_, [boxO bs [.pointer (some ⟨bs_0, os_0, none⟩), .int .i64 (s_size + 1)] 89], _, rfl, ⟨hE, ?_⟩, hw.giveBack hb (x5)⟩
        · rw [hE1]
      ·
        have h8' := h8
        try simp only [decide_eq_false_iff_not] at h8'
        have hd : 1 ≤ depth := by have := h8'; omega
        refine Js.skip ?_
        refine Js.seq ?_
        refine Js.region ?_
        refine JL.q (OpP.q (p_assign rfl)) ?_
        refine JL.nil ?_
        refine Js.seq ?_
        refine Js.seq ?_
        refine Js.region ?_
        refine JL.q (OpP.q (p_assign rfl)) ?_
        refine JL.nil ?_
        refine Js.block ?_
        refine Js.loop (fun l os u m => ∃ (k : Nat) (b z : Int) (G9_1 : List Nat), l = [(0, .pointer (some ⟨bs, 0, none⟩)), (2, .int .i64 depth), (7, .slice A6 ((M.results s_r p).length) c6), (8, .int .i64 b), (9, .int .i64 (k : Int))] ∧ os = [boxO bs [.pointer (some ⟨bs_0, os_0, none⟩), .int .i64 z] 89, anyO G9_1] ∧ Up w.heap.size u5 u ∧ (M.svL (M.sv s_r (depth - 1).toNat) (decide (k = 0)) b z ((M.results s_r p).drop k) = (M.sv s_r depth.toNat p s_size)) ∧ (0 ≤ z) ∧ (z ≤ 3001 + 8 * (depth - 1) + k) ∧ (-2000 ≤ b) ∧ (b ≤ 2000) ∧ (k ≤ (M.results s_r p).length) ∧ m = (M.results s_r p).length - k) ⟨0, 0, s_size + 1, _, rfl, rfl, Up.refl _ _, by exact (M.sv_d hbg hne hd).symm, by first | assumption | omega | rfl | (simp; done), by first | assumption | omega | rfl | (simp; done), by first | assumption | omega | rfl | (simp; done), by first | assumption | omega | rfl | (simp; done), by first | assumption | omega | rfl | (simp; done), rfl⟩ ⟨rfl, rfl, rfl, rfl, rfl, trivial⟩ ?_
        · rintro _ _ u9 _ ⟨k, b, z, G9_1, rfl, rfl, x9, hS, z0, z1, b0, b1, hk, rfl⟩
          refine Js.seq ?_
          refine Js.seq ?_
          refine Js.region ?_
          refine JL.q (OpP.q (p_move rfl)) ?_
          refine JL.q (OpP.q (p_move rfl)) ?_
          refine JL.q (OpP.q (p_len el_90 rfl)) ?_
          refine JL.q (OpP.q (p_lss rfl rfl)) ?_
          refine JL.nil ?_
          refine Js.cond rfl (fun h10 => ?_) (fun h10 => ?_)
          ·
            have h10' := h10
            try simp only [decide_eq_true_eq] at h10'
            refine Js.skip ?_
            refine Js.seq ?_
            refine Js.block ?_
            refine Js.seq ?_
            refine Js.region ?_
            refine JL.q (OpP.q (p_move rfl)) ?_
            refine JL.q (OpP.q (p_move rfl)) ?_
            refine JL.q (OpP.q (p_move rfl)) ?_
            obtain ⟨y11, hy11⟩ : ∃ x, (M.results s_r p)[k]? = some x := ⟨_, List.getElem?_eq_getElem (by omega)⟩
            obtain ⟨b11, o11, A11_3, c11_3, A11_4, c11_4, he11, hr11, h11_3, h11_4, bl11_3, bh11_3, bl11_4, bh11_4⟩ := elem_Result (Ty.mono _ h4 x9.vis) hy11
            refine JL.q (OpP.q (p_indexAddr el_90 rfl rfl (by omega) (by omega) he11)) ?_
            refine JL.q (OpP.q (p_move rfl)) ?_
            have hgb9 := M.results_gain (M.results_get0 hy11)
            have hsb9 := M.sv_bd (depth - 1).toNat y11.next z g10
            have hvb9 := M.moveV_bd hgb9 (M.sv_vbd (depth - 1).toNat y11.next z (M.results_ok (M.results_get0 hy11)))
            refine JL.e (e_callBB (bs := [boxO bs [.pointer (some ⟨bs_0, os_0, none⟩), .int .i64 z] 89]) (rest := [anyO G9_1]) fn_65 rfl (fun w hb ⟨_, hw⟩ => c_spec_l15S_option_ _ ih s_r z bs_0 os_0 y11 _ depth bs w hb (hps_0.vis ((x5.vis.trans x9.vis).trans hw.vis)) ⟨_, _, [.int .i64 y11.move, .int .i64 y11.gain, .bool y11.again, .slice A11_3 y11.next.pits.length c11_3, .slice A11_4 y11.next.stores.length c11_4, .int .i64 y11.next.player], rfl, ⟨rfl, rfl, rfl, (Ty.mono _ h11_3 hw.vis), (Ty.mono _ h11_4 hw.vis), rfl, trivial⟩, (hr11.vis hw.vis)⟩ (M.results_ok (M.results_get0 hy11)) (by omega) (by omega) (by omega) (by omega) hgb9 (by omega))) ?_
            rintro _ _ _ ⟨_, G12, ⟨rfl, rfl⟩, rfl, rfl⟩ _
            refine JL.q (OpP.q (p_assign rfl)) ?_
            refine JL.nil ?_
            refine Js.seq ?_
            refine Js.region ?_
            refine JL.q (OpP.q (p_move rfl)) ?_
            refine JL.q (OpP.q (p_eql rfl rfl)) ?_
            refine JL.q (OpP.q (p_move rfl)) ?_
            refine JL.g (Gd.f1 rfl rfl rfl) (fun hc => OpP.q (p_move rfl)) ?_
            refine JL.g (Gd.f1 rfl rfl rfl) (fun hc => OpP.q (p_move rfl)) ?_
            refine JL.g (Gd.f1 rfl rfl rfl) (fun hc => OpP.q (p_gtr (gvt rfl hc) (gvt rfl hc))) ?_
            refine JL.q (OpP.q (p_pickOr rfl rfl rfl)) ?_
            refine JL.nil ?_
            refine Js.cond rfl (fun h13 => ?_) (fun h13 => ?_)
            ·
              have h13' := h13
              try simp only [Bool.or_eq_true, decide_eq_true_eq] at h13'
              have hS2 := M.svL_y hS hy11 (by have := h13'; omega)
              refine Js.region ?_
              refine JL.q (OpP.q (p_move rfl)) ?_
              refine JL.q (OpP.q (p_assign rfl)) ?_
              refine JL.nil ?_
              refine Js.blockEnd ?_
              refine Js.region ?_
              refine JL.q (OpP.q (p_move rfl)) ?_
              refine JL.q (OpP.q (p_add rfl rfl (IntWalk.i64_in _ (by omega)))) ?_
              refine JL.q (OpP.q (p_assign rfl)) ?_
              refine JL.nil ?_
              refine Js.eat (i := 1) (j := 2) rfl rfl rfl ?_
              exact Js.again ⟨k + 1, M.moveV y11 (M.sv s_r (depth - 1).toNat y11.next z).1, (M.sv s_r (depth - 1).toNat y11.next z).2, _, rfl, rfl, x9, by exact hS2, by first | assumption | omega | rfl | (simp; done), by first | assumption | omega | rfl | (simp; done), by first | assumption | omega | rfl | (simp; done), by first | assumption | omega | rfl | (simp; done), by first | assumption | omega | rfl | (simp; done), rfl⟩ (by omega) ⟨rfl, rfl, rfl, rfl, rfl, trivial⟩
            ·
              have h13' := h13
              try simp only [Bool.or_eq_false_iff, decide_eq_false_iff_not, Int.not_lt] at h13'
              have hS2 := M.svL_n hS hy11 (by have := h13'; omega)
              refine Js.skip ?_
              refine Js.blockEnd ?_
              refine Js.region ?_
              refine JL.q (OpP.q (p_move rfl)) ?_
              refine JL.q (OpP.q (p_add rfl rfl (IntWalk.i64_in _ (by omega)))) ?_
              refine JL.q (OpP.q (p_assign rfl)) ?_
              refine JL.nil ?_
              refine Js.eat (i := 1) (j := 2) rfl rfl rfl ?_
              exact Js.again ⟨k + 1, b, (M.sv s_r (depth - 1).toNat y11.next z).2, _, rfl, rfl, x9, by exact hS2, by first | assumption | omega | rfl | (simp; done), by first | assumption | omega | rfl | (simp; done), by first | assumption | omega | rfl | (simp; done), by first | assumption | omega | rfl | (simp; done), by first | assumption | omega | rfl | (simp; done), rfl⟩ (by omega) ⟨rfl, rfl, rfl, rfl, rfl, trivial⟩
          ·
            have h10' := h10
            try simp only [decide_eq_false_iff_not, Int.not_lt] at h10'
            have hQ := M.svL_e hS (by have := h10'; omega)
            refine Js.exit (fun _ _ => rfl) ?_
            refine Js.seq ?_
            refine Js.region ?_
            refine JL.q (OpP.q (p_move rfl)) ?_
            refine JL.q (OpP.q (p_assign rfl)) ?_
            refine JL.nil ?_
            refine Js.ret (R := RB w [boxO bs [.pointer (some ⟨bs_0, os_0, none⟩), .int .i64 s_size] 89] (fun v bs' => v = .int .i64 ((M.sv s_r depth.toNat p s_size).1) ∧ bs' = [boxO bs [.pointer (some ⟨bs_0, os_0, none⟩), .int .i64 ((M.sv s_r depth.toNat p s_size).2)] 89])) @Try.results68 (fun _ _ => rfl) (ResOk.tmp rfl ResOk.nil) (fun w1 hw => ?_)
            have hE : (.int .i64 b : Value) = .int .i64 ((M.sv s_r depth.toNat p s_size).1) := by rw [hQ]
            have hE1 : (M.sv s_r depth.toNat p s_size).2 = z := by rw [hQ]
            refine ⟨_, [boxO bs [.pointer (some ⟨bs_0, os_0, none⟩), .int .i64 z] 89], _, rfl, ⟨hE, ?_⟩, hw.giveBack hb ((x5.trans x9))⟩
            · rw [hE1]

theorem c_spec_l15S_value (s_r : M.Rul) (s_size : Int) (bs_0 : Nat) (os_0 : Nat) (p : M.Pos) (v_p : Value) (depth : Int) (bs : Nat) (w : World) (hb : Bw w [boxO bs [.pointer (some ⟨bs_0, os_0, none⟩), .int .i64 s_size] 89]) (hps_0 : RowAt (offW w (([boxO bs [.pointer (some ⟨bs_0, os_0, none⟩), .int .i64 s_size] 89] : List Own).flatMap (·.fp))) bs_0 os_0 [.int .i64 s_r.pits, .int .i64 s_r.seeds, .bool s_r.stores, .bool s_r.skip, .bool s_r.relay, .bool s_r.feed, .bool s_r.again, .int .i64 s_r.capture, .int .i64 s_r.slam]) (h_p : (Ty.ref (cPosition p)).ok (offW w (([boxO bs [.pointer (some ⟨bs_0, os_0, none⟩), .int .i64 s_size] 89] : List Own).flatMap (·.fp))) v_p) (r0 : M.okP s_r p = true) (r1 : 0 ≤ depth) (r2 : depth ≤ 8) (r3 : 0 ≤ s_size) (r4 : s_size ≤ 100000) : RetB Try.prog 68 [.pointer (some ⟨bs, 0, none⟩), v_p, .int .i64 depth] w [boxO bs [.pointer (some ⟨bs_0, os_0, none⟩), .int .i64 s_size] 89] (fun v bs' => v = .int .i64 ((M.sv s_r depth.toNat p s_size).1) ∧ bs' = [boxO bs [.pointer (some ⟨bs_0, os_0, none⟩), .int .i64 ((M.sv s_r depth.toNat p s_size).2)] 89]) := c_spec_l15S_value_ _ s_r s_size bs_0 os_0 p v_p depth bs w hb hps_0 h_p r0 r1 r2 r3 r4 rfl

theorem c_spec_l15S_option (s_r : M.Rul) (s_size : Int) (bs_0 : Nat) (os_0 : Nat) (x : M.Res) (v_x : Value) (depth : Int) (bs : Nat) (w : World) (hb : Bw w [boxO bs [.pointer (some ⟨bs_0, os_0, none⟩), .int .i64 s_size] 89]) (hps_0 : RowAt (offW w (([boxO bs [.pointer (some ⟨bs_0, os_0, none⟩), .int .i64 s_size] 89] : List Own).flatMap (·.fp))) bs_0 os_0 [.int .i64 s_r.pits, .int .i64 s_r.seeds, .bool s_r.stores, .bool s_r.skip, .bool s_r.relay, .bool s_r.feed, .bool s_r.again, .int .i64 s_r.capture, .int .i64 s_r.slam]) (h_x : (Ty.ref (cResult x)).ok (offW w (([boxO bs [.pointer (some ⟨bs_0, os_0, none⟩), .int .i64 s_size] 89] : List Own).flatMap (·.fp))) v_x) (r0 : M.okP s_r x.next = true) (r1 : 1 ≤ depth) (r2 : depth ≤ 8) (r3 : 0 ≤ s_size) (r4 : s_size ≤ 100000) (r5 : -96 ≤ x.gain ∧ x.gain ≤ 96) : RetB Try.prog 65 [.pointer (some ⟨bs, 0, none⟩), v_x, .int .i64 depth] w [boxO bs [.pointer (some ⟨bs_0, os_0, none⟩), .int .i64 s_size] 89] (fun v bs' => v = .int .i64 (M.moveV x (M.sv s_r (depth - 1).toNat x.next s_size).1) ∧ bs' = [boxO bs [.pointer (some ⟨bs_0, os_0, none⟩), .int .i64 ((M.sv s_r (depth - 1).toNat x.next s_size).2)] 89]) := c_spec_l15S_option_ _ (fun m _ => c_spec_l15S_value_ m) s_r s_size bs_0 os_0 x v_x depth bs w hb hps_0 h_x r0 r1 r2 r3 r4 r5 rfl

set_option maxRecDepth 100000 in
set_option maxHeartbeats 400000 in
theorem c_spec_l15Code (r : M.Rul) (v_r : Value) (p : M.Pos) (v_p : Value) (depth : Int) (w : World) (h_r : (Ty.ref (cRules r)).ok w v_r) (h_p : (Ty.ref (cPosition p)).ok w v_p) (r0 : p.pits.length ≤ 4194304) (r1 : p.stores.length ≤ 4194304) : RetV Try.prog 63 [v_r, v_p, .int .i64 depth] w (.int .i64 (M.baseC r p depth)) := by
  obtain ⟨b1, o1, rfl, hr1⟩ := ref_Rules h_r
  obtain ⟨b2, o2, A2_0, c2_0, A2_1, c2_1, rfl, hr2, h2_0, h2_1, bl2_0, bh2_0, bl2_1, bh2_1⟩ := ref_Position h_p
  refine enter @Try.func63 @Try.ntmps63 rfl rfl ?_
  refine Js.seq ?_
  refine Js.region ?_
  refine JL.q (OpP.q (p_assign rfl)) ?_
  refine JL.nil ?_
  refine Js.seq ?_
  refine Js.seq ?_
  refine Js.region ?_
  refine JL.q (OpP.q (p_move rfl)) ?_
  refine JL.q (OpP.q (p_move rfl)) ?_
  refine JL.e (e_callV fn_85 rfl (fun w hw => c_spec_l04Ok r _ p _ w ⟨_, _, [.int .i64 r.pits, .int .i64 r.seeds, .bool r.stores, .bool r.skip, .bool r.relay, .bool r.feed, .bool r.again, .int .i64 r.capture, .int .i64 r.slam], rfl, ⟨rfl, rfl, rfl, rfl, rfl, rfl, rfl, rfl, rfl, trivial⟩, (hr1.vis hw.vis)⟩ ⟨_, _, [.slice A2_0 p.pits.length c2_0, .slice A2_1 p.stores.length c2_1, .int .i64 p.player], rfl, ⟨(Ty.mono _ h2_0 hw.vis), (Ty.mono _ h2_1 hw.vis), rfl, trivial⟩, (hr2.vis hw.vis)⟩ (by omega) (by omega))) ?_
  rintro _ _ _ ⟨rfl, rfl, rfl⟩ _
  refine JL.q (OpP.q (p_not rfl)) ?_
  refine JL.nil ?_
  refine Js.cond rfl (fun h3 => ?_) (fun h3 => ?_)
  ·
    have h3' := h3
    try simp only [Bool.not_eq_true'] at h3'
    have hE := M.baseC_1 (depth := depth) (by simpa using h3)
    refine Js.seq ?_
    refine Js.region ?_
    refine JL.q (OpP.q (p_assign rfl)) ?_
    refine JL.nil ?_
    refine Js.ret (R := RV w (.int .i64 (M.baseC r p depth))) @Try.results63 (fun _ _ => rfl) (ResOk.tmp rfl ResOk.nil) (fun w1 hw => ?_)
    refine ⟨?_, hw.ext (Up.refl _ _)⟩
    rw [hE]; rfl
  ·
    have h3' := h3
    try simp only [Bool.not_eq_false'] at h3'
    have hok : M.okP r p = true := by simpa using h3
    refine Js.skip ?_
    refine Js.seq ?_
    refine Js.seq ?_
    refine Js.region ?_
    refine JL.q (OpP.q (p_move rfl)) ?_
    refine JL.e (e_callV fn_86 rfl (fun w hw => c_spec_l00In depth 0 8 w)) ?_
    rintro _ _ _ ⟨rfl, rfl, rfl⟩ _
    refine JL.q (OpP.q (p_not rfl)) ?_
    refine JL.nil ?_
    refine Js.cond rfl (fun h4 => ?_) (fun h4 => ?_)
    ·
      have h4' := h4
      try simp only [Bool.not_eq_true'] at h4'
      have hE := M.baseC_2 hok (by simpa using h4)
      refine Js.seq ?_
      refine Js.region ?_
      refine JL.q (OpP.q (p_assign rfl)) ?_
      refine JL.nil ?_
      refine Js.ret (R := RV w (.int .i64 (M.baseC r p depth))) @Try.results63 (fun _ _ => rfl) (ResOk.tmp rfl ResOk.nil) (fun w1 hw => ?_)
      refine ⟨?_, hw.ext (Up.refl _ _)⟩
      rw [hE]; rfl
    ·
      have h4' := h4
      try simp only [Bool.not_eq_false'] at h4'
      have hE := M.baseC_0 hok (by simpa using h4)
      refine Js.skip ?_
      refine Js.seq ?_
      refine Js.region ?_
      refine JL.q (OpP.q (p_assign rfl)) ?_
      refine JL.nil ?_
      refine Js.ret (R := RV w (.int .i64 (M.baseC r p depth))) @Try.results63 (fun _ _ => rfl) (ResOk.tmp rfl ResOk.nil) (fun w1 hw => ?_)
      refine ⟨?_, hw.ext (Up.refl _ _)⟩
      rw [hE]; rfl

set_option maxRecDepth 100000 in
set_option maxHeartbeats 400000 in
theorem c_spec_l15Ask (r : M.Rul) (v_r : Value) (p : M.Pos) (v_p : Value) (depth : Int) (w : World) (h_r : (Ty.ref (cRules r)).ok w v_r) (h_p : (Ty.ref (cPosition p)).ok w v_p) (r0 : p.pits.length ≤ 4194304) (r1 : p.stores.length ≤ 4194304) : RetV Try.prog 46 [v_r, v_p, .int .i64 depth] w (.tuple #[.int .i64 ((M.ask r p depth).1), .int .i64 ((M.ask r p depth).2.1), .int .i64 ((M.ask r p depth).2.2)]) := by
  obtain ⟨b1, o1, rfl, hr1⟩ := ref_Rules h_r
  obtain ⟨b2, o2, A2_0, c2_0, A2_1, c2_1, rfl, hr2, h2_0, h2_1, bl2_0, bh2_0, bl2_1, bh2_1⟩ := ref_Position h_p
  refine enter @Try.func46 @Try.ntmps46 rfl rfl ?_
  refine Js.seq ?_
  refine Js.region ?_
  refine JL.q (OpP.q (p_assign rfl)) ?_
  refine JL.q (OpP.q (p_assign rfl)) ?_
  refine JL.q (OpP.q (p_assign rfl)) ?_
  refine JL.nil ?_
  refine Js.seq ?_
  refine Js.region ?_
  refine JL.q (OpP.q (p_move rfl)) ?_
  refine JL.q (OpP.q (p_move rfl)) ?_
  refine JL.q (OpP.q (p_move rfl)) ?_
  refine JL.e (e_callV fn_63 rfl (fun w hw => c_spec_l15Code r _ p _ depth w ⟨_, _, [.int .i64 r.pits, .int .i64 r.seeds, .bool r.stores, .bool r.skip, .bool r.relay, .bool r.feed, .bool r.again, .int .i64 r.capture, .int .i64 r.slam], rfl, ⟨rfl, rfl, rfl, rfl, rfl, rfl, rfl, rfl, rfl, trivial⟩, (hr1.vis hw.vis)⟩ ⟨_, _, [.slice A2_0 p.pits.length c2_0, .slice A2_1 p.stores.length c2_1, .int .i64 p.player], rfl, ⟨(Ty.mono _ h2_0 hw.vis), (Ty.mono _ h2_1 hw.vis), rfl, trivial⟩, (hr2.vis hw.vis)⟩ (by omega) (by omega))) ?_
  rintro _ _ _ ⟨rfl, rfl, rfl⟩ _
  refine JL.q (OpP.q (p_assign rfl)) ?_
  refine JL.nil ?_
  refine Js.seq ?_
  refine Js.seq ?_
  refine Js.region ?_
  refine JL.q (OpP.q (p_move rfl)) ?_
  refine JL.q (OpP.q (p_neq rfl rfl)) ?_
  refine JL.nil ?_
  refine Js.cond rfl (fun h3 => ?_) (fun h3 => ?_)
  ·
    have h3' := h3
    try simp only [Bool.not_eq_true', decide_eq_false_iff_not] at h3'
    have hE := M.ask_b (r := r) (p := p) (depth := depth) (by simpa using h3)
    refine Js.seq ?_
    refine Js.region ?_
    refine JL.q (OpP.q (p_move rfl)) ?_
    refine JL.q (OpP.q (p_assign rfl)) ?_
    refine JL.q (OpP.q (p_assign rfl)) ?_
    refine JL.q (OpP.q (p_assign rfl)) ?_
    refine JL.nil ?_
    refine Js.ret (R := RV w (.tuple #[.int .i64 ((M.ask r p depth).1), .int .i64 ((M.ask r p depth).2.1), .int .i64 ((M.ask r p depth).2.2)])) @Try.results46 (fun _ _ => rfl) (ResOk.tmp rfl (ResOk.tmp rfl (ResOk.tmp rfl ResOk.nil))) (fun w1 hw => ?_)
    refine ⟨?_, hw.ext (Up.refl _ _)⟩
    rw [hE]; rfl
  ·
    have h3' := h3
    try simp only [Bool.not_eq_false', decide_eq_true_eq] at h3'
    have hz : M.baseC r p depth = 0 := by simpa using h3
    have ho := M.baseC_ok hz
    refine Js.skip ?_
    refine Js.seq ?_
    refine Js.region ?_
    refine JL.q (OpP.q (p_move rfl)) ?_
    refine JL.q (OpP.q (p_build zero_89 flds_89 rfl rfl)) ?_
    refine JL.e (e_box (c := [.pointer (some ⟨b1, o1, none⟩), .int .i64 0]) rfl rfl) ?_
    rintro _ _ _ ⟨b4, rfl, rfl, rfl⟩ _
    refine JL.q (OpP.q (p_assign rfl)) ?_
    refine JL.nil ?_
    refine Js.seq ?_
    refine Js.region ?_
    refine JL.q (OpP.q (p_move rfl)) ?_
    refine JL.q (OpP.q (p_move rfl)) ?_
    refine JL.q (OpP.q (p_move rfl)) ?_
    refine JL.e (e_callB (bs := [boxO b4 [.pointer (some ⟨b1, o1, none⟩), .int .i64 0] 89]) (rest := []) fn_68 rfl (fun w hb hw => c_spec_l15S_value r 0 b1 o1 p _ depth b4 w hb (hr1.vis hw.vis) ⟨_, _, [.slice A2_0 p.pits.length c2_0, .slice A2_1 p.stores.length c2_1, .int .i64 p.player], rfl, ⟨(Ty.mono _ h2_0 hw.vis), (Ty.mono _ h2_1 hw.vis), rfl, trivial⟩, (hr2.vis hw.vis)⟩ ho.1 (by omega) (by omega) (by omega) (by omega)) rfl) ?_
    rintro _ _ _ ⟨_, G5, ⟨rfl, rfl⟩, rfl, rfl⟩ _
    refine JL.q (OpP.q (p_assign rfl)) ?_
    refine JL.nil ?_
    refine Js.seq ?_
    refine Js.seq ?_
    refine Js.region ?_
    refine JL.q (OpP.q (p_move rfl)) ?_
    refine JL.q (OpP.q (p_nilCheck rfl)) ?_
    refine JL.q (OpP.q (p_fieldAddr fld_89_1 rfl)) ?_
    refine JL.q (q_load1 ty_2 rfl (Mem.box (i := 0) rfl rfl)) ?_
    refine JL.q (OpP.q (p_gtr rfl rfl)) ?_
    refine JL.nil ?_
    refine Js.cond rfl (fun h6 => ?_) (fun h6 => ?_)
    ·
      have h6' := h6
      try simp only [decide_eq_true_eq] at h6'
      have hE := M.ask_5 hz (by simpa using h6)
      refine Js.seq ?_
      refine Js.region ?_
      refine JL.q (OpP.q (p_assign rfl)) ?_
      refine JL.q (OpP.q (p_assign rfl)) ?_
      refine JL.q (OpP.q (p_assign rfl)) ?_
      refine JL.nil ?_
      refine Js.ret (R := RV w (.tuple #[.int .i64 ((M.ask r p depth).1), .int .i64 ((M.ask r p depth).2.1), .int .i64 ((M.ask r p depth).2.2)])) @Try.results46 (fun _ _ => rfl) (ResOk.tmp rfl (ResOk.tmp rfl (ResOk.tmp rfl ResOk.nil))) (fun w1 hw => ?_)
      refine ⟨?_, hw.ext (Up.refl _ _)⟩
      rw [hE]; rfl
    ·
      have h6' := h6
      try simp only [decide_eq_false_iff_not, Int.not_lt] at h6'
      have hE := M.ask_0 hz (by simpa using h6)
      refine Js.skip ?_
      refine Js.seq ?_
      refine Js.drawn _ [] mixed_ (fun _ h => h) ?_
      refine JH.p 0 rfl (p_move rfl) ?_
      refine JH.p 1 rfl (p_move rfl) ?_
      refine JH.p 2 rfl (p_nilCheck rfl) ?_
      refine JH.p 3 rfl (p_fieldAddr fld_89_1 rfl) ?_
      refine JH.q 4 rfl (q_load1 ty_2 rfl (Mem.box (i := 0) rfl rfl)) ?_
      refine JH.p 5 rfl (p_assign rfl) ?_
      refine JH.p 6 rfl (p_assign rfl) ?_
      refine JH.p 7 rfl (p_assign rfl) ?_
      refine JH.done (by kernel_rfl) ?_
      refine Js.ret (R := RV w (.tuple #[.int .i64 ((M.ask r p depth).1), .int .i64 ((M.ask r p depth).2.1), .int .i64 ((M.ask r p depth).2.2)])) @Try.results46 (fun _ _ => rfl) (ResOk.tmp rfl (ResOk.tmp rfl (ResOk.tmp rfl ResOk.nil))) (fun w1 hw => ?_)
      refine ⟨?_, hw.ext (Up.refl _ _)⟩
      rw [hE]; rfl

set_option maxRecDepth 100000 in
set_option maxHeartbeats 400000 in
theorem c_spec_l15Options (r : M.Rul) (v_r : Value) (p : M.Pos) (v_p : Value) (depth : Int) (w : World) (h_r : (Ty.ref (cRules r)).ok w v_r) (h_p : (Ty.ref (cPosition p)).ok w v_p) (r0 : p.pits.length ≤ 4194304) (r1 : p.stores.length ≤ 4194304) : Ret Try.prog 41 [v_r, v_p, .int .i64 depth] w (Ty.tup [Ty.sl 69 2 (M.optsR r p depth).length (lOption (M.optsR r p depth)), Ty.int (M.optsC r p depth)]) := by
  obtain ⟨b1, o1, rfl, hr1⟩ := ref_Rules h_r
  obtain ⟨b2, o2, A2_0, c2_0, A2_1, c2_1, rfl, hr2, h2_0, h2_1, bl2_0, bh2_0, bl2_1, bh2_1⟩ := ref_Position h_p
  refine enter @Try.func41 @Try.ntmps41 rfl rfl ?_
  refine Js.seq ?_
  refine Js.region ?_
  refine JL.q (OpP.q (p_assign rfl)) ?_
  refine JL.q (OpP.q (p_assign rfl)) ?_
  refine JL.nil ?_
  refine Js.seq ?_
  refine Js.region ?_
  refine JL.q (OpP.q (p_move rfl)) ?_
  refine JL.q (OpP.q (p_move rfl)) ?_
  refine JL.q (OpP.q (p_move rfl)) ?_
  refine JL.e (e_callV fn_63 rfl (fun w hw => c_spec_l15Code r _ p _ depth w ⟨_, _, [.int .i64 r.pits, .int .i64 r.seeds, .bool r.stores, .bool r.skip, .bool r.relay, .bool r.feed, .bool r.again, .int .i64 r.capture, .int .i64 r.slam], rfl, ⟨rfl, rfl, rfl, rfl, rfl, rfl, rfl, rfl, rfl, trivial⟩, (hr1.vis hw.vis)⟩ ⟨_, _, [.slice A2_0 p.pits.length c2_0, .slice A2_1 p.stores.length c2_1, .int .i64 p.player], rfl, ⟨(Ty.mono _ h2_0 hw.vis), (Ty.mono _ h2_1 hw.vis), rfl, trivial⟩, (hr2.vis hw.vis)⟩ (by omega) (by omega))) ?_
  rintro _ _ _ ⟨rfl, rfl, rfl⟩ _
  refine JL.q (OpP.q (p_assign rfl)) ?_
  refine JL.nil ?_
  refine Js.seq ?_
  refine Js.seq ?_
  refine Js.region ?_
  refine JL.q (OpP.q (p_move rfl)) ?_
  refine JL.q (OpP.q (p_eql rfl rfl)) ?_
  refine JL.q (OpP.q (p_move rfl)) ?_
  refine JL.g (Gd.t1 rfl rfl rfl) (fun hc => OpP.q (p_move rfl)) ?_
  refine JL.g (Gd.t1 rfl rfl rfl) (fun hc => OpP.q (p_eql (gvt rfl hc) rfl)) ?_
  refine JL.q (OpP.q (p_pickAnd rfl rfl rfl)) ?_
  refine JL.nil ?_
  refine Js.cond rfl (fun h3 => ?_) (fun h3 => ?_)
  ·
    have h3' := h3
    try simp only [Bool.and_eq_true, decide_eq_true_eq] at h3'
    have hb : M.baseC r p depth = 0 ∧ depth = 0 := by simpa using h3
    have hE := M.optsC_2 (r := r) (p := p) (depth := depth) ⟨(M.baseC_ok hb.1).1, hb.2⟩
    have hR := M.optsR_no (r := r) (p := p) (depth := depth) (by rw [hE]; decide)
    refine Js.region ?_
    refine JL.q (OpP.q (p_assign rfl)) ?_
    refine JL.nil ?_
    refine Js.seq ?_
    refine Js.seq ?_
    refine Js.region ?_
    refine JL.q (OpP.q (p_move rfl)) ?_
    refine JL.q (OpP.q (p_eql rfl rfl)) ?_
    refine JL.nil ?_
    refine Js.condF rfl (by decide) ?_
    refine Js.skip ?_
    refine Js.seq ?_
    refine Js.seq ?_
    refine Js.region ?_
    refine JL.q (OpP.q (p_move rfl)) ?_
    refine JL.q (OpP.q (p_neq rfl rfl)) ?_
    refine JL.nil ?_
    refine Js.condT rfl (by decide) ?_
    refine Js.seq ?_
    refine Js.region ?_
    refine JL.q (OpP.q (p_move rfl)) ?_
    refine JL.q (OpP.q (p_assign rfl)) ?_
    refine JL.q (OpP.q (p_assign rfl)) ?_
    refine JL.nil ?_
    refine Js.ret (R := RO w (Ty.tup [Ty.sl 69 2 (M.optsR r p depth).length (lOption (M.optsR r p depth)), Ty.int (M.optsC r p depth)])) @Try.results41 (fun _ _ => rfl) (ResOk.tmp rfl (ResOk.tmp rfl ResOk.nil)) (fun w1 hw => ?_)
    have hx := hw.ext (Up.refl _ _)
    exact ret_own (ps := []) hw hx ⟨_, rfl, ⟨_, _, rfl, (snil_own lOption (show [] = M.optsR r p depth by first | (rw [hR]; done) | (rw [hE]; done) | (rw [hR]; exact hE2) | (rw [hz]; done))), ⟨_, _, rfl, ⟨by first | (rw [hR]; done) | (rw [hE]; done) | (rw [hR]; exact hE2) | (rw [hz]; done), rfl⟩, rfl⟩⟩⟩ Pick.nil (by simp [List.flatten, outV])
  ·
    have h3' := h3
    try simp only [Bool.and_eq_false_iff, decide_eq_false_iff_not] at h3'
    have hb : M.baseC r p depth = 0 → ¬ depth = 0 := by simpa using h3
    refine Js.skip ?_
    refine Js.seq ?_
    refine Js.seq ?_
    refine Js.region ?_
    refine JL.q (OpP.q (p_move rfl)) ?_
    refine JL.q (OpP.q (p_eql rfl rfl)) ?_
    refine JL.nil ?_
    refine Js.cond rfl (fun h4 => ?_) (fun h4 => ?_)
    ·
      have h4' := h4
      try simp only [decide_eq_true_eq] at h4'
      have hq : M.baseC r p depth = 0 := by simpa using h4
      have hoc := M.optsC_s (r := r) (p := p) (depth := depth) (fun h => hb hq h.2)
      have hac := M.ask_c r p depth
      refine Js.region ?_
      refine JL.q (OpP.q (p_move rfl)) ?_
      refine JL.q (OpP.q (p_move rfl)) ?_
      refine JL.q (OpP.q (p_move rfl)) ?_
      refine JL.e (e_callV fn_46 rfl (fun w hw => c_spec_l15Ask r _ p _ depth w ⟨_, _, [.int .i64 r.pits, .int .i64 r.seeds, .bool r.stores, .bool r.skip, .bool r.relay, .bool r.feed, .bool r.again, .int .i64 r.capture, .int .i64 r.slam], rfl, ⟨rfl, rfl, rfl, rfl, rfl, rfl, rfl, rfl, rfl, trivial⟩, (hr1.vis hw.vis)⟩ ⟨_, _, [.slice A2_0 p.pits.length c2_0, .slice A2_1 p.stores.length c2_1, .int .i64 p.player], rfl, ⟨(Ty.mono _ h2_0 hw.vis), (Ty.mono _ h2_1 hw.vis), rfl, trivial⟩, (hr2.vis hw.vis)⟩ (by omega) (by omega))) ?_
      rintro _ _ _ ⟨rfl, rfl, rfl⟩ _
      refine JL.q (OpP.q (p_move rfl)) ?_
      refine JL.q (OpP.q (p_extract rfl rfl)) ?_
      refine JL.q (OpP.q (p_extract rfl rfl)) ?_
      refine JL.q (OpP.q (p_extract rfl rfl)) ?_
      refine JL.q (OpP.q (p_assign rfl)) ?_
      refine JL.nil ?_
      refine Js.seq ?_
      refine Js.seq ?_
      refine Js.region ?_
      refine JL.q (OpP.q (p_move rfl)) ?_
      refine JL.q (OpP.q (p_neq rfl rfl)) ?_
      refine JL.nil ?_
      refine Js.cond rfl (fun h5 => ?_) (fun h5 => ?_)
      ·
        have h5' := h5
        try simp only [Bool.not_eq_true', decide_eq_false_iff_not] at h5'
        have hE : M.optsC r p depth = (M.ask r p depth).2.2 := by rw [hoc, hac]
        have hR := M.optsR_no (r := r) (p := p) (depth := depth) (by rw [hE]; simpa using h5)
        refine Js.seq ?_
        refine Js.region ?_
        refine JL.q (OpP.q (p_move rfl)) ?_
        refine JL.q (OpP.q (p_assign rfl)) ?_
        refine JL.q (OpP.q (p_assign rfl)) ?_
        refine JL.nil ?_
        refine Js.ret (R := RO w (Ty.tup [Ty.sl 69 2 (M.optsR r p depth).length (lOption (M.optsR r p depth)), Ty.int (M.optsC r p depth)])) @Try.results41 (fun _ _ => rfl) (ResOk.tmp rfl (ResOk.tmp rfl ResOk.nil)) (fun w1 hw => ?_)
        have hx := hw.ext (Up.refl _ _)
        exact ret_own (ps := []) hw hx ⟨_, rfl, ⟨_, _, rfl, (snil_own lOption (show [] = M.optsR r p depth by first | (rw [hR]; done) | (rw [hE]; done) | (rw [hR]; exact hE2) | (rw [hz]; done))), ⟨_, _, rfl, ⟨by first | (rw [hR]; done) | (rw [hE]; done) | (rw [hR]; exact hE2) | (rw [hz]; done), rfl⟩, rfl⟩⟩⟩ Pick.nil (by simp [List.flatten, outV])
      ·
        have h5' := h5
        try simp only [Bool.not_eq_false', decide_eq_true_eq] at h5'
        have hz : M.optsC r p depth = 0 := by rw [hoc, ← hac]; simpa using h5
        have ho := M.optsC_ok hz
        have hR := M.optsR_yes hz
        have g8 := M.results_8 ho.1
        have g11 : M.size r ((depth - 1).toNat + 1) p ≤ 3000 := by rw [show (depth - 1).toNat + 1 = depth.toNat by omega]; exact ho.2.2.2.1
        refine Js.skip ?_
        refine Js.seq ?_
        refine Js.region ?_
        refine JL.q (OpP.q (p_move rfl)) ?_
        refine JL.q (OpP.q (p_build zero_89 flds_89 rfl rfl)) ?_
        refine JL.e (e_box (c := [.pointer (some ⟨b1, o1, none⟩), .int .i64 0]) rfl rfl) ?_
        rintro _ _ _ ⟨b6, rfl, rfl, rfl⟩ _
        refine JL.q (OpP.q (p_assign rfl)) ?_
        refine JL.nil ?_
        refine Js.seq ?_
        refine Js.region ?_
        refine JL.e (e_buildSlice (vs := []) el_28 rfl rfl rfl rfl rfl rfl) ?_
        rintro _ _ _ ⟨b7, rfl, rfl, hl8, rfl⟩ _
        refine JL.q (OpP.q (p_assign rfl)) ?_
        refine JL.nil ?_
        refine Js.seq ?_
        refine Js.region ?_
        refine JL.q (OpP.q (p_move rfl)) ?_
        refine JL.q (OpP.q (p_move rfl)) ?_
        refine JL.e (e_callP fn_64 rfl (fun w hw => c_spec_l07All r _ p _ w ⟨_, _, [.int .i64 r.pits, .int .i64 r.seeds, .bool r.stores, .bool r.skip, .bool r.relay, .bool r.feed, .bool r.again, .int .i64 r.capture, .int .i64 r.slam], rfl, ⟨rfl, rfl, rfl, rfl, rfl, rfl, rfl, rfl, rfl, trivial⟩, (hr1.vis hw.vis)⟩ ⟨_, _, [.slice A2_0 p.pits.length c2_0, .slice A2_1 p.stores.length c2_1, .int .i64 p.player], rfl, ⟨(Ty.mono _ h2_0 hw.vis), (Ty.mono _ h2_1 hw.vis), rfl, trivial⟩, (hr2.vis hw.vis)⟩ ho.1)) ?_
        rintro v9 _ u11 ⟨h10, rfl⟩ x11
        obtain ⟨A12, c12, rfl, bl12, bh12⟩ := sl_form h10
        refine JL.q (OpP.q (p_assign rfl)) ?_
        refine JL.nil ?_
        refine Js.seq ?_
        refine Js.seq ?_
        refine Js.region ?_
        refine JL.q (OpP.q (p_assign rfl)) ?_
        refine JL.nil ?_
        refine Js.block ?_
        refine Js.vals (Ts := lOption []) (vs := []) (fun w => rfl) ?_
        refine Js.loop (fun l os u m => ∃ (k : Nat) (z : Int) (acc : List M.Opt) (A13_10 : Option Addr) (c13_10 : Nat) (g13_10 : List Nat) (vs13_10 : List Value) (fl13_10 : List Nat), l = [(2, .int .i64 depth), (9, .pointer (some ⟨b6, 0, none⟩)), (10, .slice A13_10 acc.length c13_10), (11, .slice A12 ((M.results r p).length) c12), (12, .int .i64 (k : Int))] ∧ os = [ownC (lOption acc) vs13_10 fl13_10, rowO 69 2 (.slice A13_10 acc.length c13_10) acc.length vs13_10 g13_10, boxO b6 [.pointer (some ⟨b1, o1, none⟩), .int .i64 z] 89] ∧ Up w.heap.size u11 u ∧ (acc = (M.opts r p depth).take k) ∧ (k ≤ (M.results r p).length) ∧ (acc.length = k) ∧ (z = M.szk r (depth - 1).toNat p k) ∧ (0 ≤ z) ∧ (z ≤ 3000) ∧ (acc.length ≤ c13_10) ∧ (c13_10 ≤ 9223372036854775807) ∧ m = (M.results r p).length - k) ⟨0, 0, [], _, _, _, _, _, rfl, rfl, Up.refl _ _, by rfl, by first | assumption | omega | rfl | (simp; done), by rfl, by simp [M.szk_zero], by first | assumption | omega | rfl | (simp; done), by first | assumption | omega | rfl | (simp; done), by first | omega | (simp only [List.length_append, List.length_cons, List.length_nil] <;> omega), by first | omega | (simp only [List.length_append, List.length_cons, List.length_nil] <;> omega), rfl⟩ ⟨rfl, rfl, rfl, rfl, rfl, trivial⟩ ?_
        · rintro _ _ u13 _ ⟨k, z, acc, A13_10, c13_10, g13_10, vs13_10, fl13_10, rfl, rfl, x13, hA, hk, hl, hz9, z0, z1, f13_6, f13_7, rfl⟩
          refine Js.seq ?_
          refine Js.seq ?_
          refine Js.region ?_
          refine JL.q (OpP.q (p_move rfl)) ?_
          refine JL.q (OpP.q (p_move rfl)) ?_
          refine JL.q (OpP.q (p_len el_90 rfl)) ?_
          refine JL.q (OpP.q (p_lss rfl rfl)) ?_
          refine JL.nil ?_
          refine Js.cond rfl (fun h14 => ?_) (fun h14 => ?_)
          ·
            have h14' := h14
            try simp only [decide_eq_true_eq] at h14'
            refine Js.skip ?_
            refine Js.seq ?_
            refine Js.block ?_
            obtain ⟨y15, hy15⟩ : ∃ x, (M.results r p)[k]? = some x := ⟨_, List.getElem?_eq_getElem (by omega)⟩
            have hgb9 := M.results_gain (M.results_get0 hy15)
            have hs9 := M.szk_step (d := (depth - 1).toNat) hy15
            have hp9 := M.size_pos r (depth - 1).toNat y15.next
            have hq9 := M.sv_val (r := r) (depth - 1).toNat y15.next z (by omega) (by have := M.szk_le r (depth - 1).toNat p (k + 1); omega)
            refine Js.drawn _ [11, 14] mixed_ (fun _ h => h) ?_
            refine JH.p 0 rfl (p_move rfl) ?_
            refine JH.p 1 rfl (p_move rfl) ?_
            refine JH.p 2 rfl (p_move rfl) ?_
            have hy16 := hy15
            obtain ⟨b16, o16, A16_3, c16_3, A16_4, c16_4, he16, hr16, h16_3, h16_4, bl16_3, bh16_3, bl16_4, bh16_4⟩ := elem_Result (Ty.mono _ h10 x13.vis) hy16
            refine JH.p 3 rfl (p_indexAddr el_90 rfl rfl (by omega) (by omega) he16) ?_
            refine JH.p 4 rfl (p_fieldAddr fld_74_0 rfl) ?_
            refine JH.w 5 rfl (fun os' u' hv => q_load1 ty_2 rfl (Mem.pub ((hr16.vis hv) 0 _ rfl))) ?_
            refine JH.p 6 rfl (p_move rfl) ?_
            refine JH.p 7 rfl (p_move rfl) ?_
            refine JH.p 8 rfl (p_move rfl) ?_
            have hy17 := hy15
            obtain ⟨b17, o17, A17_3, c17_3, A17_4, c17_4, he17, hr17, h17_3, h17_4, bl17_3, bh17_3, bl17_4, bh17_4⟩ := elem_Result (Ty.mono _ h10 x13.vis) hy17
            refine JH.p 9 rfl (p_indexAddr el_90 rfl rfl (by omega) (by omega) he17) ?_
            refine JH.p 10 rfl (p_move rfl) ?_
            refine JH.one (i := 11) (by kernel_rfl) ?_
            refine JHo.conv (fun _ h => h.front (i := 2) rfl) ?_
            refine JHo.e rfl (e_callB (bs := [boxO b6 [.pointer (some ⟨b1, o1, none⟩), .int .i64 z] 89]) (rest := [ownC (lOption acc) vs13_10 fl13_10, rowO 69 2 (.slice A13_10 acc.length c13_10) acc.length vs13_10 g13_10]) fn_65 rfl (fun w hb hw => c_spec_l15S_option r z b1 o1 y15 _ depth b6 w hb (hr1.vis ((x11.vis.trans x13.vis).trans hw.vis)) ⟨_, _, [.int .i64 y15.move, .int .i64 y15.gain, .bool y15.again, .slice A17_3 y15.next.pits.length c17_3, .slice A17_4 y15.next.stores.length c17_4, .int .i64 y15.next.player], rfl, ⟨rfl, rfl, rfl, (Ty.mono _ h17_3 hw.vis), (Ty.mono _ h17_4 hw.vis), rfl, trivial⟩, (hr17.vis hw.vis)⟩ (M.results_ok (M.results_get0 hy15)) (by omega) (by omega) (by omega) (by omega) hgb9) rfl) (.inr rfl) ?_
            rintro _ _ _ ⟨_, G18, ⟨rfl, rfl⟩, rfl, rfl⟩ _
            refine JH.p 12 rfl (p_build zero_69 flds_69 rfl rfl) ?_
            refine JH.one (i := 13) (by kernel_rfl) ?_
            refine JHo.e rfl (e_buildSlice (vs := [.int .i64 y15.move, .int .i64 (M.moveV y15 (M.sv r (depth - 1).toNat y15.next z).1)]) el_28 rfl rfl rfl rfl rfl rfl) (.inl rfl) ?_
            rintro _ _ _ ⟨b19, rfl, rfl, hl20, rfl⟩ _
            refine JH.one (i := 14) (by kernel_rfl) ?_
            refine JHo.e rfl (e_append (i := 4) (n' := (acc ++ [(M.Opt.mk y15.move (M.moveV y15 (M.sv r (depth - 1).toNat y15.next z).1))]).length) (vs' := vs13_10 ++ [.int .i64 y15.move, .int .i64 (M.moveV y15 (M.sv r (depth - 1).toNat y15.next z).1)]) el_28 rfl rfl rfl rfl (src_row (i := 0) und_28 rfl rfl) (by omega) (by omega) (by first | omega | (simp only [List.length_append, List.length_cons, List.length_nil] <;> omega)) (rfl)) (.inr rfl) ?_
            rintro v21 _ _ ⟨⟨g22, rfl⟩, rfl⟩ _
            refine JH.fact (row_form' (i := 4) rfl) (fun hf23 => ?_)
            obtain ⟨A23, c23, rfl, bl23, bh23⟩ := hf23
            refine JH.p 15 rfl (p_assign rfl) ?_
            refine JH.done (by kernel_rfl) ?_
            refine Js.vals (Ts := cOption (M.Opt.mk y15.move (M.moveV y15 (M.sv r (depth - 1).toNat y15.next z).1))) (vs := [.int .i64 y15.move, .int .i64 (M.moveV y15 (M.sv r (depth - 1).toNat y15.next z).1)]) (fun w => ⟨[], [], rfl, ⟨rfl, rfl⟩, ⟨[], [], rfl, ⟨rfl, rfl⟩, rfl⟩⟩) ?_
            refine Js.joinL (i := 4) (j := 0) (Vs := lOption (acc ++ [(M.Opt.mk y15.move (M.moveV y15 (M.sv r (depth - 1).toNat y15.next z).1))])) rfl rfl (lOption_snoc _ _) (fun f25 => ?_)
            refine Js.blockEnd ?_
            refine Js.region ?_
            refine JL.q (OpP.q (p_move rfl)) ?_
            refine JL.q (OpP.q (p_add rfl rfl (IntWalk.i64_in _ (by omega)))) ?_
            refine JL.q (OpP.q (p_assign rfl)) ?_
            refine JL.nil ?_
            refine Js.drop (i := 1) rfl rfl (fun u26 x26 => ?_)
            refine Js.drop (i := 2) rfl rfl (fun u27 x27 => ?_)
            refine Js.front (i := 1) rfl ?_
            refine Js.front (i := 2) rfl ?_
            refine Js.front (i := 2) rfl ?_
            exact Js.again ⟨k + 1, (M.sv r (depth - 1).toNat y15.next z).2, acc ++ [(M.Opt.mk y15.move (M.moveV y15 (M.sv r (depth - 1).toNat y15.next z).1))], _, _, _, _, _, rfl, rfl, ((x13.trans x26).trans x27), by rw [hA, hq9]; exact (M.opts_step (by assumption)).symm, by first | assumption | omega | rfl | (simp; done), by simp [hl], by rw [hq9, hs9, ← hz9], by rw [hq9]; simp only []; omega, by rw [hq9]; simp only []; have := M.szk_le r (depth - 1).toNat p (k + 1); omega, by first | omega | (simp only [List.length_append, List.length_cons, List.length_nil] <;> omega), by first | omega | (simp only [List.length_append, List.length_cons, List.length_nil] <;> omega), rfl⟩ (by omega) ⟨rfl, rfl, rfl, rfl, rfl, trivial⟩
          ·
            have h14' := h14
            try simp only [decide_eq_false_iff_not, Int.not_lt] at h14'
            have hE2 : acc = M.opts r p depth := by rw [hA, List.take_of_length_le (by rw [M.opts_len]; have := h14'; omega)]
            refine Js.exit (fun _ _ => rfl) ?_
            refine Js.seq ?_
            refine Js.region ?_
            refine JL.q (OpP.q (p_move rfl)) ?_
            refine JL.q (OpP.q (p_assign rfl)) ?_
            refine JL.q (OpP.q (p_assign rfl)) ?_
            refine JL.nil ?_
            refine Js.ret (R := RO w (Ty.tup [Ty.sl 69 2 (M.optsR r p depth).length (lOption (M.optsR r p depth)), Ty.int (M.optsC r p depth)])) @Try.results41 (fun _ _ => rfl) (ResOk.tmp rfl (ResOk.tmp rfl ResOk.nil)) (fun w1 hw => ?_)
            have hx := hw.ext ((x11.trans x13))
            exact ret_own (ps := [(1, (Value.ownBlock (.slice A13_10 acc.length c13_10)).toList), (0, fl13_10)]) hw hx ⟨_, rfl, ⟨_, _, rfl, (srow_own lOption (hw.pr (i := 1) rfl) (hw.pr (i := 0) rfl) (lOption_length _) (show acc = M.optsR r p depth by first | (rw [hR]; done) | (rw [hE]; done) | (rw [hR]; exact hE2) | (rw [hz]; done))), ⟨_, _, rfl, ⟨by first | (rw [hR]; done) | (rw [hE]; done) | (rw [hR]; exact hE2) | (rw [hz]; done), rfl⟩, rfl⟩⟩⟩ (Pick.cons (j := 1) rfl (List.sublist_append_left _ _) rfl (Pick.cons (j := 0) rfl (List.Sublist.refl _) rfl Pick.nil)) (by simp [List.flatten, outV])
    ·
      have h4' := h4
      try simp only [decide_eq_false_iff_not] at h4'
      have hq : M.baseC r p depth ≠ 0 := by simpa using h4
      refine Js.skip ?_
      refine Js.seq ?_
      refine Js.seq ?_
      refine Js.region ?_
      refine JL.q (OpP.q (p_move rfl)) ?_
      refine JL.q (OpP.q (p_neq rfl rfl)) ?_
      refine JL.nil ?_
      refine Js.cond rfl (fun h28 => ?_) (fun h28 => ?_)
      ·
        have h28' := h28
        try simp only [Bool.not_eq_true', decide_eq_false_iff_not] at h28'
        have hE := M.optsC_base hq
        have hR := M.optsR_no (r := r) (p := p) (depth := depth) (by rw [hE]; exact hq)
        refine Js.seq ?_
        refine Js.region ?_
        refine JL.q (OpP.q (p_move rfl)) ?_
        refine JL.q (OpP.q (p_assign rfl)) ?_
        refine JL.q (OpP.q (p_assign rfl)) ?_
        refine JL.nil ?_
        refine Js.ret (R := RO w (Ty.tup [Ty.sl 69 2 (M.optsR r p depth).length (lOption (M.optsR r p depth)), Ty.int (M.optsC r p depth)])) @Try.results41 (fun _ _ => rfl) (ResOk.tmp rfl (ResOk.tmp rfl ResOk.nil)) (fun w1 hw => ?_)
        have hx := hw.ext (Up.refl _ _)
        exact ret_own (ps := []) hw hx ⟨_, rfl, ⟨_, _, rfl, (snil_own lOption (show [] = M.optsR r p depth by first | (rw [hR]; done) | (rw [hE]; done) | (rw [hR]; exact hE2) | (rw [hz]; done))), ⟨_, _, rfl, ⟨by first | (rw [hR]; done) | (rw [hE]; done) | (rw [hR]; exact hE2) | (rw [hz]; done), rfl⟩, rfl⟩⟩⟩ Pick.nil (by simp [List.flatten, outV])
      ·
        have h9 := h28; simp at h9; exact absurd h9 hq

set_option maxRecDepth 100000 in
set_option maxHeartbeats 400000 in
theorem c_spec_SearchOptions (r : M.Rul) (v_r : Value) (p : M.Pos) (v_p : Value) (depth : Int) (w : World) (h_r : (Ty.agg (cRules r)).ok w v_r) (h_p : (Ty.agg (cPosition p)).ok w v_p) (r0 : p.pits.length ≤ 4194304) (r1 : p.stores.length ≤ 4194304) : Ret Try.prog 11 [v_r, v_p, .int .i64 depth] w (Ty.tup [Ty.sl 69 2 (M.optsR r p depth).length (lOption (M.optsR r p depth)), Ty.int (M.optsC r p depth)]) := by
  obtain rfl := open_Rules h_r
  obtain ⟨A2_0, c2_0, A2_1, c2_1, rfl, h2_0, h2_1, bl2_0, bh2_0, bl2_1, bh2_1⟩ := open_Position h_p
  refine enter @Try.func11 @Try.ntmps11 rfl rfl ?_
  refine Js.seq ?_
  refine Js.region ?_
  refine JL.e (e_box (c := [.int .i64 r.pits, .int .i64 r.seeds, .bool r.stores, .bool r.skip, .bool r.relay, .bool r.feed, .bool r.again, .int .i64 r.capture, .int .i64 r.slam]) rfl rfl) ?_
  rintro _ _ _ ⟨b3, rfl, rfl, rfl⟩ _
  refine JL.e (e_box (c := [.slice A2_0 p.pits.length c2_0, .slice A2_1 p.stores.length c2_1, .int .i64 p.player]) rfl rfl) ?_
  rintro _ _ _ ⟨b4, rfl, rfl, rfl⟩ _
  refine JL.q (OpP.q (p_assign rfl)) ?_
  refine JL.q (OpP.q (p_assign rfl)) ?_
  refine JL.nil ?_
  refine Js.seq ?_
  refine Js.region ?_
  refine JL.q (OpP.q (p_move rfl)) ?_
  refine JL.e (e_callO fn_41 rfl (Spl.tup (Spls.cons (Spl.sl _ _ _ _) (Spls.cons (Spl.val _) Spls.nil))) (fun w hw => c_spec_l15Options r _ p _ depth w ⟨_, _, [.int .i64 r.pits, .int .i64 r.seeds, .bool r.stores, .bool r.skip, .bool r.relay, .bool r.feed, .bool r.again, .int .i64 r.capture, .int .i64 r.slam], rfl, ⟨rfl, rfl, rfl, rfl, rfl, rfl, rfl, rfl, rfl, trivial⟩, Mem.boxR (i := 1) rfl 0 9 w hw⟩ ⟨_, _, [.slice A2_0 p.pits.length c2_0, .slice A2_1 p.stores.length c2_1, .int .i64 p.player], rfl, ⟨(Ty.mono _ h2_0 hw.vis), (Ty.mono _ h2_1 hw.vis), rfl, trivial⟩, Mem.boxR (i := 0) rfl 0 3 w hw⟩ (by omega) (by omega))) ?_
  rintro v5 _ _ ⟨_, hR6, rfl, rfl⟩ _
  obtain ⟨vs7, rfl, hr7⟩ := hR6
  obtain ⟨v7_0, vs7_0, o7_0, ow7_0, rfl, hR7_0, hs7_0, rfl⟩ := RL_cons hr7
  obtain ⟨v7_1, vs7_1, o7_1, ow7_1, rfl, hR7_1, hs7_1, rfl⟩ := RL_cons hs7_0
  obtain ⟨rfl, rfl⟩ := RL_nil hs7_1
  obtain ⟨A8, c8, vs8, f8, rfl, rfl, bl8, bh8⟩ := hR7_0
  obtain ⟨rfl, rfl⟩ : v7_1 = .int .i64 (M.optsC r p depth) ∧ _ := hR7_1
  refine JL.q (OpP.q (p_extract rfl rfl)) ?_
  refine JL.q (OpP.q (p_extract rfl rfl)) ?_
  refine JL.q (OpP.q (p_assign rfl)) ?_
  refine JL.q (OpP.q (p_assign rfl)) ?_
  refine JL.nil ?_
  refine Js.ret (R := RO w (Ty.tup [Ty.sl 69 2 (M.optsR r p depth).length (lOption (M.optsR r p depth)), Ty.int (M.optsC r p depth)])) @Try.results11 (fun _ _ => rfl) (ResOk.tmp rfl (ResOk.tmp rfl ResOk.nil)) (fun w1 hw => ?_)
  have hx := hw.ext (Up.refl _ _)
  exact ret_own (ps := [(0, (Value.ownBlock (.slice A8 ((M.optsR r p depth).length) c8)).toList), (1, f8)]) hw hx ⟨_, rfl, ⟨_, _, rfl, (srow_own lOption (hw.pr (i := 0) rfl) (hw.pr (i := 1) rfl) (lOption_length _) rfl), ⟨_, _, rfl, ⟨rfl, rfl⟩, rfl⟩⟩⟩ (Pick.cons (j := 0) rfl (List.sublist_append_left _ _) rfl (Pick.cons (j := 1) rfl (List.Sublist.refl _) rfl Pick.nil)) (by simp [List.flatten, outV])

set_option maxRecDepth 100000 in
set_option maxHeartbeats 400000 in
theorem c_spec_l15First (list : List M.Opt) (v_list : Value) (w : World) (h_list : (Ty.sl 69 2 list.length (lOption list)).ok w v_list) (r0 : list.length ≠ 0) (r1 : list.length ≤ 4194304) : Ret Try.prog 47 [v_list] w (Ty.agg (cOption (M.bOpt list))) := by
  obtain ⟨A1, c1, rfl, bl1, bh1⟩ := sl_form h_list
  refine enter @Try.func47 @Try.ntmps47 rfl rfl ?_
  refine Js.seq ?_
  refine Js.region ?_
  refine JL.e (e_alloc zero_69) ?_
  rintro _ _ _ ⟨b2, rfl, rfl, rfl⟩ _
  refine JL.nil ?_
  refine Js.seq ?_
  refine Js.region ?_
  refine JL.q (OpP.q (p_move rfl)) ?_
  obtain ⟨y3, hy3⟩ : ∃ x, list[0]? = some x := ⟨_, List.getElem?_eq_getElem (by omega)⟩
  obtain ⟨b3, o3, he3, hr3⟩ := elem_Option h_list hy3
  refine JL.q (OpP.q (p_indexAddr el_28 rfl rfl (by omega) (by omega) he3)) ?_
  refine JL.q (q_loadN ty_69 rfl (Mem.pubR (hr3.sub 0 2)) rfl rfl) ?_
  refine JL.e (e_alloc zero_69) ?_
  rintro _ _ _ ⟨b4, rfl, rfl, rfl⟩ _
  refine JL.s (e_store (i := 0) (c' := [.int .i64 y3.move, .int .i64 y3.value]) ty_69 rfl rfl rfl rfl rfl rfl rfl rfl) ?_
  rintro _ _ _ ⟨rfl, rfl⟩ _
  refine JL.nil ?_
  refine Js.seq ?_
  refine Js.seq ?_
  refine Js.region ?_
  refine JL.q (OpP.q (p_assign rfl)) ?_
  refine JL.nil ?_
  refine Js.block ?_
  refine Js.loop (fun l os u m => ∃ (k : Nat) (b : M.Opt), l = [(0, .slice A1 list.length c1), (2, .pointer (some ⟨b2, 0, none⟩)), (3, .pointer (some ⟨b4, 0, none⟩)), (4, .int .i64 (k : Int))] ∧ os = [boxO b4 [.int .i64 b.move, .int .i64 b.value] 69, boxO b2 [.int .i64 0, .int .i64 0] 69] ∧ Up w.heap.size w u ∧ (M.bOptF b (list.drop k) = M.bOpt list) ∧ (k ≤ list.length) ∧ m = list.length - k) ⟨1, y3, rfl, rfl, Up.refl _ _, by exact M.bOpt_one (by assumption), by first | assumption | omega | rfl | (simp; done), rfl⟩ ⟨rfl, rfl, rfl, rfl, trivial⟩ ?_
  · rintro _ _ u5 _ ⟨k, b, rfl, rfl, x5, hS, hk, rfl⟩
    refine Js.seq ?_
    refine Js.seq ?_
    refine Js.region ?_
    refine JL.q (OpP.q (p_move rfl)) ?_
    refine JL.q (OpP.q (p_move rfl)) ?_
    refine JL.q (OpP.q (p_len el_28 rfl)) ?_
    refine JL.q (OpP.q (p_lss rfl rfl)) ?_
    refine JL.nil ?_
    refine Js.cond rfl (fun h6 => ?_) (fun h6 => ?_)
    ·
      have h6' := h6
      try simp only [decide_eq_true_eq] at h6'
      refine Js.skip ?_
      refine Js.seq ?_
      refine Js.block ?_
      refine Js.seq ?_
      obtain ⟨y7, hy7⟩ : ∃ x, list[k]? = some x := ⟨_, List.getElem?_eq_getElem (by omega)⟩
      refine Js.drawn _ [] mixed_ (fun _ h => h) ?_
      refine JH.p 0 rfl (p_move rfl) ?_
      refine JH.p 1 rfl (p_move rfl) ?_
      have hy8 := hy7
      obtain ⟨b8, o8, he8, hr8⟩ := elem_Option (Ty.mono _ h_list x5.vis) hy8
      refine JH.p 2 rfl (p_indexAddr el_28 rfl rfl (by omega) (by omega) he8) ?_
      refine JH.p 3 rfl (p_fieldAddr fld_69_1 rfl) ?_
      refine JH.w 4 rfl (fun os' u' hv => q_load1 ty_2 rfl (Mem.pub ((hr8.vis hv) 1 _ rfl))) ?_
      refine JH.p 5 rfl (p_fieldAddr fld_69_1 rfl) ?_
      refine JH.q 6 rfl (q_load1 ty_2 rfl (Mem.box (i := 0) rfl rfl)) ?_
      refine JH.p 7 rfl (p_gtr rfl rfl) ?_
      refine JH.done (by kernel_rfl) ?_
      refine Js.cond rfl (fun h9 => ?_) (fun h9 => ?_)
      ·
        have h9' := h9
        try simp only [decide_eq_true_eq] at h9'
        have hS2 := M.bOptF_y hS hy7 (by simpa using h9)
        refine Js.region ?_
        refine JL.q (OpP.q (p_move rfl)) ?_
        refine JL.q (OpP.q (p_move rfl)) ?_
        have hy10 := hy7
        obtain ⟨b10, o10, he10, hr10⟩ := elem_Option (Ty.mono _ h_list x5.vis) hy10
        refine JL.q (OpP.q (p_indexAddr el_28 rfl rfl (by omega) (by omega) he10)) ?_
        refine JL.q (q_loadN ty_69 rfl (Mem.pubR (hr10.sub 0 2)) rfl rfl) ?_
        refine JL.s (e_store (i := 0) (c' := [.int .i64 y7.move, .int .i64 y7.value]) ty_69 rfl rfl rfl rfl rfl rfl rfl rfl) ?_
        rintro _ _ _ ⟨rfl, rfl⟩ _
        refine JL.nil ?_
        refine Js.blockEnd ?_
        refine Js.region ?_
        refine JL.q (OpP.q (p_move rfl)) ?_
        refine JL.q (OpP.q (p_add rfl rfl (IntWalk.i64_in _ (by omega)))) ?_
        refine JL.q (OpP.q (p_assign rfl)) ?_
        refine JL.nil ?_
        exact Js.again ⟨k + 1, y7, rfl, rfl, x5, by exact hS2, by first | assumption | omega | rfl | (simp; done), rfl⟩ (by omega) ⟨rfl, rfl, rfl, rfl, trivial⟩
      ·
        have h9' := h9
        try simp only [decide_eq_false_iff_not, Int.not_lt] at h9'
        have hS2 := M.bOptF_n hS hy7 (by simpa using h9)
        refine Js.skip ?_
        refine Js.blockEnd ?_
        refine Js.region ?_
        refine JL.q (OpP.q (p_move rfl)) ?_
        refine JL.q (OpP.q (p_add rfl rfl (IntWalk.i64_in _ (by omega)))) ?_
        refine JL.q (OpP.q (p_assign rfl)) ?_
        refine JL.nil ?_
        exact Js.again ⟨k + 1, b, rfl, rfl, x5, by exact hS2, by first | assumption | omega | rfl | (simp; done), rfl⟩ (by omega) ⟨rfl, rfl, rfl, rfl, trivial⟩
    ·
      have h6' := h6
      try simp only [decide_eq_false_iff_not, Int.not_lt] at h6'
      have hE := M.bOptF_e hS (by have := h6'; omega)
      refine Js.exit (fun _ _ => rfl) ?_
      refine Js.seq ?_
      refine Js.region ?_
      refine JL.q (q_loadN ty_69 rfl (Mem.boxR (i := 0) rfl 0 2) rfl rfl) ?_
      refine JL.s (e_store (i := 1) (c' := [.int .i64 b.move, .int .i64 b.value]) ty_69 rfl rfl rfl rfl rfl rfl rfl rfl) ?_
      rintro _ _ _ ⟨rfl, rfl⟩ _
      refine JL.nil ?_
      refine Js.ret (R := RO w (Ty.agg (cOption (M.bOpt list)))) @Try.results47 (fun _ _ => rfl) (ResOk.cell (res_box (i := 1) ty_69 rfl rfl rfl rfl rfl) ResOk.nil) (fun w1 hw => ?_)
      have hx := hw.ext (x5)
      exact ret_own (ps := []) hw hx ⟨_, rfl, ⟨_, _, rfl, ⟨by rw [hE], rfl⟩, ⟨_, _, rfl, ⟨by rw [hE], rfl⟩, rfl⟩⟩⟩ Pick.nil (by simp [List.flatten, outV])

set_option maxRecDepth 100000 in
set_option maxHeartbeats 400000 in
theorem c_spec_SearchLine (r : M.Rul) (v_r : Value) (p : M.Pos) (v_p : Value) (depth : Int) (w : World) (h_r : (Ty.agg (cRules r)).ok w v_r) (h_p : (Ty.agg (cPosition p)).ok w v_p) (r0 : p.pits.length ≤ 4194304) (r1 : p.stores.length ≤ 4194304) : Ret Try.prog 20 [v_r, v_p, .int .i64 depth] w (Ty.tup [Ty.ints 2 (M.lineR r p depth), Ty.int (M.srchC r p depth)]) := by
  obtain rfl := open_Rules h_r
  obtain ⟨A2_0, c2_0, A2_1, c2_1, rfl, h2_0, h2_1, bl2_0, bh2_0, bl2_1, bh2_1⟩ := open_Position h_p
  refine enter @Try.func20 @Try.ntmps20 rfl rfl ?_
  refine Js.seq ?_
  refine Js.region ?_
  refine JL.e (e_box (c := [.int .i64 r.pits, .int .i64 r.seeds, .bool r.stores, .bool r.skip, .bool r.relay, .bool r.feed, .bool r.again, .int .i64 r.capture, .int .i64 r.slam]) rfl rfl) ?_
  rintro _ _ _ ⟨b3, rfl, rfl, rfl⟩ _
  refine JL.e (e_box (c := [.slice A2_0 p.pits.length c2_0, .slice A2_1 p.stores.length c2_1, .int .i64 p.player]) rfl rfl) ?_
  rintro _ _ _ ⟨b4, rfl, rfl, rfl⟩ _
  refine JL.q (OpP.q (p_assign rfl)) ?_
  refine JL.q (OpP.q (p_assign rfl)) ?_
  refine JL.nil ?_
  refine Js.seq ?_
  refine Js.region ?_
  refine JL.q (OpP.q (p_move rfl)) ?_
  refine JL.e (e_callV fn_46 rfl (fun w hw => c_spec_l15Ask r _ p _ depth w ⟨_, _, [.int .i64 r.pits, .int .i64 r.seeds, .bool r.stores, .bool r.skip, .bool r.relay, .bool r.feed, .bool r.again, .int .i64 r.capture, .int .i64 r.slam], rfl, ⟨rfl, rfl, rfl, rfl, rfl, rfl, rfl, rfl, rfl, trivial⟩, Mem.boxR (i := 1) rfl 0 9 w hw⟩ ⟨_, _, [.slice A2_0 p.pits.length c2_0, .slice A2_1 p.stores.length c2_1, .int .i64 p.player], rfl, ⟨(Ty.mono _ h2_0 hw.vis), (Ty.mono _ h2_1 hw.vis), rfl, trivial⟩, Mem.boxR (i := 0) rfl 0 3 w hw⟩ (by omega) (by omega))) ?_
  rintro _ _ _ ⟨rfl, rfl, rfl⟩ _
  refine JL.q (OpP.q (p_move rfl)) ?_
  refine JL.q (OpP.q (p_extract rfl rfl)) ?_
  refine JL.q (OpP.q (p_extract rfl rfl)) ?_
  refine JL.q (OpP.q (p_extract rfl rfl)) ?_
  refine JL.q (OpP.q (p_assign rfl)) ?_
  refine JL.q (OpP.q (p_assign rfl)) ?_
  refine JL.q (OpP.q (p_assign rfl)) ?_
  refine JL.nil ?_
  refine Js.seq ?_
  refine Js.seq ?_
  refine Js.region ?_
  refine JL.q (OpP.q (p_move rfl)) ?_
  refine JL.q (OpP.q (p_neq rfl rfl)) ?_
  refine JL.nil ?_
  refine Js.cond rfl (fun h5 => ?_) (fun h5 => ?_)
  ·
    have h5' := h5
    try simp only [Bool.not_eq_true', decide_eq_false_iff_not] at h5'
    have hc9 := M.ask_c r p depth
    have hz : M.srchC r p depth ≠ 0 := by rw [← hc9]; simpa using h5
    have hE := M.lineR_no hz
    refine Js.seq ?_
    refine Js.region ?_
    refine JL.q (OpP.q (p_move rfl)) ?_
    refine JL.q (OpP.q (p_assign rfl)) ?_
    refine JL.q (OpP.q (p_assign rfl)) ?_
    refine JL.nil ?_
    refine Js.ret (R := RO w (Ty.tup [Ty.ints 2 (M.lineR r p depth), Ty.int (M.srchC r p depth)])) @Try.results20 (fun _ _ => rfl) (ResOk.tmp rfl (ResOk.tmp rfl ResOk.nil)) (fun w1 hw => ?_)
    have hx := hw.ext (Up.refl _ _)
    exact ret_own (ps := []) hw hx ⟨_, rfl, ⟨_, _, rfl, (ints_cast (show [] = M.lineR r p depth by first | (rw [hE]; done) | (rw [hc9]; done) | (rw [hz]; done)) nil_own), ⟨_, _, rfl, ⟨by first | (rw [hE]; done) | (rw [hc9]; done) | (rw [hz]; done), rfl⟩, rfl⟩⟩⟩ Pick.nil (by simp [List.flatten, outV])
  ·
    have h5' := h5
    try simp only [Bool.not_eq_false', decide_eq_true_eq] at h5'
    have hc9 := M.ask_c r p depth
    have hz : M.srchC r p depth = 0 := by rw [← hc9]; simpa using h5
    have hs := M.srchC_ok hz
    refine Js.skip ?_
    refine Js.seq ?_
    refine Js.region ?_
    refine JL.e (e_buildSlice (vs := []) el_24 rfl rfl rfl rfl rfl rfl) ?_
    rintro _ _ _ ⟨b6, rfl, rfl, hl7, rfl⟩ _
    refine JL.q (OpP.q (p_assign rfl)) ?_
    refine JL.nil ?_
    refine Js.seq ?_
    refine Js.block ?_
    refine Js.loop (fun l os u m => ∃ (d : Int) (out : List Int) (q : M.Pos) (A8_11 : Option Addr) (c8_11 : Nat) (g8_11 : List Nat) (A8_4_0 : Option Addr) (c8_4_0 : Nat) (A8_4_1 : Option Addr) (c8_4_1 : Nat), l = [(2, .int .i64 d), (3, .pointer (some ⟨b3, 0, none⟩)), (4, .pointer (some ⟨b4, 0, none⟩)), (11, .slice A8_11 out.length c8_11)] ∧ os = [rowO 2 1 (.slice A8_11 out.length c8_11) out.length (ints_ out) g8_11, boxO b4 [.slice A8_4_0 q.pits.length c8_4_0, .slice A8_4_1 q.stores.length c8_4_1, .int .i64 q.player] 33, boxO b3 [.int .i64 r.pits, .int .i64 r.seeds, .bool r.stores, .bool r.skip, .bool r.relay, .bool r.feed, .bool r.again, .int .i64 r.capture, .int .i64 r.slam] 31] ∧ Up w.heap.size w u ∧ (M.Line r p depth out q d) ∧ (q.pits.length ≤ 4194304) ∧ (q.stores.length ≤ 4194304) ∧ (out.length ≤ 8) ∧ (out.length ≤ c8_11) ∧ (c8_11 ≤ 9223372036854775807) ∧ ((Ty.ints 2 q.pits).ok u (.slice A8_4_0 q.pits.length c8_4_0)) ∧ (q.pits.length ≤ c8_4_0) ∧ (c8_4_0 ≤ 9223372036854775807) ∧ ((Ty.ints 2 q.stores).ok u (.slice A8_4_1 q.stores.length c8_4_1)) ∧ (q.stores.length ≤ c8_4_1) ∧ (c8_4_1 ≤ 9223372036854775807) ∧ m = d.toNat) ⟨depth, [], p, _, _, _, _, _, _, _, rfl, rfl, Up.refl _ _, by exact M.Line.zero hz, by first | assumption | omega | rfl | (simp; done), by first | assumption | omega | rfl | (simp; done), by first | assumption | omega | rfl | (simp; done), by first | omega | (simp only [List.length_append, List.length_cons, List.length_nil] <;> omega), by first | omega | (simp only [List.length_append, List.length_cons, List.length_nil] <;> omega), h2_0, by first | omega | (simp only [List.length_append, List.length_cons, List.length_nil] <;> omega), by first | omega | (simp only [List.length_append, List.length_cons, List.length_nil] <;> omega), h2_1, by first | omega | (simp only [List.length_append, List.length_cons, List.length_nil] <;> omega), by first | omega | (simp only [List.length_append, List.length_cons, List.length_nil] <;> omega), rfl⟩ ⟨rfl, rfl, rfl, rfl, trivial⟩ ?_
    · rintro _ _ u8 _ ⟨d, out, q, A8_11, c8_11, g8_11, A8_4_0, c8_4_0, A8_4_1, c8_4_1, rfl, rfl, x8, hL, q0, q1, hl, f8_4, f8_5, f8_6, f8_7, f8_8, f8_9, f8_10, f8_11, rfl⟩
      have h8 := M.results_8 hL.ok
      have hlo := hL.lo
      have hhi := hL.hi
      have hln := hL.ln
      have hol := M.opts_len r q d
      have hrl := M.optsR_len r q d
      refine Js.seq ?_
      refine Js.seq ?_
      refine Js.region ?_
      refine JL.q (OpP.q (p_move rfl)) ?_
      refine JL.q (OpP.q (p_gtr rfl rfl)) ?_
      refine JL.nil ?_
      refine Js.cond rfl (fun h9 => ?_) (fun h9 => ?_)
      ·
        have h9' := h9
        try simp only [decide_eq_true_eq] at h9'
        have hoc := hL.srch (by have := h9'; omega)
        have hoy := M.optsR_yes hoc
        refine Js.skip ?_
        refine Js.block ?_
        refine Js.seq ?_
        refine Js.region ?_
        refine JL.q (OpP.q (p_move rfl)) ?_
        refine JL.e (e_callP fn_41 rfl (fun w hw => c_spec_l15Options r _ q _ d w ⟨_, _, [.int .i64 r.pits, .int .i64 r.seeds, .bool r.stores, .bool r.skip, .bool r.relay, .bool r.feed, .bool r.again, .int .i64 r.capture, .int .i64 r.slam], rfl, ⟨rfl, rfl, rfl, rfl, rfl, rfl, rfl, rfl, rfl, trivial⟩, Mem.boxR (i := 2) rfl 0 9 w hw⟩ ⟨_, _, [.slice A8_4_0 q.pits.length c8_4_0, .slice A8_4_1 q.stores.length c8_4_1, .int .i64 q.player], rfl, ⟨(Ty.mono _ f8_6 hw.vis), (Ty.mono _ f8_9 hw.vis), rfl, trivial⟩, Mem.boxR (i := 1) rfl 0 3 w hw⟩ (by omega) (by omega))) ?_
        rintro v10 _ u12 ⟨h11, rfl⟩ x12
        obtain ⟨vs13, rfl, hv13⟩ := h11
        obtain ⟨v13_0, vs13, rfl, hw13_0, hv13⟩ := cellsOk_cons hv13
        obtain ⟨v13_1, vs13, rfl, hw13_1, hv13⟩ := cellsOk_cons hv13
        obtain rfl := cellsOk_nil hv13
        obtain ⟨A14, c14, rfl, bl14, bh14⟩ := sl_form hw13_0
        obtain rfl : v13_1 = .int .i64 (M.optsC r q d) := hw13_1
        refine JL.q (OpP.q (p_move rfl)) ?_
        refine JL.q (OpP.q (p_extract rfl rfl)) ?_
        refine JL.q (OpP.q (p_extract rfl rfl)) ?_
        refine JL.q (OpP.q (p_assign rfl)) ?_
        refine JL.q (OpP.q (p_assign rfl)) ?_
        refine JL.nil ?_
        refine Js.seq ?_
        refine Js.seq ?_
        refine Js.region ?_
        refine JL.q (OpP.q (p_move rfl)) ?_
        refine JL.q (OpP.q (p_len el_28 rfl)) ?_
        refine JL.q (OpP.q (p_eql rfl rfl)) ?_
        refine JL.nil ?_
        refine Js.cond rfl (fun h15 => ?_) (fun h15 => ?_)
        ·
          have h15' := h15
          try simp only [decide_eq_true_eq] at h15'
          have hE := (M.lineR_yes hz).trans (hL.end_ (by have := h15'; rw [hoy] at this; omega))
          refine Js.exit (fun _ _ => rfl) ?_
          refine Js.seq ?_
          refine Js.region ?_
          refine JL.q (OpP.q (p_move rfl)) ?_
          refine JL.q (OpP.q (p_assign rfl)) ?_
          refine JL.q (OpP.q (p_assign rfl)) ?_
          refine JL.nil ?_
          refine Js.ret (R := RO w (Ty.tup [Ty.ints 2 (M.lineR r p depth), Ty.int (M.srchC r p depth)])) @Try.results20 (fun _ _ => rfl) (ResOk.tmp rfl (ResOk.tmp rfl ResOk.nil)) (fun w1 hw => ?_)
          have hx := hw.ext ((x8.trans x12))
          exact ret_own (ps := [(0, (Value.ownBlock (.slice A8_11 out.length c8_11)).toList)]) hw hx ⟨_, rfl, ⟨_, _, rfl, (ints_row (xs := out) (hw.pr (i := 0) rfl) (show out = M.lineR r p depth by first | (rw [hE]; done) | (rw [hc9]; done) | (rw [hz]; done))), ⟨_, _, rfl, ⟨by first | (rw [hE]; done) | (rw [hc9]; done) | (rw [hz]; done), rfl⟩, rfl⟩⟩⟩ (Pick.cons (j := 0) rfl (List.sublist_append_left _ _) rfl Pick.nil) (by simp [List.flatten, outV])
        ·
          have h15' := h15
          try simp only [decide_eq_false_iff_not] at h15'
          have hne : (M.results r q).length ≠ 0 := by have := h15'; rw [hoy] at this; omega
          have hL2 := hL.step (by omega) hne
          rw [← hoy] at hL2
          refine Js.skip ?_
          refine Js.seq ?_
          refine Js.region ?_
          refine JL.q (OpP.q (p_move rfl)) ?_
          refine JL.e (e_callP fn_47 rfl (fun w hw => c_spec_l15First (M.optsR r q d) _ w (Ty.mono _ hw13_0 hw.vis) (by omega) (by omega))) ?_
          rintro v16 _ u18 ⟨h17, rfl⟩ x18
          obtain rfl := open_Option h17
          refine JL.q (OpP.q (p_field fld_69_0 rfl rfl)) ?_
          refine JL.q (OpP.q (p_assign rfl)) ?_
          refine JL.nil ?_
          refine Js.seq ?_
          refine Js.region ?_
          refine JL.q (OpP.q (p_move rfl)) ?_
          refine JL.e (e_callP fn_48 rfl (fun w hw => c_spec_l07Make r _ q _ ((M.bOpt (M.optsR r q d)).move) w ⟨_, _, [.int .i64 r.pits, .int .i64 r.seeds, .bool r.stores, .bool r.skip, .bool r.relay, .bool r.feed, .bool r.again, .int .i64 r.capture, .int .i64 r.slam], rfl, ⟨rfl, rfl, rfl, rfl, rfl, rfl, rfl, rfl, rfl, trivial⟩, Mem.boxR (i := 2) rfl 0 9 w hw⟩ ⟨_, _, [.slice A8_4_0 q.pits.length c8_4_0, .slice A8_4_1 q.stores.length c8_4_1, .int .i64 q.player], rfl, ⟨(Ty.mono _ f8_6 ((x12.vis.trans x18.vis).trans hw.vis)), (Ty.mono _ f8_9 ((x12.vis.trans x18.vis).trans hw.vis)), rfl, trivial⟩, Mem.boxR (i := 1) rfl 0 3 w hw⟩ (by omega) (by omega))) ?_
          rintro v20 _ u22 ⟨h21, rfl⟩ x22
          obtain ⟨vs23, rfl, hv23⟩ := h21
          obtain ⟨v23_0, vs23, rfl, hw23_0, hv23⟩ := cellsOk_cons hv23
          obtain ⟨v23_1, vs23, rfl, hw23_1, hv23⟩ := cellsOk_cons hv23
          obtain rfl := cellsOk_nil hv23
          obtain ⟨A24_3, c24_3, A24_4, c24_4, rfl, h24_3, h24_4, bl24_3, bh24_3, bl24_4, bh24_4⟩ := open_Result hw23_0
          obtain rfl : v23_1 = .int .i64 ((M.make r q ((M.bOpt (M.optsR r q d)).move)).2) := hw23_1
          refine JL.q (OpP.q (p_move rfl)) ?_
          refine JL.q (OpP.q (p_extract rfl rfl)) ?_
          refine JL.q (OpP.q (p_extract rfl rfl)) ?_
          refine JL.e (e_alloc zero_74) ?_
          rintro _ _ _ ⟨b25, rfl, rfl, rfl⟩ _
          refine JL.s (e_store (i := 0) (c' := [.int .i64 (((M.make r q ((M.bOpt (M.optsR r q d)).move)).1).move), .int .i64 (((M.make r q ((M.bOpt (M.optsR r q d)).move)).1).gain), .bool (((M.make r q ((M.bOpt (M.optsR r q d)).move)).1).again), .slice A24_3 (((((M.make r q ((M.bOpt (M.optsR r q d)).move)).1).next).pits).length) c24_3, .slice A24_4 (((((M.make r q ((M.bOpt (M.optsR r q d)).move)).1).next).stores).length) c24_4, .int .i64 ((((M.make r q ((M.bOpt (M.optsR r q d)).move)).1).next).player)]) ty_74 rfl rfl rfl rfl rfl rfl rfl rfl) ?_
          rintro _ _ _ ⟨rfl, rfl⟩ _
          refine JL.q (OpP.q (p_assign rfl)) ?_
          refine JL.nil ?_
          refine Js.seq ?_
          refine Js.region ?_
          refine JL.q (OpP.q (p_move rfl)) ?_
          refine JL.q (OpP.q (p_move rfl)) ?_
          refine JL.e (e_buildSlice (vs := [.int .i64 ((M.bOpt (M.optsR r q d)).move)]) el_24 rfl rfl rfl rfl rfl rfl) ?_
          rintro _ _ _ ⟨b26, rfl, rfl, hl27, rfl⟩ _
          refine JL.e (e_append (i := 2) (n' := (out ++ [((M.bOpt (M.optsR r q d)).move)]).length) (vs' := ints_ (out ++ [((M.bOpt (M.optsR r q d)).move)])) el_24 rfl rfl rfl rfl (src_row (i := 0) und_24 rfl rfl) (by omega) (by omega) (by first | omega | (simp only [List.length_append, List.length_cons, List.length_nil] <;> omega)) (by simp [ints_])) ?_
          rintro v28 _ _ ⟨⟨g29, rfl⟩, rfl⟩ _
          refine JL.fact (row_form' (i := 2) rfl) (fun hf30 => ?_)
          obtain ⟨A30, c30, rfl, bl30, bh30⟩ := hf30
          refine JL.q (OpP.q (p_assign rfl)) ?_
          refine JL.nil ?_
          refine Js.seq ?_
          refine Js.region ?_
          refine JL.q (OpP.q (p_fieldAddr fld_74_3 rfl)) ?_
          refine JL.q (q_loadN ty_33 rfl (Mem.boxR (i := 1) rfl 3 3) rfl rfl) ?_
          refine JL.s (e_store (i := 3) (c' := [.slice A24_3 (((((M.make r q ((M.bOpt (M.optsR r q d)).move)).1).next).pits).length) c24_3, .slice A24_4 (((((M.make r q ((M.bOpt (M.optsR r q d)).move)).1).next).stores).length) c24_4, .int .i64 ((((M.make r q ((M.bOpt (M.optsR r q d)).move)).1).next).player)]) ty_33 rfl rfl rfl rfl rfl rfl rfl rfl) ?_
          rintro _ _ _ ⟨rfl, rfl⟩ _
          refine JL.nil ?_
          refine Js.region ?_
          refine JL.q (OpP.q (p_move rfl)) ?_
          refine JL.q (OpP.q (p_sub rfl rfl (IntWalk.i64_in _ (by omega)))) ?_
          refine JL.q (OpP.q (p_assign rfl)) ?_
          refine JL.nil ?_
          refine Js.blockEnd ?_
          refine Js.drop (i := 0) rfl rfl (fun u31 x31 => ?_)
          refine Js.drop (i := 0) rfl rfl (fun u32 x32 => ?_)
          exact Js.again ⟨d - 1, out ++ [((M.bOpt (M.optsR r q d)).move)], (((M.make r q ((M.bOpt (M.optsR r q d)).move)).1).next), _, _, _, _, _, _, _, rfl, rfl, (((((x8.trans x12).trans x18).trans x22).trans x31).trans x32), by exact hL2, by exact (M.okP_len hL2.ok).1, by exact (M.okP_len hL2.ok).2, by have := hL2.ln; have := hL2.lo; have := hL.hi; omega, by first | omega | (simp only [List.length_append, List.length_cons, List.length_nil] <;> omega), by first | omega | (simp only [List.length_append, List.length_cons, List.length_nil] <;> omega), (Ty.mono _ h24_3 (x31.vis.trans x32.vis)), by first | omega | (simp only [List.length_append, List.length_cons, List.length_nil] <;> omega), by first | omega | (simp only [List.length_append, List.length_cons, List.length_nil] <;> omega), (Ty.mono _ h24_4 (x31.vis.trans x32.vis)), by first | omega | (simp only [List.length_append, List.length_cons, List.length_nil] <;> omega), by first | omega | (simp only [List.length_append, List.length_cons, List.length_nil] <;> omega), rfl⟩ (by omega) ⟨rfl, rfl, rfl, rfl, trivial⟩
      ·
        have h9' := h9
        try simp only [decide_eq_false_iff_not, Int.not_lt] at h9'
        have hE := (M.lineR_yes hz).trans (hL.done (by have := h9'; omega))
        refine Js.exit (fun _ _ => rfl) ?_
        refine Js.seq ?_
        refine Js.region ?_
        refine JL.q (OpP.q (p_move rfl)) ?_
        refine JL.q (OpP.q (p_assign rfl)) ?_
        refine JL.q (OpP.q (p_assign rfl)) ?_
        refine JL.nil ?_
        refine Js.ret (R := RO w (Ty.tup [Ty.ints 2 (M.lineR r p depth), Ty.int (M.srchC r p depth)])) @Try.results20 (fun _ _ => rfl) (ResOk.tmp rfl (ResOk.tmp rfl ResOk.nil)) (fun w1 hw => ?_)
        have hx := hw.ext (x8)
        exact ret_own (ps := [(0, (Value.ownBlock (.slice A8_11 out.length c8_11)).toList)]) hw hx ⟨_, rfl, ⟨_, _, rfl, (ints_row (xs := out) (hw.pr (i := 0) rfl) (show out = M.lineR r p depth by first | (rw [hE]; done) | (rw [hc9]; done) | (rw [hz]; done))), ⟨_, _, rfl, ⟨by first | (rw [hE]; done) | (rw [hc9]; done) | (rw [hz]; done), rfl⟩, rfl⟩⟩⟩ (Pick.cons (j := 0) rfl (List.sublist_append_left _ _) rfl Pick.nil) (by simp [List.flatten, outV])

end Go.Proofs.Ytinkeciedmjjmaa

/- Walks: K56. -/
import Derived.Test.YtjgohnaobbphpaaGreatDoorZaA3
import Derived.Test.YtjgohnaobbphpaaGreatDoorZaA8
import Derived.Test.YtjgohnaobbphpaaGreatDoorZaA4
import Derived.Test.YtjgohnaobbphpaaGreatDoorZaA7
set_option linter.unusedSimpArgs false
set_option linter.unusedVariables false
set_option maxRecDepth 100000
attribute [local irreducible] Go.Proofs.YtjgohnaobbphpaaGreatDoor.gv
set_option maxHeartbeats 8000000
namespace Go.Proofs.YtjgohnaobbphpaaGreatDoor
open Go.RowKit
theorem c_spec_l11Fact (f : M.Fct) {v_f : Value} {w : World} (h_f : (Ty.agg (cFact f)).ok w v_f) : RetV Tryz.prog 53 [v_f] w (.bool (M.canW f)) := by
 revert v_f; apply opn
 refine enter @Tryz.func53 @Tryz.ntmps53 rfl rfl ?_
 refine zent ?_
 refine zS <| zb rfl fun b1 => Qa rfl <| zN <| Qa rfl <| zJ <| zS <| Qf fh rfl <| Q0 0 rfl rfl rfl <| Qe rfl rfl <| JL.nil ?_
 refine zi (fun h2 h2' => ?_) fun h2 h2' => ?_
 ·
  refine Js.region <| Qa rfl <| zJ <| zS <| Qf fh rfl <| Q0 0 rfl rfl rfl <| JL.nil <| Js.block <| Js.seq <| zS <| Qe rfl rfl <| Qa rfl <| JL.nil ?_
  refine zi (fun h3 h3' => ?_) fun h3 h3' => ?_
  ·
   refine Js.skip ?_
   refine Js.condT rfl h3 ?_
   refine zS <| Qf fh rfl <| Q0 0 rfl rfl rfl <| Qm rfl <| zv rfl (fun w hw => c_spec_l00In f.place (-1) 15) <| Qm rfl <| zg (Gd.t1 rfl rfl rfl) (fun hc => p_fieldAddr fld_37_2.h rfl) <| zgq (Gd.t1 rfl rfl rfl) (fun hc => q_load1 ty_2.h (gh hc rfl) (Mem.box (i := 0) rfl rfl)) <| zgv (Gd.t1 rfl rfl rfl) (fun hc => (opds_3 (gh hc rfl) rfl rfl)) (fun hc => (fun w hw => c_spec_l00In f.count 1 96)) ?_
   refine Qq (p_pickAnd rfl rfl rfl) <| Qa rfl <| JL.nil ?_
   refine zR (Up.refl _ _) ?_
   first | (rw [M.canW_p (low := -1) (by omega) (by simp [*])]; simp [outV, *]; done) | (rw [M.canW_p (low := 0) (by omega) (by simp [*])]; simp [outV, *]; done) | (rw [M.canW_w (by omega)]; simp [outV, *]; done) | (rw [M.canW_o (by omega) (by omega) (by omega) (by omega) (by omega) (by omega)]; simp [outV]; done)
  refine zS <| Qe rfl rfl <| Qa rfl <| JL.nil ?_
  refine Js.condT rfl h2 ?_
  refine Js.skip ?_
  refine Js.condT rfl h2 ?_
  refine zS <| Qf fh rfl <| Q0 0 rfl rfl rfl <| Qm rfl <| zv rfl (fun w hw => c_spec_l00In f.place (-1) 15) <| Qm rfl <| zg (Gd.t1 rfl rfl rfl) (fun hc => p_fieldAddr fld_37_2.h rfl) <| zgq (Gd.t1 rfl rfl rfl) (fun hc => q_load1 ty_2.h (gh hc rfl) (Mem.box (i := 0) rfl rfl)) <| zgv (Gd.t1 rfl rfl rfl) (fun hc => (opds_3 (gh hc rfl) rfl rfl)) (fun hc => (fun w hw => c_spec_l00In f.count 1 96)) ?_
  refine Qq (p_pickAnd rfl rfl rfl) <| Qa rfl <| JL.nil ?_
  refine zR (Up.refl _ _) ?_
  first | (rw [M.canW_p (low := -1) (by omega) (by simp [*])]; simp [outV, *]; done) | (rw [M.canW_p (low := 0) (by omega) (by simp [*])]; simp [outV, *]; done) | (rw [M.canW_w (by omega)]; simp [outV, *]; done) | (rw [M.canW_o (by omega) (by omega) (by omega) (by omega) (by omega) (by omega)]; simp [outV]; done)
 refine Js.skip <| Js.seq <| zS <| Qf fh rfl <| Q0 0 rfl rfl rfl <| JL.nil <| Js.block <| Js.seq <| zS <| Qe rfl rfl <| Qa rfl <| JL.nil ?_
 refine zi (fun h4 h4' => ?_) fun h4 h4' => ?_
 ·
  refine Js.skip ?_
  refine Js.condT rfl h4 ?_
  refine zS <| Qf fh rfl <| Q0 0 rfl rfl rfl <| Qm rfl <| zv rfl (fun w hw => c_spec_l00In f.place 0 15) <| Qm rfl <| zg (Gd.t1 rfl rfl rfl) (fun hc => p_fieldAddr fld_37_2.h rfl) <| zgq (Gd.t1 rfl rfl rfl) (fun hc => q_load1 ty_2.h (gh hc rfl) (Mem.box (i := 0) rfl rfl)) <| zgv (Gd.t1 rfl rfl rfl) (fun hc => (opds_3 (gh hc rfl) rfl rfl)) (fun hc => (fun w hw => c_spec_l00In f.count 1 96)) ?_
  refine Qq (p_pickAnd rfl rfl rfl) <| Qa rfl <| JL.nil ?_
  refine zR (Up.refl _ _) ?_
  first | (rw [M.canW_p (low := -1) (by omega) (by simp [*])]; simp [outV, *]; done) | (rw [M.canW_p (low := 0) (by omega) (by simp [*])]; simp [outV, *]; done) | (rw [M.canW_w (by omega)]; simp [outV, *]; done) | (rw [M.canW_o (by omega) (by omega) (by omega) (by omega) (by omega) (by omega)]; simp [outV]; done)
 refine zS <| Qe rfl rfl <| Qa rfl <| JL.nil ?_
 refine Js.condF rfl h2 ?_
 refine zS <| Qe rfl rfl <| Qa rfl <| JL.nil ?_
 refine zi (fun h5 h5' => ?_) fun h5 h5' => ?_
 ·
  refine Js.skip ?_
  refine Js.condT rfl h5 ?_
  refine zS <| Qf fh rfl <| Q0 0 rfl rfl rfl <| Qm rfl <| zv rfl (fun w hw => c_spec_l00In f.place 0 15) <| Qm rfl <| zg (Gd.t1 rfl rfl rfl) (fun hc => p_fieldAddr fld_37_2.h rfl) <| zgq (Gd.t1 rfl rfl rfl) (fun hc => q_load1 ty_2.h (gh hc rfl) (Mem.box (i := 0) rfl rfl)) <| zgv (Gd.t1 rfl rfl rfl) (fun hc => (opds_3 (gh hc rfl) rfl rfl)) (fun hc => (fun w hw => c_spec_l00In f.count 1 96)) ?_
  refine Qq (p_pickAnd rfl rfl rfl) <| Qa rfl <| JL.nil ?_
  refine zR (Up.refl _ _) ?_
  first | (rw [M.canW_p (low := -1) (by omega) (by simp [*])]; simp [outV, *]; done) | (rw [M.canW_p (low := 0) (by omega) (by simp [*])]; simp [outV, *]; done) | (rw [M.canW_w (by omega)]; simp [outV, *]; done) | (rw [M.canW_o (by omega) (by omega) (by omega) (by omega) (by omega) (by omega)]; simp [outV]; done)
 refine Js.region <| Qe rfl rfl <| Qa rfl <| JL.nil ?_
 refine zi (fun h6 h6' => ?_) fun h6 h6' => ?_
 ·
  refine zS <| Qf fh rfl <| Q0 0 rfl rfl rfl <| Qm rfl <| zv rfl (fun w hw => c_spec_l00In f.place 0 15) <| Qm rfl <| zg (Gd.t1 rfl rfl rfl) (fun hc => p_fieldAddr fld_37_2.h rfl) <| zgq (Gd.t1 rfl rfl rfl) (fun hc => q_load1 ty_2.h (gh hc rfl) (Mem.box (i := 0) rfl rfl)) <| zgv (Gd.t1 rfl rfl rfl) (fun hc => (opds_3 (gh hc rfl) rfl rfl)) (fun hc => (fun w hw => c_spec_l00In f.count 1 96)) ?_
  refine Qq (p_pickAnd rfl rfl rfl) <| Qa rfl <| JL.nil ?_
  refine zR (Up.refl _ _) ?_
  first | (rw [M.canW_p (low := -1) (by omega) (by simp [*])]; simp [outV, *]; done) | (rw [M.canW_p (low := 0) (by omega) (by simp [*])]; simp [outV, *]; done) | (rw [M.canW_w (by omega)]; simp [outV, *]; done) | (rw [M.canW_o (by omega) (by omega) (by omega) (by omega) (by omega) (by omega)]; simp [outV]; done)
 refine Js.seq <| zS <| Qe rfl rfl <| Qa rfl <| JL.nil ?_
 refine zi (fun h7 h7' => ?_) fun h7 h7' => ?_
 ·
  refine Js.skip ?_
  refine Js.condT rfl h7 ?_
  refine zS <| Qf fh rfl <| Q0 0 rfl rfl rfl <| Qe rfl rfl <| Qm rfl <| zg (Gd.t1 rfl rfl rfl) (fun hc => p_fieldAddr fld_37_2.h rfl) <| zgq (Gd.t1 rfl rfl rfl) (fun hc => q_load1 ty_2.h (gh hc rfl) (Mem.box (i := 0) rfl rfl)) <| zg (Gd.t1 rfl rfl rfl) (fun hc => p_eql (gh hc rfl) rfl) <| Qq (p_pickAnd rfl rfl rfl) <| Qa rfl <| JL.nil ?_
  refine zR (Up.refl _ _) ?_
  first | (rw [M.canW_p (low := -1) (by omega) (by simp [*])]; simp [outV, *]; done) | (rw [M.canW_p (low := 0) (by omega) (by simp [*])]; simp [outV, *]; done) | (rw [M.canW_w (by omega)]; simp [outV, *]; done) | (rw [M.canW_o (by omega) (by omega) (by omega) (by omega) (by omega) (by omega)]; simp [outV]; done)
 refine Js.region <| Qe rfl rfl <| Qa rfl <| JL.nil ?_
 refine zi (fun h8 h8' => ?_) fun h8 h8' => ?_
 ·
  refine zS <| Qf fh rfl <| Q0 0 rfl rfl rfl <| Qe rfl rfl <| Qm rfl <| zg (Gd.t1 rfl rfl rfl) (fun hc => p_fieldAddr fld_37_2.h rfl) <| zgq (Gd.t1 rfl rfl rfl) (fun hc => q_load1 ty_2.h (gh hc rfl) (Mem.box (i := 0) rfl rfl)) <| zg (Gd.t1 rfl rfl rfl) (fun hc => p_eql (gh hc rfl) rfl) <| Qq (p_pickAnd rfl rfl rfl) <| Qa rfl <| JL.nil ?_
  refine zR (Up.refl _ _) ?_
  first | (rw [M.canW_p (low := -1) (by omega) (by simp [*])]; simp [outV, *]; done) | (rw [M.canW_p (low := 0) (by omega) (by simp [*])]; simp [outV, *]; done) | (rw [M.canW_w (by omega)]; simp [outV, *]; done) | (rw [M.canW_o (by omega) (by omega) (by omega) (by omega) (by omega) (by omega)]; simp [outV]; done)
 refine Js.skip <| Js.blockEnd <| zS <| Qa rfl <| JL.nil ?_
 refine zR (Up.refl _ _) ?_
 first | (rw [M.canW_p (low := -1) (by omega) (by simp [*])]; simp [outV, *]; done) | (rw [M.canW_p (low := 0) (by omega) (by simp [*])]; simp [outV, *]; done) | (rw [M.canW_w (by omega)]; simp [outV, *]; done) | (rw [M.canW_o (by omega) (by omega) (by omega) (by omega) (by omega) (by omega)]; simp [outV]; done)
theorem c_spec_FactText (f : M.Fct) {v_f : Value} {w : World} (h_f : (Ty.agg (cFact f)).ok w v_f) (r0 : -9223372036854775808 ≤ f.count := by exact om_) (r1 : f.count ≤ 9223372036854775807 := by exact om_) (r2 : -9223372036854775808 ≤ f.place := by exact om_) (r3 : f.place ≤ 9223372036854775807 := by exact om_) : RetV Tryz.prog 20 [v_f] w (.string (sB (M.factT f))) := by
 revert v_f; apply opn
 refine enter @Tryz.func20 @Tryz.ntmps20 rfl rfl ?_
 refine zent ?_
 refine zS <| zb rfl fun b1 => Qa rfl <| zJ <| zS <| Q9 0 rfl rfl ?_
 refine zv rfl (fun w hw => c_spec_l11Fact f (ok_ hw)) <| Qt rfl <| JL.nil ?_
 refine zi (fun h2 h2' => ?_) fun h2 h2' => ?_
 ·
  have hE := M.factT_n (f := f) (by simpa using h2)
  refine zS <| Qa rfl <| JL.nil ?_
  refine zR (Up.refl _ _) ?_
  first | (rw [hE]; done) | (rw [hE]; rfl)
 have hE := M.factT_y (f := f) (by simpa using h2)
 refine Js.skip <| zS <| Q9 0 rfl rfl ?_
 refine zv rfl (fun w hw => c_spec_l11Text f (ok_ hw)) <| Qa rfl <| JL.nil ?_
 refine zR (Up.refl _ _) ?_
 first | (rw [hE]; done) | (rw [hE]; rfl)
theorem c_spec_WhyNot (r : M.Rul) {v_r : Value} (p : M.Pos) {v_p : Value} (move : Int) {w : World} (h_r : (Ty.agg (cRules r)).ok w v_r) (h_p : (Ty.agg (cPosition p)).ok w v_p) (r0 : p.pits.length ≤ 4194304 := by exact om_) (r1 : p.stores.length ≤ 4194304 := by exact om_) : RetV Tryz.prog 12 [v_r, v_p, .int .i64 move] w (.tuple #[.string (sB ((M.whyR r p move).1)), .int .i64 ((M.whyR r p move).2)]) := by
 revert v_r; apply opn
 revert v_p; apply opn
 intro A1 c1 h1 bl1 bh1 A2 c2 h2 bl2 bh2
 refine enter @Tryz.func12 @Tryz.ntmps12 rfl rfl ?_
 refine zent ?_
 refine zS <| zb rfl fun b3 => zb rfl fun b4 => Qa rfl <| Qa rfl <| zN <| Q9 1 rfl rfl ?_
 refine Q9 0 rfl rfl ?_
 refine Qm rfl <| zv rfl (fun w hw => c_spec_MoveFault r p move (ok_ hw) (ok_ hw)) <| Qa rfl <| zJ <| zS <| Qm rfl <| Qe rfl rfl <| JL.nil ?_
 refine zi (fun h5 h5' => ?_) fun h5 h5' => ?_
 ·
  have hE2 : (M.make r p move).2 = 1 := by simpa using h5
  have hE := M.whyR_1 hE2
  refine zS <| Qm rfl <| Qa rfl <| Qa rfl <| JL.nil ?_
  refine zR (Up.refl _ _) ?_
  first | (rw [hE]; done) | (rw [hE]; rfl) | (rw [hE, hE2]; rfl)
 have n1 : ¬ (M.make r p move).2 = 1 := by simpa using h5
 refine Js.skip <| Js.seq <| zS <| Qm rfl <| Qe rfl rfl <| JL.nil ?_
 refine zi (fun h6 h6' => ?_) fun h6 h6' => ?_
 ·
  have hE := M.whyR_0 (r := r) (p := p) (move := move) (by simpa using h6)
  refine zS <| Qa rfl <| Qa rfl <| JL.nil ?_
  refine zR (Up.refl _ _) ?_
  first | (rw [hE]; done) | (rw [hE]; rfl) | (rw [hE, hE2]; rfl)
 have n0 : ¬ (M.make r p move).2 = 0 := by simpa using h6
 have hE := M.whyR_w n0 n1 rfl
 refine Js.skip <| zS <| Qm rfl <| Qm rfl <| zv rfl (fun w hw => c_spec_l11Why r p move ((M.make r p move).2) (ok_ hw) (ok_ hw) (r2 := rfl) (r3 := n0) (r4 := n1)) <| Qa rfl <| Qa rfl <| JL.nil ?_
 refine zR (Up.refl _ _) ?_
 first | (rw [hE]; done) | (rw [hE]; rfl) | (rw [hE, hE2]; rfl)
theorem c_spec_ReadFact (s : List UInt8) {w : World} (r0 : s.length ≤ 4194304 := by exact om_) : Ret Tryz.prog 17 [.string (sB s)] w (Ty.tup [Ty.agg (cFact ((M.readF s).1)), Ty.bool ((M.readF s).2)]) := by
 refine enter @Tryz.func17 @Tryz.ntmps17 rfl rfl ?_
 refine zent ?_
 refine zS <| za zeh fun b1 => Qa rfl <| zN <| Qm rfl <| zp rfl (fun w hw => c_spec_l01Split s 32) ?_
 intro u2 x2 A3 c3 h3 bl3 bh3
 refine Qa rfl <| zN <| Qb ?_
 refine za zeh fun b4 => zw 0 rfl rfl rfl ?_
 refine zJ <| zS <| Qm rfl <| Qz rfl <| Qe rfl rfl <| JL.nil ?_
 refine zi (fun h5 h5' => ?_) fun h5 h5' => ?_
 ·
  have hl4 : (M.split (M.u8 32) s).length = 4 := by have := h5'; omega
  change (M.split 32 s).length = 4 at hl4
  obtain ⟨ye6, hye6⟩ : ∃ x, (M.split (M.u8 32) s)[1]? = some x := ⟨_, List.getElem?_eq_getElem (by omega)⟩
  have hw1 := M.wn_get (s := s) (k := 1) (show (M.split 32 s)[1]? = some ye6 from hye6)
  have hm1 := M.split_mem 32 s _ (List.mem_of_getElem? hye6)
  have hy7 := hye6
  obtain ⟨b7, o7, he7, hc7⟩ := strs_elem h3 hy7
  obtain ⟨ye8, hye8⟩ : ∃ x, (M.split (M.u8 32) s)[3]? = some x := ⟨_, List.getElem?_eq_getElem (by omega)⟩
  have hw3 := M.wn_get (s := s) (k := 3) (show (M.split 32 s)[3]? = some ye8 from hye8)
  have hm3 := M.split_mem 32 s _ (List.mem_of_getElem? hye8)
  have hy9 := hye8
  obtain ⟨b9, o9, he9, hc9⟩ := strs_elem h3 hy9
  refine zS <| Qm rfl <| Qq (p_indexAddr el_31 rfl rfl (by omega) (by omega) he7) <| QC hc7 rfl <| zv rfl (fun w hw => c_spec_l01Number ye6) <| Qm rfl <| Qx rfl rfl <| Qx rfl rfl <| Qa rfl <| Qa rfl <| zN <| Qm rfl <| Qq (p_indexAddr el_31 rfl rfl (by omega) (by omega) he9) <| QC hc9 rfl ?_
  refine zv rfl (fun w hw => c_spec_l01Number ye8) <| Qm rfl <| Qx rfl rfl <| Qx rfl rfl <| Qa rfl <| Qa rfl <| zJ <| zS <| Qm rfl <| Qt rfl <| JL.nil ?_
  refine zi (fun h10 h10' => ?_) fun h10 h10' => ?_
  ·
   have hP : (if (M.num (M.wn s 3)).2 = true then (M.num (M.wn s 3)).1 else -1) = -1 := by rw [hw3]; exact if_neg (by simpa using h10)
   have hp4 : 0 < (M.split (M.u8 32) s).length := M.split_p 32 s
   obtain ⟨ye11, hye11⟩ : ∃ x, (M.split (M.u8 32) s)[0]? = some x := ⟨_, List.getElem?_eq_getElem (by omega)⟩
   have hw0 := M.wn_get (s := s) (k := 0) (show (M.split 32 s)[0]? = some ye11 from hye11)
   have hm0 := M.split_mem 32 s _ (List.mem_of_getElem? hye11)
   have hy12 := hye11
   obtain ⟨b12, o12, he12, hc12⟩ := strs_elem h3 hy12
   refine Js.region <| Qa rfl <| zN <| Qm rfl <| Qf fh rfl <| zw 0 rfl rfl rfl ?_
   refine zG <| Qm rfl <| Qf fh rfl <| zw 0 rfl rfl rfl ?_
   refine zJ <| zS <| Qm rfl <| Qq (p_indexAddr el_31 rfl rfl (by omega) (by omega) he12) <| QC hc12 rfl <| JL.nil <| Js.block <| zS <| Qq (p_eqlT und_9 rfl rfl) <| Qa rfl <| JL.nil ?_
   refine zi (fun h13 h13' => ?_) fun h13 h13' => ?_
   ·
    have hz : M.wn s 0 = ([116, 97, 107, 101] : List UInt8) := by rw [hw0]; simpa using h13
    have hK : M.kindOf (M.wn s 0) = 1 := by rw [hz]; decide
    have hf9 : M.facS s = (M.Fct.mk 1 (-1) ((M.num ye6).1)) := by first | exact (M.facS_n hn4 hK) | (rw [M.facS_4 hl4 hK hP, hw1]; done) | (rw [M.facS_4 hl4 hK hP, hw1, hw3]; done)
    have hfb := M.facS_bd s
    rw [hf9] at hfb
    refine Js.region <| Qf fh rfl <| zw 0 rfl rfl rfl ?_
    refine JL.nil <| Js.blockEnd <| Js.seq <| Js.seq ?_
    dsimp only at hfb
    refine Js.region <| Q9 0 rfl rfl ?_
    refine zv rfl (fun w hw => c_spec_l11Fact (M.Fct.mk 1 (-1) ((M.num ye6).1)) (ok_ hw)) <| Qt rfl <| Qm rfl <| zgq (Gd.f1 rfl rfl rfl) (fun hc => L9 0 rfl rfl) <| zgv (Gd.f1 rfl rfl rfl) (fun hc => (opds_1 (gh hc rfl))) (fun hc => (fun w hw => c_spec_l11Text (M.Fct.mk 1 (-1) ((M.num ye6).1)) (ok_ hw) (r0 := (by dsimp only; omega)) (r1 := (by dsimp only; omega)) (r2 := (by dsimp only; omega)) (r3 := (by dsimp only; omega)))) ?_
    refine zg (Gd.f1 rfl rfl rfl) (fun hc => p_move rfl) <| zg (Gd.f1 rfl rfl rfl) (fun hc => p_neqT und_9 (gh hc rfl) (gh hc rfl)) <| Qq (p_pickOr rfl rfl rfl) <| JL.nil ?_
    refine zi (fun h14 h14' => ?_) fun h14 h14' => ?_
    ·
     have hE := M.readF_nS hf9 (fun ⟨q1, q2⟩ => by have h9 := h14; simp [q1, q2] at h9)
     have hq0 : 0 = ((M.readF s).1).kind := rp_ hE
     have hq1 : 0 = ((M.readF s).1).place := rp_ hE
     have hq2 : 0 = ((M.readF s).1).count := rp_ hE
     have hq3 : false = (M.readF s).2 := rp_ hE
     refine zS <| Qb ?_
     refine zw 1 rfl rfl rfl ?_
     refine Qa rfl <| JL.nil ?_
     exact zro x2
    have hE := M.readF_yS hf9 (by have h9 := h14; simp at h9; exact h9.1) (by have h9 := h14; simp at h9; exact h9.2)
    have hq0 : 1 = ((M.readF s).1).kind := rp_ hE
    have hq1 : (-1) = ((M.readF s).1).place := rp_ hE
    have hq2 : ((M.num ye6).1) = ((M.readF s).1).count := rp_ hE
    have hq3 : true = (M.readF s).2 := rp_ hE
    refine Js.skip <| zS <| Q9 0 rfl rfl ?_
    refine zw 1 rfl rfl rfl ?_
    refine Qa rfl <| JL.nil ?_
    exact zro x2
   have n1 : ¬ M.wn s 0 = ([116, 97, 107, 101] : List UInt8) := by rw [hw0]; simpa using h13
   refine zS <| Qq (p_eqlT und_9 rfl rfl) <| Qa rfl <| JL.nil ?_
   refine zi (fun h15 h15' => ?_) fun h15 h15' => ?_
   ·
    have hz : M.wn s 0 = ([115, 111, 119] : List UInt8) := by rw [hw0]; simpa using h15
    have hK : M.kindOf (M.wn s 0) = 2 := by rw [hz]; decide
    have hf9 : M.facS s = (M.Fct.mk 2 (-1) ((M.num ye6).1)) := by first | exact (M.facS_n hn4 hK) | (rw [M.facS_4 hl4 hK hP, hw1]; done) | (rw [M.facS_4 hl4 hK hP, hw1, hw3]; done)
    have hfb := M.facS_bd s
    rw [hf9] at hfb
    refine Js.region <| Qf fh rfl <| zw 0 rfl rfl rfl ?_
    refine JL.nil <| Js.blockEnd <| Js.seq <| Js.seq ?_
    dsimp only at hfb
    refine Js.region <| Q9 0 rfl rfl ?_
    refine zv rfl (fun w hw => c_spec_l11Fact (M.Fct.mk 2 (-1) ((M.num ye6).1)) (ok_ hw)) <| Qt rfl <| Qm rfl <| zgq (Gd.f1 rfl rfl rfl) (fun hc => L9 0 rfl rfl) <| zgv (Gd.f1 rfl rfl rfl) (fun hc => (opds_1 (gh hc rfl))) (fun hc => (fun w hw => c_spec_l11Text (M.Fct.mk 2 (-1) ((M.num ye6).1)) (ok_ hw) (r0 := (by dsimp only; omega)) (r1 := (by dsimp only; omega)) (r2 := (by dsimp only; omega)) (r3 := (by dsimp only; omega)))) ?_
    refine zg (Gd.f1 rfl rfl rfl) (fun hc => p_move rfl) <| zg (Gd.f1 rfl rfl rfl) (fun hc => p_neqT und_9 (gh hc rfl) (gh hc rfl)) <| Qq (p_pickOr rfl rfl rfl) <| JL.nil ?_
    refine zi (fun h16 h16' => ?_) fun h16 h16' => ?_
    ·
     have hE := M.readF_nS hf9 (fun ⟨q1, q2⟩ => by have h9 := h16; simp [q1, q2] at h9)
     have hq0 : 0 = ((M.readF s).1).kind := rp_ hE
     have hq1 : 0 = ((M.readF s).1).place := rp_ hE
     have hq2 : 0 = ((M.readF s).1).count := rp_ hE
     have hq3 : false = (M.readF s).2 := rp_ hE
     refine zS <| Qb ?_
     refine zw 1 rfl rfl rfl ?_
     refine Qa rfl <| JL.nil ?_
     exact zro x2
    have hE := M.readF_yS hf9 (by have h9 := h16; simp at h9; exact h9.1) (by have h9 := h16; simp at h9; exact h9.2)
    have hq0 : 2 = ((M.readF s).1).kind := rp_ hE
    have hq1 : (-1) = ((M.readF s).1).place := rp_ hE
    have hq2 : ((M.num ye6).1) = ((M.readF s).1).count := rp_ hE
    have hq3 : true = (M.readF s).2 := rp_ hE
    refine Js.skip <| zS <| Q9 0 rfl rfl ?_
    refine zw 1 rfl rfl rfl ?_
    refine Qa rfl <| JL.nil ?_
    exact zro x2
   have n2 : ¬ M.wn s 0 = ([115, 111, 119] : List UInt8) := by rw [hw0]; simpa using h15
   refine zS <| Qq (p_eqlT und_9 rfl rfl) <| Qa rfl <| JL.nil ?_
   refine zi (fun h17 h17' => ?_) fun h17 h17' => ?_
   ·
    have hz : M.wn s 0 = ([99, 97, 112, 116, 117, 114, 101] : List UInt8) := by rw [hw0]; simpa using h17
    have hK : M.kindOf (M.wn s 0) = 3 := by rw [hz]; decide
    have hf9 : M.facS s = (M.Fct.mk 3 (-1) ((M.num ye6).1)) := by first | exact (M.facS_n hn4 hK) | (rw [M.facS_4 hl4 hK hP, hw1]; done) | (rw [M.facS_4 hl4 hK hP, hw1, hw3]; done)
    have hfb := M.facS_bd s
    rw [hf9] at hfb
    refine Js.region <| Qf fh rfl <| zw 0 rfl rfl rfl ?_
    refine JL.nil <| Js.blockEnd <| Js.seq <| Js.seq ?_
    dsimp only at hfb
    refine Js.region <| Q9 0 rfl rfl ?_
    refine zv rfl (fun w hw => c_spec_l11Fact (M.Fct.mk 3 (-1) ((M.num ye6).1)) (ok_ hw)) <| Qt rfl <| Qm rfl <| zgq (Gd.f1 rfl rfl rfl) (fun hc => L9 0 rfl rfl) <| zgv (Gd.f1 rfl rfl rfl) (fun hc => (opds_1 (gh hc rfl))) (fun hc => (fun w hw => c_spec_l11Text (M.Fct.mk 3 (-1) ((M.num ye6).1)) (ok_ hw) (r0 := (by dsimp only; omega)) (r1 := (by dsimp only; omega)) (r2 := (by dsimp only; omega)) (r3 := (by dsimp only; omega)))) ?_
    refine zg (Gd.f1 rfl rfl rfl) (fun hc => p_move rfl) <| zg (Gd.f1 rfl rfl rfl) (fun hc => p_neqT und_9 (gh hc rfl) (gh hc rfl)) <| Qq (p_pickOr rfl rfl rfl) <| JL.nil ?_
    refine zi (fun h18 h18' => ?_) fun h18 h18' => ?_
    ·
     have hE := M.readF_nS hf9 (fun ⟨q1, q2⟩ => by have h9 := h18; simp [q1, q2] at h9)
     have hq0 : 0 = ((M.readF s).1).kind := rp_ hE
     have hq1 : 0 = ((M.readF s).1).place := rp_ hE
     have hq2 : 0 = ((M.readF s).1).count := rp_ hE
     have hq3 : false = (M.readF s).2 := rp_ hE
     refine zS <| Qb ?_
     refine zw 1 rfl rfl rfl ?_
     refine Qa rfl <| JL.nil ?_
     exact zro x2
    have hE := M.readF_yS hf9 (by have h9 := h18; simp at h9; exact h9.1) (by have h9 := h18; simp at h9; exact h9.2)
    have hq0 : 3 = ((M.readF s).1).kind := rp_ hE
    have hq1 : (-1) = ((M.readF s).1).place := rp_ hE
    have hq2 : ((M.num ye6).1) = ((M.readF s).1).count := rp_ hE
    have hq3 : true = (M.readF s).2 := rp_ hE
    refine Js.skip <| zS <| Q9 0 rfl rfl ?_
    refine zw 1 rfl rfl rfl ?_
    refine Qa rfl <| JL.nil ?_
    exact zro x2
   have n3 : ¬ M.wn s 0 = ([99, 97, 112, 116, 117, 114, 101] : List UInt8) := by rw [hw0]; simpa using h17
   refine zS <| Qq (p_eqlT und_9 rfl rfl) <| Qa rfl <| JL.nil ?_
   refine zi (fun h19 h19' => ?_) fun h19 h19' => ?_
   ·
    have hz : M.wn s 0 = ([115, 112, 97, 114, 101] : List UInt8) := by rw [hw0]; simpa using h19
    have hK : M.kindOf (M.wn s 0) = 4 := by rw [hz]; decide
    have hf9 : M.facS s = (M.Fct.mk 4 (-1) ((M.num ye6).1)) := by first | exact (M.facS_n hn4 hK) | (rw [M.facS_4 hl4 hK hP, hw1]; done) | (rw [M.facS_4 hl4 hK hP, hw1, hw3]; done)
    have hfb := M.facS_bd s
    rw [hf9] at hfb
    refine Js.region <| Qf fh rfl <| zw 0 rfl rfl rfl ?_
    refine JL.nil <| Js.blockEnd <| Js.seq <| Js.seq ?_
    dsimp only at hfb
    refine Js.region <| Q9 0 rfl rfl ?_
    refine zv rfl (fun w hw => c_spec_l11Fact (M.Fct.mk 4 (-1) ((M.num ye6).1)) (ok_ hw)) <| Qt rfl <| Qm rfl <| zgq (Gd.f1 rfl rfl rfl) (fun hc => L9 0 rfl rfl) <| zgv (Gd.f1 rfl rfl rfl) (fun hc => (opds_1 (gh hc rfl))) (fun hc => (fun w hw => c_spec_l11Text (M.Fct.mk 4 (-1) ((M.num ye6).1)) (ok_ hw) (r0 := (by dsimp only; omega)) (r1 := (by dsimp only; omega)) (r2 := (by dsimp only; omega)) (r3 := (by dsimp only; omega)))) ?_
    refine zg (Gd.f1 rfl rfl rfl) (fun hc => p_move rfl) <| zg (Gd.f1 rfl rfl rfl) (fun hc => p_neqT und_9 (gh hc rfl) (gh hc rfl)) <| Qq (p_pickOr rfl rfl rfl) <| JL.nil ?_
    refine zi (fun h20 h20' => ?_) fun h20 h20' => ?_
    ·
     have hE := M.readF_nS hf9 (fun ⟨q1, q2⟩ => by have h9 := h20; simp [q1, q2] at h9)
     have hq0 : 0 = ((M.readF s).1).kind := rp_ hE
     have hq1 : 0 = ((M.readF s).1).place := rp_ hE
     have hq2 : 0 = ((M.readF s).1).count := rp_ hE
     have hq3 : false = (M.readF s).2 := rp_ hE
     refine zS <| Qb ?_
     refine zw 1 rfl rfl rfl ?_
     refine Qa rfl <| JL.nil ?_
     exact zro x2
    have hE := M.readF_yS hf9 (by have h9 := h20; simp at h9; exact h9.1) (by have h9 := h20; simp at h9; exact h9.2)
    have hq0 : 4 = ((M.readF s).1).kind := rp_ hE
    have hq1 : (-1) = ((M.readF s).1).place := rp_ hE
    have hq2 : ((M.num ye6).1) = ((M.readF s).1).count := rp_ hE
    have hq3 : true = (M.readF s).2 := rp_ hE
    refine Js.skip <| zS <| Q9 0 rfl rfl ?_
    refine zw 1 rfl rfl rfl ?_
    refine Qa rfl <| JL.nil ?_
    exact zro x2
   have n4 : ¬ M.wn s 0 = ([115, 112, 97, 114, 101] : List UInt8) := by rw [hw0]; simpa using h19
   refine zS <| Qq (p_eqlT und_9 rfl rfl) <| Qa rfl <| JL.nil ?_
   refine zi (fun h21 h21' => ?_) fun h21 h21' => ?_
   ·
    have hz : M.wn s 0 = ([97, 103, 97, 105, 110] : List UInt8) := by rw [hw0]; simpa using h21
    have hK : M.kindOf (M.wn s 0) = 5 := by rw [hz]; decide
    have hf9 : M.facS s = (M.Fct.mk 5 (-1) ((M.num ye6).1)) := by first | exact (M.facS_n hn4 hK) | (rw [M.facS_4 hl4 hK hP, hw1]; done) | (rw [M.facS_4 hl4 hK hP, hw1, hw3]; done)
    have hfb := M.facS_bd s
    rw [hf9] at hfb
    refine Js.region <| Qf fh rfl <| zw 0 rfl rfl rfl ?_
    refine JL.nil <| Js.blockEnd <| Js.seq <| Js.seq ?_
    dsimp only at hfb
    refine Js.region <| Q9 0 rfl rfl ?_
    refine zv rfl (fun w hw => c_spec_l11Fact (M.Fct.mk 5 (-1) ((M.num ye6).1)) (ok_ hw)) <| Qt rfl <| Qm rfl <| zgq (Gd.f1 rfl rfl rfl) (fun hc => L9 0 rfl rfl) <| zgv (Gd.f1 rfl rfl rfl) (fun hc => (opds_1 (gh hc rfl))) (fun hc => (fun w hw => c_spec_l11Text (M.Fct.mk 5 (-1) ((M.num ye6).1)) (ok_ hw) (r0 := (by dsimp only; omega)) (r1 := (by dsimp only; omega)) (r2 := (by dsimp only; omega)) (r3 := (by dsimp only; omega)))) ?_
    refine zg (Gd.f1 rfl rfl rfl) (fun hc => p_move rfl) <| zg (Gd.f1 rfl rfl rfl) (fun hc => p_neqT und_9 (gh hc rfl) (gh hc rfl)) <| Qq (p_pickOr rfl rfl rfl) <| JL.nil ?_
    refine zi (fun h22 h22' => ?_) fun h22 h22' => ?_
    ·
     have hE := M.readF_nS hf9 (fun ⟨q1, q2⟩ => by have h9 := h22; simp [q1, q2] at h9)
     have hq0 : 0 = ((M.readF s).1).kind := rp_ hE
     have hq1 : 0 = ((M.readF s).1).place := rp_ hE
     have hq2 : 0 = ((M.readF s).1).count := rp_ hE
     have hq3 : false = (M.readF s).2 := rp_ hE
     refine zS <| Qb ?_
     refine zw 1 rfl rfl rfl ?_
     refine Qa rfl <| JL.nil ?_
     exact zro x2
    have hE := M.readF_yS hf9 (by have h9 := h22; simp at h9; exact h9.1) (by have h9 := h22; simp at h9; exact h9.2)
    have hq0 : 5 = ((M.readF s).1).kind := rp_ hE
    have hq1 : (-1) = ((M.readF s).1).place := rp_ hE
    have hq2 : ((M.num ye6).1) = ((M.readF s).1).count := rp_ hE
    have hq3 : true = (M.readF s).2 := rp_ hE
    refine Js.skip <| zS <| Q9 0 rfl rfl ?_
    refine zw 1 rfl rfl rfl ?_
    refine Qa rfl <| JL.nil ?_
    exact zro x2
   have n5 : ¬ M.wn s 0 = ([97, 103, 97, 105, 110] : List UInt8) := by rw [hw0]; simpa using h21
   refine zS <| Qq (p_eqlT und_9 rfl rfl) <| Qa rfl <| JL.nil ?_
   refine zi (fun h23 h23' => ?_) fun h23 h23' => ?_
   ·
    have hz : M.wn s 0 = ([116, 117, 114, 110] : List UInt8) := by rw [hw0]; simpa using h23
    have hK : M.kindOf (M.wn s 0) = 6 := by rw [hz]; decide
    have hf9 : M.facS s = (M.Fct.mk 6 (-1) ((M.num ye6).1)) := by first | exact (M.facS_n hn4 hK) | (rw [M.facS_4 hl4 hK hP, hw1]; done) | (rw [M.facS_4 hl4 hK hP, hw1, hw3]; done)
    have hfb := M.facS_bd s
    rw [hf9] at hfb
    refine Js.region <| Qf fh rfl <| zw 0 rfl rfl rfl ?_
    refine JL.nil <| Js.blockEnd <| Js.seq <| Js.seq ?_
    dsimp only at hfb
    refine Js.region <| Q9 0 rfl rfl ?_
    refine zv rfl (fun w hw => c_spec_l11Fact (M.Fct.mk 6 (-1) ((M.num ye6).1)) (ok_ hw)) <| Qt rfl <| Qm rfl <| zgq (Gd.f1 rfl rfl rfl) (fun hc => L9 0 rfl rfl) <| zgv (Gd.f1 rfl rfl rfl) (fun hc => (opds_1 (gh hc rfl))) (fun hc => (fun w hw => c_spec_l11Text (M.Fct.mk 6 (-1) ((M.num ye6).1)) (ok_ hw) (r0 := (by dsimp only; omega)) (r1 := (by dsimp only; omega)) (r2 := (by dsimp only; omega)) (r3 := (by dsimp only; omega)))) ?_
    refine zg (Gd.f1 rfl rfl rfl) (fun hc => p_move rfl) <| zg (Gd.f1 rfl rfl rfl) (fun hc => p_neqT und_9 (gh hc rfl) (gh hc rfl)) <| Qq (p_pickOr rfl rfl rfl) <| JL.nil ?_
    refine zi (fun h24 h24' => ?_) fun h24 h24' => ?_
    ·
     have hE := M.readF_nS hf9 (fun ⟨q1, q2⟩ => by have h9 := h24; simp [q1, q2] at h9)
     have hq0 : 0 = ((M.readF s).1).kind := rp_ hE
     have hq1 : 0 = ((M.readF s).1).place := rp_ hE
     have hq2 : 0 = ((M.readF s).1).count := rp_ hE
     have hq3 : false = (M.readF s).2 := rp_ hE
     refine zS <| Qb ?_
     refine zw 1 rfl rfl rfl ?_
     refine Qa rfl <| JL.nil ?_
     exact zro x2
    have hE := M.readF_yS hf9 (by have h9 := h24; simp at h9; exact h9.1) (by have h9 := h24; simp at h9; exact h9.2)
    have hq0 : 6 = ((M.readF s).1).kind := rp_ hE
    have hq1 : (-1) = ((M.readF s).1).place := rp_ hE
    have hq2 : ((M.num ye6).1) = ((M.readF s).1).count := rp_ hE
    have hq3 : true = (M.readF s).2 := rp_ hE
    refine Js.skip <| zS <| Q9 0 rfl rfl ?_
    refine zw 1 rfl rfl rfl ?_
    refine Qa rfl <| JL.nil ?_
    exact zro x2
   have n6 : ¬ M.wn s 0 = ([116, 117, 114, 110] : List UInt8) := by rw [hw0]; simpa using h23
   have hK := M.kind_no n1 n2 n3 n4 n5 n6
   have hf9 : M.facS s = (M.Fct.mk 0 (-1) ((M.num ye6).1)) := by first | exact (M.facS_n hn4 hK) | (rw [M.facS_4 hl4 hK hP, hw1]; done) | (rw [M.facS_4 hl4 hK hP, hw1, hw3]; done)
   have hfb := M.facS_bd s
   rw [hf9] at hfb
   refine Js.skip <| Js.blockEnd <| Js.seq <| Js.seq ?_
   dsimp only at hfb
   refine Js.region <| Q9 0 rfl rfl ?_
   refine zv rfl (fun w hw => c_spec_l11Fact (M.Fct.mk 0 (-1) ((M.num ye6).1)) (ok_ hw)) <| Qt rfl <| Qm rfl <| zgq (Gd.f1 rfl rfl rfl) (fun hc => L9 0 rfl rfl) <| zgv (Gd.f1 rfl rfl rfl) (fun hc => (opds_1 (gh hc rfl))) (fun hc => (fun w hw => c_spec_l11Text (M.Fct.mk 0 (-1) ((M.num ye6).1)) (ok_ hw) (r0 := (by dsimp only; omega)) (r1 := (by dsimp only; omega)) (r2 := (by dsimp only; omega)) (r3 := (by dsimp only; omega)))) ?_
   refine zg (Gd.f1 rfl rfl rfl) (fun hc => p_move rfl) <| zg (Gd.f1 rfl rfl rfl) (fun hc => p_neqT und_9 (gh hc rfl) (gh hc rfl)) <| Qq (p_pickOr rfl rfl rfl) <| JL.nil ?_
   refine zi (fun h25 h25' => ?_) fun h25 h25' => ?_
   ·
    have hE := M.readF_nS hf9 (fun ⟨q1, q2⟩ => by have h9 := h25; simp [q1, q2] at h9)
    have hq0 : 0 = ((M.readF s).1).kind := rp_ hE
    have hq1 : 0 = ((M.readF s).1).place := rp_ hE
    have hq2 : 0 = ((M.readF s).1).count := rp_ hE
    have hq3 : false = (M.readF s).2 := rp_ hE
    refine zS <| Qb ?_
    refine zw 1 rfl rfl rfl ?_
    refine Qa rfl <| JL.nil ?_
    exact zro x2
   have hE := M.readF_yS hf9 (by have h9 := h25; simp at h9; exact h9.1) (by have h9 := h25; simp at h9; exact h9.2)
   have hq0 : 0 = ((M.readF s).1).kind := rp_ hE
   have hq1 : (-1) = ((M.readF s).1).place := rp_ hE
   have hq2 : ((M.num ye6).1) = ((M.readF s).1).count := rp_ hE
   have hq3 : true = (M.readF s).2 := rp_ hE
   refine Js.skip <| zS <| Q9 0 rfl rfl ?_
   refine zw 1 rfl rfl rfl ?_
   refine Qa rfl <| JL.nil ?_
   exact zro x2
  have hP := (if_pos (show (M.num (M.wn s 3)).2 = true by rw [hw3]; simpa using h10) : (if (M.num (M.wn s 3)).2 = true then (M.num (M.wn s 3)).1 else -1) = (M.num (M.wn s 3)).1)
  have hp4 : 0 < (M.split (M.u8 32) s).length := M.split_p 32 s
  obtain ⟨ye26, hye26⟩ : ∃ x, (M.split (M.u8 32) s)[0]? = some x := ⟨_, List.getElem?_eq_getElem (by omega)⟩
  have hw0 := M.wn_get (s := s) (k := 0) (show (M.split 32 s)[0]? = some ye26 from hye26)
  have hm0 := M.split_mem 32 s _ (List.mem_of_getElem? hye26)
  have hy27 := hye26
  obtain ⟨b27, o27, he27, hc27⟩ := strs_elem h3 hy27
  refine Js.skip <| zS <| Qm rfl <| Qf fh rfl <| zw 0 rfl rfl rfl ?_
  refine zG <| Qm rfl <| Qf fh rfl <| zw 0 rfl rfl rfl ?_
  refine zJ <| zS <| Qm rfl <| Qq (p_indexAddr el_31 rfl rfl (by omega) (by omega) he27) <| QC hc27 rfl <| JL.nil <| Js.block <| zS <| Qq (p_eqlT und_9 rfl rfl) <| Qa rfl <| JL.nil ?_
  refine zi (fun h28 h28' => ?_) fun h28 h28' => ?_
  ·
   have hz : M.wn s 0 = ([116, 97, 107, 101] : List UInt8) := by rw [hw0]; simpa using h28
   have hK : M.kindOf (M.wn s 0) = 1 := by rw [hz]; decide
   have hf9 : M.facS s = (M.Fct.mk 1 ((M.num ye8).1) ((M.num ye6).1)) := by first | exact (M.facS_n hn4 hK) | (rw [M.facS_4 hl4 hK hP, hw1]; done) | (rw [M.facS_4 hl4 hK hP, hw1, hw3]; done)
   have hfb := M.facS_bd s
   rw [hf9] at hfb
   refine Js.region <| Qf fh rfl <| zw 0 rfl rfl rfl ?_
   refine JL.nil <| Js.blockEnd <| Js.seq <| Js.seq ?_
   dsimp only at hfb
   refine Js.region <| Q9 0 rfl rfl ?_
   refine zv rfl (fun w hw => c_spec_l11Fact (M.Fct.mk 1 ((M.num ye8).1) ((M.num ye6).1)) (ok_ hw)) <| Qt rfl <| Qm rfl <| zgq (Gd.f1 rfl rfl rfl) (fun hc => L9 0 rfl rfl) <| zgv (Gd.f1 rfl rfl rfl) (fun hc => (opds_1 (gh hc rfl))) (fun hc => (fun w hw => c_spec_l11Text (M.Fct.mk 1 ((M.num ye8).1) ((M.num ye6).1)) (ok_ hw) (r0 := (by dsimp only; omega)) (r1 := (by dsimp only; omega)) (r2 := (by dsimp only; omega)) (r3 := (by dsimp only; omega)))) ?_
   refine zg (Gd.f1 rfl rfl rfl) (fun hc => p_move rfl) <| zg (Gd.f1 rfl rfl rfl) (fun hc => p_neqT und_9 (gh hc rfl) (gh hc rfl)) <| Qq (p_pickOr rfl rfl rfl) <| JL.nil ?_
   refine zi (fun h29 h29' => ?_) fun h29 h29' => ?_
   ·
    have hE := M.readF_nS hf9 (fun ⟨q1, q2⟩ => by have h9 := h29; simp [q1, q2] at h9)
    have hq0 : 0 = ((M.readF s).1).kind := rp_ hE
    have hq1 : 0 = ((M.readF s).1).place := rp_ hE
    have hq2 : 0 = ((M.readF s).1).count := rp_ hE
    have hq3 : false = (M.readF s).2 := rp_ hE
    refine zS <| Qb ?_
    refine zw 1 rfl rfl rfl ?_
    refine Qa rfl <| JL.nil ?_
    exact zro x2
   have hE := M.readF_yS hf9 (by have h9 := h29; simp at h9; exact h9.1) (by have h9 := h29; simp at h9; exact h9.2)
   have hq0 : 1 = ((M.readF s).1).kind := rp_ hE
   have hq1 : ((M.num ye8).1) = ((M.readF s).1).place := rp_ hE
   have hq2 : ((M.num ye6).1) = ((M.readF s).1).count := rp_ hE
   have hq3 : true = (M.readF s).2 := rp_ hE
   refine Js.skip <| zS <| Q9 0 rfl rfl ?_
   refine zw 1 rfl rfl rfl ?_
   refine Qa rfl <| JL.nil ?_
   exact zro x2
  have n1 : ¬ M.wn s 0 = ([116, 97, 107, 101] : List UInt8) := by rw [hw0]; simpa using h28
  refine zS <| Qq (p_eqlT und_9 rfl rfl) <| Qa rfl <| JL.nil ?_
  refine zi (fun h30 h30' => ?_) fun h30 h30' => ?_
  ·
   have hz : M.wn s 0 = ([115, 111, 119] : List UInt8) := by rw [hw0]; simpa using h30
   have hK : M.kindOf (M.wn s 0) = 2 := by rw [hz]; decide
   have hf9 : M.facS s = (M.Fct.mk 2 ((M.num ye8).1) ((M.num ye6).1)) := by first | exact (M.facS_n hn4 hK) | (rw [M.facS_4 hl4 hK hP, hw1]; done) | (rw [M.facS_4 hl4 hK hP, hw1, hw3]; done)
   have hfb := M.facS_bd s
   rw [hf9] at hfb
   refine Js.region <| Qf fh rfl <| zw 0 rfl rfl rfl ?_
   refine JL.nil <| Js.blockEnd <| Js.seq <| Js.seq ?_
   dsimp only at hfb
   refine Js.region <| Q9 0 rfl rfl ?_
   refine zv rfl (fun w hw => c_spec_l11Fact (M.Fct.mk 2 ((M.num ye8).1) ((M.num ye6).1)) (ok_ hw)) <| Qt rfl <| Qm rfl <| zgq (Gd.f1 rfl rfl rfl) (fun hc => L9 0 rfl rfl) <| zgv (Gd.f1 rfl rfl rfl) (fun hc => (opds_1 (gh hc rfl))) (fun hc => (fun w hw => c_spec_l11Text (M.Fct.mk 2 ((M.num ye8).1) ((M.num ye6).1)) (ok_ hw) (r0 := (by dsimp only; omega)) (r1 := (by dsimp only; omega)) (r2 := (by dsimp only; omega)) (r3 := (by dsimp only; omega)))) ?_
   refine zg (Gd.f1 rfl rfl rfl) (fun hc => p_move rfl) <| zg (Gd.f1 rfl rfl rfl) (fun hc => p_neqT und_9 (gh hc rfl) (gh hc rfl)) <| Qq (p_pickOr rfl rfl rfl) <| JL.nil ?_
   refine zi (fun h31 h31' => ?_) fun h31 h31' => ?_
   ·
    have hE := M.readF_nS hf9 (fun ⟨q1, q2⟩ => by have h9 := h31; simp [q1, q2] at h9)
    have hq0 : 0 = ((M.readF s).1).kind := rp_ hE
    have hq1 : 0 = ((M.readF s).1).place := rp_ hE
    have hq2 : 0 = ((M.readF s).1).count := rp_ hE
    have hq3 : false = (M.readF s).2 := rp_ hE
    refine zS <| Qb ?_
    refine zw 1 rfl rfl rfl ?_
    refine Qa rfl <| JL.nil ?_
    exact zro x2
   have hE := M.readF_yS hf9 (by have h9 := h31; simp at h9; exact h9.1) (by have h9 := h31; simp at h9; exact h9.2)
   have hq0 : 2 = ((M.readF s).1).kind := rp_ hE
   have hq1 : ((M.num ye8).1) = ((M.readF s).1).place := rp_ hE
   have hq2 : ((M.num ye6).1) = ((M.readF s).1).count := rp_ hE
   have hq3 : true = (M.readF s).2 := rp_ hE
   refine Js.skip <| zS <| Q9 0 rfl rfl ?_
   refine zw 1 rfl rfl rfl ?_
   refine Qa rfl <| JL.nil ?_
   exact zro x2
  have n2 : ¬ M.wn s 0 = ([115, 111, 119] : List UInt8) := by rw [hw0]; simpa using h30
  refine zS <| Qq (p_eqlT und_9 rfl rfl) <| Qa rfl <| JL.nil ?_
  refine zi (fun h32 h32' => ?_) fun h32 h32' => ?_
  ·
   have hz : M.wn s 0 = ([99, 97, 112, 116, 117, 114, 101] : List UInt8) := by rw [hw0]; simpa using h32
   have hK : M.kindOf (M.wn s 0) = 3 := by rw [hz]; decide
   have hf9 : M.facS s = (M.Fct.mk 3 ((M.num ye8).1) ((M.num ye6).1)) := by first | exact (M.facS_n hn4 hK) | (rw [M.facS_4 hl4 hK hP, hw1]; done) | (rw [M.facS_4 hl4 hK hP, hw1, hw3]; done)
   have hfb := M.facS_bd s
   rw [hf9] at hfb
   refine Js.region <| Qf fh rfl <| zw 0 rfl rfl rfl ?_
   refine JL.nil <| Js.blockEnd <| Js.seq <| Js.seq ?_
   dsimp only at hfb
   refine Js.region <| Q9 0 rfl rfl ?_
   refine zv rfl (fun w hw => c_spec_l11Fact (M.Fct.mk 3 ((M.num ye8).1) ((M.num ye6).1)) (ok_ hw)) <| Qt rfl <| Qm rfl <| zgq (Gd.f1 rfl rfl rfl) (fun hc => L9 0 rfl rfl) <| zgv (Gd.f1 rfl rfl rfl) (fun hc => (opds_1 (gh hc rfl))) (fun hc => (fun w hw => c_spec_l11Text (M.Fct.mk 3 ((M.num ye8).1) ((M.num ye6).1)) (ok_ hw) (r0 := (by dsimp only; omega)) (r1 := (by dsimp only; omega)) (r2 := (by dsimp only; omega)) (r3 := (by dsimp only; omega)))) ?_
   refine zg (Gd.f1 rfl rfl rfl) (fun hc => p_move rfl) <| zg (Gd.f1 rfl rfl rfl) (fun hc => p_neqT und_9 (gh hc rfl) (gh hc rfl)) <| Qq (p_pickOr rfl rfl rfl) <| JL.nil ?_
   refine zi (fun h33 h33' => ?_) fun h33 h33' => ?_
   ·
    have hE := M.readF_nS hf9 (fun ⟨q1, q2⟩ => by have h9 := h33; simp [q1, q2] at h9)
    have hq0 : 0 = ((M.readF s).1).kind := rp_ hE
    have hq1 : 0 = ((M.readF s).1).place := rp_ hE
    have hq2 : 0 = ((M.readF s).1).count := rp_ hE
    have hq3 : false = (M.readF s).2 := rp_ hE
    refine zS <| Qb ?_
    refine zw 1 rfl rfl rfl ?_
    refine Qa rfl <| JL.nil ?_
    exact zro x2
   have hE := M.readF_yS hf9 (by have h9 := h33; simp at h9; exact h9.1) (by have h9 := h33; simp at h9; exact h9.2)
   have hq0 : 3 = ((M.readF s).1).kind := rp_ hE
   have hq1 : ((M.num ye8).1) = ((M.readF s).1).place := rp_ hE
   have hq2 : ((M.num ye6).1) = ((M.readF s).1).count := rp_ hE
   have hq3 : true = (M.readF s).2 := rp_ hE
   refine Js.skip <| zS <| Q9 0 rfl rfl ?_
   refine zw 1 rfl rfl rfl ?_
   refine Qa rfl <| JL.nil ?_
   exact zro x2
  have n3 : ¬ M.wn s 0 = ([99, 97, 112, 116, 117, 114, 101] : List UInt8) := by rw [hw0]; simpa using h32
  refine zS <| Qq (p_eqlT und_9 rfl rfl) <| Qa rfl <| JL.nil ?_
  refine zi (fun h34 h34' => ?_) fun h34 h34' => ?_
  ·
   have hz : M.wn s 0 = ([115, 112, 97, 114, 101] : List UInt8) := by rw [hw0]; simpa using h34
   have hK : M.kindOf (M.wn s 0) = 4 := by rw [hz]; decide
   have hf9 : M.facS s = (M.Fct.mk 4 ((M.num ye8).1) ((M.num ye6).1)) := by first | exact (M.facS_n hn4 hK) | (rw [M.facS_4 hl4 hK hP, hw1]; done) | (rw [M.facS_4 hl4 hK hP, hw1, hw3]; done)
   have hfb := M.facS_bd s
   rw [hf9] at hfb
   refine Js.region <| Qf fh rfl <| zw 0 rfl rfl rfl ?_
   refine JL.nil <| Js.blockEnd <| Js.seq <| Js.seq ?_
   dsimp only at hfb
   refine Js.region <| Q9 0 rfl rfl ?_
   refine zv rfl (fun w hw => c_spec_l11Fact (M.Fct.mk 4 ((M.num ye8).1) ((M.num ye6).1)) (ok_ hw)) <| Qt rfl <| Qm rfl <| zgq (Gd.f1 rfl rfl rfl) (fun hc => L9 0 rfl rfl) <| zgv (Gd.f1 rfl rfl rfl) (fun hc => (opds_1 (gh hc rfl))) (fun hc => (fun w hw => c_spec_l11Text (M.Fct.mk 4 ((M.num ye8).1) ((M.num ye6).1)) (ok_ hw) (r0 := (by dsimp only; omega)) (r1 := (by dsimp only; omega)) (r2 := (by dsimp only; omega)) (r3 := (by dsimp only; omega)))) ?_
   refine zg (Gd.f1 rfl rfl rfl) (fun hc => p_move rfl) <| zg (Gd.f1 rfl rfl rfl) (fun hc => p_neqT und_9 (gh hc rfl) (gh hc rfl)) <| Qq (p_pickOr rfl rfl rfl) <| JL.nil ?_
   refine zi (fun h35 h35' => ?_) fun h35 h35' => ?_
   ·
    have hE := M.readF_nS hf9 (fun ⟨q1, q2⟩ => by have h9 := h35; simp [q1, q2] at h9)
    have hq0 : 0 = ((M.readF s).1).kind := rp_ hE
    have hq1 : 0 = ((M.readF s).1).place := rp_ hE
    have hq2 : 0 = ((M.readF s).1).count := rp_ hE
    have hq3 : false = (M.readF s).2 := rp_ hE
    refine zS <| Qb ?_
    refine zw 1 rfl rfl rfl ?_
    refine Qa rfl <| JL.nil ?_
    exact zro x2
   have hE := M.readF_yS hf9 (by have h9 := h35; simp at h9; exact h9.1) (by have h9 := h35; simp at h9; exact h9.2)
   have hq0 : 4 = ((M.readF s).1).kind := rp_ hE
   have hq1 : ((M.num ye8).1) = ((M.readF s).1).place := rp_ hE
   have hq2 : ((M.num ye6).1) = ((M.readF s).1).count := rp_ hE
   have hq3 : true = (M.readF s).2 := rp_ hE
   refine Js.skip <| zS <| Q9 0 rfl rfl ?_
   refine zw 1 rfl rfl rfl ?_
   refine Qa rfl <| JL.nil ?_
   exact zro x2
  have n4 : ¬ M.wn s 0 = ([115, 112, 97, 114, 101] : List UInt8) := by rw [hw0]; simpa using h34
  refine zS <| Qq (p_eqlT und_9 rfl rfl) <| Qa rfl <| JL.nil ?_
  refine zi (fun h36 h36' => ?_) fun h36 h36' => ?_
  ·
   have hz : M.wn s 0 = ([97, 103, 97, 105, 110] : List UInt8) := by rw [hw0]; simpa using h36
   have hK : M.kindOf (M.wn s 0) = 5 := by rw [hz]; decide
   have hf9 : M.facS s = (M.Fct.mk 5 ((M.num ye8).1) ((M.num ye6).1)) := by first | exact (M.facS_n hn4 hK) | (rw [M.facS_4 hl4 hK hP, hw1]; done) | (rw [M.facS_4 hl4 hK hP, hw1, hw3]; done)
   have hfb := M.facS_bd s
   rw [hf9] at hfb
   refine Js.region <| Qf fh rfl <| zw 0 rfl rfl rfl ?_
   refine JL.nil <| Js.blockEnd <| Js.seq <| Js.seq ?_
   dsimp only at hfb
   refine Js.region <| Q9 0 rfl rfl ?_
   refine zv rfl (fun w hw => c_spec_l11Fact (M.Fct.mk 5 ((M.num ye8).1) ((M.num ye6).1)) (ok_ hw)) <| Qt rfl <| Qm rfl <| zgq (Gd.f1 rfl rfl rfl) (fun hc => L9 0 rfl rfl) <| zgv (Gd.f1 rfl rfl rfl) (fun hc => (opds_1 (gh hc rfl))) (fun hc => (fun w hw => c_spec_l11Text (M.Fct.mk 5 ((M.num ye8).1) ((M.num ye6).1)) (ok_ hw) (r0 := (by dsimp only; omega)) (r1 := (by dsimp only; omega)) (r2 := (by dsimp only; omega)) (r3 := (by dsimp only; omega)))) ?_
   refine zg (Gd.f1 rfl rfl rfl) (fun hc => p_move rfl) <| zg (Gd.f1 rfl rfl rfl) (fun hc => p_neqT und_9 (gh hc rfl) (gh hc rfl)) <| Qq (p_pickOr rfl rfl rfl) <| JL.nil ?_
   refine zi (fun h37 h37' => ?_) fun h37 h37' => ?_
   ·
    have hE := M.readF_nS hf9 (fun ⟨q1, q2⟩ => by have h9 := h37; simp [q1, q2] at h9)
    have hq0 : 0 = ((M.readF s).1).kind := rp_ hE
    have hq1 : 0 = ((M.readF s).1).place := rp_ hE
    have hq2 : 0 = ((M.readF s).1).count := rp_ hE
    have hq3 : false = (M.readF s).2 := rp_ hE
    refine zS <| Qb ?_
    refine zw 1 rfl rfl rfl ?_
    refine Qa rfl <| JL.nil ?_
    exact zro x2
   have hE := M.readF_yS hf9 (by have h9 := h37; simp at h9; exact h9.1) (by have h9 := h37; simp at h9; exact h9.2)
   have hq0 : 5 = ((M.readF s).1).kind := rp_ hE
   have hq1 : ((M.num ye8).1) = ((M.readF s).1).place := rp_ hE
   have hq2 : ((M.num ye6).1) = ((M.readF s).1).count := rp_ hE
   have hq3 : true = (M.readF s).2 := rp_ hE
   refine Js.skip <| zS <| Q9 0 rfl rfl ?_
   refine zw 1 rfl rfl rfl ?_
   refine Qa rfl <| JL.nil ?_
   exact zro x2
  have n5 : ¬ M.wn s 0 = ([97, 103, 97, 105, 110] : List UInt8) := by rw [hw0]; simpa using h36
  refine zS <| Qq (p_eqlT und_9 rfl rfl) <| Qa rfl <| JL.nil ?_
  refine zi (fun h38 h38' => ?_) fun h38 h38' => ?_
  ·
   have hz : M.wn s 0 = ([116, 117, 114, 110] : List UInt8) := by rw [hw0]; simpa using h38
   have hK : M.kindOf (M.wn s 0) = 6 := by rw [hz]; decide
   have hf9 : M.facS s = (M.Fct.mk 6 ((M.num ye8).1) ((M.num ye6).1)) := by first | exact (M.facS_n hn4 hK) | (rw [M.facS_4 hl4 hK hP, hw1]; done) | (rw [M.facS_4 hl4 hK hP, hw1, hw3]; done)
   have hfb := M.facS_bd s
   rw [hf9] at hfb
   refine Js.region <| Qf fh rfl <| zw 0 rfl rfl rfl ?_
   refine JL.nil <| Js.blockEnd <| Js.seq <| Js.seq ?_
   dsimp only at hfb
   refine Js.region <| Q9 0 rfl rfl ?_
   refine zv rfl (fun w hw => c_spec_l11Fact (M.Fct.mk 6 ((M.num ye8).1) ((M.num ye6).1)) (ok_ hw)) <| Qt rfl <| Qm rfl <| zgq (Gd.f1 rfl rfl rfl) (fun hc => L9 0 rfl rfl) <| zgv (Gd.f1 rfl rfl rfl) (fun hc => (opds_1 (gh hc rfl))) (fun hc => (fun w hw => c_spec_l11Text (M.Fct.mk 6 ((M.num ye8).1) ((M.num ye6).1)) (ok_ hw) (r0 := (by dsimp only; omega)) (r1 := (by dsimp only; omega)) (r2 := (by dsimp only; omega)) (r3 := (by dsimp only; omega)))) ?_
   refine zg (Gd.f1 rfl rfl rfl) (fun hc => p_move rfl) <| zg (Gd.f1 rfl rfl rfl) (fun hc => p_neqT und_9 (gh hc rfl) (gh hc rfl)) <| Qq (p_pickOr rfl rfl rfl) <| JL.nil ?_
   refine zi (fun h39 h39' => ?_) fun h39 h39' => ?_
   ·
    have hE := M.readF_nS hf9 (fun ⟨q1, q2⟩ => by have h9 := h39; simp [q1, q2] at h9)
    have hq0 : 0 = ((M.readF s).1).kind := rp_ hE
    have hq1 : 0 = ((M.readF s).1).place := rp_ hE
    have hq2 : 0 = ((M.readF s).1).count := rp_ hE
    have hq3 : false = (M.readF s).2 := rp_ hE
    refine zS <| Qb ?_
    refine zw 1 rfl rfl rfl ?_
    refine Qa rfl <| JL.nil ?_
    exact zro x2
   have hE := M.readF_yS hf9 (by have h9 := h39; simp at h9; exact h9.1) (by have h9 := h39; simp at h9; exact h9.2)
   have hq0 : 6 = ((M.readF s).1).kind := rp_ hE
   have hq1 : ((M.num ye8).1) = ((M.readF s).1).place := rp_ hE
   have hq2 : ((M.num ye6).1) = ((M.readF s).1).count := rp_ hE
   have hq3 : true = (M.readF s).2 := rp_ hE
   refine Js.skip <| zS <| Q9 0 rfl rfl ?_
   refine zw 1 rfl rfl rfl ?_
   refine Qa rfl <| JL.nil ?_
   exact zro x2
  have n6 : ¬ M.wn s 0 = ([116, 117, 114, 110] : List UInt8) := by rw [hw0]; simpa using h38
  have hK := M.kind_no n1 n2 n3 n4 n5 n6
  have hf9 : M.facS s = (M.Fct.mk 0 ((M.num ye8).1) ((M.num ye6).1)) := by first | exact (M.facS_n hn4 hK) | (rw [M.facS_4 hl4 hK hP, hw1]; done) | (rw [M.facS_4 hl4 hK hP, hw1, hw3]; done)
  have hfb := M.facS_bd s
  rw [hf9] at hfb
  refine Js.skip <| Js.blockEnd <| Js.seq <| Js.seq ?_
  dsimp only at hfb
  refine Js.region <| Q9 0 rfl rfl ?_
  refine zv rfl (fun w hw => c_spec_l11Fact (M.Fct.mk 0 ((M.num ye8).1) ((M.num ye6).1)) (ok_ hw)) <| Qt rfl <| Qm rfl <| zgq (Gd.f1 rfl rfl rfl) (fun hc => L9 0 rfl rfl) <| zgv (Gd.f1 rfl rfl rfl) (fun hc => (opds_1 (gh hc rfl))) (fun hc => (fun w hw => c_spec_l11Text (M.Fct.mk 0 ((M.num ye8).1) ((M.num ye6).1)) (ok_ hw) (r0 := (by dsimp only; omega)) (r1 := (by dsimp only; omega)) (r2 := (by dsimp only; omega)) (r3 := (by dsimp only; omega)))) ?_
  refine zg (Gd.f1 rfl rfl rfl) (fun hc => p_move rfl) <| zg (Gd.f1 rfl rfl rfl) (fun hc => p_neqT und_9 (gh hc rfl) (gh hc rfl)) <| Qq (p_pickOr rfl rfl rfl) <| JL.nil ?_
  refine zi (fun h40 h40' => ?_) fun h40 h40' => ?_
  ·
   have hE := M.readF_nS hf9 (fun ⟨q1, q2⟩ => by have h9 := h40; simp [q1, q2] at h9)
   have hq0 : 0 = ((M.readF s).1).kind := rp_ hE
   have hq1 : 0 = ((M.readF s).1).place := rp_ hE
   have hq2 : 0 = ((M.readF s).1).count := rp_ hE
   have hq3 : false = (M.readF s).2 := rp_ hE
   refine zS <| Qb ?_
   refine zw 1 rfl rfl rfl ?_
   refine Qa rfl <| JL.nil ?_
   exact zro x2
  have hE := M.readF_yS hf9 (by have h9 := h40; simp at h9; exact h9.1) (by have h9 := h40; simp at h9; exact h9.2)
  have hq0 : 0 = ((M.readF s).1).kind := rp_ hE
  have hq1 : ((M.num ye8).1) = ((M.readF s).1).place := rp_ hE
  have hq2 : ((M.num ye6).1) = ((M.readF s).1).count := rp_ hE
  have hq3 : true = (M.readF s).2 := rp_ hE
  refine Js.skip <| zS <| Q9 0 rfl rfl ?_
  refine zw 1 rfl rfl rfl ?_
  refine Qa rfl <| JL.nil ?_
  exact zro x2
 have hn4 : ¬ (M.split (M.u8 32) s).length = 4 := by have := h5'; omega
 change ¬ (M.split 32 s).length = 4 at hn4
 have hp4 : 0 < (M.split (M.u8 32) s).length := M.split_p 32 s
 obtain ⟨ye41, hye41⟩ : ∃ x, (M.split (M.u8 32) s)[0]? = some x := ⟨_, List.getElem?_eq_getElem (by omega)⟩
 have hw0 := M.wn_get (s := s) (k := 0) (show (M.split 32 s)[0]? = some ye41 from hye41)
 have hm0 := M.split_mem 32 s _ (List.mem_of_getElem? hye41)
 have hy42 := hye41
 obtain ⟨b42, o42, he42, hc42⟩ := strs_elem h3 hy42
 refine Js.skip <| Js.seq <| zS <| Qm rfl <| Qq (p_indexAddr el_31 rfl rfl (by omega) (by omega) he42) <| QC hc42 rfl <| JL.nil <| Js.block <| zS <| Qq (p_eqlT und_9 rfl rfl) <| Qa rfl <| JL.nil ?_
 refine zi (fun h43 h43' => ?_) fun h43 h43' => ?_
 ·
  have hz : M.wn s 0 = ([116, 97, 107, 101] : List UInt8) := by rw [hw0]; simpa using h43
  have hK : M.kindOf (M.wn s 0) = 1 := by rw [hz]; decide
  have hf9 : M.facS s = (M.Fct.mk 1 0 0) := by first | exact (M.facS_n hn4 hK) | (rw [M.facS_4 hl4 hK hP, hw1]; done) | (rw [M.facS_4 hl4 hK hP, hw1, hw3]; done)
  have hfb := M.facS_bd s
  rw [hf9] at hfb
  refine Js.region <| Qf fh rfl <| zw 0 rfl rfl rfl ?_
  refine JL.nil <| Js.blockEnd <| Js.seq <| Js.seq ?_
  dsimp only at hfb
  refine Js.region <| Q9 0 rfl rfl ?_
  refine zv rfl (fun w hw => c_spec_l11Fact (M.Fct.mk 1 0 0) (ok_ hw)) <| Qt rfl <| Qm rfl <| zgq (Gd.f1 rfl rfl rfl) (fun hc => L9 0 rfl rfl) <| zgv (Gd.f1 rfl rfl rfl) (fun hc => (opds_1 (gh hc rfl))) (fun hc => (fun w hw => c_spec_l11Text (M.Fct.mk 1 0 0) (ok_ hw) (r0 := (by dsimp only; omega)) (r1 := (by dsimp only; omega)) (r2 := (by dsimp only; omega)) (r3 := (by dsimp only; omega)))) ?_
  refine zg (Gd.f1 rfl rfl rfl) (fun hc => p_move rfl) <| zg (Gd.f1 rfl rfl rfl) (fun hc => p_neqT und_9 (gh hc rfl) (gh hc rfl)) <| Qq (p_pickOr rfl rfl rfl) <| JL.nil ?_
  refine zi (fun h44 h44' => ?_) fun h44 h44' => ?_
  ·
   have hE := M.readF_nS hf9 (fun ⟨q1, q2⟩ => by have h9 := h44; simp [q1, q2] at h9)
   have hq0 : 0 = ((M.readF s).1).kind := rp_ hE
   have hq1 : 0 = ((M.readF s).1).place := rp_ hE
   have hq2 : 0 = ((M.readF s).1).count := rp_ hE
   have hq3 : false = (M.readF s).2 := rp_ hE
   refine zS <| Qb ?_
   refine zw 1 rfl rfl rfl ?_
   refine Qa rfl <| JL.nil ?_
   exact zro x2
  have hE := M.readF_yS hf9 (by have h9 := h44; simp at h9; exact h9.1) (by have h9 := h44; simp at h9; exact h9.2)
  have hq0 : 1 = ((M.readF s).1).kind := rp_ hE
  have hq1 : 0 = ((M.readF s).1).place := rp_ hE
  have hq2 : 0 = ((M.readF s).1).count := rp_ hE
  have hq3 : true = (M.readF s).2 := rp_ hE
  refine Js.skip <| zS <| Q9 0 rfl rfl ?_
  refine zw 1 rfl rfl rfl ?_
  refine Qa rfl <| JL.nil ?_
  exact zro x2
 have n1 : ¬ M.wn s 0 = ([116, 97, 107, 101] : List UInt8) := by rw [hw0]; simpa using h43
 refine zS <| Qq (p_eqlT und_9 rfl rfl) <| Qa rfl <| JL.nil ?_
 refine zi (fun h45 h45' => ?_) fun h45 h45' => ?_
 ·
  have hz : M.wn s 0 = ([115, 111, 119] : List UInt8) := by rw [hw0]; simpa using h45
  have hK : M.kindOf (M.wn s 0) = 2 := by rw [hz]; decide
  have hf9 : M.facS s = (M.Fct.mk 2 0 0) := by first | exact (M.facS_n hn4 hK) | (rw [M.facS_4 hl4 hK hP, hw1]; done) | (rw [M.facS_4 hl4 hK hP, hw1, hw3]; done)
  have hfb := M.facS_bd s
  rw [hf9] at hfb
  refine Js.region <| Qf fh rfl <| zw 0 rfl rfl rfl ?_
  refine JL.nil <| Js.blockEnd <| Js.seq <| Js.seq ?_
  dsimp only at hfb
  refine Js.region <| Q9 0 rfl rfl ?_
  refine zv rfl (fun w hw => c_spec_l11Fact (M.Fct.mk 2 0 0) (ok_ hw)) <| Qt rfl <| Qm rfl <| zgq (Gd.f1 rfl rfl rfl) (fun hc => L9 0 rfl rfl) <| zgv (Gd.f1 rfl rfl rfl) (fun hc => (opds_1 (gh hc rfl))) (fun hc => (fun w hw => c_spec_l11Text (M.Fct.mk 2 0 0) (ok_ hw) (r0 := (by dsimp only; omega)) (r1 := (by dsimp only; omega)) (r2 := (by dsimp only; omega)) (r3 := (by dsimp only; omega)))) ?_
  refine zg (Gd.f1 rfl rfl rfl) (fun hc => p_move rfl) <| zg (Gd.f1 rfl rfl rfl) (fun hc => p_neqT und_9 (gh hc rfl) (gh hc rfl)) <| Qq (p_pickOr rfl rfl rfl) <| JL.nil ?_
  refine zi (fun h46 h46' => ?_) fun h46 h46' => ?_
  ·
   have hE := M.readF_nS hf9 (fun ⟨q1, q2⟩ => by have h9 := h46; simp [q1, q2] at h9)
   have hq0 : 0 = ((M.readF s).1).kind := rp_ hE
   have hq1 : 0 = ((M.readF s).1).place := rp_ hE
   have hq2 : 0 = ((M.readF s).1).count := rp_ hE
   have hq3 : false = (M.readF s).2 := rp_ hE
   refine zS <| Qb ?_
   refine zw 1 rfl rfl rfl ?_
   refine Qa rfl <| JL.nil ?_
   exact zro x2
  have hE := M.readF_yS hf9 (by have h9 := h46; simp at h9; exact h9.1) (by have h9 := h46; simp at h9; exact h9.2)
  have hq0 : 2 = ((M.readF s).1).kind := rp_ hE
  have hq1 : 0 = ((M.readF s).1).place := rp_ hE
  have hq2 : 0 = ((M.readF s).1).count := rp_ hE
  have hq3 : true = (M.readF s).2 := rp_ hE
  refine Js.skip <| zS <| Q9 0 rfl rfl ?_
  refine zw 1 rfl rfl rfl ?_
  refine Qa rfl <| JL.nil ?_
  exact zro x2
 have n2 : ¬ M.wn s 0 = ([115, 111, 119] : List UInt8) := by rw [hw0]; simpa using h45
 refine zS <| Qq (p_eqlT und_9 rfl rfl) <| Qa rfl <| JL.nil ?_
 refine zi (fun h47 h47' => ?_) fun h47 h47' => ?_
 ·
  have hz : M.wn s 0 = ([99, 97, 112, 116, 117, 114, 101] : List UInt8) := by rw [hw0]; simpa using h47
  have hK : M.kindOf (M.wn s 0) = 3 := by rw [hz]; decide
  have hf9 : M.facS s = (M.Fct.mk 3 0 0) := by first | exact (M.facS_n hn4 hK) | (rw [M.facS_4 hl4 hK hP, hw1]; done) | (rw [M.facS_4 hl4 hK hP, hw1, hw3]; done)
  have hfb := M.facS_bd s
  rw [hf9] at hfb
  refine Js.region <| Qf fh rfl <| zw 0 rfl rfl rfl ?_
  refine JL.nil <| Js.blockEnd <| Js.seq <| Js.seq ?_
  dsimp only at hfb
  refine Js.region <| Q9 0 rfl rfl ?_
  refine zv rfl (fun w hw => c_spec_l11Fact (M.Fct.mk 3 0 0) (ok_ hw)) <| Qt rfl <| Qm rfl <| zgq (Gd.f1 rfl rfl rfl) (fun hc => L9 0 rfl rfl) <| zgv (Gd.f1 rfl rfl rfl) (fun hc => (opds_1 (gh hc rfl))) (fun hc => (fun w hw => c_spec_l11Text (M.Fct.mk 3 0 0) (ok_ hw) (r0 := (by dsimp only; omega)) (r1 := (by dsimp only; omega)) (r2 := (by dsimp only; omega)) (r3 := (by dsimp only; omega)))) ?_
  refine zg (Gd.f1 rfl rfl rfl) (fun hc => p_move rfl) <| zg (Gd.f1 rfl rfl rfl) (fun hc => p_neqT und_9 (gh hc rfl) (gh hc rfl)) <| Qq (p_pickOr rfl rfl rfl) <| JL.nil ?_
  refine zi (fun h48 h48' => ?_) fun h48 h48' => ?_
  ·
   have hE := M.readF_nS hf9 (fun ⟨q1, q2⟩ => by have h9 := h48; simp [q1, q2] at h9)
   have hq0 : 0 = ((M.readF s).1).kind := rp_ hE
   have hq1 : 0 = ((M.readF s).1).place := rp_ hE
   have hq2 : 0 = ((M.readF s).1).count := rp_ hE
   have hq3 : false = (M.readF s).2 := rp_ hE
   refine zS <| Qb ?_
   refine zw 1 rfl rfl rfl ?_
   refine Qa rfl <| JL.nil ?_
   exact zro x2
  have hE := M.readF_yS hf9 (by have h9 := h48; simp at h9; exact h9.1) (by have h9 := h48; simp at h9; exact h9.2)
  have hq0 : 3 = ((M.readF s).1).kind := rp_ hE
  have hq1 : 0 = ((M.readF s).1).place := rp_ hE
  have hq2 : 0 = ((M.readF s).1).count := rp_ hE
  have hq3 : true = (M.readF s).2 := rp_ hE
  refine Js.skip <| zS <| Q9 0 rfl rfl ?_
  refine zw 1 rfl rfl rfl ?_
  refine Qa rfl <| JL.nil ?_
  exact zro x2
 have n3 : ¬ M.wn s 0 = ([99, 97, 112, 116, 117, 114, 101] : List UInt8) := by rw [hw0]; simpa using h47
 refine zS <| Qq (p_eqlT und_9 rfl rfl) <| Qa rfl <| JL.nil ?_
 refine zi (fun h49 h49' => ?_) fun h49 h49' => ?_
 ·
  have hz : M.wn s 0 = ([115, 112, 97, 114, 101] : List UInt8) := by rw [hw0]; simpa using h49
  have hK : M.kindOf (M.wn s 0) = 4 := by rw [hz]; decide
  have hf9 : M.facS s = (M.Fct.mk 4 0 0) := by first | exact (M.facS_n hn4 hK) | (rw [M.facS_4 hl4 hK hP, hw1]; done) | (rw [M.facS_4 hl4 hK hP, hw1, hw3]; done)
  have hfb := M.facS_bd s
  rw [hf9] at hfb
  refine Js.region <| Qf fh rfl <| zw 0 rfl rfl rfl ?_
  refine JL.nil <| Js.blockEnd <| Js.seq <| Js.seq ?_
  dsimp only at hfb
  refine Js.region <| Q9 0 rfl rfl ?_
  refine zv rfl (fun w hw => c_spec_l11Fact (M.Fct.mk 4 0 0) (ok_ hw)) <| Qt rfl <| Qm rfl <| zgq (Gd.f1 rfl rfl rfl) (fun hc => L9 0 rfl rfl) <| zgv (Gd.f1 rfl rfl rfl) (fun hc => (opds_1 (gh hc rfl))) (fun hc => (fun w hw => c_spec_l11Text (M.Fct.mk 4 0 0) (ok_ hw) (r0 := (by dsimp only; omega)) (r1 := (by dsimp only; omega)) (r2 := (by dsimp only; omega)) (r3 := (by dsimp only; omega)))) ?_
  refine zg (Gd.f1 rfl rfl rfl) (fun hc => p_move rfl) <| zg (Gd.f1 rfl rfl rfl) (fun hc => p_neqT und_9 (gh hc rfl) (gh hc rfl)) <| Qq (p_pickOr rfl rfl rfl) <| JL.nil ?_
  refine zi (fun h50 h50' => ?_) fun h50 h50' => ?_
  ·
   have hE := M.readF_nS hf9 (fun ⟨q1, q2⟩ => by have h9 := h50; simp [q1, q2] at h9)
   have hq0 : 0 = ((M.readF s).1).kind := rp_ hE
   have hq1 : 0 = ((M.readF s).1).place := rp_ hE
   have hq2 : 0 = ((M.readF s).1).count := rp_ hE
   have hq3 : false = (M.readF s).2 := rp_ hE
   refine zS <| Qb ?_
   refine zw 1 rfl rfl rfl ?_
   refine Qa rfl <| JL.nil ?_
   exact zro x2
  have hE := M.readF_yS hf9 (by have h9 := h50; simp at h9; exact h9.1) (by have h9 := h50; simp at h9; exact h9.2)
  have hq0 : 4 = ((M.readF s).1).kind := rp_ hE
  have hq1 : 0 = ((M.readF s).1).place := rp_ hE
  have hq2 : 0 = ((M.readF s).1).count := rp_ hE
  have hq3 : true = (M.readF s).2 := rp_ hE
  refine Js.skip <| zS <| Q9 0 rfl rfl ?_
  refine zw 1 rfl rfl rfl ?_
  refine Qa rfl <| JL.nil ?_
  exact zro x2
 have n4 : ¬ M.wn s 0 = ([115, 112, 97, 114, 101] : List UInt8) := by rw [hw0]; simpa using h49
 refine zS <| Qq (p_eqlT und_9 rfl rfl) <| Qa rfl <| JL.nil ?_
 refine zi (fun h51 h51' => ?_) fun h51 h51' => ?_
 ·
  have hz : M.wn s 0 = ([97, 103, 97, 105, 110] : List UInt8) := by rw [hw0]; simpa using h51
  have hK : M.kindOf (M.wn s 0) = 5 := by rw [hz]; decide
  have hf9 : M.facS s = (M.Fct.mk 5 0 0) := by first | exact (M.facS_n hn4 hK) | (rw [M.facS_4 hl4 hK hP, hw1]; done) | (rw [M.facS_4 hl4 hK hP, hw1, hw3]; done)
  have hfb := M.facS_bd s
  rw [hf9] at hfb
  refine Js.region <| Qf fh rfl <| zw 0 rfl rfl rfl ?_
  refine JL.nil <| Js.blockEnd <| Js.seq <| Js.seq ?_
  dsimp only at hfb
  refine Js.region <| Q9 0 rfl rfl ?_
  refine zv rfl (fun w hw => c_spec_l11Fact (M.Fct.mk 5 0 0) (ok_ hw)) <| Qt rfl <| Qm rfl <| zgq (Gd.f1 rfl rfl rfl) (fun hc => L9 0 rfl rfl) <| zgv (Gd.f1 rfl rfl rfl) (fun hc => (opds_1 (gh hc rfl))) (fun hc => (fun w hw => c_spec_l11Text (M.Fct.mk 5 0 0) (ok_ hw) (r0 := (by dsimp only; omega)) (r1 := (by dsimp only; omega)) (r2 := (by dsimp only; omega)) (r3 := (by dsimp only; omega)))) ?_
  refine zg (Gd.f1 rfl rfl rfl) (fun hc => p_move rfl) <| zg (Gd.f1 rfl rfl rfl) (fun hc => p_neqT und_9 (gh hc rfl) (gh hc rfl)) <| Qq (p_pickOr rfl rfl rfl) <| JL.nil ?_
  refine zi (fun h52 h52' => ?_) fun h52 h52' => ?_
  ·
   have hE := M.readF_nS hf9 (fun ⟨q1, q2⟩ => by have h9 := h52; simp [q1, q2] at h9)
   have hq0 : 0 = ((M.readF s).1).kind := rp_ hE
   have hq1 : 0 = ((M.readF s).1).place := rp_ hE
   have hq2 : 0 = ((M.readF s).1).count := rp_ hE
   have hq3 : false = (M.readF s).2 := rp_ hE
   refine zS <| Qb ?_
   refine zw 1 rfl rfl rfl ?_
   refine Qa rfl <| JL.nil ?_
   exact zro x2
  have hE := M.readF_yS hf9 (by have h9 := h52; simp at h9; exact h9.1) (by have h9 := h52; simp at h9; exact h9.2)
  have hq0 : 5 = ((M.readF s).1).kind := rp_ hE
  have hq1 : 0 = ((M.readF s).1).place := rp_ hE
  have hq2 : 0 = ((M.readF s).1).count := rp_ hE
  have hq3 : true = (M.readF s).2 := rp_ hE
  refine Js.skip <| zS <| Q9 0 rfl rfl ?_
  refine zw 1 rfl rfl rfl ?_
  refine Qa rfl <| JL.nil ?_
  exact zro x2
 have n5 : ¬ M.wn s 0 = ([97, 103, 97, 105, 110] : List UInt8) := by rw [hw0]; simpa using h51
 refine zS <| Qq (p_eqlT und_9 rfl rfl) <| Qa rfl <| JL.nil ?_
 refine zi (fun h53 h53' => ?_) fun h53 h53' => ?_
 ·
  have hz : M.wn s 0 = ([116, 117, 114, 110] : List UInt8) := by rw [hw0]; simpa using h53
  have hK : M.kindOf (M.wn s 0) = 6 := by rw [hz]; decide
  have hf9 : M.facS s = (M.Fct.mk 6 0 0) := by first | exact (M.facS_n hn4 hK) | (rw [M.facS_4 hl4 hK hP, hw1]; done) | (rw [M.facS_4 hl4 hK hP, hw1, hw3]; done)
  have hfb := M.facS_bd s
  rw [hf9] at hfb
  refine Js.region <| Qf fh rfl <| zw 0 rfl rfl rfl ?_
  refine JL.nil <| Js.blockEnd <| Js.seq <| Js.seq ?_
  dsimp only at hfb
  refine Js.region <| Q9 0 rfl rfl ?_
  refine zv rfl (fun w hw => c_spec_l11Fact (M.Fct.mk 6 0 0) (ok_ hw)) <| Qt rfl <| Qm rfl <| zgq (Gd.f1 rfl rfl rfl) (fun hc => L9 0 rfl rfl) <| zgv (Gd.f1 rfl rfl rfl) (fun hc => (opds_1 (gh hc rfl))) (fun hc => (fun w hw => c_spec_l11Text (M.Fct.mk 6 0 0) (ok_ hw) (r0 := (by dsimp only; omega)) (r1 := (by dsimp only; omega)) (r2 := (by dsimp only; omega)) (r3 := (by dsimp only; omega)))) ?_
  refine zg (Gd.f1 rfl rfl rfl) (fun hc => p_move rfl) <| zg (Gd.f1 rfl rfl rfl) (fun hc => p_neqT und_9 (gh hc rfl) (gh hc rfl)) <| Qq (p_pickOr rfl rfl rfl) <| JL.nil ?_
  refine zi (fun h54 h54' => ?_) fun h54 h54' => ?_
  ·
   have hE := M.readF_nS hf9 (fun ⟨q1, q2⟩ => by have h9 := h54; simp [q1, q2] at h9)
   have hq0 : 0 = ((M.readF s).1).kind := rp_ hE
   have hq1 : 0 = ((M.readF s).1).place := rp_ hE
   have hq2 : 0 = ((M.readF s).1).count := rp_ hE
   have hq3 : false = (M.readF s).2 := rp_ hE
   refine zS <| Qb ?_
   refine zw 1 rfl rfl rfl ?_
   refine Qa rfl <| JL.nil ?_
   exact zro x2
  have hE := M.readF_yS hf9 (by have h9 := h54; simp at h9; exact h9.1) (by have h9 := h54; simp at h9; exact h9.2)
  have hq0 : 6 = ((M.readF s).1).kind := rp_ hE
  have hq1 : 0 = ((M.readF s).1).place := rp_ hE
  have hq2 : 0 = ((M.readF s).1).count := rp_ hE
  have hq3 : true = (M.readF s).2 := rp_ hE
  refine Js.skip <| zS <| Q9 0 rfl rfl ?_
  refine zw 1 rfl rfl rfl ?_
  refine Qa rfl <| JL.nil ?_
  exact zro x2
 have n6 : ¬ M.wn s 0 = ([116, 117, 114, 110] : List UInt8) := by rw [hw0]; simpa using h53
 have hK := M.kind_no n1 n2 n3 n4 n5 n6
 have hf9 : M.facS s = (M.Fct.mk 0 0 0) := by first | exact (M.facS_n hn4 hK) | (rw [M.facS_4 hl4 hK hP, hw1]; done) | (rw [M.facS_4 hl4 hK hP, hw1, hw3]; done)
 have hfb := M.facS_bd s
 rw [hf9] at hfb
 refine Js.skip <| Js.blockEnd <| Js.seq <| Js.seq ?_
 dsimp only at hfb
 refine Js.region <| Q9 0 rfl rfl ?_
 refine zv rfl (fun w hw => c_spec_l11Fact (M.Fct.mk 0 0 0) (ok_ hw)) <| Qt rfl <| Qm rfl <| zgq (Gd.f1 rfl rfl rfl) (fun hc => L9 0 rfl rfl) <| zgv (Gd.f1 rfl rfl rfl) (fun hc => (opds_1 (gh hc rfl))) (fun hc => (fun w hw => c_spec_l11Text (M.Fct.mk 0 0 0) (ok_ hw) (r0 := (by dsimp only; omega)) (r1 := (by dsimp only; omega)) (r2 := (by dsimp only; omega)) (r3 := (by dsimp only; omega)))) ?_
 refine zg (Gd.f1 rfl rfl rfl) (fun hc => p_move rfl) <| zg (Gd.f1 rfl rfl rfl) (fun hc => p_neqT und_9 (gh hc rfl) (gh hc rfl)) <| Qq (p_pickOr rfl rfl rfl) <| JL.nil ?_
 refine zi (fun h55 h55' => ?_) fun h55 h55' => ?_
 ·
  have hE := M.readF_nS hf9 (fun ⟨q1, q2⟩ => by have h9 := h55; simp [q1, q2] at h9)
  have hq0 : 0 = ((M.readF s).1).kind := rp_ hE
  have hq1 : 0 = ((M.readF s).1).place := rp_ hE
  have hq2 : 0 = ((M.readF s).1).count := rp_ hE
  have hq3 : false = (M.readF s).2 := rp_ hE
  refine zS <| Qb ?_
  refine zw 1 rfl rfl rfl ?_
  refine Qa rfl <| JL.nil ?_
  exact zro x2
 have hE := M.readF_yS hf9 (by have h9 := h55; simp at h9; exact h9.1) (by have h9 := h55; simp at h9; exact h9.2)
 have hq0 : 0 = ((M.readF s).1).kind := rp_ hE
 have hq1 : 0 = ((M.readF s).1).place := rp_ hE
 have hq2 : 0 = ((M.readF s).1).count := rp_ hE
 have hq3 : true = (M.readF s).2 := rp_ hE
 refine Js.skip <| zS <| Q9 0 rfl rfl ?_
 refine zw 1 rfl rfl rfl ?_
 refine Qa rfl <| JL.nil ?_
 exact zro x2
theorem c_spec_SameFacts (a : List M.Fct) {v_a : Value} (b : List M.Fct) {v_b : Value} {w : World} (h_a : (Ty.sl 37 3 a.length (lFact a)).ok w v_a) (h_b : (Ty.sl 37 3 b.length (lFact b)).ok w v_b) (r0 : a.length ≤ 4194304 := by exact om_) (r1 : b.length ≤ 4194304 := by exact om_) : RetV Tryz.prog 22 [v_a, v_b] w (.bool (decide (a = b))) := by
 revert v_a; apply opn
 intro A1 c1 h1 bl1 bh1
 have h_a := h1
 revert v_b; apply opn
 intro A2 c2 h2 bl2 bh2
 have h_b := h2
 refine enter @Tryz.func22 @Tryz.ntmps22 rfl rfl ?_
 refine zent ?_
 refine zS <| Qa rfl <| zJ <| zS <| Qm rfl <| Qz rfl <| Qm rfl <| Qz rfl <| Qd rfl rfl <| JL.nil ?_
 refine zi (fun h3 h3' => ?_) fun h3 h3' => ?_
 ·
  have e1 : decide (a = b) = false := by simp; rintro rfl; simp at h3
  refine zS <| Qa rfl <| JL.nil ?_
  refine zR (Up.refl _ _) ?_
  simp [outV, e1]
 have hlen : a.length = b.length := by have := h3'; omega
 refine Js.skip <| Js.seq <| zS <| Qa rfl <| JL.nil <| Js.block ?_
 refine zl [0, 1] (fun F U l os u m => ∃ (k : Nat), l = F [(5, .int .i64 (k : Int))] ∧ os = U [] ∧ (k ≤ a.length) ∧ (a.take k = b.take k) ∧ m = a.length - k) ⟨0, rfl, rfl, zt, by rfl, rfl⟩ ?_
 rintro _ _ u4 _ ⟨k, rfl, rfl, hk, hU, rfl⟩ x4
 refine zn ?_
 refine Js.seq <| zS <| Qm rfl <| Qm rfl <| Qz rfl <| Ql rfl rfl <| JL.nil ?_
 refine zi (fun h5 h5' => ?_) fun h5 h5' => ?_
 ·
  obtain ⟨ye6, hye6⟩ : ∃ x, a[k]? = some x := ⟨_, List.getElem?_eq_getElem (by omega)⟩
  obtain ⟨ye7, hye7⟩ : ∃ x, b[k]? = some x := ⟨_, List.getElem?_eq_getElem (by omega)⟩
  refine Js.skip <| Js.seq <| Js.block <| Js.seq ?_
  refine zdr [] ?_
  refine jM 0 rfl rfl ?_
  refine jM 1 rfl rfl ?_
  have hy8 := hye6
  obtain ⟨b8, o8, he8, hr8⟩ := elem_Fact (Ty.mono _ h1 x4.vis) hy8
  refine jI 2 el_43 rfl rfl rfl he8 ?_
  refine JH.w 3 rfl (fun os' u' hv => LS 0 (hr8.vis hv) rfl) ?_
  refine jM 4 rfl rfl ?_
  refine jM 5 rfl rfl ?_
  have hy9 := hye7
  obtain ⟨b9, o9, he9, hr9⟩ := elem_Fact (Ty.mono _ h2 x4.vis) hy9
  refine jI 6 el_43 rfl rfl rfl he9 ?_
  refine JH.w 7 rfl (fun os' u' hv => LS 0 (hr9.vis hv) rfl) ?_
  refine JH.p 8 rfl (p_neqS (by kernel_rfl) (fun w => eqs_Fact ye6 ye7 w) rfl rfl) ?_
  refine yd ?_
  refine zi (fun h10 h10' => ?_) fun h10 h10' => ?_
  ·
   have e1 : decide (a = b) = false := decide_eq_false (M.upto_ne hye6 hye7 (by simpa using h10))
   refine zS <| Qa rfl <| JL.nil ?_
   refine zR x4 ?_
   simp [outV, e1]
  have hab : ye6 = ye7 := by simpa using h10
  rw [← hab] at hye7
  have hU2 := M.upto_step hU hye6 hye7
  refine Js.skip <| Js.blockEnd <| Js.region <| Qm rfl <| Qp rfl rfl <| Qa rfl <| JL.nil ?_
  exact zag ⟨k + 1, rfl, rfl, zt, by exact hU2, rfl⟩ x4
 have e1 : a = b := M.upto_done hU (by have := h5'; omega) (by have := h5'; omega)
 refine zx ?_
 refine zS <| Qa rfl <| JL.nil ?_
 refine zR x4 ?_
 simp [outV, e1]
theorem c_spec_l11Ask (code : Nat) {v_code : Value} {w : World} (h_code : (Ty.bytes 5 code).ok w v_code) (r0 : code ≤ 1048576 := by exact om_) : Ret Tryz.prog 38 [v_code] w (Ty.tup [Ty.ex (fun (RX : M.Rul) => True) (fun RX => Ty.agg (cRules RX)), Ty.ex (fun (PX : M.Pos) => (PX.pits.length ≤ 4194304 ∧ PX.stores.length ≤ 4194304)) (fun PX => Ty.agg (cPositionL PX)), Ty.ex (fun (KX : Int) => True) (fun KX => Ty.int KX)]) := by
 revert v_code; apply opn
 intro A1 c1 h1 bl1 bh1
 have h_code := h1
 refine enter @Tryz.func38 @Tryz.ntmps38 rfl rfl ?_
 refine zent ?_
 refine zS <| za zeh fun b2 => za zeh fun b3 => Qa rfl <| zN <| Qm rfl <| zcs rfl (fun w hw => c_spec_l00From code (ok_ hw)) ?_
 intro b4
 refine Qa rfl <| zJ <| zS <| Qm rfl <| zB 1 sp_ rfl (fun w hb hw => c_spec_l00Src_one code 0 0 16 hb (ok_ hw)) ?_
 rintro _ _ G5 ⟨X5BX, X5AT, X5SD, rfl, rfl, hX5_0, hX5_1⟩
 refine znl ?_
 refine JL.nil ?_
 refine zi (fun h6 h6' => ?_) fun h6 h6' => ?_
 ·
  refine zS <| Qm rfl <| zB 1 sp_ rfl (fun w hb hw => c_spec_l05Endless code X5AT X5SD hb (ok_ hw)) ?_
  rintro _ _ G7 ⟨X7RX, X7PX, X7KX, X7AT, X7SD, A7rb_0, c7rb_0, g7rb_0, A7rb_1, c7rb_1, g7rb_1, rfl, rfl, bl7_0, bl7_1, bl7_2, bl7_3, hX7_0, hX7_1, hX7_2, hX7_3⟩
  refine znl ?_
  refine Qx rfl rfl <| Qx rfl rfl <| Qx rfl rfl <| zw 6 rfl rfl rfl ?_
  refine zw 5 rfl rfl rfl ?_
  refine Qa rfl <| JL.nil ?_
  exact zro (Up.refl _ _) (g := by exact (gv_tup (gvc (gv_ex X7RX (by first | trivial | assumption | omega | (dsimp only; omega) | (constructor <;> omega)) gv_) (gvc (gv_ex X7PX (by first | trivial | assumption | omega | (dsimp only; omega) | (constructor <;> omega)) (gv_agg (gvc (gv_rxR po_ (by first | rfl | assumption)) (gvc gv_ (gvc gv_ gvn))))) (gvc (gv_ex X7KX (by first | trivial | assumption | omega | (dsimp only; omega) | (constructor <;> omega)) gv_) gvn)))))
 refine Js.skip <| zS <| Qm rfl <| zB 1 sp_ rfl (fun w hb hw => c_spec_l07Draw code X5AT X5SD hb (ok_ hw)) ?_
 rintro _ _ G8 ⟨X8RX, X8PX, X8KX, X8AT, X8SD, A8rb_0, c8rb_0, A8rb_1, c8rb_1, g8rb_1, rfl, rfl, bl8_0, bl8_1, bl8_2, bl8_3, hX8_0, hX8_1, hX8_2, hX8_3⟩
 refine znl ?_
 refine Qx rfl rfl <| Qx rfl rfl <| Qx rfl rfl <| zw 6 rfl rfl rfl ?_
 refine zw 5 rfl rfl rfl ?_
 refine Qa rfl <| JL.nil ?_
 exact zro (Up.refl _ _) (g := by exact (gv_tup (gvc (gv_ex X8RX (by first | trivial | assumption | omega | (dsimp only; omega) | (constructor <;> omega)) gv_) (gvc (gv_ex X8PX (by first | trivial | assumption | omega | (dsimp only; omega) | (constructor <;> omega)) (gv_agg (gvc (gv_rx po_ (by first | rfl | assumption)) (gvc gv_ (gvc gv_ gvn))))) (gvc (gv_ex X8KX (by first | trivial | assumption | omega | (dsimp only; omega) | (constructor <;> omega)) gv_) gvn)))))
theorem c_spec_DrawExplainMove (code : Nat) {v_code : Value} {w : World} (h_code : (Ty.bytes 5 code).ok w v_code) (r0 : code ≤ 1048576 := by exact om_) : Ret Tryz.prog 8 [v_code] w (Ty.tup [Ty.ex (fun (RX : M.Rul) => True) (fun RX => Ty.agg (cRules RX)), Ty.ex (fun (PX : M.Pos) => (PX.pits.length ≤ 4194304 ∧ PX.stores.length ≤ 4194304)) (fun PX => Ty.agg (cPositionL PX)), Ty.ex (fun (KX : Int) => True) (fun KX => Ty.int KX)]) := by
 revert v_code; apply opn
 intro A1 c1 h1 bl1 bh1
 have h_code := h1
 refine enter @Tryz.func8 @Tryz.ntmps8 rfl rfl ?_
 refine zent ?_
 refine zS <| za zeh fun b2 => za zeh fun b3 => Qa rfl <| zN <| Qm rfl <| zc rfl (fun w hw => c_spec_l11Ask code (ok_ hw)) ?_
 intro X5 hX5 X7 hX7 A9 c9 bl9 bh9 A10 c10 bl10 bh10 X11 hX11
 refine Qx rfl rfl <| Qx rfl rfl <| Qx rfl rfl <| zw 3 rfl rfl rfl ?_
 refine zw 2 rfl rfl rfl ?_
 refine Qa rfl <| JL.nil ?_
 exact zro (Up.refl _ _) (g := by exact (gv_tup (gvc (gv_ex X5 (by first | trivial | assumption | omega) gv_) (gvc (gv_ex X7 (by first | trivial | assumption | omega) (gv_agg (gvc (gv_rx po_ (by first | rfl | assumption)) (gvc gv_ (gvc gv_ gvn))))) (gvc (gv_ex X11 (by first | trivial | assumption | omega) gv_) gvn)))))
theorem c_spec_l11One (s_code : Nat) (s_at s_seed : Int) {As_0 : Option Addr} {cs_0 bs : Nat} {w : World} (hb : Bw w [boxO bs [.slice As_0 s_code cs_0, .int .i64 s_at, .int .u64 s_seed] 141]) (hps_0 : (Ty.bytes 5 s_code).ok (offW w (([boxO bs [.slice As_0 s_code cs_0, .int .i64 s_at, .int .u64 s_seed] 141] : List Own).flatMap (·.fp))) (.slice As_0 s_code cs_0)) (r0 : 0 ≤ s_at := by exact om_) (r1 : s_at ≤ 999999980 := by exact om_) (r2 : s_code ≤ 1048576 := by exact om_) : RetB Tryz.prog 47 [.pointer (some ⟨bs, 0, none⟩)] w [boxO bs [.slice As_0 s_code cs_0, .int .i64 s_at, .int .u64 s_seed] 141] (fun v bs' => ∃ (FX : M.Fct) (AT SD : Int), v = .agg #[.int .i64 FX.kind, .int .i64 FX.place, .int .i64 FX.count] ∧ bs' = [boxO bs [.slice As_0 s_code cs_0, .int .i64 AT, .int .u64 SD] 141] ∧ (-2 ≤ FX.place ∧ FX.place ≤ 1000000 ∧ 0 ≤ FX.count ∧ FX.count ≤ 1000000) ∧ (s_at ≤ AT) ∧ (AT ≤ s_at + 20)) := by
 refine enterB hb @Tryz.func47 @Tryz.ntmps47 rfl rfl ?_
 refine zent ?_
 refine Js.trashE ?_
 refine zn ?_
 refine zS <| za zeh fun b1 => zN <| Qm rfl ?_
 refine zhl [1] ?_
 refine zBB 1 sp_ rfl (fun w hb _ hw => c_spec_l00Src_pick s_code s_at s_seed 4 hb (ok_ hw)) ?_
 rintro _ _ G2 ⟨X2KX, X2AT, X2SD, rfl, rfl, hX2_0, hX2_1, hX2_2, hX2_3⟩
 refine znl ?_
 refine Qp rfl rfl <| Qm rfl <| zBB 1 sp_ rfl (fun w hb _ hw => c_spec_l00Src_pick s_code X2AT X2SD 12 hb (ok_ hw)) ?_
 rintro _ _ G3 ⟨X3KX, X3AT, X3SD, rfl, rfl, hX3_0, hX3_1, hX3_2, hX3_3⟩
 refine znl ?_
 refine Qs rfl rfl <| Qm rfl <| zBB 1 sp_ rfl (fun w hb _ hw => c_spec_l00Src_pick s_code X3AT X3SD 12 hb (ok_ hw)) ?_
 rintro _ _ G4 ⟨X4KX, X4AT, X4SD, rfl, rfl, hX4_0, hX4_1, hX4_2, hX4_3⟩
 refine znl ?_
 refine Qp rfl rfl <| Qb ?_
 refine za zeh fun b5 => zw 0 rfl rfl rfl ?_
 refine JL.nil ?_
 refine zf [0, 0, 3] fun GG6 => ?_
 refine zn ?_
 refine Js.seq <| zS <| Qm rfl ?_
 refine zhl [1] ?_
 refine zBB 1 sp_ rfl (fun w hb _ hw => c_spec_l00Src_one s_code X4AT X4SD 4 hb (ok_ hw)) ?_
 rintro _ _ G7 ⟨X7BX, X7AT, X7SD, rfl, rfl, hX7_0, hX7_1⟩
 refine znl ?_
 refine JL.nil ?_
 refine zf [0, 1, 1] fun GG8 => ?_
 refine zn ?_
 refine zi (fun h9 h9' => ?_) fun h9 h9' => ?_
 ·
  refine Js.region <| Qm rfl <| zBB 1 sp_ rfl (fun w hb _ hw => c_spec_l00Src_pick s_code X7AT X7SD 2 hb (ok_ hw)) ?_
  rintro _ _ G10 ⟨X10KX, X10AT, X10SD, rfl, rfl, hX10_0, hX10_1, hX10_2, hX10_3⟩
  refine znl ?_
  refine Qp rfl rfl <| Qb ?_
  refine zw 2 rfl rfl rfl ?_
  refine JL.nil ?_
  refine zf [0, 1, 1] fun GG11 => ?_
  refine zn ?_
  refine Js.seq <| zS <| Qm rfl <| zBB 1 sp_ rfl (fun w hb _ hw => c_spec_l00Src_pick s_code X10AT X10SD 16 hb (ok_ hw)) ?_
  rintro _ _ G12 ⟨X12KX, X12AT, X12SD, rfl, rfl, hX12_0, hX12_1, hX12_2, hX12_3⟩
  refine znl ?_
  refine JL.nil ?_
  refine zf [0, 1, 1] fun GG13 => ?_
  refine zn ?_
  refine Js.block <| zS <| Qe rfl rfl <| Qa rfl <| JL.nil ?_
  refine zi (fun h14 h14' => ?_) fun h14 h14' => ?_
  ·
   refine Js.region <| Qm rfl <| zbs fun b15 => ?_
   refine zhl [1] ?_
   refine zBB 1 sp_ rfl (fun w hb _ hw => c_spec_l00Src_among s_code X12AT X12SD [0, 7, 5] hb (ok_ hw) (ints_rowok (xs := [0, 7, 5]) (hw.pr (i := 0) rfl)) (r3 := (by simp)) (r4 := (by simp))) ?_
   rintro _ _ G17 ⟨X17KX, X17AT, X17SD, rfl, rfl, hX17_0, hX17_1, hX17_2⟩
   refine znl ?_
   refine Qf fh rfl <| zw 3 rfl rfl rfl ?_
   refine JL.nil ?_
   refine zf [0, 2, 2] fun GG18 => ?_
   refine zn ?_
   refine Js.blockEnd <| zS <| Q9 1 rfl rfl ?_
   refine zw 2 rfl rfl rfl ?_
   refine JL.nil ?_
   refine zf [0, 1] fun GG19 => ?_
   refine zn ?_
   refine zrb [0] hb (Up.refl _ _) ?_
   refine ⟨((M.Fct.mk X17KX 0 0)), (X17AT), (X17SD), rfl, ?_, by first | trivial | omega | (have h9 := (by assumption : _ ∈ ([0, 7, 5] : List Int)); simp at h9; refine ⟨?_, ?_, ?_, ?_⟩ <;> dsimp only <;> omega) | (have h9 := (by assumption : _ ∈ ([-2, -1, 15, 16] : List Int)); simp at h9; refine ⟨?_, ?_, ?_, ?_⟩ <;> dsimp only <;> omega) | (have h9 := (by assumption : _ ∈ ([0, 96, 97] : List Int)); simp at h9; refine ⟨?_, ?_, ?_, ?_⟩ <;> dsimp only <;> omega) | (refine ⟨?_, ?_, ?_, ?_⟩ <;> dsimp only <;> omega), by first | trivial | omega | (have h9 := (by assumption : _ ∈ ([0, 7, 5] : List Int)); simp at h9; refine ⟨?_, ?_, ?_, ?_⟩ <;> dsimp only <;> omega) | (have h9 := (by assumption : _ ∈ ([-2, -1, 15, 16] : List Int)); simp at h9; refine ⟨?_, ?_, ?_, ?_⟩ <;> dsimp only <;> omega) | (have h9 := (by assumption : _ ∈ ([0, 96, 97] : List Int)); simp at h9; refine ⟨?_, ?_, ?_, ?_⟩ <;> dsimp only <;> omega) | (refine ⟨?_, ?_, ?_, ?_⟩ <;> dsimp only <;> omega), by first | trivial | omega | (have h9 := (by assumption : _ ∈ ([0, 7, 5] : List Int)); simp at h9; refine ⟨?_, ?_, ?_, ?_⟩ <;> dsimp only <;> omega) | (have h9 := (by assumption : _ ∈ ([-2, -1, 15, 16] : List Int)); simp at h9; refine ⟨?_, ?_, ?_, ?_⟩ <;> dsimp only <;> omega) | (have h9 := (by assumption : _ ∈ ([0, 96, 97] : List Int)); simp at h9; refine ⟨?_, ?_, ?_, ?_⟩ <;> dsimp only <;> omega) | (refine ⟨?_, ?_, ?_, ?_⟩ <;> dsimp only <;> omega)⟩
   · rfl
  refine zS <| Qe rfl rfl <| Qa rfl <| JL.nil ?_
  refine zi (fun h20 h20' => ?_) fun h20 h20' => ?_
  ·
   refine Js.region <| Qm rfl <| zbs fun b21 => ?_
   refine zhl [1] ?_
   refine zBB 1 sp_ rfl (fun w hb _ hw => c_spec_l00Src_among s_code X12AT X12SD [(-2), (-1), 15, 16] hb (ok_ hw) (ints_rowok (xs := [(-2), (-1), 15, 16]) (hw.pr (i := 0) rfl)) (r3 := (by simp)) (r4 := (by simp))) ?_
   rintro _ _ G23 ⟨X23KX, X23AT, X23SD, rfl, rfl, hX23_0, hX23_1, hX23_2⟩
   refine znl ?_
   refine Qf fh rfl <| zw 3 rfl rfl rfl ?_
   refine JL.nil ?_
   refine zf [0, 2, 2] fun GG24 => ?_
   refine zn ?_
   refine Js.blockEnd <| zS <| Q9 1 rfl rfl ?_
   refine zw 2 rfl rfl rfl ?_
   refine JL.nil ?_
   refine zf [0, 1] fun GG25 => ?_
   refine zn ?_
   refine zrb [0] hb (Up.refl _ _) ?_
   refine ⟨((M.Fct.mk (5 + X10KX) X23KX 0)), (X23AT), (X23SD), rfl, ?_, by first | trivial | omega | (have h9 := (by assumption : _ ∈ ([0, 7, 5] : List Int)); simp at h9; refine ⟨?_, ?_, ?_, ?_⟩ <;> dsimp only <;> omega) | (have h9 := (by assumption : _ ∈ ([-2, -1, 15, 16] : List Int)); simp at h9; refine ⟨?_, ?_, ?_, ?_⟩ <;> dsimp only <;> omega) | (have h9 := (by assumption : _ ∈ ([0, 96, 97] : List Int)); simp at h9; refine ⟨?_, ?_, ?_, ?_⟩ <;> dsimp only <;> omega) | (refine ⟨?_, ?_, ?_, ?_⟩ <;> dsimp only <;> omega), by first | trivial | omega | (have h9 := (by assumption : _ ∈ ([0, 7, 5] : List Int)); simp at h9; refine ⟨?_, ?_, ?_, ?_⟩ <;> dsimp only <;> omega) | (have h9 := (by assumption : _ ∈ ([-2, -1, 15, 16] : List Int)); simp at h9; refine ⟨?_, ?_, ?_, ?_⟩ <;> dsimp only <;> omega) | (have h9 := (by assumption : _ ∈ ([0, 96, 97] : List Int)); simp at h9; refine ⟨?_, ?_, ?_, ?_⟩ <;> dsimp only <;> omega) | (refine ⟨?_, ?_, ?_, ?_⟩ <;> dsimp only <;> omega), by first | trivial | omega | (have h9 := (by assumption : _ ∈ ([0, 7, 5] : List Int)); simp at h9; refine ⟨?_, ?_, ?_, ?_⟩ <;> dsimp only <;> omega) | (have h9 := (by assumption : _ ∈ ([-2, -1, 15, 16] : List Int)); simp at h9; refine ⟨?_, ?_, ?_, ?_⟩ <;> dsimp only <;> omega) | (have h9 := (by assumption : _ ∈ ([0, 96, 97] : List Int)); simp at h9; refine ⟨?_, ?_, ?_, ?_⟩ <;> dsimp only <;> omega) | (refine ⟨?_, ?_, ?_, ?_⟩ <;> dsimp only <;> omega)⟩
   · rfl
  refine zS <| Qe rfl rfl <| Qa rfl <| JL.nil ?_
  refine zi (fun h26 h26' => ?_) fun h26 h26' => ?_
  ·
   refine Js.region <| Qm rfl <| zbs fun b27 => ?_
   refine zhl [1] ?_
   refine zBB 1 sp_ rfl (fun w hb _ hw => c_spec_l00Src_among s_code X12AT X12SD [0, 96, 97] hb (ok_ hw) (ints_rowok (xs := [0, 96, 97]) (hw.pr (i := 0) rfl)) (r3 := (by simp)) (r4 := (by simp))) ?_
   rintro _ _ G29 ⟨X29KX, X29AT, X29SD, rfl, rfl, hX29_0, hX29_1, hX29_2⟩
   refine znl ?_
   refine Qf fh rfl <| zw 3 rfl rfl rfl ?_
   refine JL.nil ?_
   refine zf [0, 2, 2] fun GG30 => ?_
   refine zn ?_
   refine Js.blockEnd <| zS <| Q9 1 rfl rfl ?_
   refine zw 2 rfl rfl rfl ?_
   refine JL.nil ?_
   refine zf [0, 1] fun GG31 => ?_
   refine zn ?_
   refine zrb [0] hb (Up.refl _ _) ?_
   refine ⟨((M.Fct.mk (5 + X10KX) 0 X29KX)), (X29AT), (X29SD), rfl, ?_, by first | trivial | omega | (have h9 := (by assumption : _ ∈ ([0, 7, 5] : List Int)); simp at h9; refine ⟨?_, ?_, ?_, ?_⟩ <;> dsimp only <;> omega) | (have h9 := (by assumption : _ ∈ ([-2, -1, 15, 16] : List Int)); simp at h9; refine ⟨?_, ?_, ?_, ?_⟩ <;> dsimp only <;> omega) | (have h9 := (by assumption : _ ∈ ([0, 96, 97] : List Int)); simp at h9; refine ⟨?_, ?_, ?_, ?_⟩ <;> dsimp only <;> omega) | (refine ⟨?_, ?_, ?_, ?_⟩ <;> dsimp only <;> omega), by first | trivial | omega | (have h9 := (by assumption : _ ∈ ([0, 7, 5] : List Int)); simp at h9; refine ⟨?_, ?_, ?_, ?_⟩ <;> dsimp only <;> omega) | (have h9 := (by assumption : _ ∈ ([-2, -1, 15, 16] : List Int)); simp at h9; refine ⟨?_, ?_, ?_, ?_⟩ <;> dsimp only <;> omega) | (have h9 := (by assumption : _ ∈ ([0, 96, 97] : List Int)); simp at h9; refine ⟨?_, ?_, ?_, ?_⟩ <;> dsimp only <;> omega) | (refine ⟨?_, ?_, ?_, ?_⟩ <;> dsimp only <;> omega), by first | trivial | omega | (have h9 := (by assumption : _ ∈ ([0, 7, 5] : List Int)); simp at h9; refine ⟨?_, ?_, ?_, ?_⟩ <;> dsimp only <;> omega) | (have h9 := (by assumption : _ ∈ ([-2, -1, 15, 16] : List Int)); simp at h9; refine ⟨?_, ?_, ?_, ?_⟩ <;> dsimp only <;> omega) | (have h9 := (by assumption : _ ∈ ([0, 96, 97] : List Int)); simp at h9; refine ⟨?_, ?_, ?_, ?_⟩ <;> dsimp only <;> omega) | (refine ⟨?_, ?_, ?_, ?_⟩ <;> dsimp only <;> omega)⟩
   · rfl
  refine Js.skip <| Js.blockEnd <| zS <| Q9 1 rfl rfl ?_
  refine zw 2 rfl rfl rfl ?_
  refine JL.nil ?_
  refine zf [0, 1] fun GG32 => ?_
  refine zn ?_
  refine zrb [0] hb (Up.refl _ _) ?_
  refine ⟨((M.Fct.mk (5 + X10KX) 0 0)), (X12AT), (X12SD), rfl, ?_, by first | trivial | omega | (have h9 := (by assumption : _ ∈ ([0, 7, 5] : List Int)); simp at h9; refine ⟨?_, ?_, ?_, ?_⟩ <;> dsimp only <;> omega) | (have h9 := (by assumption : _ ∈ ([-2, -1, 15, 16] : List Int)); simp at h9; refine ⟨?_, ?_, ?_, ?_⟩ <;> dsimp only <;> omega) | (have h9 := (by assumption : _ ∈ ([0, 96, 97] : List Int)); simp at h9; refine ⟨?_, ?_, ?_, ?_⟩ <;> dsimp only <;> omega) | (refine ⟨?_, ?_, ?_, ?_⟩ <;> dsimp only <;> omega), by first | trivial | omega | (have h9 := (by assumption : _ ∈ ([0, 7, 5] : List Int)); simp at h9; refine ⟨?_, ?_, ?_, ?_⟩ <;> dsimp only <;> omega) | (have h9 := (by assumption : _ ∈ ([-2, -1, 15, 16] : List Int)); simp at h9; refine ⟨?_, ?_, ?_, ?_⟩ <;> dsimp only <;> omega) | (have h9 := (by assumption : _ ∈ ([0, 96, 97] : List Int)); simp at h9; refine ⟨?_, ?_, ?_, ?_⟩ <;> dsimp only <;> omega) | (refine ⟨?_, ?_, ?_, ?_⟩ <;> dsimp only <;> omega), by first | trivial | omega | (have h9 := (by assumption : _ ∈ ([0, 7, 5] : List Int)); simp at h9; refine ⟨?_, ?_, ?_, ?_⟩ <;> dsimp only <;> omega) | (have h9 := (by assumption : _ ∈ ([-2, -1, 15, 16] : List Int)); simp at h9; refine ⟨?_, ?_, ?_, ?_⟩ <;> dsimp only <;> omega) | (have h9 := (by assumption : _ ∈ ([0, 96, 97] : List Int)); simp at h9; refine ⟨?_, ?_, ?_, ?_⟩ <;> dsimp only <;> omega) | (refine ⟨?_, ?_, ?_, ?_⟩ <;> dsimp only <;> omega)⟩
  · rfl
 refine Js.skip <| Js.seq <| zS <| Qm rfl <| zBB 1 sp_ rfl (fun w hb _ hw => c_spec_l00Src_pick s_code X7AT X7SD 16 hb (ok_ hw)) ?_
 rintro _ _ G33 ⟨X33KX, X33AT, X33SD, rfl, rfl, hX33_0, hX33_1, hX33_2, hX33_3⟩
 refine znl ?_
 refine JL.nil ?_
 refine zf [0, 1, 1] fun GG34 => ?_
 refine zn ?_
 refine Js.block <| zS <| Qe rfl rfl <| Qa rfl <| JL.nil ?_
 refine zi (fun h35 h35' => ?_) fun h35 h35' => ?_
 ·
  refine Js.region <| Qm rfl <| zbs fun b36 => ?_
  refine zhl [1] ?_
  refine zBB 1 sp_ rfl (fun w hb _ hw => c_spec_l00Src_among s_code X33AT X33SD [0, 7, 5] hb (ok_ hw) (ints_rowok (xs := [0, 7, 5]) (hw.pr (i := 0) rfl)) (r3 := (by simp)) (r4 := (by simp))) ?_
  rintro _ _ G38 ⟨X38KX, X38AT, X38SD, rfl, rfl, hX38_0, hX38_1, hX38_2⟩
  refine znl ?_
  refine Qf fh rfl <| zw 3 rfl rfl rfl ?_
  refine JL.nil ?_
  refine zf [0, 2, 2] fun GG39 => ?_
  refine zn ?_
  refine Js.blockEnd <| zS <| Q9 1 rfl rfl ?_
  refine zw 2 rfl rfl rfl ?_
  refine JL.nil ?_
  refine zf [0, 1] fun GG40 => ?_
  refine zn ?_
  refine zrb [0] hb (Up.refl _ _) ?_
  refine ⟨((M.Fct.mk X38KX (X3KX - 1) (1 + X4KX))), (X38AT), (X38SD), rfl, ?_, by first | trivial | omega | (have h9 := (by assumption : _ ∈ ([0, 7, 5] : List Int)); simp at h9; refine ⟨?_, ?_, ?_, ?_⟩ <;> dsimp only <;> omega) | (have h9 := (by assumption : _ ∈ ([-2, -1, 15, 16] : List Int)); simp at h9; refine ⟨?_, ?_, ?_, ?_⟩ <;> dsimp only <;> omega) | (have h9 := (by assumption : _ ∈ ([0, 96, 97] : List Int)); simp at h9; refine ⟨?_, ?_, ?_, ?_⟩ <;> dsimp only <;> omega) | (refine ⟨?_, ?_, ?_, ?_⟩ <;> dsimp only <;> omega), by first | trivial | omega | (have h9 := (by assumption : _ ∈ ([0, 7, 5] : List Int)); simp at h9; refine ⟨?_, ?_, ?_, ?_⟩ <;> dsimp only <;> omega) | (have h9 := (by assumption : _ ∈ ([-2, -1, 15, 16] : List Int)); simp at h9; refine ⟨?_, ?_, ?_, ?_⟩ <;> dsimp only <;> omega) | (have h9 := (by assumption : _ ∈ ([0, 96, 97] : List Int)); simp at h9; refine ⟨?_, ?_, ?_, ?_⟩ <;> dsimp only <;> omega) | (refine ⟨?_, ?_, ?_, ?_⟩ <;> dsimp only <;> omega), by first | trivial | omega | (have h9 := (by assumption : _ ∈ ([0, 7, 5] : List Int)); simp at h9; refine ⟨?_, ?_, ?_, ?_⟩ <;> dsimp only <;> omega) | (have h9 := (by assumption : _ ∈ ([-2, -1, 15, 16] : List Int)); simp at h9; refine ⟨?_, ?_, ?_, ?_⟩ <;> dsimp only <;> omega) | (have h9 := (by assumption : _ ∈ ([0, 96, 97] : List Int)); simp at h9; refine ⟨?_, ?_, ?_, ?_⟩ <;> dsimp only <;> omega) | (refine ⟨?_, ?_, ?_, ?_⟩ <;> dsimp only <;> omega)⟩
  · rfl
 refine zS <| Qe rfl rfl <| Qa rfl <| JL.nil ?_
 refine zi (fun h41 h41' => ?_) fun h41 h41' => ?_
 ·
  refine Js.region <| Qm rfl <| zbs fun b42 => ?_
  refine zhl [1] ?_
  refine zBB 1 sp_ rfl (fun w hb _ hw => c_spec_l00Src_among s_code X33AT X33SD [(-2), (-1), 15, 16] hb (ok_ hw) (ints_rowok (xs := [(-2), (-1), 15, 16]) (hw.pr (i := 0) rfl)) (r3 := (by simp)) (r4 := (by simp))) ?_
  rintro _ _ G44 ⟨X44KX, X44AT, X44SD, rfl, rfl, hX44_0, hX44_1, hX44_2⟩
  refine znl ?_
  refine Qf fh rfl <| zw 3 rfl rfl rfl ?_
  refine JL.nil ?_
  refine zf [0, 2, 2] fun GG45 => ?_
  refine zn ?_
  refine Js.blockEnd <| zS <| Q9 1 rfl rfl ?_
  refine zw 2 rfl rfl rfl ?_
  refine JL.nil ?_
  refine zf [0, 1] fun GG46 => ?_
  refine zn ?_
  refine zrb [0] hb (Up.refl _ _) ?_
  refine ⟨((M.Fct.mk (1 + X2KX) X44KX (1 + X4KX))), (X44AT), (X44SD), rfl, ?_, by first | trivial | omega | (have h9 := (by assumption : _ ∈ ([0, 7, 5] : List Int)); simp at h9; refine ⟨?_, ?_, ?_, ?_⟩ <;> dsimp only <;> omega) | (have h9 := (by assumption : _ ∈ ([-2, -1, 15, 16] : List Int)); simp at h9; refine ⟨?_, ?_, ?_, ?_⟩ <;> dsimp only <;> omega) | (have h9 := (by assumption : _ ∈ ([0, 96, 97] : List Int)); simp at h9; refine ⟨?_, ?_, ?_, ?_⟩ <;> dsimp only <;> omega) | (refine ⟨?_, ?_, ?_, ?_⟩ <;> dsimp only <;> omega), by first | trivial | omega | (have h9 := (by assumption : _ ∈ ([0, 7, 5] : List Int)); simp at h9; refine ⟨?_, ?_, ?_, ?_⟩ <;> dsimp only <;> omega) | (have h9 := (by assumption : _ ∈ ([-2, -1, 15, 16] : List Int)); simp at h9; refine ⟨?_, ?_, ?_, ?_⟩ <;> dsimp only <;> omega) | (have h9 := (by assumption : _ ∈ ([0, 96, 97] : List Int)); simp at h9; refine ⟨?_, ?_, ?_, ?_⟩ <;> dsimp only <;> omega) | (refine ⟨?_, ?_, ?_, ?_⟩ <;> dsimp only <;> omega), by first | trivial | omega | (have h9 := (by assumption : _ ∈ ([0, 7, 5] : List Int)); simp at h9; refine ⟨?_, ?_, ?_, ?_⟩ <;> dsimp only <;> omega) | (have h9 := (by assumption : _ ∈ ([-2, -1, 15, 16] : List Int)); simp at h9; refine ⟨?_, ?_, ?_, ?_⟩ <;> dsimp only <;> omega) | (have h9 := (by assumption : _ ∈ ([0, 96, 97] : List Int)); simp at h9; refine ⟨?_, ?_, ?_, ?_⟩ <;> dsimp only <;> omega) | (refine ⟨?_, ?_, ?_, ?_⟩ <;> dsimp only <;> omega)⟩
  · rfl
 refine zS <| Qe rfl rfl <| Qa rfl <| JL.nil ?_
 refine zi (fun h47 h47' => ?_) fun h47 h47' => ?_
 ·
  refine Js.region <| Qm rfl <| zbs fun b48 => ?_
  refine zhl [1] ?_
  refine zBB 1 sp_ rfl (fun w hb _ hw => c_spec_l00Src_among s_code X33AT X33SD [0, 96, 97] hb (ok_ hw) (ints_rowok (xs := [0, 96, 97]) (hw.pr (i := 0) rfl)) (r3 := (by simp)) (r4 := (by simp))) ?_
  rintro _ _ G50 ⟨X50KX, X50AT, X50SD, rfl, rfl, hX50_0, hX50_1, hX50_2⟩
  refine znl ?_
  refine Qf fh rfl <| zw 3 rfl rfl rfl ?_
  refine JL.nil ?_
  refine zf [0, 2, 2] fun GG51 => ?_
  refine zn ?_
  refine Js.blockEnd <| zS <| Q9 1 rfl rfl ?_
  refine zw 2 rfl rfl rfl ?_
  refine JL.nil ?_
  refine zf [0, 1] fun GG52 => ?_
  refine zn ?_
  refine zrb [0] hb (Up.refl _ _) ?_
  refine ⟨((M.Fct.mk (1 + X2KX) (X3KX - 1) X50KX)), (X50AT), (X50SD), rfl, ?_, by first | trivial | omega | (have h9 := (by assumption : _ ∈ ([0, 7, 5] : List Int)); simp at h9; refine ⟨?_, ?_, ?_, ?_⟩ <;> dsimp only <;> omega) | (have h9 := (by assumption : _ ∈ ([-2, -1, 15, 16] : List Int)); simp at h9; refine ⟨?_, ?_, ?_, ?_⟩ <;> dsimp only <;> omega) | (have h9 := (by assumption : _ ∈ ([0, 96, 97] : List Int)); simp at h9; refine ⟨?_, ?_, ?_, ?_⟩ <;> dsimp only <;> omega) | (refine ⟨?_, ?_, ?_, ?_⟩ <;> dsimp only <;> omega), by first | trivial | omega | (have h9 := (by assumption : _ ∈ ([0, 7, 5] : List Int)); simp at h9; refine ⟨?_, ?_, ?_, ?_⟩ <;> dsimp only <;> omega) | (have h9 := (by assumption : _ ∈ ([-2, -1, 15, 16] : List Int)); simp at h9; refine ⟨?_, ?_, ?_, ?_⟩ <;> dsimp only <;> omega) | (have h9 := (by assumption : _ ∈ ([0, 96, 97] : List Int)); simp at h9; refine ⟨?_, ?_, ?_, ?_⟩ <;> dsimp only <;> omega) | (refine ⟨?_, ?_, ?_, ?_⟩ <;> dsimp only <;> omega), by first | trivial | omega | (have h9 := (by assumption : _ ∈ ([0, 7, 5] : List Int)); simp at h9; refine ⟨?_, ?_, ?_, ?_⟩ <;> dsimp only <;> omega) | (have h9 := (by assumption : _ ∈ ([-2, -1, 15, 16] : List Int)); simp at h9; refine ⟨?_, ?_, ?_, ?_⟩ <;> dsimp only <;> omega) | (have h9 := (by assumption : _ ∈ ([0, 96, 97] : List Int)); simp at h9; refine ⟨?_, ?_, ?_, ?_⟩ <;> dsimp only <;> omega) | (refine ⟨?_, ?_, ?_, ?_⟩ <;> dsimp only <;> omega)⟩
  · rfl
 refine Js.skip <| Js.blockEnd <| zS <| Q9 1 rfl rfl ?_
 refine zw 2 rfl rfl rfl ?_
 refine JL.nil ?_
 refine zf [0, 1] fun GG53 => ?_
 refine zn ?_
 refine zrb [0] hb (Up.refl _ _) ?_
 refine ⟨((M.Fct.mk (1 + X2KX) (X3KX - 1) (1 + X4KX))), (X33AT), (X33SD), rfl, ?_, by first | trivial | omega | (have h9 := (by assumption : _ ∈ ([0, 7, 5] : List Int)); simp at h9; refine ⟨?_, ?_, ?_, ?_⟩ <;> dsimp only <;> omega) | (have h9 := (by assumption : _ ∈ ([-2, -1, 15, 16] : List Int)); simp at h9; refine ⟨?_, ?_, ?_, ?_⟩ <;> dsimp only <;> omega) | (have h9 := (by assumption : _ ∈ ([0, 96, 97] : List Int)); simp at h9; refine ⟨?_, ?_, ?_, ?_⟩ <;> dsimp only <;> omega) | (refine ⟨?_, ?_, ?_, ?_⟩ <;> dsimp only <;> omega), by first | trivial | omega | (have h9 := (by assumption : _ ∈ ([0, 7, 5] : List Int)); simp at h9; refine ⟨?_, ?_, ?_, ?_⟩ <;> dsimp only <;> omega) | (have h9 := (by assumption : _ ∈ ([-2, -1, 15, 16] : List Int)); simp at h9; refine ⟨?_, ?_, ?_, ?_⟩ <;> dsimp only <;> omega) | (have h9 := (by assumption : _ ∈ ([0, 96, 97] : List Int)); simp at h9; refine ⟨?_, ?_, ?_, ?_⟩ <;> dsimp only <;> omega) | (refine ⟨?_, ?_, ?_, ?_⟩ <;> dsimp only <;> omega), by first | trivial | omega | (have h9 := (by assumption : _ ∈ ([0, 7, 5] : List Int)); simp at h9; refine ⟨?_, ?_, ?_, ?_⟩ <;> dsimp only <;> omega) | (have h9 := (by assumption : _ ∈ ([-2, -1, 15, 16] : List Int)); simp at h9; refine ⟨?_, ?_, ?_, ?_⟩ <;> dsimp only <;> omega) | (have h9 := (by assumption : _ ∈ ([0, 96, 97] : List Int)); simp at h9; refine ⟨?_, ?_, ?_, ?_⟩ <;> dsimp only <;> omega) | (refine ⟨?_, ?_, ?_, ?_⟩ <;> dsimp only <;> omega)⟩
 · rfl
theorem c_spec_DrawFactText (code : Nat) {v_code : Value} {w : World} (h_code : (Ty.bytes 5 code).ok w v_code) (r0 : code ≤ 1048576 := by exact om_) : Ret Tryz.prog 13 [v_code] w (Ty.ex (fun (FX : M.Fct) => (-2 ≤ FX.place ∧ FX.place ≤ 1000000 ∧ 0 ≤ FX.count ∧ FX.count ≤ 1000000)) (fun FX => Ty.agg (cFact FX))) := by
 revert v_code; apply opn
 intro A1 c1 h1 bl1 bh1
 have h_code := h1
 refine enter @Tryz.func13 @Tryz.ntmps13 rfl rfl ?_
 refine zent ?_
 refine zS <| za zeh fun b2 => zN <| Qm rfl <| zcs rfl (fun w hw => c_spec_l00From code (ok_ hw)) ?_
 intro b3
 refine zB 1 sp_ rfl (fun w hb hw => c_spec_l11One code 0 0 hb (ok_ hw)) ?_
 rintro _ _ G4 ⟨X4FX, X4AT, X4SD, rfl, rfl, hX4_0, hX4_1, hX4_2⟩
 refine znl ?_
 refine zw 2 rfl rfl rfl ?_
 refine JL.nil ?_
 exact zro (Up.refl _ _) (g := by exact (gv_ex X4FX (by first | trivial | assumption | omega | (dsimp only; omega) | (refine ⟨?_, ?_, ?_, ?_⟩ <;> dsimp only <;> omega)) gv_))
theorem c_spec_DrawReadFact (code : Nat) {v_code : Value} {w : World} (h_code : (Ty.bytes 5 code).ok w v_code) (r0 : code ≤ 1048576 := by exact om_) : Ret Tryz.prog 16 [v_code] w (Ty.ex (fun (TX : List UInt8) => (TX.length ≤ 200)) (fun TX => Ty.str TX)) := by
 revert v_code; apply opn
 intro A1 c1 h1 bl1 bh1
 have h_code := h1
 refine enter @Tryz.func16 @Tryz.ntmps16 rfl rfl ?_
 refine zent ?_
 refine zS <| Qa rfl <| zN <| Qm rfl <| zcs rfl (fun w hw => c_spec_l00From code (ok_ hw)) ?_
 intro b2
 refine Qa rfl <| zN <| Qm rfl <| zB 1 sp_ rfl (fun w hb hw => c_spec_l11One code 0 0 hb (ok_ hw)) ?_
 rintro _ _ G3 ⟨X3FX, X3AT, X3SD, rfl, rfl, hX3_0, hX3_1, hX3_2⟩
 refine znl ?_
 refine za zeh fun b4 => zw 0 rfl rfl rfl ?_
 refine zJ <| zS <| Q9 0 rfl rfl ?_
 refine zv rfl (fun w hw => c_spec_l11Fact X3FX (ok_ hw)) <| Qt rfl <| JL.nil ?_
 refine zi (fun h5 h5' => ?_) fun h5 h5' => ?_
 ·
  have htl := M.factT0_len (M.Fct.mk 6 0 0)
  refine Js.region <| Qb ?_
  refine zw 0 rfl rfl rfl ?_
  refine zN <| Qm rfl <| Q9 0 rfl rfl ?_
  refine zv rfl (fun w hw => c_spec_l11Text (M.Fct.mk 6 0 0) (ok_ hw)) ?_
  refine zhl [1] ?_
  refine zB 1 sp_ rfl (fun w hb hw => c_spec_l01Spoil code X3AT X3SD (M.factT0 (M.Fct.mk 6 0 0)) hb (ok_ hw)) ?_
  rintro _ _ G6 ⟨X6TX, X6AT, X6SD, rfl, rfl, hX6_0, hX6_1, hX6_2⟩
  refine znl ?_
  refine Qa rfl <| JL.nil ?_
  exact zro (Up.refl _ _) (g := by exact (gv_ex X6TX (by first | trivial | assumption | omega) gv_))
 have htl := M.factT0_len X3FX
 refine Js.skip <| zS <| Qm rfl <| Q9 0 rfl rfl ?_
 refine zv rfl (fun w hw => c_spec_l11Text X3FX (ok_ hw)) ?_
 refine zhl [1] ?_
 refine zB 1 sp_ rfl (fun w hb hw => c_spec_l01Spoil code X3AT X3SD (M.factT0 X3FX) hb (ok_ hw)) ?_
 rintro _ _ G7 ⟨X7TX, X7AT, X7SD, rfl, rfl, hX7_0, hX7_1, hX7_2⟩
 refine znl ?_
 refine Qa rfl <| JL.nil ?_
 exact zro (Up.refl _ _) (g := by exact (gv_ex X7TX (by first | trivial | assumption | omega) gv_))
theorem c_spec_DrawSameFacts (code : Nat) {v_code : Value} {w : World} (h_code : (Ty.bytes 5 code).ok w v_code) (r0 : code ≤ 1048576 := by exact om_) : Ret Tryz.prog 18 [v_code] w (Ty.tup [Ty.ex (fun (AX : List M.Fct) => (AX.length ≤ 20)) (fun AX => Ty.sl 37 3 AX.length (lFact AX)), Ty.ex (fun (BX : List M.Fct) => (BX.length ≤ 20)) (fun BX => Ty.sl 37 3 BX.length (lFact BX))]) := by
 revert v_code; apply opn
 intro A1 c1 h1 bl1 bh1
 have h_code := h1
 refine enter @Tryz.func18 @Tryz.ntmps18 rfl rfl ?_
 refine zent ?_
 refine zS <| Qa rfl <| Qa rfl <| zN <| Qm rfl <| zcs rfl (fun w hw => c_spec_l00From code (ok_ hw)) ?_
 intro b2
 refine Qa rfl <| zN <| zbs fun b3 => ?_
 refine Qa rfl <| zJ <| zS <| Qm rfl ?_
 refine zhl [1] ?_
 refine zB 1 sp_ rfl (fun w hb hw => c_spec_l00Src_pick code 0 0 5 hb (ok_ hw)) ?_
 rintro _ _ G5 ⟨X5KX, X5AT, X5SD, rfl, rfl, hX5_0, hX5_1, hX5_2, hX5_3⟩
 refine znl ?_
 refine Qa rfl <| JL.nil <| Js.block ?_
 refine zl [4] (fun F U l os u m => ∃ (n : Int) (xs : List M.Fct) (at1 sd1 : Int) (A6_5 : Option Addr) (c6_5 : Nat) (g6_5 : List Nat) (G6_1 : List Nat), l = F [(5, .slice A6_5 xs.length c6_5), (6, .int .i64 n)] ∧ os = U [some (boxO b2 [.slice A1 code c1, .int .i64 at1, .int .u64 sd1] 141), some (anyO G6_1), some (rowO 37 3 (.slice A6_5 xs.length c6_5) xs.length (fltV vcFact xs) g6_5)] ∧ (0 ≤ n ∧ n ≤ 5) ∧ ((xs.length : Int) + n ≤ 5) ∧ (0 ≤ at1) ∧ (at1 ≤ 20 + 40 * (5 - n)) ∧ (xs.length ≤ c6_5) ∧ (c6_5 ≤ 9223372036854775807) ∧ m = n.toNat) ⟨X5KX, [], X5AT, X5SD, _, _, _, _, rfl, rfl, by omega, by simp only [List.length_nil]; omega, by omega, by omega, zu, zu, rfl⟩ ?_
 rintro _ _ u6 _ ⟨n, xs, at1, sd1, A6_5, c6_5, g6_5, G6_1, rfl, rfl, hn, hx, ha0, ha1, f6_4, f6_5, rfl⟩ x6
 refine zn ?_
 refine Js.seq <| zS <| Qm rfl <| Qg rfl rfl <| JL.nil ?_
 refine zi (fun h7 h7' => ?_) fun h7 h7' => ?_
 ·
  refine Js.skip <| Js.seq <| Js.block <| Js.region <| Qm rfl <| Qm rfl <| zB 1 sp_ rfl (fun w hb hw => c_spec_l11One code at1 sd1 hb (ok_ hw)) ?_
  rintro _ _ G8 ⟨X8FX, X8AT, X8SD, rfl, rfl, hX8_0, hX8_1, hX8_2⟩
  refine znl ?_
  refine zbs fun b9 => ?_
  refine JL.e (e_append (i := 4) (n' := (xs ++ [X8FX]).length) (vs' := fltV vcFact (xs ++ [X8FX])) el_43 rfl rfl rfl rfl (src_row (i := 0) und_43 rfl rfl) (by omega) (by omega) ln2_ (by first | rfl | exact fltV_app _ _ _ | exact fltV_snoc _ _ _ | (simp [fltV]; done))) ?_
  rintro v11 _ _ ⟨⟨g12, rfl⟩, rfl⟩ _
  refine JL.fact (row_form' (i := 4) rfl) (fun hf13 => ?_)
  obtain ⟨A13, c13, rfl, bl13, bh13⟩ := hf13
  refine znl ?_
  refine Qa rfl <| JL.nil <| Js.blockEnd <| Js.region <| Qm rfl <| Qs rfl rfl <| Qa rfl <| JL.nil ?_
  refine zd [1, 2, 2] rfl fun u14 x14 => ?_
  exact zag ⟨n - 1, xs ++ [X8FX], X8AT, X8SD, _, _, _, _, rfl, rfl, by omega, by simp only [List.length_append, List.length_cons, List.length_nil]; omega, by omega, by omega, zu, zu, rfl⟩ (x6.trans x14) (by omega)
 refine zx ?_
 refine zS <| zbs fun b15 => ?_
 refine Qm rfl ?_
 refine JL.e (e_append (i := 0) (n' := xs.length) (vs' := fltV vcFact xs) el_43 rfl rfl rfl rfl (src_rowH (i := 3) und_43 rfl (FltL.one (F := lFact) _)) (by omega) (by omega) ln2_ (by first | rfl | exact fltV_app _ _ _ | exact fltV_snoc _ _ _ | (simp [fltV]; done))) ?_
 rintro v17 _ _ ⟨⟨g18, rfl⟩, rfl⟩ _
 refine JL.fact (row_form' (i := 0) rfl) (fun hf19 => ?_)
 obtain ⟨A19, c19, rfl, bl19, bh19⟩ := hf19
 refine znl ?_
 refine Qa rfl <| zJ <| Js.seq ?_
 rcases Bool.eq_false_or_eq_true (decide (0 < (xs.length : Int))) with h20 | h20
 ·
  have h20' := h20; simp only [decide_eq_true_eq, Int.not_lt, Int.not_le] at h20'
  refine Js.region <| Qm rfl <| Qz rfl <| Qg rfl rfl <| Qm rfl <| zT (Gd.t1 rfl rfl rfl) (show (decide (0 < (xs.length : Int))) = true by first | exact h20 | (rw [h20]; rfl) | simp [h20]) <| Qm rfl <| zT (Gd.t1 rfl rfl rfl) (show (decide (0 < (xs.length : Int))) = true by first | exact h20 | (rw [h20]; rfl) | simp [h20]) ?_
  refine zhl [1] ?_
  refine zB 1 sp_ rfl (fun w hb hw => c_spec_l00Src_one code at1 sd1 2 hb (ok_ hw)) ?_
  rintro _ _ G21 ⟨X21BX, X21AT, X21SD, rfl, rfl, hX21_0, hX21_1⟩
  refine znl ?_
  refine Qq (p_pickAnd2 rfl rfl rfl) <| JL.nil ?_
  refine zi (fun h22 h22' => ?_) fun h22 h22' => ?_
  ·
   refine zk [4, 5] (fun F U l os u => ∃ (b24 : Nat) (G25 : List Nat) (X25AT X25SD X25KX : Int), l = F [(7, .slice (some ⟨b24, 0, none⟩) xs.length c19)] ∧ os = [anyO G25] ++ U [some (boxO b2 [.slice A1 code c1, .int .i64 X25AT, .int .u64 X25SD] 141), nO, some (rowO 37 3 (.slice (some ⟨b24, 0, none⟩) xs.length c19) xs.length (fltV vcFact (xs.set 0 (M.Fct.mk ((M.fct xs 0).kind) ((M.fct xs 0).place) (IntKind.i64.wrap (((M.fct xs 0).count) + X25KX))))) g18)] ∧ (X21AT ≤ X25AT) ∧ (X25AT ≤ X21AT + 2) ∧ (0 ≤ X25KX) ∧ (X25KX = 0 ∨ X25KX < 2)) ?_ ?_
   ·
    refine zdr [5, 9] ?_
    refine jM 0 rfl rfl ?_
    refine JH.fact (row_some (i := 2) rfl len_) (fun hf31 => ?_)
    obtain ⟨b31, rfl⟩ := hf31
    have hy30 : xs[0]? = some (M.fct xs 0) := M.fct_get len_
    refine jI 1 el_43 rfl rfl rfl rfl ?_
    refine jF 2 fld_37_2 rfl rfl ?_
    refine jM 4 rfl rfl ?_
    refine y2 3 5 ?_ ?_
    ·
     refine JHo.q rfl (q_load1 ty_2.h rfl (fun w hw => (Mem.rowR' (i := 2) rfl (fltV_at (C := vcFact) (fun _ => rfl) hy30) w hw) 2 _ rfl)) ?_
     refine y1 5 ?_
     refine yB 1 sp_ rfl rfl (fun w hb hw => c_spec_l00Src_pick code X21AT X21SD 2 hb (ok_ hw)) ?_
     rintro _ _ G32 ⟨X32KX, X32AT, X32SD, rfl, rfl, hX32_0, hX32_1, hX32_2, hX32_3⟩
     refine znh ?_
     refine JH.p 6 rfl (p_add rfl rfl rfl) ?_
     have hy33 : xs[0]? = some (M.fct xs 0) := M.fct_get len_
     refine jI 7 el_43 rfl rfl rfl rfl ?_
     refine jF 8 fld_37_2 rfl rfl ?_
     refine y1 9 ?_
     refine JHo.s rfl (e_storeRow (i := 3) (xs' := fltV vcFact (xs.set 0 (M.Fct.mk ((M.fct xs 0).kind) ((M.fct xs 0).place) (IntKind.i64.wrap (((M.fct xs 0).count) + X32KX))))) ty_2.h rfl rfl rfl rfl rfl rfl (fltV_lt (C := vcFact) (j := 2) (fun _ => rfl) len_ (by decide)) (fltV_cell (C := vcFact) (j := 2) (y' := (M.Fct.mk ((M.fct xs 0).kind) ((M.fct xs 0).place) (IntKind.i64.wrap (((M.fct xs 0).count) + X32KX)))) (fun _ => rfl) hy33 (by decide) rfl)) (.inr rfl) ?_
     rintro _ _ _ ⟨rfl, rfl⟩ _
     refine znh ?_
     refine yd ?_
     refine zh [1, 0, 0, 0, 0, 0] ?_
     exact zm ⟨_, _, _, _, _, rfl, rfl, zt, zt, zt, zt⟩ (Up.refl _ _) ⟨rfl, rfl, rfl, trivial⟩
    refine yB 1 sp_ rfl rfl (fun w hb hw => c_spec_l00Src_pick code X21AT X21SD 2 hb (ok_ hw)) ?_
    rintro _ _ G34 ⟨X34KX, X34AT, X34SD, rfl, rfl, hX34_0, hX34_1, hX34_2, hX34_3⟩
    refine znh ?_
    refine y1 3 ?_
    refine JHo.q rfl (q_load1 ty_2.h rfl (fun w hw => (Mem.rowR' (i := 3) rfl (fltV_at (C := vcFact) (fun _ => rfl) hy30) w hw) 2 _ rfl)) ?_
    refine JH.p 6 rfl (p_add rfl rfl rfl) ?_
    have hy35 : xs[0]? = some (M.fct xs 0) := M.fct_get len_
    refine jI 7 el_43 rfl rfl rfl rfl ?_
    refine jF 8 fld_37_2 rfl rfl ?_
    refine y1 9 ?_
    refine JHo.s rfl (e_storeRow (i := 3) (xs' := fltV vcFact (xs.set 0 (M.Fct.mk ((M.fct xs 0).kind) ((M.fct xs 0).place) (IntKind.i64.wrap (((M.fct xs 0).count) + X34KX))))) ty_2.h rfl rfl rfl rfl rfl rfl (fltV_lt (C := vcFact) (j := 2) (fun _ => rfl) len_ (by decide)) (fltV_cell (C := vcFact) (j := 2) (y' := (M.Fct.mk ((M.fct xs 0).kind) ((M.fct xs 0).place) (IntKind.i64.wrap (((M.fct xs 0).count) + X34KX)))) (fun _ => rfl) hy35 (by decide) rfl)) (.inr rfl) ?_
    rintro _ _ _ ⟨rfl, rfl⟩ _
    refine znh ?_
    refine yd ?_
    refine zh [1, 0, 0, 0, 0, 0] ?_
    exact zm ⟨_, _, _, _, _, rfl, rfl, zt, zt, zt, zt⟩ (Up.refl _ _) ⟨rfl, rfl, rfl, trivial⟩
   rintro _ _ u29 ⟨b24, G25, X25AT, X25SD, X25KX, rfl, rfl, f29_0, f29_1, f29_2, f29_3⟩ x29
   refine zn ?_
   have hls : (xs.set 0 (M.Fct.mk ((M.fct xs 0).kind) ((M.fct xs 0).place) (IntKind.i64.wrap (((M.fct xs 0).count) + X25KX)))).length = xs.length := by simp
   refine Js.seq <| zS <| Qm rfl ?_
   refine zhl [1] ?_
   refine zB 1 sp_ rfl (fun w hb hw => c_spec_l00Src_one code X25AT X25SD 6 hb (ok_ hw)) ?_
   rintro _ _ G36 ⟨X36BX, X36AT, X36SD, rfl, rfl, hX36_0, hX36_1⟩
   refine znl ?_
   refine JL.nil ?_
   refine zi (fun h37 h37' => ?_) fun h37 h37' => ?_
   ·
    refine Js.region <| Qm rfl <| Qb ?_
    refine zbs fun b38 => ?_
    refine JL.e (e_append (i := 5) (n' := ((xs.set 0 (M.Fct.mk ((M.fct xs 0).kind) ((M.fct xs 0).place) (IntKind.i64.wrap (((M.fct xs 0).count) + X25KX)))) ++ [(M.Fct.mk 0 0 0)]).length) (vs' := fltV vcFact ((xs.set 0 (M.Fct.mk ((M.fct xs 0).kind) ((M.fct xs 0).place) (IntKind.i64.wrap (((M.fct xs 0).count) + X25KX)))) ++ [(M.Fct.mk 0 0 0)])) el_43 rfl rfl rfl rfl (src_row (i := 0) und_43 rfl rfl) (by omega) (by omega) ln2_ (by first | rfl | exact fltV_app _ _ _ | exact fltV_snoc _ _ _ | (simp [fltV]; done))) ?_
    rintro v40 _ _ ⟨⟨g41, rfl⟩, rfl⟩ _
    refine JL.fact (row_form' (i := 5) rfl) (fun hf42 => ?_)
    obtain ⟨A42, c42, rfl, bl42, bh42⟩ := hf42
    refine znl ?_
    refine Qa rfl <| zN <| Qm rfl <| Qm rfl <| Qa rfl <| Qa rfl <| JL.nil ?_
    exact zro (x6.trans x29) (g := by exact (gv_tup (gvc (gv_ex xs (by first | trivial | omega | (simp only [List.length_append, List.length_set, List.length_cons, List.length_nil]; omega)) (gv_flat lFact (xs := xs) po_ (by first | rfl | (simp [fltV]; done)) (by first | with_reducible rfl | assumption | rfl))) (gvc (gv_ex ((xs.set 0 (M.Fct.mk ((M.fct xs 0).kind) ((M.fct xs 0).place) (IntKind.i64.wrap (((M.fct xs 0).count) + X25KX)))) ++ [(M.Fct.mk 0 0 0)]) (by first | trivial | omega | (simp only [List.length_append, List.length_set, List.length_cons, List.length_nil]; omega)) (gv_flat lFact (xs := ((xs.set 0 (M.Fct.mk ((M.fct xs 0).kind) ((M.fct xs 0).place) (IntKind.i64.wrap (((M.fct xs 0).count) + X25KX)))) ++ [(M.Fct.mk 0 0 0)])) po_ (by first | rfl | (simp [fltV]; done)) (by first | with_reducible rfl | assumption | rfl))) gvn))))
   refine Js.skip <| zS <| Qm rfl <| Qm rfl <| Qa rfl <| Qa rfl <| JL.nil ?_
   exact zro (x6.trans x29) (g := by exact (gv_tup (gvc (gv_ex xs (by first | trivial | omega | (simp only [List.length_append, List.length_set, List.length_cons, List.length_nil]; omega)) (gv_flat lFact (xs := xs) po_ (by first | rfl | (simp [fltV]; done)) (by first | with_reducible rfl | assumption | rfl))) (gvc (gv_ex (xs.set 0 (M.Fct.mk ((M.fct xs 0).kind) ((M.fct xs 0).place) (IntKind.i64.wrap (((M.fct xs 0).count) + X25KX)))) (by first | trivial | omega | (simp only [List.length_append, List.length_set, List.length_cons, List.length_nil]; omega)) (gv_flat lFact (xs := (xs.set 0 (M.Fct.mk ((M.fct xs 0).kind) ((M.fct xs 0).place) (IntKind.i64.wrap (((M.fct xs 0).count) + X25KX))))) po_ (by first | rfl | (simp [fltV]; done)) (by first | with_reducible rfl | assumption | rfl))) gvn))))
  have hls : (xs).length = xs.length := by simp
  refine Js.skip <| Js.seq <| zS <| Qm rfl <| zB 1 sp_ rfl (fun w hb hw => c_spec_l00Src_one code X21AT X21SD 6 hb (ok_ hw)) ?_
  rintro _ _ G43 ⟨X43BX, X43AT, X43SD, rfl, rfl, hX43_0, hX43_1⟩
  refine znl ?_
  refine JL.nil ?_
  refine zi (fun h44 h44' => ?_) fun h44 h44' => ?_
  ·
   refine Js.region <| Qm rfl <| Qb ?_
   refine zbs fun b45 => ?_
   refine JL.e (e_append (i := 4) (n' := (xs ++ [(M.Fct.mk 0 0 0)]).length) (vs' := fltV vcFact (xs ++ [(M.Fct.mk 0 0 0)])) el_43 rfl rfl rfl rfl (src_row (i := 0) und_43 rfl rfl) (by omega) (by omega) ln2_ (by first | rfl | exact fltV_app _ _ _ | exact fltV_snoc _ _ _ | (simp [fltV]; done))) ?_
   rintro v47 _ _ ⟨⟨g48, rfl⟩, rfl⟩ _
   refine JL.fact (row_form' (i := 4) rfl) (fun hf49 => ?_)
   obtain ⟨A49, c49, rfl, bl49, bh49⟩ := hf49
   refine znl ?_
   refine Qa rfl <| zN <| Qm rfl <| Qm rfl <| Qa rfl <| Qa rfl <| JL.nil ?_
   exact zro x6 (g := by exact (gv_tup (gvc (gv_ex xs (by first | trivial | omega | (simp only [List.length_append, List.length_set, List.length_cons, List.length_nil]; omega)) (gv_flat lFact (xs := xs) po_ (by first | rfl | (simp [fltV]; done)) (by first | with_reducible rfl | assumption | rfl))) (gvc (gv_ex (xs ++ [(M.Fct.mk 0 0 0)]) (by first | trivial | omega | (simp only [List.length_append, List.length_set, List.length_cons, List.length_nil]; omega)) (gv_flat lFact (xs := (xs ++ [(M.Fct.mk 0 0 0)])) po_ (by first | rfl | (simp [fltV]; done)) (by first | with_reducible rfl | assumption | rfl))) gvn))))
  refine Js.skip <| zS <| Qm rfl <| Qm rfl <| Qa rfl <| Qa rfl <| JL.nil ?_
  exact zro x6 (g := by exact (gv_tup (gvc (gv_ex xs (by first | trivial | omega | (simp only [List.length_append, List.length_set, List.length_cons, List.length_nil]; omega)) (gv_flat lFact (xs := xs) po_ (by first | rfl | (simp [fltV]; done)) (by first | with_reducible rfl | assumption | rfl))) (gvc (gv_ex xs (by first | trivial | omega | (simp only [List.length_append, List.length_set, List.length_cons, List.length_nil]; omega)) (gv_flat lFact (xs := xs) po_ (by first | rfl | (simp [fltV]; done)) (by first | with_reducible rfl | assumption | rfl))) gvn))))
 have h20' := h20; simp only [decide_eq_false_iff_not, Int.not_lt, Int.not_le] at h20'
 refine Js.region <| Qm rfl <| Qz rfl <| Qg rfl rfl <| Qm rfl ?_
 refine JL.g (v := undef) (Gd.t1 rfl rfl rfl) (fun hc => absurd hc (by first | (rw [h20]; simp; done) | simp [h20])) ?_
 refine JL.g (v := .bool false) (Gd.t1 rfl rfl rfl) (fun hc => absurd hc (by first | (rw [h20]; simp; done) | simp [h20])) ?_
 refine Qq (p_pickAnd rfl rfl rfl) <| JL.nil ?_
 -- known
 refine Js.condF rfl (by rw [h20]; rfl) ?_
 have hls : (xs).length = xs.length := by simp
 refine Js.skip <| Js.seq <| zS <| Qm rfl ?_
 refine zhl [1] ?_
 refine zB 1 sp_ rfl (fun w hb hw => c_spec_l00Src_one code at1 sd1 6 hb (ok_ hw)) ?_
 rintro _ _ G50 ⟨X50BX, X50AT, X50SD, rfl, rfl, hX50_0, hX50_1⟩
 refine znl ?_
 refine JL.nil ?_
 refine zi (fun h51 h51' => ?_) fun h51 h51' => ?_
 ·
  refine Js.region <| Qm rfl <| Qb ?_
  refine zbs fun b52 => ?_
  refine JL.e (e_append (i := 3) (n' := (xs ++ [(M.Fct.mk 0 0 0)]).length) (vs' := fltV vcFact (xs ++ [(M.Fct.mk 0 0 0)])) el_43 rfl rfl rfl rfl (src_row (i := 0) und_43 rfl rfl) (by omega) (by omega) ln2_ (by first | rfl | exact fltV_app _ _ _ | exact fltV_snoc _ _ _ | (simp [fltV]; done))) ?_
  rintro v54 _ _ ⟨⟨g55, rfl⟩, rfl⟩ _
  refine JL.fact (row_form' (i := 3) rfl) (fun hf56 => ?_)
  obtain ⟨A56, c56, rfl, bl56, bh56⟩ := hf56
  refine znl ?_
  refine Qa rfl <| zN <| Qm rfl <| Qm rfl <| Qa rfl <| Qa rfl <| JL.nil ?_
  exact zro x6 (g := by exact (gv_tup (gvc (gv_ex xs (by first | trivial | omega | (simp only [List.length_append, List.length_set, List.length_cons, List.length_nil]; omega)) (gv_flat lFact (xs := xs) po_ (by first | rfl | (simp [fltV]; done)) (by first | with_reducible rfl | assumption | rfl))) (gvc (gv_ex (xs ++ [(M.Fct.mk 0 0 0)]) (by first | trivial | omega | (simp only [List.length_append, List.length_set, List.length_cons, List.length_nil]; omega)) (gv_flat lFact (xs := (xs ++ [(M.Fct.mk 0 0 0)])) po_ (by first | rfl | (simp [fltV]; done)) (by first | with_reducible rfl | assumption | rfl))) gvn))))
 refine Js.skip <| zS <| Qm rfl <| Qm rfl <| Qa rfl <| Qa rfl <| JL.nil ?_
 exact zro x6 (g := by exact (gv_tup (gvc (gv_ex xs (by first | trivial | omega | (simp only [List.length_append, List.length_set, List.length_cons, List.length_nil]; omega)) (gv_flat lFact (xs := xs) po_ (by first | rfl | (simp [fltV]; done)) (by first | with_reducible rfl | assumption | rfl))) (gvc (gv_ex xs (by first | trivial | omega | (simp only [List.length_append, List.length_set, List.length_cons, List.length_nil]; omega)) (gv_flat lFact (xs := xs) po_ (by first | rfl | (simp [fltV]; done)) (by first | with_reducible rfl | assumption | rfl))) gvn))))
end Go.Proofs.YtjgohnaobbphpaaGreatDoor

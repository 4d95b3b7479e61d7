/- Walks: D27. -/
import Derived.Test.YtmgnckfhghibeaaZcA3
import Derived.Test.YtmgnckfhghibeaaZcA8
import Derived.Test.YtmgnckfhghibeaaZcA6
import Derived.Test.YtmgnckfhghibeaaZcA7
import Derived.Test.YtmgnckfhghibeaaZcA4
import Derived.Test.YtmgnckfhghibeaaZcA1
import Derived.Test.YtmgnckfhghibeaaZcA0
set_option linter.unusedSimpArgs false
set_option linter.unusedVariables false
set_option maxRecDepth 100000
attribute [local irreducible] Go.Proofs.Ytmgnckfhghibeaa.gv
set_option maxHeartbeats 16000000
namespace Go.Proofs.Ytmgnckfhghibeaa
open Go.RowKit
theorem c_spec_DrawStoreValue (code : Nat) {v_code : Value} {w : World} (h_code : (Ty.bytes 5 code).ok w v_code) (r0 : code ≤ 1048576 := by exact om_) : Ret Try.prog 6 [v_code] w (Ty.tup [Ty.ex (fun (MX : M.Mem) => (MX.slots.length ≤ 65 ∧ M.SzM 16 MX.slots)) (fun MX => Ty.agg (cMemory MX)), Ty.ex (fun (PX : M.Pos) => (PX.pits.length ≤ 4194304 ∧ PX.stores.length ≤ 4194304)) (fun PX => Ty.agg (cPositionL PX)), Ty.ex (fun (DX : Int) => True) (fun DX => Ty.int DX), Ty.ex (fun (VX : Int) => True) (fun VX => Ty.int VX), Ty.ex (fun (BX : Int) => True) (fun BX => Ty.int BX)]) := by
 revert v_code; apply opn
 intro A1 c1 h1 bl1 bh1
 have h_code := h1
 refine enter @Try.func6 @Try.ntmps6 rfl rfl ?_
 refine zent ?_
 refine zS <| za zeh fun b2 => za zeh fun b3 => Qa rfl <| Qa rfl <| Qa rfl <| zN <| Qm rfl <| zcs rfl (fun w hw => c_spec_l00From code (ok_ hw)) ?_
 intro b4
 refine Qa rfl <| zN <| Qm rfl <| zB 1 sp_ rfl (fun w hb hw => c_spec_l16Bent code 0 0 hb (ok_ hw)) ?_
 rintro _ _ G5 ⟨X5MX, X5PX, X5AT, X5SD, A5ra_9, c5ra_9, g5ra_9, vs5ra_9, f5ra_9, A5rb_0, c5rb_0, A5rb_1, c5rb_1, g5rb_1, rfl, rfl, bl5_0, bl5_1, bl5_2, bl5_3, bl5_4, bl5_5, hX5_0, hX5_1, hX5_2, hX5_3⟩
 refine znl ?_
 refine Qm rfl <| Qx rfl rfl <| Qx rfl rfl <| za zeh fun b6 => za zeh fun b7 => zw 1 rfl rfl rfl ?_
 refine zw 0 rfl rfl rfl ?_
 refine zN <| Qm rfl ?_
 refine zhl [2] ?_
 refine zB 1 sp_ rfl (fun w hb hw => c_spec_l00Src_pick code X5AT X5SD 4 hb (ok_ hw)) ?_
 rintro _ _ G8 ⟨X8KX, X8AT, X8SD, rfl, rfl, hX8_0, hX8_1, hX8_2, hX8_3⟩
 refine znl ?_
 refine Qp rfl rfl <| Qa rfl <| zN <| Qm rfl <| zB 1 sp_ rfl (fun w hb hw => c_spec_l00Src_pick code X8AT X8SD 21 hb (ok_ hw)) ?_
 rintro _ _ G9 ⟨X9KX, X9AT, X9SD, rfl, rfl, hX9_0, hX9_1, hX9_2, hX9_3⟩
 refine znl ?_
 refine Qs rfl rfl <| Qa rfl <| zN <| Qm rfl <| zB 1 sp_ rfl (fun w hb hw => c_spec_l00Src_pick code X9AT X9SD 3 hb (ok_ hw)) ?_
 rintro _ _ G10 ⟨X10KX, X10AT, X10SD, rfl, rfl, hX10_0, hX10_1, hX10_2, hX10_3⟩
 refine znl ?_
 refine Qa rfl <| zJ <| zS <| Qm rfl <| zB 1 sp_ rfl (fun w hb hw => c_spec_l00Src_pick code X10AT X10SD 12 hb (ok_ hw)) ?_
 rintro _ _ G11 ⟨X11KX, X11AT, X11SD, rfl, rfl, hX11_0, hX11_1, hX11_2, hX11_3⟩
 refine znl ?_
 refine JL.nil <| Js.block <| zS <| Qe rfl rfl <| Qa rfl <| JL.nil ?_
 refine zi (fun h12 h12' => ?_) fun h12 h12' => ?_
 ·
  refine Js.region <| Qm rfl <| zbs fun b13 => ?_
  refine zhl [1] ?_
  refine zB 1 sp_ rfl (fun w hb hw => c_spec_l00Src_among code X11AT X11SD [0, 1, 8, 9] hb (ok_ hw) (ints_rowok (xs := [0, 1, 8, 9]) (hw.pr (i := 0) rfl)) (r3 := (by simp)) (r4 := (by simp))) ?_
  rintro _ _ G15 ⟨X15KX, X15AT, X15SD, rfl, rfl, hX15_0, hX15_1, hX15_2⟩
  refine znl ?_
  refine Qa rfl <| JL.nil <| Js.blockEnd <| Js.seq ?_
  refine zk [2, 3] (fun F U l os u => l = F [(4, .int .i64 X15KX), (5, .int .i64 (X9KX - 10)), (6, .int .i64 X10KX)] ∧ os = U [nO, nO, nO, nO, nO, nO, nO, nO, nO, nO, nO, nO, nO, nO, some (boxO b3 [.slice A5rb_0 X5PX.pits.length c5rb_0, .slice A5rb_1 X5PX.stores.length c5rb_1, .int .i64 X5PX.player] 31), some (boxO b2 [.int .i64 X5MX.rules.pits, .int .i64 X5MX.rules.seeds, .bool X5MX.rules.stores, .bool X5MX.rules.skip, .bool X5MX.rules.relay, .bool X5MX.rules.feed, .bool X5MX.rules.again, .int .i64 X5MX.rules.capture, .int .i64 X5MX.rules.slam, .slice A5ra_9 X5MX.slots.length c5ra_9] 28)]) ?_ ?_
  ·
   refine zdr [5, 6] ?_
   refine JH.q 0 rfl (L9 8 rfl rfl) ?_
   refine jM 2 rfl rfl ?_
   refine jM 3 rfl rfl ?_
   refine jM 4 rfl rfl ?_
   refine y2 1 5 ?_ ?_
   ·
    refine JHo.q rfl (L9 7 rfl rfl) ?_
    refine y1 5 ?_
    refine yst rfl rfl rfl ?_
    refine y1 6 ?_
    refine yst rfl rfl rfl ?_
    refine jA 7 rfl rfl ?_
    refine jA 8 rfl rfl ?_
    refine jA 9 rfl rfl ?_
    refine yd ?_
    exact zm ⟨rfl, rfl⟩ (Up.refl _ _)
   refine yst rfl rfl rfl ?_
   refine y1 1 ?_
   refine JHo.q rfl (L9 7 rfl rfl) ?_
   refine y1 6 ?_
   refine yst rfl rfl rfl ?_
   refine jA 7 rfl rfl ?_
   refine jA 8 rfl rfl ?_
   refine jA 9 rfl rfl ?_
   refine yd ?_
   exact zm ⟨rfl, rfl⟩ (Up.refl _ _)
  rintro _ _ u16 ⟨rfl, rfl⟩ x16
  refine zn ?_
  exact zro x16 (g := by exact (gv_tup (gvc (gv_ex X5MX (by first | trivial | assumption | omega | (dsimp only; omega) | (constructor <;> first | assumption | omega) | (dsimp only; constructor <;> first | assumption | omega | (simp; done))) gv_) (gvc (gv_ex X5PX (by first | trivial | assumption | omega | (dsimp only; omega) | (constructor <;> first | assumption | omega) | (dsimp only; constructor <;> first | assumption | omega | (simp; done))) (gv_agg (gvc (gv_rx po_ (by first | rfl | assumption)) (gvc gv_ (gvc gv_ gvn))))) (gvc (gv_ex X15KX (by first | trivial | assumption | omega | (dsimp only; omega) | (constructor <;> first | assumption | omega) | (dsimp only; constructor <;> first | assumption | omega | (simp; done))) gv_) (gvc (gv_ex (X9KX - 10) (by first | trivial | assumption | omega | (dsimp only; omega) | (constructor <;> first | assumption | omega) | (dsimp only; constructor <;> first | assumption | omega | (simp; done))) gv_) (gvc (gv_ex X10KX (by first | trivial | assumption | omega | (dsimp only; omega) | (constructor <;> first | assumption | omega) | (dsimp only; constructor <;> first | assumption | omega | (simp; done))) gv_) gvn)))))))
 refine zS <| Qe rfl rfl <| Qa rfl <| JL.nil ?_
 refine zi (fun h17 h17' => ?_) fun h17 h17' => ?_
 ·
  refine Js.region <| Qm rfl <| zbs fun b18 => ?_
  refine zhl [1] ?_
  refine zB 1 sp_ rfl (fun w hb hw => c_spec_l00Src_among code X11AT X11SD [(-97), (-96), 96, 97] hb (ok_ hw) (ints_rowok (xs := [(-97), (-96), 96, 97]) (hw.pr (i := 0) rfl)) (r3 := (by simp)) (r4 := (by simp))) ?_
  rintro _ _ G20 ⟨X20KX, X20AT, X20SD, rfl, rfl, hX20_0, hX20_1, hX20_2⟩
  refine znl ?_
  refine Qa rfl <| JL.nil <| Js.blockEnd <| Js.seq ?_
  refine zk [2, 3] (fun F U l os u => l = F [(4, .int .i64 (1 + X8KX)), (5, .int .i64 X20KX), (6, .int .i64 X10KX)] ∧ os = U [nO, nO, nO, nO, nO, nO, nO, nO, nO, nO, nO, nO, nO, nO, some (boxO b3 [.slice A5rb_0 X5PX.pits.length c5rb_0, .slice A5rb_1 X5PX.stores.length c5rb_1, .int .i64 X5PX.player] 31), some (boxO b2 [.int .i64 X5MX.rules.pits, .int .i64 X5MX.rules.seeds, .bool X5MX.rules.stores, .bool X5MX.rules.skip, .bool X5MX.rules.relay, .bool X5MX.rules.feed, .bool X5MX.rules.again, .int .i64 X5MX.rules.capture, .int .i64 X5MX.rules.slam, .slice A5ra_9 X5MX.slots.length c5ra_9] 28)]) ?_ ?_
  ·
   refine zdr [5, 6] ?_
   refine JH.q 0 rfl (L9 8 rfl rfl) ?_
   refine jM 2 rfl rfl ?_
   refine jM 3 rfl rfl ?_
   refine jM 4 rfl rfl ?_
   refine y2 1 5 ?_ ?_
   ·
    refine JHo.q rfl (L9 7 rfl rfl) ?_
    refine y1 5 ?_
    refine yst rfl rfl rfl ?_
    refine y1 6 ?_
    refine yst rfl rfl rfl ?_
    refine jA 7 rfl rfl ?_
    refine jA 8 rfl rfl ?_
    refine jA 9 rfl rfl ?_
    refine yd ?_
    exact zm ⟨rfl, rfl⟩ (Up.refl _ _)
   refine yst rfl rfl rfl ?_
   refine y1 1 ?_
   refine JHo.q rfl (L9 7 rfl rfl) ?_
   refine y1 6 ?_
   refine yst rfl rfl rfl ?_
   refine jA 7 rfl rfl ?_
   refine jA 8 rfl rfl ?_
   refine jA 9 rfl rfl ?_
   refine yd ?_
   exact zm ⟨rfl, rfl⟩ (Up.refl _ _)
  rintro _ _ u21 ⟨rfl, rfl⟩ x21
  refine zn ?_
  exact zro x21 (g := by exact (gv_tup (gvc (gv_ex X5MX (by first | trivial | assumption | omega | (dsimp only; omega) | (constructor <;> first | assumption | omega) | (dsimp only; constructor <;> first | assumption | omega | (simp; done))) gv_) (gvc (gv_ex X5PX (by first | trivial | assumption | omega | (dsimp only; omega) | (constructor <;> first | assumption | omega) | (dsimp only; constructor <;> first | assumption | omega | (simp; done))) (gv_agg (gvc (gv_rx po_ (by first | rfl | assumption)) (gvc gv_ (gvc gv_ gvn))))) (gvc (gv_ex (1 + X8KX) (by first | trivial | assumption | omega | (dsimp only; omega) | (constructor <;> first | assumption | omega) | (dsimp only; constructor <;> first | assumption | omega | (simp; done))) gv_) (gvc (gv_ex X20KX (by first | trivial | assumption | omega | (dsimp only; omega) | (constructor <;> first | assumption | omega) | (dsimp only; constructor <;> first | assumption | omega | (simp; done))) gv_) (gvc (gv_ex X10KX (by first | trivial | assumption | omega | (dsimp only; omega) | (constructor <;> first | assumption | omega) | (dsimp only; constructor <;> first | assumption | omega | (simp; done))) gv_) gvn)))))))
 refine zS <| Qe rfl rfl <| Qa rfl <| JL.nil ?_
 refine zi (fun h22 h22' => ?_) fun h22 h22' => ?_
 ·
  refine Js.region <| Qm rfl <| zbs fun b23 => ?_
  refine zhl [1] ?_
  refine zB 1 sp_ rfl (fun w hb hw => c_spec_l00Src_among code X11AT X11SD [(-1), 3] hb (ok_ hw) (ints_rowok (xs := [(-1), 3]) (hw.pr (i := 0) rfl)) (r3 := (by simp)) (r4 := (by simp))) ?_
  rintro _ _ G25 ⟨X25KX, X25AT, X25SD, rfl, rfl, hX25_0, hX25_1, hX25_2⟩
  refine znl ?_
  refine Qa rfl <| JL.nil <| Js.blockEnd <| Js.seq ?_
  refine zk [2, 3] (fun F U l os u => l = F [(4, .int .i64 (1 + X8KX)), (5, .int .i64 (X9KX - 10)), (6, .int .i64 X25KX)] ∧ os = U [nO, nO, nO, nO, nO, nO, nO, nO, nO, nO, nO, nO, nO, nO, some (boxO b3 [.slice A5rb_0 X5PX.pits.length c5rb_0, .slice A5rb_1 X5PX.stores.length c5rb_1, .int .i64 X5PX.player] 31), some (boxO b2 [.int .i64 X5MX.rules.pits, .int .i64 X5MX.rules.seeds, .bool X5MX.rules.stores, .bool X5MX.rules.skip, .bool X5MX.rules.relay, .bool X5MX.rules.feed, .bool X5MX.rules.again, .int .i64 X5MX.rules.capture, .int .i64 X5MX.rules.slam, .slice A5ra_9 X5MX.slots.length c5ra_9] 28)]) ?_ ?_
  ·
   refine zdr [5, 6] ?_
   refine JH.q 0 rfl (L9 8 rfl rfl) ?_
   refine jM 2 rfl rfl ?_
   refine jM 3 rfl rfl ?_
   refine jM 4 rfl rfl ?_
   refine y2 1 5 ?_ ?_
   ·
    refine JHo.q rfl (L9 7 rfl rfl) ?_
    refine y1 5 ?_
    refine yst rfl rfl rfl ?_
    refine y1 6 ?_
    refine yst rfl rfl rfl ?_
    refine jA 7 rfl rfl ?_
    refine jA 8 rfl rfl ?_
    refine jA 9 rfl rfl ?_
    refine yd ?_
    exact zm ⟨rfl, rfl⟩ (Up.refl _ _)
   refine yst rfl rfl rfl ?_
   refine y1 1 ?_
   refine JHo.q rfl (L9 7 rfl rfl) ?_
   refine y1 6 ?_
   refine yst rfl rfl rfl ?_
   refine jA 7 rfl rfl ?_
   refine jA 8 rfl rfl ?_
   refine jA 9 rfl rfl ?_
   refine yd ?_
   exact zm ⟨rfl, rfl⟩ (Up.refl _ _)
  rintro _ _ u26 ⟨rfl, rfl⟩ x26
  refine zn ?_
  exact zro x26 (g := by exact (gv_tup (gvc (gv_ex X5MX (by first | trivial | assumption | omega | (dsimp only; omega) | (constructor <;> first | assumption | omega) | (dsimp only; constructor <;> first | assumption | omega | (simp; done))) gv_) (gvc (gv_ex X5PX (by first | trivial | assumption | omega | (dsimp only; omega) | (constructor <;> first | assumption | omega) | (dsimp only; constructor <;> first | assumption | omega | (simp; done))) (gv_agg (gvc (gv_rx po_ (by first | rfl | assumption)) (gvc gv_ (gvc gv_ gvn))))) (gvc (gv_ex (1 + X8KX) (by first | trivial | assumption | omega | (dsimp only; omega) | (constructor <;> first | assumption | omega) | (dsimp only; constructor <;> first | assumption | omega | (simp; done))) gv_) (gvc (gv_ex (X9KX - 10) (by first | trivial | assumption | omega | (dsimp only; omega) | (constructor <;> first | assumption | omega) | (dsimp only; constructor <;> first | assumption | omega | (simp; done))) gv_) (gvc (gv_ex X25KX (by first | trivial | assumption | omega | (dsimp only; omega) | (constructor <;> first | assumption | omega) | (dsimp only; constructor <;> first | assumption | omega | (simp; done))) gv_) gvn)))))))
 refine Js.skip <| Js.blockEnd <| Js.seq ?_
 refine zk [2, 3] (fun F U l os u => l = F [(4, .int .i64 (1 + X8KX)), (5, .int .i64 (X9KX - 10)), (6, .int .i64 X10KX)] ∧ os = U [nO, nO, nO, nO, nO, nO, nO, nO, nO, nO, nO, nO, some (boxO b3 [.slice A5rb_0 X5PX.pits.length c5rb_0, .slice A5rb_1 X5PX.stores.length c5rb_1, .int .i64 X5PX.player] 31), some (boxO b2 [.int .i64 X5MX.rules.pits, .int .i64 X5MX.rules.seeds, .bool X5MX.rules.stores, .bool X5MX.rules.skip, .bool X5MX.rules.relay, .bool X5MX.rules.feed, .bool X5MX.rules.again, .int .i64 X5MX.rules.capture, .int .i64 X5MX.rules.slam, .slice A5ra_9 X5MX.slots.length c5ra_9] 28)]) ?_ ?_
 ·
  refine zdr [5, 6] ?_
  refine JH.q 0 rfl (L9 6 rfl rfl) ?_
  refine jM 2 rfl rfl ?_
  refine jM 3 rfl rfl ?_
  refine jM 4 rfl rfl ?_
  refine y2 1 5 ?_ ?_
  ·
   refine JHo.q rfl (L9 5 rfl rfl) ?_
   refine y1 5 ?_
   refine yst rfl rfl rfl ?_
   refine y1 6 ?_
   refine yst rfl rfl rfl ?_
   refine jA 7 rfl rfl ?_
   refine jA 8 rfl rfl ?_
   refine jA 9 rfl rfl ?_
   refine yd ?_
   exact zm ⟨rfl, rfl⟩ (Up.refl _ _)
  refine yst rfl rfl rfl ?_
  refine y1 1 ?_
  refine JHo.q rfl (L9 5 rfl rfl) ?_
  refine y1 6 ?_
  refine yst rfl rfl rfl ?_
  refine jA 7 rfl rfl ?_
  refine jA 8 rfl rfl ?_
  refine jA 9 rfl rfl ?_
  refine yd ?_
  exact zm ⟨rfl, rfl⟩ (Up.refl _ _)
 rintro _ _ u27 ⟨rfl, rfl⟩ x27
 refine zn ?_
 exact zro x27 (g := by exact (gv_tup (gvc (gv_ex X5MX (by first | trivial | assumption | omega | (dsimp only; omega) | (constructor <;> first | assumption | omega) | (dsimp only; constructor <;> first | assumption | omega | (simp; done))) gv_) (gvc (gv_ex X5PX (by first | trivial | assumption | omega | (dsimp only; omega) | (constructor <;> first | assumption | omega) | (dsimp only; constructor <;> first | assumption | omega | (simp; done))) (gv_agg (gvc (gv_rx po_ (by first | rfl | assumption)) (gvc gv_ (gvc gv_ gvn))))) (gvc (gv_ex (1 + X8KX) (by first | trivial | assumption | omega | (dsimp only; omega) | (constructor <;> first | assumption | omega) | (dsimp only; constructor <;> first | assumption | omega | (simp; done))) gv_) (gvc (gv_ex (X9KX - 10) (by first | trivial | assumption | omega | (dsimp only; omega) | (constructor <;> first | assumption | omega) | (dsimp only; constructor <;> first | assumption | omega | (simp; done))) gv_) (gvc (gv_ex X10KX (by first | trivial | assumption | omega | (dsimp only; omega) | (constructor <;> first | assumption | omega) | (dsimp only; constructor <;> first | assumption | omega | (simp; done))) gv_) gvn)))))))
theorem c_spec_DrawLookValue (code : Nat) {v_code : Value} {w : World} (h_code : (Ty.bytes 5 code).ok w v_code) (r0 : code ≤ 1048576 := by exact om_) : Ret Try.prog 11 [v_code] w (Ty.tup [Ty.ex (fun (MX : M.Mem) => (MX.slots.length ≤ 65 ∧ M.SzM 16 MX.slots)) (fun MX => Ty.agg (cMemory MX)), Ty.ex (fun (PX : M.Pos) => (PX.pits.length ≤ 4194304 ∧ PX.stores.length ≤ 4194304)) (fun PX => Ty.agg (cPositionL PX)), Ty.ex (fun (KX : Int) => True) (fun KX => Ty.int KX)]) := by
 revert v_code; apply opn
 intro A1 c1 h1 bl1 bh1
 have h_code := h1
 refine enter @Try.func11 @Try.ntmps11 rfl rfl ?_
 refine zent ?_
 refine zS <| za zeh fun b2 => za zeh fun b3 => Qa rfl <| zN <| Qm rfl <| zcs rfl (fun w hw => c_spec_l00From code (ok_ hw)) ?_
 intro b4
 refine Qa rfl <| zN <| Qm rfl <| zB 1 sp_ rfl (fun w hb hw => c_spec_l16Bent code 0 0 hb (ok_ hw)) ?_
 rintro _ _ G5 ⟨X5MX, X5PX, X5AT, X5SD, A5ra_9, c5ra_9, g5ra_9, vs5ra_9, f5ra_9, A5rb_0, c5rb_0, A5rb_1, c5rb_1, g5rb_1, rfl, rfl, bl5_0, bl5_1, bl5_2, bl5_3, bl5_4, bl5_5, hX5_0, hX5_1, hX5_2, hX5_3⟩
 refine znl ?_
 have hMB9 := (by assumption : X5MX.slots.length ≤ 65 ∧ M.SzM 16 X5MX.slots)
 obtain ⟨hs64, hsz⟩ := hMB9
 refine Qm rfl <| Qx rfl rfl <| Qx rfl rfl <| za zeh fun b6 => za zeh fun b7 => zw 1 rfl rfl rfl ?_
 refine zw 0 rfl rfl rfl ?_
 refine zN <| Qm rfl <| Qf fh rfl <| Q0 1 rfl rfl rfl <| Qz rfl <| Qp rfl rfl ?_
 refine zhl [2] ?_
 refine zB 1 sp_ rfl (fun w hb hw => c_spec_l00Src_pick code X5AT X5SD ((X5MX.slots.length : Int) + 1) hb (ok_ hw)) ?_
 rintro _ _ G8 ⟨X8KX, X8AT, X8SD, rfl, rfl, hX8_0, hX8_1, hX8_2, hX8_3⟩
 refine znl ?_
 refine Qa rfl <| zJ <| Js.seq ?_
 rcases Bool.eq_false_or_eq_true (decide (X8KX < (X5MX.slots.length : Int))) with h9 | h9
 ·
  have h9' := h9; simp only [decide_eq_true_eq, Int.not_lt, Int.not_le] at h9'
  rcases Bool.eq_false_or_eq_true ((decide (X8KX < (X5MX.slots.length : Int))) && ((M.slo X5MX.slots X8KX.toNat).used)) with h10 | h10
  ·
   refine Js.region <| Qm rfl <| Qf fh rfl <| Q0 3 rfl rfl rfl <| Qz rfl <| Ql rfl rfl <| Qm rfl <| zT (Gd.t1 rfl rfl rfl) (show (decide (X8KX < (X5MX.slots.length : Int))) = true by first | exact h9 | (rw [h9]; rfl) | simp [h9]) <| Qf fh rfl <| zT (Gd.t1 rfl rfl rfl) (show (decide (X8KX < (X5MX.slots.length : Int))) = true by first | exact h9 | (rw [h9]; rfl) | simp [h9]) <| Q0 3 rfl rfl rfl <| zT (Gd.t1 rfl rfl rfl) (show (decide (X8KX < (X5MX.slots.length : Int))) = true by first | exact h9 | (rw [h9]; rfl) | simp [h9]) <| Qm rfl <| zT (Gd.t1 rfl rfl rfl) (show (decide (X8KX < (X5MX.slots.length : Int))) = true by first | exact h9 | (rw [h9]; rfl) | simp [h9]) ?_
   refine JL.fact (row_some (i := 4) rfl (by omega)) (fun hf12 => ?_)
   obtain ⟨b12, rfl⟩ := hf12
   have hy11 : X5MX.slots[X8KX.toNat]? = some (M.slo X5MX.slots X8KX.toNat) := M.slo_get len_
   refine JL.fact (fun w hw => elemv_Slot (Mem.ownC (i := 5) rfl w hw) hy11) (fun hf11 => ?_)
   obtain ⟨A11_1, c11_1, he11, bl11_1, bh11_1⟩ := hf11
   refine Qq (p_indexAddr el_26 rfl rfl (by omega) (by omega) rfl) <| zT (Gd.t1 rfl rfl rfl) (show (decide (X8KX < (X5MX.slots.length : Int))) = true by first | exact h9 | (rw [h9]; rfl) | simp [h9]) <| Qf fh rfl <| zT (Gd.t1 rfl rfl rfl) (show (decide (X8KX < (X5MX.slots.length : Int))) = true by first | exact h9 | (rw [h9]; rfl) | simp [h9]) <| Qw (q_load1 ty_4.h rfl (fun w hw => (Mem.rowR' (i := 4) rfl he11 w hw) 0 _ rfl)) <| Qq (p_pickAnd2 rfl rfl rfl) <| Qm rfl <| zT (Gd.t1 rfl rfl rfl) (show ((decide (X8KX < (X5MX.slots.length : Int))) && ((M.slo X5MX.slots X8KX.toNat).used)) = true by first | exact h10 | (rw [h10]; rfl) | simp [h10]) <| Qm rfl <| zT (Gd.t1 rfl rfl rfl) (show ((decide (X8KX < (X5MX.slots.length : Int))) && ((M.slo X5MX.slots X8KX.toNat).used)) = true by first | exact h10 | (rw [h10]; rfl) | simp [h10]) <| zB 1 sp_ rfl (fun w hb hw => c_spec_l00Src_one code X8AT X8SD 3 hb (ok_ hw)) ?_
   rintro _ _ G13 ⟨X13BX, X13AT, X13SD, rfl, rfl, hX13_0, hX13_1⟩
   refine znl ?_
   refine zT (Gd.t1 rfl rfl rfl) (show ((decide (X8KX < (X5MX.slots.length : Int))) && ((M.slo X5MX.slots X8KX.toNat).used)) = true by first | exact h10 | (rw [h10]; rfl) | simp [h10]) <| Qt rfl <| Qq (p_pickAnd2 rfl rfl rfl) <| JL.nil ?_
   refine zi (fun h14 h14' => ?_) fun h14 h14' => ?_
   ·
    have hse := hsz _ (M.slo_mem (l := X5MX.slots) (k := X8KX.toNat) (by omega))
    have hy15 : X5MX.slots[X8KX.toNat]? = some (M.slo X5MX.slots X8KX.toNat) := M.slo_get len_
    refine zS <| Qf fh rfl <| Q0 4 rfl rfl rfl <| Qm rfl ?_
    refine JL.fact (fun w hw => elemv_Slot (Mem.ownC (i := 6) rfl w hw) hy15) (fun hf15 => ?_)
    obtain ⟨A15_1, c15_1, he15, bl15_1, bh15_1⟩ := hf15
    refine Qq (p_indexAddr el_26 rfl rfl (by omega) (by omega) rfl) <| Qw (q_loadN ty_45.h rfl (Mem.rowR' (i := 5) rfl he15) rfl rfl) <| za zeh fun b16 => zw 0 rfl rfl rfl ?_
    refine zN <| zc rfl (fun w hw => c_spec_l16Key (M.slo X5MX.slots X8KX.toNat) (elemOk cSlot (m := 6) (k := X8KX.toNat) (xs := X5MX.slots) (fun _ => rfl) (Mem.ownC (i := 7) rfl w hw) hy15 he15).2.1 (Mem.boxR (i := 0) rfl 0 6 _ hw)) ?_
    intro A17 c17 bl17 bh17
    refine za zeh fun b18 => zw 0 rfl rfl rfl ?_
    refine zJ ?_
    refine zk [2, 3] (fun F U l os u => ∃ (A21 : Option Addr) (c21 : Nat) (A20 : Option Addr) (c20 : Nat), l = F [(4, .int .i64 ((M.slo X5MX.slots X8KX.toNat).depth))] ∧ os = [rowO 2 1 (.slice A21 (([0, 0] : List Int).length) c21) (([0, 0] : List Int).length) (ints_ [0, 0]) [], rowO 2 1 (.slice A20 (((M.slo X5MX.slots X8KX.toNat).pits).length) c20) (((M.slo X5MX.slots X8KX.toNat).pits).length) (ints_ ((M.slo X5MX.slots X8KX.toNat).pits)) []] ++ U [nO, nO, nO, nO, nO, nO, nO, nO, nO, nO, nO, nO, nO, some (boxO b3 [.slice A20 (((M.slo X5MX.slots X8KX.toNat).pits).length) c20, .slice A21 (([0, 0] : List Int).length) c21, .int .i64 ((M.slo X5MX.slots X8KX.toNat).player)] 31), some (boxO b2 [.int .i64 X5MX.rules.pits, .int .i64 X5MX.rules.seeds, .bool X5MX.rules.stores, .bool X5MX.rules.skip, .bool X5MX.rules.relay, .bool X5MX.rules.feed, .bool X5MX.rules.again, .int .i64 X5MX.rules.capture, .int .i64 X5MX.rules.slam, .slice (some ⟨b12, 0, none⟩) X5MX.slots.length c5ra_9] 28)] ∧ (([0, 0] : List Int).length ≤ c21) ∧ (c21 ≤ 9223372036854775807) ∧ (((M.slo X5MX.slots X8KX.toNat).pits).length ≤ c20) ∧ (c20 ≤ 9223372036854775807)) ?_ ?_
    ·
     refine zdr [4, 5] ?_
     refine JH.q 0 rfl (L9 7 rfl rfl) ?_
     refine jF 2 fld_45_3 rfl rfl ?_
     refine y2 1 3 ?_ ?_
     ·
      refine yc rfl rfl (fun w hw => c_spec_l04Own (M.Pos.mk ((M.slo X5MX.slots X8KX.toNat).pits) [0, 0] ((M.slo X5MX.slots X8KX.toNat).player)) ⟨_, _, [.slice A15_1 (((M.slo X5MX.slots X8KX.toNat).pits).length) c15_1, .slice A17 (([0, 0] : List Int).length) c17, .int .i64 ((M.slo X5MX.slots X8KX.toNat).player)], rfl, ⟨(elemOk cSlot (m := 6) (k := X8KX.toNat) (xs := X5MX.slots) (fun _ => rfl) (Mem.ownC (i := 9) rfl w hw) hy15 he15).2.1, (okx_ hw), rfl, trivial⟩, Mem.boxR (i := 0) rfl 0 3 _ hw⟩) ?_
      intro A27 c27 bl27 bh27 A28 c28 bl28 bh28
      refine y2 3 4 ?_ ?_
      ·
       refine JHo.q rfl (q_load1 ty_2.h rfl (Mem.box (i := 4) rfl rfl)) ?_
       refine y1 4 ?_
       refine yst rfl rfl rfl ?_
       refine y1 5 ?_
       refine yst rfl rfl rfl ?_
       refine jA 6 rfl rfl ?_
       refine yd ?_
       exact zm ⟨_, _, _, _, rfl, rfl, zt, zt, zt, zt⟩ (Up.refl _ _)
      refine yst rfl rfl rfl ?_
      refine y2 3 5 ?_ ?_
      ·
       refine JHo.q rfl (q_load1 ty_2.h rfl (Mem.box (i := 4) rfl rfl)) ?_
       refine y1 5 ?_
       refine yst rfl rfl rfl ?_
       refine jA 6 rfl rfl ?_
       refine yd ?_
       exact zm ⟨_, _, _, _, rfl, rfl, zt, zt, zt, zt⟩ (Up.refl _ _)
      refine yst rfl rfl rfl ?_
      refine y1 3 ?_
      refine JHo.q rfl (q_load1 ty_2.h rfl (Mem.box (i := 4) rfl rfl)) ?_
      refine jA 6 rfl rfl ?_
      refine yd ?_
      exact zm ⟨_, _, _, _, rfl, rfl, zt, zt, zt, zt⟩ (Up.refl _ _)
     refine JHo.q rfl (q_load1 ty_2.h rfl (Mem.box (i := 2) rfl rfl)) ?_
     refine y1 1 ?_
     refine yc rfl rfl (fun w hw => c_spec_l04Own (M.Pos.mk ((M.slo X5MX.slots X8KX.toNat).pits) [0, 0] ((M.slo X5MX.slots X8KX.toNat).player)) ⟨_, _, [.slice A15_1 (((M.slo X5MX.slots X8KX.toNat).pits).length) c15_1, .slice A17 (([0, 0] : List Int).length) c17, .int .i64 ((M.slo X5MX.slots X8KX.toNat).player)], rfl, ⟨(elemOk cSlot (m := 6) (k := X8KX.toNat) (xs := X5MX.slots) (fun _ => rfl) (Mem.ownC (i := 9) rfl w hw) hy15 he15).2.1, (okx_ hw), rfl, trivial⟩, Mem.boxR (i := 0) rfl 0 3 _ hw⟩) ?_
     intro A30 c30 bl30 bh30 A31 c31 bl31 bh31
     refine y1 4 ?_
     refine yst rfl rfl rfl ?_
     refine y1 5 ?_
     refine yst rfl rfl rfl ?_
     refine jA 6 rfl rfl ?_
     refine yd ?_
     exact zm ⟨_, _, _, _, rfl, rfl, zt, zt, zt, zt⟩ (Up.refl _ _)
    rintro _ _ u25 ⟨A21, c21, A20, c20, rfl, rfl, f25_0, f25_1, f25_2, f25_3⟩ x25
    refine zn ?_
    exact zro x25 (g := by exact (gv_tup (gvc (gv_ex X5MX (by first | trivial | assumption | omega | (dsimp only; omega) | (constructor <;> first | assumption | omega) | (dsimp only; constructor <;> first | assumption | omega | (simp; done))) gv_) (gvc (gv_ex (M.Pos.mk ((M.slo X5MX.slots X8KX.toNat).pits) [0, 0] ((M.slo X5MX.slots X8KX.toNat).player)) (by first | trivial | assumption | omega | (dsimp only; omega) | (constructor <;> first | assumption | omega) | (dsimp only; constructor <;> first | assumption | omega | (simp; done))) (gv_agg (gvc (gv_rxR po_ (by first | rfl | assumption)) (gvc gv_ (gvc gv_ gvn))))) (gvc (gv_ex ((M.slo X5MX.slots X8KX.toNat).depth) (by first | trivial | assumption | omega | (dsimp only; omega) | (constructor <;> first | assumption | omega) | (dsimp only; constructor <;> first | assumption | omega | (simp; done))) gv_) gvn)))))
   refine Js.skip <| Js.seq ?_
   refine zk [2, 3] (fun F U l os u => ∃ (X32KX : Int) (G32 : List Nat) (X32AT X32SD : Int), l = F [(4, .int .i64 X32KX)] ∧ os = [anyO G32] ++ U [some (boxO b4 [.slice A1 code c1, .int .i64 X32AT, .int .u64 X32SD] 91), nO, nO, nO, nO, nO, nO, nO, nO, nO, some (boxO b3 [.slice A5rb_0 X5PX.pits.length c5rb_0, .slice A5rb_1 X5PX.stores.length c5rb_1, .int .i64 X5PX.player] 31), some (boxO b2 [.int .i64 X5MX.rules.pits, .int .i64 X5MX.rules.seeds, .bool X5MX.rules.stores, .bool X5MX.rules.skip, .bool X5MX.rules.relay, .bool X5MX.rules.feed, .bool X5MX.rules.again, .int .i64 X5MX.rules.capture, .int .i64 X5MX.rules.slam, .slice (some ⟨b12, 0, none⟩) X5MX.slots.length c5ra_9] 28)] ∧ (0 ≤ X32KX) ∧ (X32KX = 0 ∨ X32KX < 5) ∧ (X13AT ≤ X32AT) ∧ (X32AT ≤ X13AT + 2)) ?_ ?_
   ·
    refine zdr [3, 4, 5] ?_
    refine jM 2 rfl rfl ?_
    refine y3 0 1 3 ?_ ?_ ?_
    ·
     refine JHo.q rfl (L9 4 rfl rfl) ?_
     refine y2 1 3 ?_ ?_
     ·
      refine JHo.q rfl (L9 3 rfl rfl) ?_
      refine y1 3 ?_
      refine yB 1 sp_ rfl rfl (fun w hb hw => c_spec_l00Src_pick code X13AT X13SD 5 hb (ok_ hw)) ?_
      rintro _ _ G38 ⟨X38KX, X38AT, X38SD, rfl, rfl, hX38_0, hX38_1, hX38_2, hX38_3⟩
      refine znh ?_
      refine y1 4 ?_
      refine yst rfl rfl rfl ?_
      refine y1 5 ?_
      refine yst rfl rfl rfl ?_
      refine jA 6 rfl rfl ?_
      refine yd ?_
      refine zh [1, 0, 0, 0, 0, 0, 0, 0, 0, 0, 0, 0, 0] ?_
      exact zm ⟨_, _, _, _, rfl, rfl, zt, zt, zt, zt⟩ (Up.refl _ _) ⟨rfl, rfl, rfl, trivial⟩
     refine yB 1 sp_ rfl rfl (fun w hb hw => c_spec_l00Src_pick code X13AT X13SD 5 hb (ok_ hw)) ?_
     rintro _ _ G39 ⟨X39KX, X39AT, X39SD, rfl, rfl, hX39_0, hX39_1, hX39_2, hX39_3⟩
     refine znh ?_
     refine y2 1 4 ?_ ?_
     ·
      refine JHo.q rfl (L9 4 rfl rfl) ?_
      refine y1 4 ?_
      refine yst rfl rfl rfl ?_
      refine y1 5 ?_
      refine yst rfl rfl rfl ?_
      refine jA 6 rfl rfl ?_
      refine yd ?_
      refine zh [1, 0, 0, 0, 0, 0, 0, 0, 0, 0, 0, 0, 0] ?_
      exact zm ⟨_, _, _, _, rfl, rfl, zt, zt, zt, zt⟩ (Up.refl _ _) ⟨rfl, rfl, rfl, trivial⟩
     refine yst rfl rfl rfl ?_
     refine y1 1 ?_
     refine JHo.q rfl (L9 4 rfl rfl) ?_
     refine y1 5 ?_
     refine yst rfl rfl rfl ?_
     refine jA 6 rfl rfl ?_
     refine yd ?_
     refine zh [1, 0, 0, 0, 0, 0, 0, 0, 0, 0, 0, 0, 0] ?_
     exact zm ⟨_, _, _, _, rfl, rfl, zt, zt, zt, zt⟩ (Up.refl _ _) ⟨rfl, rfl, rfl, trivial⟩
    ·
     refine JHo.q rfl (L9 3 rfl rfl) ?_
     refine y2 0 3 ?_ ?_
     ·
      refine JHo.q rfl (L9 4 rfl rfl) ?_
      refine y1 3 ?_
      refine yB 1 sp_ rfl rfl (fun w hb hw => c_spec_l00Src_pick code X13AT X13SD 5 hb (ok_ hw)) ?_
      rintro _ _ G40 ⟨X40KX, X40AT, X40SD, rfl, rfl, hX40_0, hX40_1, hX40_2, hX40_3⟩
      refine znh ?_
      refine y1 4 ?_
      refine yst rfl rfl rfl ?_
      refine y1 5 ?_
      refine yst rfl rfl rfl ?_
      refine jA 6 rfl rfl ?_
      refine yd ?_
      refine zh [1, 0, 0, 0, 0, 0, 0, 0, 0, 0, 0, 0, 0] ?_
      exact zm ⟨_, _, _, _, rfl, rfl, zt, zt, zt, zt⟩ (Up.refl _ _) ⟨rfl, rfl, rfl, trivial⟩
     refine yB 1 sp_ rfl rfl (fun w hb hw => c_spec_l00Src_pick code X13AT X13SD 5 hb (ok_ hw)) ?_
     rintro _ _ G41 ⟨X41KX, X41AT, X41SD, rfl, rfl, hX41_0, hX41_1, hX41_2, hX41_3⟩
     refine znh ?_
     refine y1 0 ?_
     refine JHo.q rfl (L9 5 rfl rfl) ?_
     refine y1 4 ?_
     refine yst rfl rfl rfl ?_
     refine y1 5 ?_
     refine yst rfl rfl rfl ?_
     refine jA 6 rfl rfl ?_
     refine yd ?_
     refine zh [1, 0, 0, 0, 0, 0, 0, 0, 0, 0, 0, 0, 0] ?_
     exact zm ⟨_, _, _, _, rfl, rfl, zt, zt, zt, zt⟩ (Up.refl _ _) ⟨rfl, rfl, rfl, trivial⟩
    refine yB 1 sp_ rfl rfl (fun w hb hw => c_spec_l00Src_pick code X13AT X13SD 5 hb (ok_ hw)) ?_
    rintro _ _ G42 ⟨X42KX, X42AT, X42SD, rfl, rfl, hX42_0, hX42_1, hX42_2, hX42_3⟩
    refine znh ?_
    refine y2 0 1 ?_ ?_
    ·
     refine JHo.q rfl (L9 5 rfl rfl) ?_
     refine y2 1 4 ?_ ?_
     ·
      refine JHo.q rfl (L9 4 rfl rfl) ?_
      refine y1 4 ?_
      refine yst rfl rfl rfl ?_
      refine y1 5 ?_
      refine yst rfl rfl rfl ?_
      refine jA 6 rfl rfl ?_
      refine yd ?_
      refine zh [1, 0, 0, 0, 0, 0, 0, 0, 0, 0, 0, 0, 0] ?_
      exact zm ⟨_, _, _, _, rfl, rfl, zt, zt, zt, zt⟩ (Up.refl _ _) ⟨rfl, rfl, rfl, trivial⟩
     refine yst rfl rfl rfl ?_
     refine y1 1 ?_
     refine JHo.q rfl (L9 4 rfl rfl) ?_
     refine y1 5 ?_
     refine yst rfl rfl rfl ?_
     refine jA 6 rfl rfl ?_
     refine yd ?_
     refine zh [1, 0, 0, 0, 0, 0, 0, 0, 0, 0, 0, 0, 0] ?_
     exact zm ⟨_, _, _, _, rfl, rfl, zt, zt, zt, zt⟩ (Up.refl _ _) ⟨rfl, rfl, rfl, trivial⟩
    refine JHo.q rfl (L9 4 rfl rfl) ?_
    refine y1 0 ?_
    refine JHo.q rfl (L9 5 rfl rfl) ?_
    refine y1 4 ?_
    refine yst rfl rfl rfl ?_
    refine y1 5 ?_
    refine yst rfl rfl rfl ?_
    refine jA 6 rfl rfl ?_
    refine yd ?_
    refine zh [1, 0, 0, 0, 0, 0, 0, 0, 0, 0, 0, 0, 0] ?_
    exact zm ⟨_, _, _, _, rfl, rfl, zt, zt, zt, zt⟩ (Up.refl _ _) ⟨rfl, rfl, rfl, trivial⟩
   rintro _ _ u37 ⟨X32KX, G32, X32AT, X32SD, rfl, rfl, f37_0, f37_1, f37_2, f37_3⟩ x37
   refine zn ?_
   exact zro x37 (g := by exact (gv_tup (gvc (gv_ex X5MX (by first | trivial | assumption | omega | (dsimp only; omega) | (constructor <;> first | assumption | omega) | (dsimp only; constructor <;> first | assumption | omega | (simp; done))) gv_) (gvc (gv_ex X5PX (by first | trivial | assumption | omega | (dsimp only; omega) | (constructor <;> first | assumption | omega) | (dsimp only; constructor <;> first | assumption | omega | (simp; done))) (gv_agg (gvc (gv_rx po_ (by first | rfl | assumption)) (gvc gv_ (gvc gv_ gvn))))) (gvc (gv_ex X32KX (by first | trivial | assumption | omega | (dsimp only; omega) | (constructor <;> first | assumption | omega) | (dsimp only; constructor <;> first | assumption | omega | (simp; done))) gv_) gvn)))))
  refine Js.region <| Qm rfl <| Qf fh rfl <| Q0 3 rfl rfl rfl <| Qz rfl <| Ql rfl rfl <| Qm rfl <| zT (Gd.t1 rfl rfl rfl) (show (decide (X8KX < (X5MX.slots.length : Int))) = true by first | exact h9 | (rw [h9]; rfl) | simp [h9]) <| Qf fh rfl <| zT (Gd.t1 rfl rfl rfl) (show (decide (X8KX < (X5MX.slots.length : Int))) = true by first | exact h9 | (rw [h9]; rfl) | simp [h9]) <| Q0 3 rfl rfl rfl <| zT (Gd.t1 rfl rfl rfl) (show (decide (X8KX < (X5MX.slots.length : Int))) = true by first | exact h9 | (rw [h9]; rfl) | simp [h9]) <| Qm rfl <| zT (Gd.t1 rfl rfl rfl) (show (decide (X8KX < (X5MX.slots.length : Int))) = true by first | exact h9 | (rw [h9]; rfl) | simp [h9]) ?_
  refine JL.fact (row_some (i := 4) rfl (by omega)) (fun hf44 => ?_)
  obtain ⟨b44, rfl⟩ := hf44
  have hy43 : X5MX.slots[X8KX.toNat]? = some (M.slo X5MX.slots X8KX.toNat) := M.slo_get len_
  refine JL.fact (fun w hw => elemv_Slot (Mem.ownC (i := 5) rfl w hw) hy43) (fun hf43 => ?_)
  obtain ⟨A43_1, c43_1, he43, bl43_1, bh43_1⟩ := hf43
  refine Qq (p_indexAddr el_26 rfl rfl (by omega) (by omega) rfl) <| zT (Gd.t1 rfl rfl rfl) (show (decide (X8KX < (X5MX.slots.length : Int))) = true by first | exact h9 | (rw [h9]; rfl) | simp [h9]) <| Qf fh rfl <| zT (Gd.t1 rfl rfl rfl) (show (decide (X8KX < (X5MX.slots.length : Int))) = true by first | exact h9 | (rw [h9]; rfl) | simp [h9]) <| Qw (q_load1 ty_4.h rfl (fun w hw => (Mem.rowR' (i := 4) rfl he43 w hw) 0 _ rfl)) <| Qq (p_pickAnd2 rfl rfl rfl) <| Qm rfl ?_
  refine JL.g (v := undef) (Gd.t1 rfl rfl rfl) (fun hc => absurd hc (by first | (rw [h10]; simp; done) | simp [h10])) ?_
  refine JL.g (v := .bool false) (Gd.t1 rfl rfl rfl) (fun hc => absurd hc (by first | (rw [h10]; simp; done) | simp [h10])) ?_
  refine JL.g (v := .bool false) (Gd.t1 rfl rfl rfl) (fun hc => absurd hc (by first | (rw [h10]; simp; done) | simp [h10])) ?_
  refine Qq (p_pickAnd rfl rfl rfl) <| JL.nil ?_
  -- known
  refine Js.condF rfl (by rw [h10]; rfl) ?_
  refine Js.skip <| Js.seq ?_
  refine zk [2, 3] (fun F U l os u => ∃ (X45KX : Int) (G45 : List Nat) (X45AT X45SD : Int), l = F [(4, .int .i64 X45KX)] ∧ os = [anyO G45] ++ U [some (boxO b4 [.slice A1 code c1, .int .i64 X45AT, .int .u64 X45SD] 91), nO, nO, nO, nO, nO, nO, nO, nO, some (boxO b3 [.slice A5rb_0 X5PX.pits.length c5rb_0, .slice A5rb_1 X5PX.stores.length c5rb_1, .int .i64 X5PX.player] 31), some (boxO b2 [.int .i64 X5MX.rules.pits, .int .i64 X5MX.rules.seeds, .bool X5MX.rules.stores, .bool X5MX.rules.skip, .bool X5MX.rules.relay, .bool X5MX.rules.feed, .bool X5MX.rules.again, .int .i64 X5MX.rules.capture, .int .i64 X5MX.rules.slam, .slice (some ⟨b44, 0, none⟩) X5MX.slots.length c5ra_9] 28)] ∧ (0 ≤ X45KX) ∧ (X45KX = 0 ∨ X45KX < 5) ∧ (X8AT ≤ X45AT) ∧ (X45AT ≤ X8AT + 2)) ?_ ?_
  ·
   refine zdr [3, 4, 5] ?_
   refine jM 2 rfl rfl ?_
   refine y3 0 1 3 ?_ ?_ ?_
   ·
    refine JHo.q rfl (L9 3 rfl rfl) ?_
    refine y2 1 3 ?_ ?_
    ·
     refine JHo.q rfl (L9 2 rfl rfl) ?_
     refine y1 3 ?_
     refine yB 1 sp_ rfl rfl (fun w hb hw => c_spec_l00Src_pick code X8AT X8SD 5 hb (ok_ hw)) ?_
     rintro _ _ G51 ⟨X51KX, X51AT, X51SD, rfl, rfl, hX51_0, hX51_1, hX51_2, hX51_3⟩
     refine znh ?_
     refine y1 4 ?_
     refine yst rfl rfl rfl ?_
     refine y1 5 ?_
     refine yst rfl rfl rfl ?_
     refine jA 6 rfl rfl ?_
     refine yd ?_
     refine zh [1, 0, 0, 0, 0, 0, 0, 0, 0, 0, 0, 0] ?_
     exact zm ⟨_, _, _, _, rfl, rfl, zt, zt, zt, zt⟩ (Up.refl _ _) ⟨rfl, rfl, rfl, trivial⟩
    refine yB 1 sp_ rfl rfl (fun w hb hw => c_spec_l00Src_pick code X8AT X8SD 5 hb (ok_ hw)) ?_
    rintro _ _ G52 ⟨X52KX, X52AT, X52SD, rfl, rfl, hX52_0, hX52_1, hX52_2, hX52_3⟩
    refine znh ?_
    refine y2 1 4 ?_ ?_
    ·
     refine JHo.q rfl (L9 3 rfl rfl) ?_
     refine y1 4 ?_
     refine yst rfl rfl rfl ?_
     refine y1 5 ?_
     refine yst rfl rfl rfl ?_
     refine jA 6 rfl rfl ?_
     refine yd ?_
     refine zh [1, 0, 0, 0, 0, 0, 0, 0, 0, 0, 0, 0] ?_
     exact zm ⟨_, _, _, _, rfl, rfl, zt, zt, zt, zt⟩ (Up.refl _ _) ⟨rfl, rfl, rfl, trivial⟩
    refine yst rfl rfl rfl ?_
    refine y1 1 ?_
    refine JHo.q rfl (L9 3 rfl rfl) ?_
    refine y1 5 ?_
    refine yst rfl rfl rfl ?_
    refine jA 6 rfl rfl ?_
    refine yd ?_
    refine zh [1, 0, 0, 0, 0, 0, 0, 0, 0, 0, 0, 0] ?_
    exact zm ⟨_, _, _, _, rfl, rfl, zt, zt, zt, zt⟩ (Up.refl _ _) ⟨rfl, rfl, rfl, trivial⟩
   ·
    refine JHo.q rfl (L9 2 rfl rfl) ?_
    refine y2 0 3 ?_ ?_
    ·
     refine JHo.q rfl (L9 3 rfl rfl) ?_
     refine y1 3 ?_
     refine yB 1 sp_ rfl rfl (fun w hb hw => c_spec_l00Src_pick code X8AT X8SD 5 hb (ok_ hw)) ?_
     rintro _ _ G53 ⟨X53KX, X53AT, X53SD, rfl, rfl, hX53_0, hX53_1, hX53_2, hX53_3⟩
     refine znh ?_
     refine y1 4 ?_
     refine yst rfl rfl rfl ?_
     refine y1 5 ?_
     refine yst rfl rfl rfl ?_
     refine jA 6 rfl rfl ?_
     refine yd ?_
     refine zh [1, 0, 0, 0, 0, 0, 0, 0, 0, 0, 0, 0] ?_
     exact zm ⟨_, _, _, _, rfl, rfl, zt, zt, zt, zt⟩ (Up.refl _ _) ⟨rfl, rfl, rfl, trivial⟩
    refine yB 1 sp_ rfl rfl (fun w hb hw => c_spec_l00Src_pick code X8AT X8SD 5 hb (ok_ hw)) ?_
    rintro _ _ G54 ⟨X54KX, X54AT, X54SD, rfl, rfl, hX54_0, hX54_1, hX54_2, hX54_3⟩
    refine znh ?_
    refine y1 0 ?_
    refine JHo.q rfl (L9 4 rfl rfl) ?_
    refine y1 4 ?_
    refine yst rfl rfl rfl ?_
    refine y1 5 ?_
    refine yst rfl rfl rfl ?_
    refine jA 6 rfl rfl ?_
    refine yd ?_
    refine zh [1, 0, 0, 0, 0, 0, 0, 0, 0, 0, 0, 0] ?_
    exact zm ⟨_, _, _, _, rfl, rfl, zt, zt, zt, zt⟩ (Up.refl _ _) ⟨rfl, rfl, rfl, trivial⟩
   refine yB 1 sp_ rfl rfl (fun w hb hw => c_spec_l00Src_pick code X8AT X8SD 5 hb (ok_ hw)) ?_
   rintro _ _ G55 ⟨X55KX, X55AT, X55SD, rfl, rfl, hX55_0, hX55_1, hX55_2, hX55_3⟩
   refine znh ?_
   refine y2 0 1 ?_ ?_
   ·
    refine JHo.q rfl (L9 4 rfl rfl) ?_
    refine y2 1 4 ?_ ?_
    ·
     refine JHo.q rfl (L9 3 rfl rfl) ?_
     refine y1 4 ?_
     refine yst rfl rfl rfl ?_
     refine y1 5 ?_
     refine yst rfl rfl rfl ?_
     refine jA 6 rfl rfl ?_
     refine yd ?_
     refine zh [1, 0, 0, 0, 0, 0, 0, 0, 0, 0, 0, 0] ?_
     exact zm ⟨_, _, _, _, rfl, rfl, zt, zt, zt, zt⟩ (Up.refl _ _) ⟨rfl, rfl, rfl, trivial⟩
    refine yst rfl rfl rfl ?_
    refine y1 1 ?_
    refine JHo.q rfl (L9 3 rfl rfl) ?_
    refine y1 5 ?_
    refine yst rfl rfl rfl ?_
    refine jA 6 rfl rfl ?_
    refine yd ?_
    refine zh [1, 0, 0, 0, 0, 0, 0, 0, 0, 0, 0, 0] ?_
    exact zm ⟨_, _, _, _, rfl, rfl, zt, zt, zt, zt⟩ (Up.refl _ _) ⟨rfl, rfl, rfl, trivial⟩
   refine JHo.q rfl (L9 3 rfl rfl) ?_
   refine y1 0 ?_
   refine JHo.q rfl (L9 4 rfl rfl) ?_
   refine y1 4 ?_
   refine yst rfl rfl rfl ?_
   refine y1 5 ?_
   refine yst rfl rfl rfl ?_
   refine jA 6 rfl rfl ?_
   refine yd ?_
   refine zh [1, 0, 0, 0, 0, 0, 0, 0, 0, 0, 0, 0] ?_
   exact zm ⟨_, _, _, _, rfl, rfl, zt, zt, zt, zt⟩ (Up.refl _ _) ⟨rfl, rfl, rfl, trivial⟩
  rintro _ _ u50 ⟨X45KX, G45, X45AT, X45SD, rfl, rfl, f50_0, f50_1, f50_2, f50_3⟩ x50
  refine zn ?_
  exact zro x50 (g := by exact (gv_tup (gvc (gv_ex X5MX (by first | trivial | assumption | omega | (dsimp only; omega) | (constructor <;> first | assumption | omega) | (dsimp only; constructor <;> first | assumption | omega | (simp; done))) gv_) (gvc (gv_ex X5PX (by first | trivial | assumption | omega | (dsimp only; omega) | (constructor <;> first | assumption | omega) | (dsimp only; constructor <;> first | assumption | omega | (simp; done))) (gv_agg (gvc (gv_rx po_ (by first | rfl | assumption)) (gvc gv_ (gvc gv_ gvn))))) (gvc (gv_ex X45KX (by first | trivial | assumption | omega | (dsimp only; omega) | (constructor <;> first | assumption | omega) | (dsimp only; constructor <;> first | assumption | omega | (simp; done))) gv_) gvn)))))
 have h9' := h9; simp only [decide_eq_false_iff_not, Int.not_lt, Int.not_le] at h9'
 refine Js.region <| Qm rfl <| Qf fh rfl <| Q0 3 rfl rfl rfl <| Qz rfl <| Ql rfl rfl <| Qm rfl ?_
 refine JL.g (v := undef) (Gd.t1 rfl rfl rfl) (fun hc => absurd hc (by first | (rw [h9]; simp; done) | simp [h9])) ?_
 refine JL.g (v := undef) (Gd.t1 rfl rfl rfl) (fun hc => absurd hc (by first | (rw [h9]; simp; done) | simp [h9])) ?_
 refine JL.g (v := undef) (Gd.t1 rfl rfl rfl) (fun hc => absurd hc (by first | (rw [h9]; simp; done) | simp [h9])) ?_
 refine JL.g (v := undef) (Gd.t1 rfl rfl rfl) (fun hc => absurd hc (by first | (rw [h9]; simp; done) | simp [h9])) ?_
 refine JL.g (v := undef) (Gd.t1 rfl rfl rfl) (fun hc => absurd hc (by first | (rw [h9]; simp; done) | simp [h9])) ?_
 refine JL.g (v := .bool false) (Gd.t1 rfl rfl rfl) (fun hc => absurd hc (by first | (rw [h9]; simp; done) | simp [h9])) ?_
 refine Qq (p_pickAnd rfl rfl rfl) <| Qm rfl ?_
 refine JL.g (v := undef) (Gd.t1 rfl rfl rfl) (fun hc => absurd hc (by first | (rw [h9]; simp; done) | simp [h9])) ?_
 refine JL.g (v := .bool false) (Gd.t1 rfl rfl rfl) (fun hc => absurd hc (by first | (rw [h9]; simp; done) | simp [h9])) ?_
 refine JL.g (v := .bool false) (Gd.t1 rfl rfl rfl) (fun hc => absurd hc (by first | (rw [h9]; simp; done) | simp [h9])) ?_
 refine Qq (p_pickAnd rfl rfl rfl) <| JL.nil ?_
 refine zi (fun h56 h56' => ?_) fun h56 h56' => ?_
 ·
  have hse := hsz _ (M.slo_mem (l := X5MX.slots) (k := X8KX.toNat) (by omega))
  refine zS <| Qf fh rfl <| Q0 3 rfl rfl rfl <| Qm rfl ?_
  refine JL.fact (row_some (i := 4) rfl (by omega)) (fun hf58 => ?_)
  obtain ⟨b58, rfl⟩ := hf58
  have hy57 : X5MX.slots[X8KX.toNat]? = some (M.slo X5MX.slots X8KX.toNat) := M.slo_get len_
  refine JL.fact (fun w hw => elemv_Slot (Mem.ownC (i := 5) rfl w hw) hy57) (fun hf57 => ?_)
  obtain ⟨A57_1, c57_1, he57, bl57_1, bh57_1⟩ := hf57
  refine Qq (p_indexAddr el_26 rfl rfl (by omega) (by omega) rfl) <| Qw (q_loadN ty_45.h rfl (Mem.rowR' (i := 4) rfl he57) rfl rfl) <| za zeh fun b59 => zw 0 rfl rfl rfl ?_
  refine zN <| zc rfl (fun w hw => c_spec_l16Key (M.slo X5MX.slots X8KX.toNat) (elemOk cSlot (m := 6) (k := X8KX.toNat) (xs := X5MX.slots) (fun _ => rfl) (Mem.ownC (i := 6) rfl w hw) hy57 he57).2.1 (Mem.boxR (i := 0) rfl 0 6 _ hw)) ?_
  intro A60 c60 bl60 bh60
  refine za zeh fun b61 => zw 0 rfl rfl rfl ?_
  refine zJ ?_
  refine zk [2, 3] (fun F U l os u => ∃ (A64 : Option Addr) (c64 : Nat) (A63 : Option Addr) (c63 : Nat), l = F [(4, .int .i64 ((M.slo X5MX.slots X8KX.toNat).depth))] ∧ os = [rowO 2 1 (.slice A64 (([0, 0] : List Int).length) c64) (([0, 0] : List Int).length) (ints_ [0, 0]) [], rowO 2 1 (.slice A63 (((M.slo X5MX.slots X8KX.toNat).pits).length) c63) (((M.slo X5MX.slots X8KX.toNat).pits).length) (ints_ ((M.slo X5MX.slots X8KX.toNat).pits)) []] ++ U [nO, nO, nO, nO, nO, nO, nO, nO, nO, nO, nO, nO, some (boxO b3 [.slice A63 (((M.slo X5MX.slots X8KX.toNat).pits).length) c63, .slice A64 (([0, 0] : List Int).length) c64, .int .i64 ((M.slo X5MX.slots X8KX.toNat).player)] 31), some (boxO b2 [.int .i64 X5MX.rules.pits, .int .i64 X5MX.rules.seeds, .bool X5MX.rules.stores, .bool X5MX.rules.skip, .bool X5MX.rules.relay, .bool X5MX.rules.feed, .bool X5MX.rules.again, .int .i64 X5MX.rules.capture, .int .i64 X5MX.rules.slam, .slice (some ⟨b58, 0, none⟩) X5MX.slots.length c5ra_9] 28)] ∧ (([0, 0] : List Int).length ≤ c64) ∧ (c64 ≤ 9223372036854775807) ∧ (((M.slo X5MX.slots X8KX.toNat).pits).length ≤ c63) ∧ (c63 ≤ 9223372036854775807)) ?_ ?_
  ·
   refine zdr [4, 5] ?_
   refine JH.q 0 rfl (L9 6 rfl rfl) ?_
   refine jF 2 fld_45_3 rfl rfl ?_
   refine y2 1 3 ?_ ?_
   ·
    refine yc rfl rfl (fun w hw => c_spec_l04Own (M.Pos.mk ((M.slo X5MX.slots X8KX.toNat).pits) [0, 0] ((M.slo X5MX.slots X8KX.toNat).player)) ⟨_, _, [.slice A57_1 (((M.slo X5MX.slots X8KX.toNat).pits).length) c57_1, .slice A60 (([0, 0] : List Int).length) c60, .int .i64 ((M.slo X5MX.slots X8KX.toNat).player)], rfl, ⟨(elemOk cSlot (m := 6) (k := X8KX.toNat) (xs := X5MX.slots) (fun _ => rfl) (Mem.ownC (i := 8) rfl w hw) hy57 he57).2.1, (okx_ hw), rfl, trivial⟩, Mem.boxR (i := 0) rfl 0 3 _ hw⟩) ?_
    intro A70 c70 bl70 bh70 A71 c71 bl71 bh71
    refine y2 3 4 ?_ ?_
    ·
     refine JHo.q rfl (q_load1 ty_2.h rfl (Mem.box (i := 4) rfl rfl)) ?_
     refine y1 4 ?_
     refine yst rfl rfl rfl ?_
     refine y1 5 ?_
     refine yst rfl rfl rfl ?_
     refine jA 6 rfl rfl ?_
     refine yd ?_
     exact zm ⟨_, _, _, _, rfl, rfl, zt, zt, zt, zt⟩ (Up.refl _ _)
    refine yst rfl rfl rfl ?_
    refine y2 3 5 ?_ ?_
    ·
     refine JHo.q rfl (q_load1 ty_2.h rfl (Mem.box (i := 4) rfl rfl)) ?_
     refine y1 5 ?_
     refine yst rfl rfl rfl ?_
     refine jA 6 rfl rfl ?_
     refine yd ?_
     exact zm ⟨_, _, _, _, rfl, rfl, zt, zt, zt, zt⟩ (Up.refl _ _)
    refine yst rfl rfl rfl ?_
    refine y1 3 ?_
    refine JHo.q rfl (q_load1 ty_2.h rfl (Mem.box (i := 4) rfl rfl)) ?_
    refine jA 6 rfl rfl ?_
    refine yd ?_
    exact zm ⟨_, _, _, _, rfl, rfl, zt, zt, zt, zt⟩ (Up.refl _ _)
   refine JHo.q rfl (q_load1 ty_2.h rfl (Mem.box (i := 2) rfl rfl)) ?_
   refine y1 1 ?_
   refine yc rfl rfl (fun w hw => c_spec_l04Own (M.Pos.mk ((M.slo X5MX.slots X8KX.toNat).pits) [0, 0] ((M.slo X5MX.slots X8KX.toNat).player)) ⟨_, _, [.slice A57_1 (((M.slo X5MX.slots X8KX.toNat).pits).length) c57_1, .slice A60 (([0, 0] : List Int).length) c60, .int .i64 ((M.slo X5MX.slots X8KX.toNat).player)], rfl, ⟨(elemOk cSlot (m := 6) (k := X8KX.toNat) (xs := X5MX.slots) (fun _ => rfl) (Mem.ownC (i := 8) rfl w hw) hy57 he57).2.1, (okx_ hw), rfl, trivial⟩, Mem.boxR (i := 0) rfl 0 3 _ hw⟩) ?_
   intro A73 c73 bl73 bh73 A74 c74 bl74 bh74
   refine y1 4 ?_
   refine yst rfl rfl rfl ?_
   refine y1 5 ?_
   refine yst rfl rfl rfl ?_
   refine jA 6 rfl rfl ?_
   refine yd ?_
   exact zm ⟨_, _, _, _, rfl, rfl, zt, zt, zt, zt⟩ (Up.refl _ _)
  rintro _ _ u68 ⟨A64, c64, A63, c63, rfl, rfl, f68_0, f68_1, f68_2, f68_3⟩ x68
  refine zn ?_
  exact zro x68 (g := by exact (gv_tup (gvc (gv_ex X5MX (by first | trivial | assumption | omega | (dsimp only; omega) | (constructor <;> first | assumption | omega) | (dsimp only; constructor <;> first | assumption | omega | (simp; done))) gv_) (gvc (gv_ex (M.Pos.mk ((M.slo X5MX.slots X8KX.toNat).pits) [0, 0] ((M.slo X5MX.slots X8KX.toNat).player)) (by first | trivial | assumption | omega | (dsimp only; omega) | (constructor <;> first | assumption | omega) | (dsimp only; constructor <;> first | assumption | omega | (simp; done))) (gv_agg (gvc (gv_rxR po_ (by first | rfl | assumption)) (gvc gv_ (gvc gv_ gvn))))) (gvc (gv_ex ((M.slo X5MX.slots X8KX.toNat).depth) (by first | trivial | assumption | omega | (dsimp only; omega) | (constructor <;> first | assumption | omega) | (dsimp only; constructor <;> first | assumption | omega | (simp; done))) gv_) gvn)))))
 refine Js.skip <| Js.seq ?_
 refine zk [2, 3] (fun F U l os u => ∃ (X75KX : Int) (G75 : List Nat) (X75AT X75SD : Int), l = F [(4, .int .i64 X75KX)] ∧ os = [anyO G75] ++ U [some (boxO b4 [.slice A1 code c1, .int .i64 X75AT, .int .u64 X75SD] 91), nO, nO, nO, nO, nO, nO, nO, nO, some (boxO b3 [.slice A5rb_0 X5PX.pits.length c5rb_0, .slice A5rb_1 X5PX.stores.length c5rb_1, .int .i64 X5PX.player] 31), some (boxO b2 [.int .i64 X5MX.rules.pits, .int .i64 X5MX.rules.seeds, .bool X5MX.rules.stores, .bool X5MX.rules.skip, .bool X5MX.rules.relay, .bool X5MX.rules.feed, .bool X5MX.rules.again, .int .i64 X5MX.rules.capture, .int .i64 X5MX.rules.slam, .slice A5ra_9 X5MX.slots.length c5ra_9] 28)] ∧ (0 ≤ X75KX) ∧ (X75KX = 0 ∨ X75KX < 5) ∧ (X8AT ≤ X75AT) ∧ (X75AT ≤ X8AT + 2)) ?_ ?_
 ·
  refine zdr [3, 4, 5] ?_
  refine jM 2 rfl rfl ?_
  refine y3 0 1 3 ?_ ?_ ?_
  ·
   refine JHo.q rfl (L9 3 rfl rfl) ?_
   refine y2 1 3 ?_ ?_
   ·
    refine JHo.q rfl (L9 2 rfl rfl) ?_
    refine y1 3 ?_
    refine yB 1 sp_ rfl rfl (fun w hb hw => c_spec_l00Src_pick code X8AT X8SD 5 hb (ok_ hw)) ?_
    rintro _ _ G81 ⟨X81KX, X81AT, X81SD, rfl, rfl, hX81_0, hX81_1, hX81_2, hX81_3⟩
    refine znh ?_
    refine y1 4 ?_
    refine yst rfl rfl rfl ?_
    refine y1 5 ?_
    refine yst rfl rfl rfl ?_
    refine jA 6 rfl rfl ?_
    refine yd ?_
    refine zh [1, 0, 0, 0, 0, 0, 0, 0, 0, 0, 0, 0] ?_
    exact zm ⟨_, _, _, _, rfl, rfl, zt, zt, zt, zt⟩ (Up.refl _ _) ⟨rfl, rfl, rfl, trivial⟩
   refine yB 1 sp_ rfl rfl (fun w hb hw => c_spec_l00Src_pick code X8AT X8SD 5 hb (ok_ hw)) ?_
   rintro _ _ G82 ⟨X82KX, X82AT, X82SD, rfl, rfl, hX82_0, hX82_1, hX82_2, hX82_3⟩
   refine znh ?_
   refine y2 1 4 ?_ ?_
   ·
    refine JHo.q rfl (L9 3 rfl rfl) ?_
    refine y1 4 ?_
    refine yst rfl rfl rfl ?_
    refine y1 5 ?_
    refine yst rfl rfl rfl ?_
    refine jA 6 rfl rfl ?_
    refine yd ?_
    refine zh [1, 0, 0, 0, 0, 0, 0, 0, 0, 0, 0, 0] ?_
    exact zm ⟨_, _, _, _, rfl, rfl, zt, zt, zt, zt⟩ (Up.refl _ _) ⟨rfl, rfl, rfl, trivial⟩
   refine yst rfl rfl rfl ?_
   refine y1 1 ?_
   refine JHo.q rfl (L9 3 rfl rfl) ?_
   refine y1 5 ?_
   refine yst rfl rfl rfl ?_
   refine jA 6 rfl rfl ?_
   refine yd ?_
   refine zh [1, 0, 0, 0, 0, 0, 0, 0, 0, 0, 0, 0] ?_
   exact zm ⟨_, _, _, _, rfl, rfl, zt, zt, zt, zt⟩ (Up.refl _ _) ⟨rfl, rfl, rfl, trivial⟩
  ·
   refine JHo.q rfl (L9 2 rfl rfl) ?_
   refine y2 0 3 ?_ ?_
   ·
    refine JHo.q rfl (L9 3 rfl rfl) ?_
    refine y1 3 ?_
    refine yB 1 sp_ rfl rfl (fun w hb hw => c_spec_l00Src_pick code X8AT X8SD 5 hb (ok_ hw)) ?_
    rintro _ _ G83 ⟨X83KX, X83AT, X83SD, rfl, rfl, hX83_0, hX83_1, hX83_2, hX83_3⟩
    refine znh ?_
    refine y1 4 ?_
    refine yst rfl rfl rfl ?_
    refine y1 5 ?_
    refine yst rfl rfl rfl ?_
    refine jA 6 rfl rfl ?_
    refine yd ?_
    refine zh [1, 0, 0, 0, 0, 0, 0, 0, 0, 0, 0, 0] ?_
    exact zm ⟨_, _, _, _, rfl, rfl, zt, zt, zt, zt⟩ (Up.refl _ _) ⟨rfl, rfl, rfl, trivial⟩
   refine yB 1 sp_ rfl rfl (fun w hb hw => c_spec_l00Src_pick code X8AT X8SD 5 hb (ok_ hw)) ?_
   rintro _ _ G84 ⟨X84KX, X84AT, X84SD, rfl, rfl, hX84_0, hX84_1, hX84_2, hX84_3⟩
   refine znh ?_
   refine y1 0 ?_
   refine JHo.q rfl (L9 4 rfl rfl) ?_
   refine y1 4 ?_
   refine yst rfl rfl rfl ?_
   refine y1 5 ?_
   refine yst rfl rfl rfl ?_
   refine jA 6 rfl rfl ?_
   refine yd ?_
   refine zh [1, 0, 0, 0, 0, 0, 0, 0, 0, 0, 0, 0] ?_
   exact zm ⟨_, _, _, _, rfl, rfl, zt, zt, zt, zt⟩ (Up.refl _ _) ⟨rfl, rfl, rfl, trivial⟩
  refine yB 1 sp_ rfl rfl (fun w hb hw => c_spec_l00Src_pick code X8AT X8SD 5 hb (ok_ hw)) ?_
  rintro _ _ G85 ⟨X85KX, X85AT, X85SD, rfl, rfl, hX85_0, hX85_1, hX85_2, hX85_3⟩
  refine znh ?_
  refine y2 0 1 ?_ ?_
  ·
   refine JHo.q rfl (L9 4 rfl rfl) ?_
   refine y2 1 4 ?_ ?_
   ·
    refine JHo.q rfl (L9 3 rfl rfl) ?_
    refine y1 4 ?_
    refine yst rfl rfl rfl ?_
    refine y1 5 ?_
    refine yst rfl rfl rfl ?_
    refine jA 6 rfl rfl ?_
    refine yd ?_
    refine zh [1, 0, 0, 0, 0, 0, 0, 0, 0, 0, 0, 0] ?_
    exact zm ⟨_, _, _, _, rfl, rfl, zt, zt, zt, zt⟩ (Up.refl _ _) ⟨rfl, rfl, rfl, trivial⟩
   refine yst rfl rfl rfl ?_
   refine y1 1 ?_
   refine JHo.q rfl (L9 3 rfl rfl) ?_
   refine y1 5 ?_
   refine yst rfl rfl rfl ?_
   refine jA 6 rfl rfl ?_
   refine yd ?_
   refine zh [1, 0, 0, 0, 0, 0, 0, 0, 0, 0, 0, 0] ?_
   exact zm ⟨_, _, _, _, rfl, rfl, zt, zt, zt, zt⟩ (Up.refl _ _) ⟨rfl, rfl, rfl, trivial⟩
  refine JHo.q rfl (L9 3 rfl rfl) ?_
  refine y1 0 ?_
  refine JHo.q rfl (L9 4 rfl rfl) ?_
  refine y1 4 ?_
  refine yst rfl rfl rfl ?_
  refine y1 5 ?_
  refine yst rfl rfl rfl ?_
  refine jA 6 rfl rfl ?_
  refine yd ?_
  refine zh [1, 0, 0, 0, 0, 0, 0, 0, 0, 0, 0, 0] ?_
  exact zm ⟨_, _, _, _, rfl, rfl, zt, zt, zt, zt⟩ (Up.refl _ _) ⟨rfl, rfl, rfl, trivial⟩
 rintro _ _ u80 ⟨X75KX, G75, X75AT, X75SD, rfl, rfl, f80_0, f80_1, f80_2, f80_3⟩ x80
 refine zn ?_
 exact zro x80 (g := by exact (gv_tup (gvc (gv_ex X5MX (by first | trivial | assumption | omega | (dsimp only; omega) | (constructor <;> first | assumption | omega) | (dsimp only; constructor <;> first | assumption | omega | (simp; done))) gv_) (gvc (gv_ex X5PX (by first | trivial | assumption | omega | (dsimp only; omega) | (constructor <;> first | assumption | omega) | (dsimp only; constructor <;> first | assumption | omega | (simp; done))) (gv_agg (gvc (gv_rx po_ (by first | rfl | assumption)) (gvc gv_ (gvc gv_ gvn))))) (gvc (gv_ex X75KX (by first | trivial | assumption | omega | (dsimp only; omega) | (constructor <;> first | assumption | omega) | (dsimp only; constructor <;> first | assumption | omega | (simp; done))) gv_) gvn)))))
theorem c_impl_Slot_position (s : M.Slo) {As_1 : Option Addr} {cs_1 : Nat} {w : World}  : Ret Try.prog 61 [.agg #[.bool s.used, .slice As_1 s.pits.length cs_1, .int .i64 s.player, .int .i64 s.depth, .int .i64 s.value, .int .i64 s.bound]] w (Ty.agg [Ty.val (.slice As_1 s.pits.length cs_1), Ty.ints 2 [0, 0], Ty.int s.player]) := by
 refine enter @Try.func61 @Try.ntmps61 rfl rfl ?_
 refine zent ?_
 refine zS <| zb rfl fun b1 => za zeh fun b2 => zN <| Qf fh rfl <| Q0 1 rfl rfl rfl <| zbs fun b3 => ?_
 refine Qf fh rfl <| Q0 2 rfl rfl rfl <| Qb ?_
 refine zw 1 rfl rfl rfl ?_
 refine JL.nil ?_
 exact zro (Up.refl _ _)
theorem c_impl_Memory_place (mem : M.Mem) {v_mem : Value} (p : M.Pos) {v_p : Value} {w : World} (h_mem : (Ty.agg (cMemory mem)).ok w v_mem) (h_p : (Ty.agg (cPosition p)).ok w v_p) (r0 : M.okP mem.rules p = true := by exact om_) (r1 : 0 < mem.slots.length := by exact om_) (r2 : mem.slots.length ≤ 4194304 := by exact om_) : RetV Try.prog 41 [v_mem, v_p] w (.int .i64 (M.plc mem.slots.length p.pits p.player)) := by
 obtain ⟨g1, g2, g3, g4, g5, g6, g7⟩ := M.okP_bd r0
 revert v_mem; apply opn
 intro A1 c1 h1 bl1 bh1
 revert v_p; apply opn
 intro A2 c2 h2 bl2 bh2 A3 c3 h3 bl3 bh3
 refine enter @Try.func41 @Try.ntmps41 rfl rfl ?_
 refine zent ?_
 refine zS <| zb rfl fun b4 => zb rfl fun b5 => Qa rfl <| zN <| Qf fh rfl <| Q0 0 rfl rfl rfl <| Qp rfl rfl <| Qa rfl <| zJ <| zS <| Qf fh rfl <| Q0 0 rfl rfl rfl <| Qz rfl ?_
 refine Qm rfl <| JL.nil <| Js.block ?_
 refine zl [2, 12, 13] (fun F U l os u m => ∃ (k : Nat) (h : Int), l = F [(5, .int .i64 h), (14, .int .i64 (k : Int))] ∧ os = U [] ∧ (h = (p.pits.take k).foldl M.hashF (p.player + 1)) ∧ (0 ≤ h) ∧ (h < 1000003) ∧ (k ≤ p.pits.length) ∧ m = p.pits.length - k) ⟨0, p.player + 1, rfl, rfl, by rfl, by omega, by omega, zt, rfl⟩ ?_
 rintro _ _ u6 _ ⟨k, h, rfl, rfl, hH, h0, h1, hk, rfl⟩ x6
 refine zn ?_
 refine zS <| Ql rfl rfl <| zJ ?_
 refine zi (fun h7 h7' => ?_) fun h7 h7' => ?_
 ·
  have hkk : k < p.pits.length := by have := h7'; omega
  have hx9 := M.allOk_nth g5 k
  obtain ⟨b8, o8, he8, hc8⟩ := ints_elem (Ty.mono _ h2 x6.vis) (i := k) (by omega)
  refine Js.skip <| Js.seq <| Js.block <| zS <| Qq (p_indexAddr el_29 rfl rfl (by omega) (by omega) he8) <| QC hc8 rfl <| Qa rfl <| zG <| Qm rfl <| Qu rfl rfl <| Qm rfl <| Qp rfl rfl <| Qq (p_rem rfl rfl (by omega) (Int.tmod_eq_emod_of_nonneg (by omega))) <| Qa rfl ?_
  refine JL.nil <| Js.blockEnd <| Js.region <| Qp rfl rfl <| Qm rfl <| JL.nil ?_
  exact zag ⟨k + 1, ((31 * h) + (M.nth p.pits k)) % 1000003, rfl, rfl, by rw [M.hash_step (by assumption), ← hH], by omega, by omega, zt, rfl⟩ x6
 have hE : h = M.hashP p.pits p.player := by rw [hH]; exact M.hash_all (by have := h7'; omega)
 refine zx ?_
 have hrn9 := Int.emod_nonneg h (b := (mem.slots.length : Int)) (by omega)
 have hrl9 := Int.emod_lt_of_pos h (show 0 < (mem.slots.length : Int) by omega)
 refine zS <| Qm rfl <| Qf fh rfl <| Q0 1 rfl rfl rfl <| Qz rfl <| Qq (p_rem rfl rfl (by omega) (Int.tmod_eq_emod_of_nonneg (by omega))) <| Qa rfl <| JL.nil ?_
 refine zR x6 ?_
 rw [hE]; rfl
theorem c_impl_validContents (depth value bound : Int) {w : World}  : RetV Try.prog 33 [.int .i64 depth, .int .i64 value, .int .i64 bound] w (.bool (M.okCt depth value bound)) := by
 refine enter @Try.func33 @Try.ntmps33 rfl rfl ?_
 refine zent ?_
 refine zS <| Qa rfl <| zN <| Qm rfl <| zv rfl (fun w hw => c_impl_between depth 1 8) <| Qm rfl <| zg (Gd.t1 rfl rfl rfl) (fun hc => p_move rfl) <| zgv (Gd.t1 rfl rfl rfl) (fun hc => (opds_3 (gh hc rfl) rfl rfl)) (fun hc => (fun w hw => c_impl_between value (-96) 96)) ?_
 refine Qq (p_pickAnd rfl rfl rfl) <| Qm rfl <| zg (Gd.t1 rfl rfl rfl) (fun hc => p_move rfl) <| zgv (Gd.t1 rfl rfl rfl) (fun hc => (opds_3 (gh hc rfl) rfl rfl)) (fun hc => (fun w hw => c_impl_between bound 0 2)) ?_
 refine Qq (p_pickAnd rfl rfl rfl) <| Qa rfl <| JL.nil ?_
 refine zR (Up.refl _ _) ?_
 first | rfl | (simp [outV, M.okCt]; done)
theorem c_impl_Memory_validSlot (mem : M.Mem) {v_mem : Value} (i : Int) (s : M.Slo) {v_s : Value} {w : World} (h_mem : (Ty.agg (cMemory mem)).ok w v_mem) (h_s : (Ty.agg (cSlot s)).ok w v_s) (r0 : 0 < mem.slots.length := by exact om_) (r1 : mem.slots.length ≤ 4194304 := by exact om_) (r2 : s.pits.length ≤ 4194304 := by exact om_) : RetV Try.prog 51 [v_mem, .int .i64 i, v_s] w (.bool (M.okSI mem.rules mem.slots.length i s)) := by
 revert v_mem; apply opn
 intro A1 c1 h1 bl1 bh1
 revert v_s; apply opn
 intro A2 c2 h2 bl2 bh2
 refine enter @Try.func51 @Try.ntmps51 rfl rfl ?_
 refine zent ?_
 refine zS <| zb rfl fun b3 => zb rfl fun b4 => Qa rfl <| zJ <| zS <| Qf fh rfl <| Q0 0 rfl rfl rfl <| Qt rfl <| JL.nil ?_
 refine zi (fun h5 h5' => ?_) fun h5 h5' => ?_
 ·
  have hE := M.okSI_n (r := mem.rules) (n := mem.slots.length) (i := i) (s := s) (by simpa using h5)
  refine zS <| Qf fh rfl <| Q0 0 rfl rfl rfl <| Qz rfl <| Qe rfl rfl <| Qm rfl <| zg (Gd.t1 rfl rfl rfl) (fun hc => p_fieldAddr fld_45_2.h rfl) <| zgq (Gd.t1 rfl rfl rfl) (fun hc => q_load1 ty_2.h (gh hc rfl) (Mem.box (i := 0) rfl rfl)) <| zg (Gd.t1 rfl rfl rfl) (fun hc => p_eql (gh hc rfl) rfl) <| Qq (p_pickAnd rfl rfl rfl) <| Qm rfl <| zg (Gd.t1 rfl rfl rfl) (fun hc => p_fieldAddr fld_45_3.h rfl) <| zgq (Gd.t1 rfl rfl rfl) (fun hc => q_load1 ty_2.h (gh hc rfl) (Mem.box (i := 0) rfl rfl)) <| zg (Gd.t1 rfl rfl rfl) (fun hc => p_eql (gh hc rfl) rfl) ?_
  refine Qq (p_pickAnd rfl rfl rfl) <| Qm rfl <| zg (Gd.t1 rfl rfl rfl) (fun hc => p_fieldAddr fld_45_4.h rfl) <| zgq (Gd.t1 rfl rfl rfl) (fun hc => q_load1 ty_2.h (gh hc rfl) (Mem.box (i := 0) rfl rfl)) <| zg (Gd.t1 rfl rfl rfl) (fun hc => p_eql (gh hc rfl) rfl) <| Qq (p_pickAnd rfl rfl rfl) <| Qm rfl <| zg (Gd.t1 rfl rfl rfl) (fun hc => p_fieldAddr fld_45_5.h rfl) <| zgq (Gd.t1 rfl rfl rfl) (fun hc => q_load1 ty_2.h (gh hc rfl) (Mem.box (i := 0) rfl rfl)) <| zg (Gd.t1 rfl rfl rfl) (fun hc => p_eql (gh hc rfl) rfl) <| Qq (p_pickAnd rfl rfl rfl) <| Qa rfl <| JL.nil ?_
  refine zR (Up.refl _ _) ?_
  first | (rw [hE]; rfl) | (rw [hE]; simp [outV, M.freeS, Bool.and_assoc]; done) | (rw [hE, ‹((M.okP mem.rules (M.posS s)) && (M.okCt s.depth s.value s.bound)) = false›]; rfl)
 have hE := M.okSI_y (r := mem.rules) (n := mem.slots.length) (i := i) (s := s) (by simpa using h5)
 refine Js.skip <| Js.seq ?_
 rcases Bool.eq_false_or_eq_true ((M.okP mem.rules (M.posS s)) && (M.okCt s.depth s.value s.bound)) with h6 | h6
 ·
  refine zdr [] ?_
  refine jF 0 fld_28_0 rfl rfl ?_
  refine JH.q 1 rfl (L9 1 rfl rfl) ?_
  refine JH.q 2 rfl (L9 0 rfl rfl) ?_
  refine y1 3 ?_
  refine yc rfl rfl (fun w hw => c_impl_Slot_position s) ?_
  intro A7 c7 bl7 bh7
  refine y1 4 ?_
  refine yv rfl rfl (fun w hw => c_impl_ValidPosition mem.rules (M.posS s) (ok_ hw) (ok_ hw)) ?_
  refine jM 5 rfl rfl ?_
  refine JH.pg 6 rfl (Gd.t1 rfl rfl rfl) (fun hc => p_fieldAddr fld_45_3.h rfl) ?_
  refine JH.qg 7 rfl (Gd.t1 rfl rfl rfl) (fun hc => q_load1 ty_2.h (gvt rfl hc) (Mem.box (i := 0) rfl rfl)) ?_
  refine JH.pg 8 rfl (Gd.t1 rfl rfl rfl) (fun hc => p_fieldAddr fld_45_4.h rfl) ?_
  refine JH.qg 9 rfl (Gd.t1 rfl rfl rfl) (fun hc => q_load1 ty_2.h (gvt rfl hc) (Mem.box (i := 0) rfl rfl)) ?_
  refine JH.pg 10 rfl (Gd.t1 rfl rfl rfl) (fun hc => p_fieldAddr fld_45_5.h rfl) ?_
  refine JH.qg 11 rfl (Gd.t1 rfl rfl rfl) (fun hc => q_load1 ty_2.h (gvt rfl hc) (Mem.box (i := 0) rfl rfl)) ?_
  refine y1 12 ?_
  refine JHo.ge rfl (Gd.t1 rfl rfl rfl) (fun hc => e_callV fn_33.h (opds_3 (gvt rfl hc) (gvt rfl hc) (gvt rfl hc)) (fun w hw => c_impl_validContents s.depth s.value s.bound)) ?_
  refine JH.p 13 rfl (p_pickAnd rfl rfl rfl) ?_
  refine jM 14 rfl rfl ?_
  refine JH.qgT 15 rfl (Gd.t1 rfl rfl rfl) (show ((M.okP mem.rules (M.posS s)) && (M.okCt s.depth s.value s.bound)) = true by first | exact h6 | (rw [h6]; rfl) | simp [h6]) (L9 1 rfl rfl) ?_
  refine JH.qgT 16 rfl (Gd.t1 rfl rfl rfl) (show ((M.okP mem.rules (M.posS s)) && (M.okCt s.depth s.value s.bound)) = true by first | exact h6 | (rw [h6]; rfl) | simp [h6]) (L9 0 rfl rfl) ?_
  refine JH.pgT 19 rfl (Gd.t1 rfl rfl rfl) (show ((M.okP mem.rules (M.posS s)) && (M.okCt s.depth s.value s.bound)) = true by first | exact h6 | (rw [h6]; rfl) | simp [h6]) (p_move rfl) ?_
  refine y1 17 ?_
  refine ycT rfl (Gd.t1 rfl rfl rfl) (show ((M.okP mem.rules (M.posS s)) && (M.okCt s.depth s.value s.bound)) = true by first | exact h6 | (rw [h6]; rfl) | simp [h6]) rfl (fun w hw => c_impl_Slot_position s) ?_
  intro A8 c8 bl8 bh8
  refine y1 18 ?_
  refine yvT rfl (Gd.t1 rfl rfl rfl) (show ((M.okP mem.rules (M.posS s)) && (M.okCt s.depth s.value s.bound)) = true by first | exact h6 | (rw [h6]; rfl) | simp [h6]) rfl (fun w hw => c_impl_Memory_place mem (M.posS s) (ok_ hw) (ok_ hw) (r0 := (by have h9 := h6; simp only [Bool.and_eq_true] at h9; exact h9.1))) ?_
  refine JH.pgT 20 rfl (Gd.t1 rfl rfl rfl) (show ((M.okP mem.rules (M.posS s)) && (M.okCt s.depth s.value s.bound)) = true by first | exact h6 | (rw [h6]; rfl) | simp [h6]) (p_eql rfl rfl) ?_
  refine JH.p 21 rfl (p_pickAnd2 rfl rfl rfl) ?_
  refine jA 22 rfl rfl ?_
  refine yd ?_
  refine zR (Up.refl _ _) ?_
  first | (rw [hE]; rfl) | (rw [hE]; simp [outV, M.freeS, Bool.and_assoc]; done) | (rw [hE, ‹((M.okP mem.rules (M.posS s)) && (M.okCt s.depth s.value s.bound)) = false›]; rfl)
 refine zdr [] ?_
 refine jF 0 fld_28_0 rfl rfl ?_
 refine JH.q 1 rfl (L9 1 rfl rfl) ?_
 refine JH.q 2 rfl (L9 0 rfl rfl) ?_
 refine y1 3 ?_
 refine yc rfl rfl (fun w hw => c_impl_Slot_position s) ?_
 intro A9 c9 bl9 bh9
 refine y1 4 ?_
 refine yv rfl rfl (fun w hw => c_impl_ValidPosition mem.rules (M.posS s) (ok_ hw) (ok_ hw)) ?_
 refine jM 5 rfl rfl ?_
 refine JH.pg 6 rfl (Gd.t1 rfl rfl rfl) (fun hc => p_fieldAddr fld_45_3.h rfl) ?_
 refine JH.qg 7 rfl (Gd.t1 rfl rfl rfl) (fun hc => q_load1 ty_2.h (gvt rfl hc) (Mem.box (i := 0) rfl rfl)) ?_
 refine JH.pg 8 rfl (Gd.t1 rfl rfl rfl) (fun hc => p_fieldAddr fld_45_4.h rfl) ?_
 refine JH.qg 9 rfl (Gd.t1 rfl rfl rfl) (fun hc => q_load1 ty_2.h (gvt rfl hc) (Mem.box (i := 0) rfl rfl)) ?_
 refine JH.pg 10 rfl (Gd.t1 rfl rfl rfl) (fun hc => p_fieldAddr fld_45_5.h rfl) ?_
 refine JH.qg 11 rfl (Gd.t1 rfl rfl rfl) (fun hc => q_load1 ty_2.h (gvt rfl hc) (Mem.box (i := 0) rfl rfl)) ?_
 refine y1 12 ?_
 refine JHo.ge rfl (Gd.t1 rfl rfl rfl) (fun hc => e_callV fn_33.h (opds_3 (gvt rfl hc) (gvt rfl hc) (gvt rfl hc)) (fun w hw => c_impl_validContents s.depth s.value s.bound)) ?_
 refine JH.p 13 rfl (p_pickAnd rfl rfl rfl) ?_
 refine jM 14 rfl rfl ?_
 refine jU 15 rfl (Gd.t1 rfl rfl rfl) h6 ?_
 refine jU 16 rfl (Gd.t1 rfl rfl rfl) h6 ?_
 refine jU 19 rfl (Gd.t1 rfl rfl rfl) h6 ?_
 refine y1 17 ?_
 refine JHo.qg (v := undef) rfl (Gd.t1 rfl rfl rfl) (fun hc => absurd hc (by first | (rw [h6]; simp; done) | simp [h6])) ?_
 refine y1 18 ?_
 refine JHo.qg (v := undef) rfl (Gd.t1 rfl rfl rfl) (fun hc => absurd hc (by first | (rw [h6]; simp; done) | simp [h6])) ?_
 refine JH.pg (v := .bool false) 20 rfl (Gd.t1 rfl rfl rfl) (fun hc => absurd hc (by first | (rw [h6]; simp; done) | simp [h6])) ?_
 refine JH.p 21 rfl (p_pickAnd rfl rfl rfl) ?_
 refine jA 22 rfl rfl ?_
 refine yd ?_
 refine zR (Up.refl _ _) ?_
 first | (rw [hE]; rfl) | (rw [hE]; simp [outV, M.freeS, Bool.and_assoc]; done) | (rw [hE, ‹((M.okP mem.rules (M.posS s)) && (M.okCt s.depth s.value s.bound)) = false›]; rfl)
theorem c_impl_ValidMemory (mem : M.Mem) {v_mem : Value} {w : World} (h_mem : (Ty.agg (cMemory mem)).ok w v_mem) (r0 : mem.slots.length ≤ 4194304 := by exact om_) (r1 : ∀ x ∈ mem.slots, x.pits.length ≤ 4194304 := by exact om_) : RetV Try.prog 16 [v_mem] w (.bool (M.okM mem)) := by
 revert v_mem; apply opn
 intro A1 c1 h1 bl1 bh1
 refine enter @Try.func16 @Try.ntmps16 rfl rfl ?_
 refine zent ?_
 refine zS <| zb rfl fun b2 => Qa rfl <| zJ <| zS <| Qf fh rfl <| Q9 0 rfl rfl ?_
 refine zv rfl (fun w hw => c_impl_ValidRules mem.rules (ok_ hw)) <| Qt rfl <| Qm rfl <| zg (Gd.f1 rfl rfl rfl) (fun hc => p_fieldAddr fld_28_1.h rfl) <| zgq (Gd.f1 rfl rfl rfl) (fun hc => q_load1 ty_26.h (gh hc rfl) (Mem.box (i := 0) rfl rfl)) <| zg (Gd.f1 rfl rfl rfl) (fun hc => p_len el_26 (gh hc rfl)) <| zgv (Gd.f1 rfl rfl rfl) (fun hc => (opds_3 (gh hc rfl) rfl rfl)) (fun hc => (fun w hw => c_impl_between (mem.slots.length : Int) 1 64)) ?_
 refine zg (Gd.f1 rfl rfl rfl) (fun hc => p_not (gh hc rfl)) <| Qq (p_pickOr rfl rfl rfl) <| JL.nil ?_
 refine zi (fun h3 h3' => ?_) fun h3 h3' => ?_
 ·
  have hE : M.okM mem = false := by by_cases e : M.okR mem.rules = true; (exact M.okM_l (by have h9 := h3; simpa [e] using h9)); exact M.okM_r (by simpa using e)
  refine zS <| Qa rfl <| JL.nil ?_
  refine zR (Up.refl _ _) ?_
  rw [hE]; rfl
 obtain ⟨hr, hb⟩ : M.okR mem.rules = true ∧ M.betw (mem.slots.length : Int) 1 64 = true := by have h9 := h3; simpa using h9
 obtain ⟨hl1, hl2⟩ := M.betw_iff.1 hb
 refine Js.skip <| Js.seq <| zS <| Qf fh rfl <| Q0 0 rfl rfl rfl <| Qz rfl <| Qm rfl <| JL.nil <| Js.block ?_
 refine zl [1, 17, 18] (fun F U l os u m => ∃ (k : Nat), l = F [(19, .int .i64 (k : Int))] ∧ os = U [] ∧ (k ≤ mem.slots.length) ∧ (∀ i : Nat, i < k → M.okSI mem.rules mem.slots.length i (M.slo mem.slots i) = true) ∧ m = mem.slots.length - k) ⟨0, rfl, rfl, zt, by exact fun i hi => absurd hi (by omega), rfl⟩ ?_
 rintro _ _ u4 _ ⟨k, rfl, rfl, hk, hA, rfl⟩ x4
 refine zn ?_
 refine zS <| Ql rfl rfl <| zJ ?_
 refine zi (fun h5 h5' => ?_) fun h5 h5' => ?_
 ·
  have hkk : k < mem.slots.length := by have := h5'; omega
  have hy6 : mem.slots[k]? = some (M.slo mem.slots k) := M.slo_get (by omega)
  obtain ⟨b6, o6, A6_1, c6_1, he6, hr6, h6_1, bl6_1, bh6_1⟩ := elem_Slot (Ty.mono _ h1 x4.vis) hy6
  refine Js.skip <| Js.seq <| Js.block <| zS <| Qm rfl <| Qq (p_indexAddr el_26 rfl rfl (by omega) (by omega) he6) <| QS 0 hr6 rfl ?_
  refine za zeh fun b7 => Qa rfl <| zw 0 rfl rfl rfl ?_
  refine zN <| Q9 1 rfl rfl ?_
  refine Qm rfl <| Q9 0 rfl rfl ?_
  refine zv rfl (fun w hw => c_impl_Memory_validSlot mem (k : Int) (M.slo mem.slots k) (ok_ hw) (ok_ hw) (r2 := (r1 _ (M.slo_mem (by assumption))))) <| Qt rfl <| JL.nil ?_
  refine zi (fun h8 h8' => ?_) fun h8 h8' => ?_
  ·
   have hE := M.okM_no hkk (by simpa using h8)
   refine zS <| Qa rfl <| JL.nil ?_
   refine zR x4 ?_
   rw [hE]; rfl
  have hx9 : M.okSI mem.rules mem.slots.length k (M.slo mem.slots k) = true := by simpa using h8
  have hA2 : ∀ i : Nat, i < k + 1 → M.okSI mem.rules mem.slots.length i (M.slo mem.slots i) = true := fun i hi => by rcases Nat.lt_succ_iff_lt_or_eq.1 hi with h9 | h9; (exact hA i h9); subst h9; exact hx9
  refine Js.skip <| Js.blockEnd <| Js.region <| Qp rfl rfl <| Qm rfl <| JL.nil ?_
  refine zd [1] rfl fun u9 x9 => ?_
  exact zag ⟨k + 1, rfl, rfl, zt, by exact hA2, rfl⟩ (x4.trans x9)
 have hE : M.okM mem = true := M.okM_of hr (by omega) (by omega) (fun i hi => hA i (by have := h5'; omega))
 refine zx ?_
 refine zS <| Qa rfl <| JL.nil ?_
 refine zR x4 ?_
 rw [hE]; rfl
theorem c_impl_areRemembered (mem : M.Mem) {v_mem : Value} (p : M.Pos) {v_p : Value} {w : World} (h_mem : (Ty.agg (cMemory mem)).ok w v_mem) (h_p : (Ty.agg (cPosition p)).ok w v_p) (r0 : mem.slots.length ≤ 4194304 := by exact om_) (r1 : ∀ x ∈ mem.slots, x.pits.length ≤ 4194304 := by exact om_) (r2 : p.pits.length ≤ 4194304 := by exact om_) (r3 : p.stores.length ≤ 4194304 := by exact om_) : RetV Try.prog 32 [v_mem, v_p] w (.bool (M.remB mem p)) := by
 revert v_mem; apply opn
 intro A1 c1 h1 bl1 bh1
 revert v_p; apply opn
 intro A2 c2 h2 bl2 bh2 A3 c3 h3 bl3 bh3
 refine enter @Try.func32 @Try.ntmps32 rfl rfl ?_
 refine zent ?_
 refine zS <| zb rfl fun b4 => zb rfl fun b5 => Qa rfl <| zN <| Q9 1 rfl rfl ?_
 refine zv rfl (fun w hw => c_impl_ValidMemory mem (ok_ hw) (r1 := r1)) <| Qm rfl <| zg (Gd.t1 rfl rfl rfl) (fun hc => p_fieldAddr fld_28_0.h rfl) <| zgq (Gd.t1 rfl rfl rfl) (fun hc => L9 1 (gh hc rfl) rfl) <| zgq (Gd.t1 rfl rfl rfl) (fun hc => L9 0 rfl rfl) <| zgv (Gd.t1 rfl rfl rfl) (fun hc => (opds_2 (gh hc rfl) (gh hc rfl))) (fun hc => (fun w hw => c_impl_ValidPosition mem.rules p (ok_ hw) (ok_ hw))) ?_
 refine Qq (p_pickAnd rfl rfl rfl) <| Qa rfl <| JL.nil ?_
 refine zR (Up.refl _ _) ?_
 first | rfl | (simp [outV, M.remB]; done)
theorem c_impl_Memory_copied (mem : M.Mem) {v_mem : Value} {w : World} (h_mem : (Ty.agg (cMemory mem)).ok w v_mem) (r0 : mem.slots.length ≤ 4194304 := by exact om_) (r1 : ∀ x ∈ mem.slots, x.pits.length ≤ 4194304 := by exact om_) : Ret Try.prog 34 [v_mem] w (Ty.agg (cMemory mem)) := by
 revert v_mem; apply opn
 intro A1 c1 h1 bl1 bh1
 refine enter @Try.func34 @Try.ntmps34 rfl rfl ?_
 refine zent ?_
 refine zS <| zb rfl fun b2 => za zeh fun b3 => zN <| Qf fh rfl <| Q9 1 rfl rfl ?_
 refine Qb ?_
 refine za zeh fun b4 => zw 0 rfl rfl rfl ?_
 refine zJ <| zS <| Qf fh rfl <| Q0 2 rfl rfl rfl <| Qz rfl <| Qm rfl <| JL.nil <| Js.block ?_
 refine Js.conv (fun w hw => St.nilRowS 45 6 hw) ?_
 refine Js.vals (Ts := lSlot []) (vs := []) (fun w => rfl) ?_
 refine zl [2, 3, 10, 11] (fun F U l os u m => ∃ (k : Nat) (acc : List M.Slo) (A5_3_9 : Option Addr) (c5_3_9 : Nat) (g5_3_9 : List Nat) (vs5_3_9 : List Value) (fl5_3_9 : List Nat), l = F [(12, .int .i64 (k : Int))] ∧ os = U [some (ownC (lSlot acc) vs5_3_9 fl5_3_9), some (rowO 45 6 (.slice A5_3_9 acc.length c5_3_9) acc.length vs5_3_9 g5_3_9), some (boxO b4 [.int .i64 mem.rules.pits, .int .i64 mem.rules.seeds, .bool mem.rules.stores, .bool mem.rules.skip, .bool mem.rules.relay, .bool mem.rules.feed, .bool mem.rules.again, .int .i64 mem.rules.capture, .int .i64 mem.rules.slam, .slice A5_3_9 acc.length c5_3_9] 28)] ∧ (acc = mem.slots.take k) ∧ (k ≤ mem.slots.length) ∧ (acc.length ≤ c5_3_9) ∧ (c5_3_9 ≤ 9223372036854775807) ∧ m = mem.slots.length - k) ⟨0, [], _, _, _, _, _, rfl, rfl, by rfl, zt, zu, zu, rfl⟩ ?_
 rintro _ _ u5 _ ⟨k, acc, A5_3_9, c5_3_9, g5_3_9, vs5_3_9, fl5_3_9, rfl, rfl, hA, hk, f5_2, f5_3, rfl⟩ x5
 refine zn ?_
 have hla : acc.length = k := by rw [hA, List.length_take]; omega
 refine zS <| Ql rfl rfl <| zJ ?_
 refine zi (fun h6 h6' => ?_) fun h6 h6' => ?_
 ·
  have hkk : k < mem.slots.length := by have := h6'; omega
  have e1_ := r1 _ (M.slo_mem (l := mem.slots) (k := k) hkk)
  have hA2 := M.takeS hkk
  rw [← hA] at hA2
  have hA2 := hA2.symm
  have hy7 : mem.slots[k]? = some (M.slo mem.slots k) := M.slo_get (by omega)
  obtain ⟨b7, o7, A7_1, c7_1, he7, hr7, h7_1, bl7_1, bh7_1⟩ := elem_Slot (Ty.mono _ h1 x5.vis) hy7
  refine Js.skip <| Js.seq <| Js.block <| zS <| Qq (p_indexAddr el_26 rfl rfl (by omega) (by omega) he7) <| QS 0 hr7 rfl ?_
  refine za zeh fun b8 => zw 0 rfl rfl rfl ?_
  refine zN <| Qf fh rfl <| Q0 0 rfl rfl rfl <| zcs rfl (fun w hw => c_impl_copyNumbers ((M.slo mem.slots k).pits) (ok_ hw)) ?_
  intro A9 c9 bl9 bh9
  refine Qf fh rfl <| zw 1 rfl rfl rfl ?_
  refine zG <| Qf fh rfl <| Q0 4 rfl rfl rfl <| Q9 1 rfl rfl ?_
  refine zbs fun b10 => ?_
  refine JL.e (e_append (i := 4) (n' := (acc ++ [(M.slo mem.slots k)]).length) (vs' := vs5_3_9 ++ [.bool ((M.slo mem.slots k).used), .slice A9 (((M.slo mem.slots k).pits).length) c9, .int .i64 ((M.slo mem.slots k).player), .int .i64 ((M.slo mem.slots k).depth), .int .i64 ((M.slo mem.slots k).value), .int .i64 ((M.slo mem.slots k).bound)]) el_26 rfl rfl rfl rfl (src_row (i := 0) und_26 rfl rfl) (by omega) (by omega) ln2_ (rfl)) ?_
  rintro v12 _ _ ⟨⟨g13, rfl⟩, rfl⟩ _
  refine JL.fact (row_form' (i := 4) rfl) (fun hf14 => ?_)
  obtain ⟨A14, c14, rfl, bl14, bh14⟩ := hf14
  refine znl ?_
  refine Qf fh rfl <| zw 5 rfl rfl rfl ?_
  refine JL.nil ?_
  refine Js.pk (cSlot (M.slo mem.slots k)) [.bool ((M.slo mem.slots k).used), .slice A9 (((M.slo mem.slots k).pits).length) c9, .int .i64 ((M.slo mem.slots k).player), .int .i64 ((M.slo mem.slots k).depth), .int .i64 ((M.slo mem.slots k).value), .int .i64 ((M.slo mem.slots k).bound)] (fun f16 G16 => ?_)
  refine zn ?_
  refine Js.joinL (i := 4) (j := 0) (Vs := lSlot (acc ++ [(M.slo mem.slots k)])) rfl rfl (lSlot_snoc _ _) (fun f17 => ?_)
  refine zn ?_
  refine Js.blockEnd <| Js.region <| Qp rfl rfl <| Qm rfl <| JL.nil ?_
  refine zd [0, 3, 3, 3, 3] rfl fun u18 x18 => ?_
  exact zag ⟨k + 1, acc ++ [(M.slo mem.slots k)], _, _, _, _, _, rfl, rfl, by exact hA2, zt, zu, zu, rfl⟩ (x5.trans x18)
 have hE : acc = mem.slots := by rw [hA, List.take_of_length_le (by have := h6'; omega)]
 refine zx ?_
 have hq0 : acc = mem.slots := by first | rfl | (rw [hE]; done) | (rw [hE]; rfl)
 refine zS <| Q9 2 rfl rfl ?_
 refine zw 3 rfl rfl rfl ?_
 refine JL.nil ?_
 exact zro x5
theorem c_impl_Memory_look (mem : M.Mem) {v_mem : Value} (p : M.Pos) {v_p : Value} (depth : Int) {w : World} (h_mem : (Ty.agg (cMemory mem)).ok w v_mem) (h_p : (Ty.agg (cPosition p)).ok w v_p) (r0 : mem.slots.length ≤ 4194304 := by exact om_) (r1 : ∀ x ∈ mem.slots, x.pits.length ≤ 4194304 := by exact om_) (r2 : p.pits.length ≤ 4194304 := by exact om_) (r3 : p.stores.length ≤ 4194304 := by exact om_) (r4 : M.okP mem.rules p = true := by exact om_) (r5 : 0 < mem.slots.length := by exact om_) : Ret Try.prog 46 [v_mem, v_p, .int .i64 depth] w (Ty.tup [Ty.agg (cSlotL (M.fnd mem.slots p)), Ty.bool (M.fndB mem.slots p depth)]) := by
 obtain ⟨hp1, hp2⟩ := M.plc_bd (n := mem.slots.length) p.pits p.player r5
 have hfs := r1 _ (M.slo_mem (l := mem.slots) (k := (M.plc mem.slots.length p.pits p.player).toNat) (by omega))
 revert v_mem; apply opn
 intro A1 c1 h1 bl1 bh1
 revert v_p; apply opn
 intro A2 c2 h2 bl2 bh2 A3 c3 h3 bl3 bh3
 refine enter @Try.func46 @Try.ntmps46 rfl rfl ?_
 refine zent ?_
 refine zS <| zb rfl fun b4 => zb rfl fun b5 => za zeh fun b6 => Qa rfl <| zJ ?_
 refine zk [2, 4, 6] (fun F U l os u => ∃ (b8 : Nat) (A7_1 : Option Addr) (c7_1 : Nat), l = F [(8, .pointer (some ⟨b8, 0, none⟩))] ∧ os = [boxO b8 [.bool ((M.slo mem.slots ((M.plc mem.slots.length p.pits p.player).toNat)).used), .slice A7_1 (((M.slo mem.slots ((M.plc mem.slots.length p.pits p.player).toNat)).pits).length) c7_1, .int .i64 ((M.slo mem.slots ((M.plc mem.slots.length p.pits p.player).toNat)).player), .int .i64 ((M.slo mem.slots ((M.plc mem.slots.length p.pits p.player).toNat)).depth), .int .i64 ((M.slo mem.slots ((M.plc mem.slots.length p.pits p.player).toNat)).value), .int .i64 ((M.slo mem.slots ((M.plc mem.slots.length p.pits p.player).toNat)).bound)] 45] ++ U [] ∧ (((M.slo mem.slots ((M.plc mem.slots.length p.pits p.player).toNat)).pits).length ≤ c7_1) ∧ (c7_1 ≤ 9223372036854775807) ∧ ((Ty.ints 2 ((M.slo mem.slots ((M.plc mem.slots.length p.pits p.player).toNat)).pits)).ok u (.slice A7_1 (((M.slo mem.slots ((M.plc mem.slots.length p.pits p.player).toNat)).pits).length) c7_1))) ?_ ?_
 ·
  refine zdr [8] ?_
  refine jF 0 fld_28_1 rfl rfl ?_
  refine jB 1 2 ty_26 rfl rfl rfl rfl ?_
  refine JH.q 2 rfl (L9 2 rfl rfl) ?_
  refine JH.q 3 rfl (L9 1 rfl rfl) ?_
  refine y2 4 7 ?_ ?_
  ·
   refine yv rfl rfl (fun w hw => c_impl_Memory_place mem p (ok_ hw) (ok_ hw) (r0 := r4)) ?_
   have hy12 : mem.slots[(M.plc mem.slots.length p.pits p.player).toNat]? = some (M.slo mem.slots ((M.plc mem.slots.length p.pits p.player).toNat)) := M.slo_get (by omega)
   obtain ⟨b12, o12, A12_1, c12_1, he12, hr12, h12_1, bl12_1, bh12_1⟩ := elem_Slot h1 hy12
   refine jI 5 el_26 rfl rfl rfl he12 ?_
   refine JH.w 6 rfl (fun os' u' hv => LS 0 (hr12.vis hv) rfl) ?_
   refine y1 7 ?_
   refine ya rfl fun b13 => ?_
   refine y1 8 ?_
   refine yst rfl rfl rfl ?_
   refine yd ?_
   exact zm ⟨_, _, _, rfl, rfl, zt, zt, h12_1⟩ (Up.refl _ _)
  refine ya rfl fun b14 => ?_
  refine y1 4 ?_
  refine yv rfl rfl (fun w hw => c_impl_Memory_place mem p (ok_ hw) (ok_ hw) (r0 := r4)) ?_
  have hy15 : mem.slots[(M.plc mem.slots.length p.pits p.player).toNat]? = some (M.slo mem.slots ((M.plc mem.slots.length p.pits p.player).toNat)) := M.slo_get (by omega)
  obtain ⟨b15, o15, A15_1, c15_1, he15, hr15, h15_1, bl15_1, bh15_1⟩ := elem_Slot h1 hy15
  refine jI 5 el_26 rfl rfl rfl he15 ?_
  refine JH.w 6 rfl (fun os' u' hv => LS 0 (hr15.vis hv) rfl) ?_
  refine y1 8 ?_
  refine yst rfl rfl rfl ?_
  refine yd ?_
  exact zm ⟨_, _, _, rfl, rfl, zt, zt, h15_1⟩ (Up.refl _ _)
 rintro _ _ u11 ⟨b8, A7_1, c7_1, rfl, rfl, f11_0, f11_1, f11_2⟩ x11
 refine zn ?_
 refine Js.seq ?_
 refine zdr [23] ?_
 refine JH.q 0 rfl (L9 0 rfl rfl) ?_
 refine jF 1 fld_45_0 rfl rfl ?_
 refine jB 2 0 ty_4 rfl rfl rfl rfl ?_
 refine jM 3 rfl rfl ?_
 refine JH.pg 4 rfl (Gd.t1 rfl rfl rfl) (fun hc => p_fieldAddr fld_45_3.h rfl) ?_
 refine JH.qg 5 rfl (Gd.t1 rfl rfl rfl) (fun hc => q_load1 ty_2.h (gvt rfl hc) (Mem.box (i := 0) rfl rfl)) ?_
 refine JH.pg 6 rfl (Gd.t1 rfl rfl rfl) (fun hc => p_move rfl) ?_
 refine JH.pg 7 rfl (Gd.t1 rfl rfl rfl) (fun hc => p_eql (gvt rfl hc) (gvt rfl hc)) ?_
 refine JH.p 8 rfl (p_pickAnd rfl rfl rfl) ?_
 refine jM 9 rfl rfl ?_
 refine JH.pg 10 rfl (Gd.t1 rfl rfl rfl) (fun hc => p_fieldAddr fld_45_2.h rfl) ?_
 refine JH.qg 11 rfl (Gd.t1 rfl rfl rfl) (fun hc => q_load1 ty_2.h (gvt rfl hc) (Mem.box (i := 0) rfl rfl)) ?_
 refine JH.pg 12 rfl (Gd.t1 rfl rfl rfl) (fun hc => p_fieldAddr fld_31_2.h rfl) ?_
 refine JH.qg 13 rfl (Gd.t1 rfl rfl rfl) (fun hc => q_load1 ty_2.h (gvt rfl hc) (Mem.box (i := 2) rfl rfl)) ?_
 refine JH.pg 14 rfl (Gd.t1 rfl rfl rfl) (fun hc => p_eql (gvt rfl hc) (gvt rfl hc)) ?_
 refine JH.p 15 rfl (p_pickAnd rfl rfl rfl) ?_
 refine jM 16 rfl rfl ?_
 refine JH.pg 17 rfl (Gd.t1 rfl rfl rfl) (fun hc => p_fieldAddr fld_45_1.h rfl) ?_
 refine JH.qg 18 rfl (Gd.t1 rfl rfl rfl) (fun hc => q_load1 ty_29.h (gvt rfl hc) (Mem.box (i := 0) rfl rfl)) ?_
 refine JH.pg 19 rfl (Gd.t1 rfl rfl rfl) (fun hc => p_fieldAddr fld_31_0.h rfl) ?_
 refine JH.qg 20 rfl (Gd.t1 rfl rfl rfl) (fun hc => q_load1 ty_29.h (gvt rfl hc) (Mem.box (i := 2) rfl rfl)) ?_
 refine y1 21 ?_
 refine JHo.ge rfl (Gd.t1 rfl rfl rfl) (fun hc => e_callV fn_65.h (opds_2 (gvt rfl hc) (gvt rfl hc)) (fun w hw => c_impl_sameNumbers ((M.slo mem.slots ((M.plc mem.slots.length p.pits p.player).toNat)).pits) p.pits (ok_ hw) (ok_ hw) (r0 := (by have hc9 := hc; (try simp only [Bool.and_eq_true, decide_eq_true_eq] at hc9); omega)) (r1 := (by have hc9 := hc; (try simp only [Bool.and_eq_true, decide_eq_true_eq] at hc9); omega)))) ?_
 refine JH.p 22 rfl (p_pickAnd rfl rfl rfl) ?_
 refine y1 23 ?_
 refine yst rfl rfl rfl ?_
 refine jA 24 rfl rfl ?_
 refine yd ?_
 have hq0 : ((M.slo mem.slots ((M.plc mem.slots.length p.pits p.player).toNat)).used) = (M.fnd mem.slots p).used := by first | rfl | (simp [M.fndB, M.fnd, Bool.and_assoc]; done)
 have hq1 : ((M.slo mem.slots ((M.plc mem.slots.length p.pits p.player).toNat)).player) = (M.fnd mem.slots p).player := by first | rfl | (simp [M.fndB, M.fnd, Bool.and_assoc]; done)
 have hq2 : ((M.slo mem.slots ((M.plc mem.slots.length p.pits p.player).toNat)).depth) = (M.fnd mem.slots p).depth := by first | rfl | (simp [M.fndB, M.fnd, Bool.and_assoc]; done)
 have hq3 : ((M.slo mem.slots ((M.plc mem.slots.length p.pits p.player).toNat)).value) = (M.fnd mem.slots p).value := by first | rfl | (simp [M.fndB, M.fnd, Bool.and_assoc]; done)
 have hq4 : ((M.slo mem.slots ((M.plc mem.slots.length p.pits p.player).toNat)).bound) = (M.fnd mem.slots p).bound := by first | rfl | (simp [M.fndB, M.fnd, Bool.and_assoc]; done)
 have hq5 : (((((M.slo mem.slots ((M.plc mem.slots.length p.pits p.player).toNat)).used) && (decide ((M.slo mem.slots ((M.plc mem.slots.length p.pits p.player).toNat)).depth = depth))) && (decide ((M.slo mem.slots ((M.plc mem.slots.length p.pits p.player).toNat)).player = p.player))) && (decide (((M.slo mem.slots ((M.plc mem.slots.length p.pits p.player).toNat)).pits) = p.pits))) = M.fndB mem.slots p depth := by first | rfl | (simp [M.fndB, M.fnd, Bool.and_assoc]; done)
 exact zro x11
theorem c_impl_Memory_store (mem_rules : M.Rul) (mem_slots : List M.Slo) {Amem_9 : Option Addr} {cmem_9 : Nat} {gmem_9 : List Nat} {vsmem_9 : List Value} {fmem_9 : List Nat} (s : M.Slo) {v_s : Value} {w : World} (hb : Bw w [rowO 45 6 (.slice Amem_9 mem_slots.length cmem_9) mem_slots.length vsmem_9 gmem_9, ownC (lSlot mem_slots) vsmem_9 fmem_9]) (h_s : (Ty.agg (cSlot s)).ok (offW w (([rowO 45 6 (.slice Amem_9 mem_slots.length cmem_9) mem_slots.length vsmem_9 gmem_9, ownC (lSlot mem_slots) vsmem_9 fmem_9] : List Own).flatMap (·.fp))) v_s) (bd0 : mem_slots.length ≤ cmem_9 := by exact om_) (bd1 : cmem_9 ≤ 9223372036854775807 := by exact om_) (r0 : M.okP mem_rules (M.posS s) = true := by exact om_) (r1 : 0 < mem_slots.length := by exact om_) (r2 : mem_slots.length ≤ 4194304 := by exact om_) (r3 : s.pits.length ≤ 4194304 := by exact om_) : RetB Try.prog 35 [.agg #[.int .i64 mem_rules.pits, .int .i64 mem_rules.seeds, .bool mem_rules.stores, .bool mem_rules.skip, .bool mem_rules.relay, .bool mem_rules.feed, .bool mem_rules.again, .int .i64 mem_rules.capture, .int .i64 mem_rules.slam, .slice Amem_9 mem_slots.length cmem_9], v_s] w [rowO 45 6 (.slice Amem_9 mem_slots.length cmem_9) mem_slots.length vsmem_9 gmem_9, ownC (lSlot mem_slots) vsmem_9 fmem_9] (fun v bs' => ∃ (vsxmem_w0 : List Value) (fxmem_w0 : List Nat), v = .tuple #[] ∧ bs' = [rowO 45 6 (.slice Amem_9 mem_slots.length cmem_9) mem_slots.length vsxmem_w0 gmem_9, ownC (lSlot (M.stoS mem_slots s)) vsxmem_w0 fxmem_w0]) := by
 obtain ⟨hp1, hp2⟩ := M.plc_bd (n := mem_slots.length) s.pits s.player r1
 revert v_s; apply opn
 intro A1 c1 h1 bl1 bh1
 refine enterB hb @Try.func35 @Try.ntmps35 rfl rfl ?_
 refine zent ?_
 refine Js.trashE ?_
 refine zn ?_
 refine zS <| zb rfl fun b2 => zb rfl fun b3 => zJ ?_
 refine zdr [] ?_
 refine JH.q 0 rfl (L9 1 rfl rfl) ?_
 refine JH.q 1 rfl (L9 0 rfl rfl) ?_
 refine y1 2 ?_
 refine yc rfl rfl (fun w hw => c_impl_Slot_position s) ?_
 intro A4 c4 bl4 bh4
 refine y1 3 ?_
 refine yv rfl rfl (fun w hw => c_impl_Memory_place (M.Mem.mk mem_rules mem_slots) (M.posS s) (by exact ⟨_, rfl, ⟨rfl, rfl, rfl, rfl, rfl, rfl, rfl, rfl, rfl, (srow_ok lSlot (xs := mem_slots) (hw.pr (i := 3) rfl) (hw.pr (i := 4) rfl) (lSlot_length _)), trivial⟩⟩) (ok_ hw) (r0 := r0)) ?_
 refine jA 4 rfl rfl ?_
 refine yd ?_
 refine zS <| Qf fh rfl <| Q0 2 rfl rfl rfl <| Qm rfl ?_
 refine JL.fact (row_some (i := 3) rfl (by omega)) (fun hf6 => ?_)
 obtain ⟨b6, rfl⟩ := hf6
 have hy5 : mem_slots[(M.plc (M.Mem.mk mem_rules mem_slots).slots.length (M.posS s).pits (M.posS s).player).toNat]? = some (M.slo mem_slots ((M.plc (M.Mem.mk mem_rules mem_slots).slots.length (M.posS s).pits (M.posS s).player).toNat)) := M.slo_get len_
 refine JL.fact (fun w hw => elemv_Slot (Mem.ownC (i := 4) rfl w hw) hy5) (fun hf5 => ?_)
 obtain ⟨A5_1, c5_1, he5, bl5_1, bh5_1⟩ := hf5
 refine Qq (p_indexAddr el_26 rfl rfl (by omega) (by omega) rfl) <| Qw (q_loadN ty_45.h rfl (Mem.rowR' (i := 3) rfl he5) rfl rfl) <| za zeh fun b7 => zw 0 rfl rfl rfl ?_
 refine zN <| Qf fh rfl <| Q0 0 rfl rfl rfl <| Qt rfl <| Qm rfl <| zg (Gd.f1 rfl rfl rfl) (fun hc => p_fieldAddr fld_45_3.h rfl) <| zgq (Gd.f1 rfl rfl rfl) (fun hc => q_load1 ty_2.h (gh hc rfl) (Mem.box (i := 0) rfl rfl)) <| zg (Gd.f1 rfl rfl rfl) (fun hc => p_fieldAddr fld_45_3.h rfl) <| zgq (Gd.f1 rfl rfl rfl) (fun hc => q_load1 ty_2.h (gh hc rfl) (Mem.box (i := 2) rfl rfl)) <| zg (Gd.f1 rfl rfl rfl) (fun hc => p_leq (gh hc rfl) (gh hc rfl)) <| Qq (p_pickOr rfl rfl rfl) <| JL.nil ?_
 refine zi (fun h8 h8' => ?_) fun h8 h8' => ?_
 ·
  have hE9 : M.stoS mem_slots s = mem_slots.set (M.plc mem_slots.length s.pits s.player).toNat s := if_pos (by have h9 := h8; simp only [Bool.or_eq_true, Bool.not_eq_true', decide_eq_true_eq] at h9; exact h9)
  refine zS <| Qf fh rfl <| Q0 2 rfl rfl rfl <| zcs rfl (fun w hw => c_impl_copyNumbers s.pits (ok_ hw)) ?_
  intro A9 c9 bl9 bh9
  have hy10 : mem_slots[(M.plc (M.Mem.mk mem_rules mem_slots).slots.length (M.posS s).pits (M.posS s).player).toNat]? = some (M.slo mem_slots ((M.plc (M.Mem.mk mem_rules mem_slots).slots.length (M.posS s).pits (M.posS s).player).toNat)) := M.slo_get len_
  refine Qf fh rfl <| zw 3 rfl rfl rfl ?_
  refine zG <| Qf fh rfl <| Q0 4 rfl rfl rfl <| Qm rfl <| Q9 3 rfl rfl ?_
  refine JL.fact (fun w hw => elemv_Slot (Mem.ownC (i := 6) rfl w hw) hy10) (fun hf10 => ?_)
  obtain ⟨A10_1, c10_1, he10, bl10_1, bh10_1⟩ := hf10
  refine Qq (p_indexAddr el_26 rfl rfl (by omega) (by omega) rfl) ?_
  refine JL.fact (fun w hw => elem_in cSlot (m := 6) (k := (M.plc (M.Mem.mk mem_rules mem_slots).slots.length (M.posS s).pits (M.posS s).player).toNat) (xs := mem_slots) (fun _ => rfl) (Mem.ownC (i := 6) rfl w hw) len_) (fun hl11 => ?_)
  refine JL.ex3 (fun w hw => St.elemS cSlot (m := 6) (i := 6) (xs := mem_slots) (fun _ => rfl) rfl hy10 he10 hw) (fun f11_1 f11_2 f11_3 => ?_)
  refine znl ?_
  refine JL.pk (cSlot s) [.bool s.used, .slice A9 s.pits.length c9, .int .i64 s.player, .int .i64 s.depth, .int .i64 s.value, .int .i64 s.bound] (fun f12 G12 => ?_)
  refine znl ?_
  refine JL.s (e_storeRow (i := 9) (xs' := setL vsmem_9 (0 + ((M.plc (M.Mem.mk mem_rules mem_slots).slots.length (M.posS s).pits (M.posS s).player).toNat) * 6) [.bool s.used, .slice A9 s.pits.length c9, .int .i64 s.player, .int .i64 s.depth, .int .i64 s.value, .int .i64 s.bound]) ty_45.h rfl rfl rfl rfl rfl rfl (by omega) rfl) ?_
  rintro _ _ _ ⟨rfl, rfl⟩ _
  refine zhl [4, 0, 2] ?_
  refine JL.conv (fun w hw => St.closeE cSlot (k := (M.plc (M.Mem.mk mem_rules mem_slots).slots.length (M.posS s).pits (M.posS s).player).toNat) (m := 6) (xs := mem_slots) (y := s) (vs := vsmem_9) (vs' := (setL vsmem_9 (0 + ((M.plc (M.Mem.mk mem_rules mem_slots).slots.length (M.posS s).pits (M.posS s).player).toNat) * 6) [.bool s.used, .slice A9 s.pits.length c9, .int .i64 s.player, .int .i64 s.depth, .int .i64 s.value, .int .i64 s.bound])) len_ rfl rfl hw) ?_
  refine znl ?_
  refine znl ?_
  refine JL.nil ?_
  refine zrbE [7, 0] hb (Up.refl _ _) ?_
  have hE1 : (M.stoS mem_slots s) = mem_slots.set ((M.plc (M.Mem.mk mem_rules mem_slots).slots.length (M.posS s).pits (M.posS s).player).toNat) s := by first | exact hE9 | rfl
  refine ⟨(setL vsmem_9 (0 + ((M.plc (M.Mem.mk mem_rules mem_slots).slots.length (M.posS s).pits (M.posS s).player).toNat) * 6) [.bool s.used, .slice A9 s.pits.length c9, .int .i64 s.player, .int .i64 s.depth, .int .i64 s.value, .int .i64 s.bound]), (f11_3 ++ f12 ++ f11_2), rfl, ?_⟩
  · exact r5_ hE1
 have hE9 : M.stoS mem_slots s = mem_slots := if_neg (by have h9 := h8; simp only [Bool.or_eq_false_iff, Bool.not_eq_false', decide_eq_false_iff_not] at h9; rintro (h8 | h8); (rw [h9.1] at h8; cases h8); exact h9.2 h8)
 refine Js.skip ?_
 refine zrbE [4, 4] hb (Up.refl _ _) ?_
 have hE1 : (M.stoS mem_slots s) = mem_slots := by first | exact hE9 | rfl
 refine ⟨vsmem_9, fmem_9, rfl, ?_⟩
 · exact r5_ hE1
theorem c_impl_SlotOf (mem : M.Mem) {v_mem : Value} (p : M.Pos) {v_p : Value} {w : World} (h_mem : (Ty.agg (cMemory mem)).ok w v_mem) (h_p : (Ty.agg (cPosition p)).ok w v_p) (r0 : mem.slots.length ≤ 4194304 := by exact om_) (r1 : ∀ x ∈ mem.slots, x.pits.length ≤ 4194304 := by exact om_) (r2 : p.pits.length ≤ 4194304 := by exact om_) (r3 : p.stores.length ≤ 4194304 := by exact om_) : RetV Try.prog 9 [v_mem, v_p] w (.tuple #[.int .i64 (M.slotR mem p), .int .i64 (M.remC mem p)]) := by
 revert v_mem; apply opn
 intro A1 c1 h1 bl1 bh1
 revert v_p; apply opn
 intro A2 c2 h2 bl2 bh2 A3 c3 h3 bl3 bh3
 refine enter @Try.func9 @Try.ntmps9 rfl rfl ?_
 refine zent ?_
 refine zS <| zb rfl fun b4 => zb rfl fun b5 => Qa rfl <| Qa rfl <| zJ <| zS <| Q9 1 rfl rfl ?_
 refine Q9 0 rfl rfl ?_
 refine zv rfl (fun w hw => c_impl_areRemembered mem p (ok_ hw) (ok_ hw) (r1 := r1)) <| Qt rfl <| JL.nil ?_
 refine zi (fun h6 h6' => ?_) fun h6 h6' => ?_
 ·
  have hnr := M.rem_no (m := mem) (p := p) (by have h9 := h6; simpa using h9)
  have hE := M.slotR_1 hnr
  have hE2 := M.remC_1 hnr
  refine zS <| Qa rfl <| Qa rfl <| JL.nil ?_
  refine zR (Up.refl _ _) ?_
  rw [hE, hE2]; rfl
 have hrem : M.remB mem p = true := by simpa using h6
 obtain ⟨ho1, ho2, ho3, ho4, ho5⟩ := M.rem_parts hrem
 have hE := M.slotR_0 hrem
 have hE2 := M.remC_0 hrem
 refine Js.skip <| zS <| Q9 1 rfl rfl ?_
 refine Q9 0 rfl rfl ?_
 refine zv rfl (fun w hw => c_impl_Memory_place mem p (ok_ hw) (ok_ hw) (r0 := ho2)) <| Qa rfl <| Qa rfl <| JL.nil ?_
 refine zR (Up.refl _ _) ?_
 rw [hE, hE2]; rfl
theorem c_impl_StoreValue (mem : M.Mem) {v_mem : Value} (p : M.Pos) {v_p : Value} (depth value bound : Int) {w : World} (h_mem : (Ty.agg (cMemory mem)).ok w v_mem) (h_p : (Ty.agg (cPosition p)).ok w v_p) (r0 : mem.slots.length ≤ 4194304 := by exact om_) (r1 : ∀ x ∈ mem.slots, x.pits.length ≤ 4194304 := by exact om_) (r2 : p.pits.length ≤ 4194304 := by exact om_) (r3 : p.stores.length ≤ 4194304 := by exact om_) : Ret Try.prog 7 [v_mem, v_p, .int .i64 depth, .int .i64 value, .int .i64 bound] w (Ty.tup [Ty.agg (cMemory ((M.stoM mem p depth value bound).1)), Ty.int ((M.stoM mem p depth value bound).2)]) := by
 revert v_mem; apply opn
 intro A1 c1 h1 bl1 bh1
 revert v_p; apply opn
 intro A2 c2 h2 bl2 bh2 A3 c3 h3 bl3 bh3
 refine enter @Try.func7 @Try.ntmps7 rfl rfl ?_
 refine zent ?_
 refine zS <| zb rfl fun b4 => zb rfl fun b5 => za zeh fun b6 => Qa rfl <| zJ <| zS <| Q9 2 rfl rfl ?_
 refine Q9 1 rfl rfl ?_
 refine zv rfl (fun w hw => c_impl_areRemembered mem p (ok_ hw) (ok_ hw) (r1 := r1)) <| Qt rfl <| JL.nil ?_
 refine zi (fun h7 h7' => ?_) fun h7 h7' => ?_
 ·
  have hnr := M.rem_no (m := mem) (p := p) (by have h9 := h7; simpa using h9)
  have hE := M.stoM_1 (d := depth) (v := value) (b := bound) hnr
  have hq0 : 0 = (((M.stoM mem p depth value bound).1).rules).pits := by first | (rw [hE]; done) | (rw [hE]; rfl) | (rw [hE2]; done) | (rw [hE2]; rfl)
  have hq1 : 0 = (((M.stoM mem p depth value bound).1).rules).seeds := by first | (rw [hE]; done) | (rw [hE]; rfl) | (rw [hE2]; done) | (rw [hE2]; rfl)
  have hq2 : false = (((M.stoM mem p depth value bound).1).rules).stores := by first | (rw [hE]; done) | (rw [hE]; rfl) | (rw [hE2]; done) | (rw [hE2]; rfl)
  have hq3 : false = (((M.stoM mem p depth value bound).1).rules).skip := by first | (rw [hE]; done) | (rw [hE]; rfl) | (rw [hE2]; done) | (rw [hE2]; rfl)
  have hq4 : false = (((M.stoM mem p depth value bound).1).rules).relay := by first | (rw [hE]; done) | (rw [hE]; rfl) | (rw [hE2]; done) | (rw [hE2]; rfl)
  have hq5 : false = (((M.stoM mem p depth value bound).1).rules).feed := by first | (rw [hE]; done) | (rw [hE]; rfl) | (rw [hE2]; done) | (rw [hE2]; rfl)
  have hq6 : false = (((M.stoM mem p depth value bound).1).rules).again := by first | (rw [hE]; done) | (rw [hE]; rfl) | (rw [hE2]; done) | (rw [hE2]; rfl)
  have hq7 : 0 = (((M.stoM mem p depth value bound).1).rules).capture := by first | (rw [hE]; done) | (rw [hE]; rfl) | (rw [hE2]; done) | (rw [hE2]; rfl)
  have hq8 : 0 = (((M.stoM mem p depth value bound).1).rules).slam := by first | (rw [hE]; done) | (rw [hE]; rfl) | (rw [hE2]; done) | (rw [hE2]; rfl)
  have hq9 : [] = ((M.stoM mem p depth value bound).1).slots := by first | (rw [hE]; done) | (rw [hE]; rfl) | (rw [hE2]; done) | (rw [hE2]; rfl)
  have hq10 : 1 = (M.stoM mem p depth value bound).2 := by first | (rw [hE]; done) | (rw [hE]; rfl) | (rw [hE2]; done) | (rw [hE2]; rfl)
  refine zS <| Qb ?_
  refine zw 0 rfl rfl rfl ?_
  refine Qa rfl <| JL.nil ?_
  exact zro (Up.refl _ _)
 have hrem : M.remB mem p = true := by simpa using h7
 obtain ⟨ho1, ho2, ho3, ho4, ho5⟩ := M.rem_parts hrem
 refine Js.skip <| Js.seq <| zS <| Qm rfl <| Qm rfl <| Qm rfl <| zv rfl (fun w hw => c_impl_validContents depth value bound) <| Qt rfl <| JL.nil ?_
 refine zi (fun h8 h8' => ?_) fun h8 h8' => ?_
 ·
  have hE := M.stoM_2 (d := depth) (v := value) (b := bound) hrem (by simpa using h8)
  have hq0 : 0 = (((M.stoM mem p depth value bound).1).rules).pits := by first | (rw [hE]; done) | (rw [hE]; rfl) | (rw [hE2]; done) | (rw [hE2]; rfl)
  have hq1 : 0 = (((M.stoM mem p depth value bound).1).rules).seeds := by first | (rw [hE]; done) | (rw [hE]; rfl) | (rw [hE2]; done) | (rw [hE2]; rfl)
  have hq2 : false = (((M.stoM mem p depth value bound).1).rules).stores := by first | (rw [hE]; done) | (rw [hE]; rfl) | (rw [hE2]; done) | (rw [hE2]; rfl)
  have hq3 : false = (((M.stoM mem p depth value bound).1).rules).skip := by first | (rw [hE]; done) | (rw [hE]; rfl) | (rw [hE2]; done) | (rw [hE2]; rfl)
  have hq4 : false = (((M.stoM mem p depth value bound).1).rules).relay := by first | (rw [hE]; done) | (rw [hE]; rfl) | (rw [hE2]; done) | (rw [hE2]; rfl)
  have hq5 : false = (((M.stoM mem p depth value bound).1).rules).feed := by first | (rw [hE]; done) | (rw [hE]; rfl) | (rw [hE2]; done) | (rw [hE2]; rfl)
  have hq6 : false = (((M.stoM mem p depth value bound).1).rules).again := by first | (rw [hE]; done) | (rw [hE]; rfl) | (rw [hE2]; done) | (rw [hE2]; rfl)
  have hq7 : 0 = (((M.stoM mem p depth value bound).1).rules).capture := by first | (rw [hE]; done) | (rw [hE]; rfl) | (rw [hE2]; done) | (rw [hE2]; rfl)
  have hq8 : 0 = (((M.stoM mem p depth value bound).1).rules).slam := by first | (rw [hE]; done) | (rw [hE]; rfl) | (rw [hE2]; done) | (rw [hE2]; rfl)
  have hq9 : [] = ((M.stoM mem p depth value bound).1).slots := by first | (rw [hE]; done) | (rw [hE]; rfl) | (rw [hE2]; done) | (rw [hE2]; rfl)
  have hq10 : 2 = (M.stoM mem p depth value bound).2 := by first | (rw [hE]; done) | (rw [hE]; rfl) | (rw [hE2]; done) | (rw [hE2]; rfl)
  refine zS <| Qb ?_
  refine zw 0 rfl rfl rfl ?_
  refine Qa rfl <| JL.nil ?_
  exact zro (Up.refl _ _)
 have hE := M.stoM_0 (d := depth) (v := value) (b := bound) hrem (by simpa using h8)
 refine Js.skip <| zS <| Q9 2 rfl rfl ?_
 refine zc rfl (fun w hw => c_impl_Memory_copied mem (ok_ hw) (r1 := r1)) ?_
 intro A10 c10 vs10 f10 bl10 bh10
 refine za zeh fun b11 => zw 0 rfl rfl rfl ?_
 refine zN <| Q9 0 rfl rfl ?_
 refine Qf fh rfl <| Q0 4 rfl rfl rfl <| Qf fh rfl <| Q0 4 rfl rfl rfl <| Qm rfl <| Qm rfl <| Qm rfl <| Qb ?_
 refine zhl [1, 1] ?_
 refine zB 2 sp_ rfl (fun w hb hw => c_impl_Memory_store mem.rules mem.slots (M.Slo.mk true p.pits p.player depth value bound) hb (ok_ hw) (r0 := (M.okP_bare ho2))) ?_
 rintro _ _ G12 ⟨vs12mem_w0, f12mem_w0, rfl, rfl⟩
 refine znl ?_
 have hq0 : mem.rules.pits = (((M.stoM mem p depth value bound).1).rules).pits := by first | (rw [hE]; done) | (rw [hE]; rfl) | (rw [hE2]; done) | (rw [hE2]; rfl)
 have hq1 : mem.rules.seeds = (((M.stoM mem p depth value bound).1).rules).seeds := by first | (rw [hE]; done) | (rw [hE]; rfl) | (rw [hE2]; done) | (rw [hE2]; rfl)
 have hq2 : mem.rules.stores = (((M.stoM mem p depth value bound).1).rules).stores := by first | (rw [hE]; done) | (rw [hE]; rfl) | (rw [hE2]; done) | (rw [hE2]; rfl)
 have hq3 : mem.rules.skip = (((M.stoM mem p depth value bound).1).rules).skip := by first | (rw [hE]; done) | (rw [hE]; rfl) | (rw [hE2]; done) | (rw [hE2]; rfl)
 have hq4 : mem.rules.relay = (((M.stoM mem p depth value bound).1).rules).relay := by first | (rw [hE]; done) | (rw [hE]; rfl) | (rw [hE2]; done) | (rw [hE2]; rfl)
 have hq5 : mem.rules.feed = (((M.stoM mem p depth value bound).1).rules).feed := by first | (rw [hE]; done) | (rw [hE]; rfl) | (rw [hE2]; done) | (rw [hE2]; rfl)
 have hq6 : mem.rules.again = (((M.stoM mem p depth value bound).1).rules).again := by first | (rw [hE]; done) | (rw [hE]; rfl) | (rw [hE2]; done) | (rw [hE2]; rfl)
 have hq7 : mem.rules.capture = (((M.stoM mem p depth value bound).1).rules).capture := by first | (rw [hE]; done) | (rw [hE]; rfl) | (rw [hE2]; done) | (rw [hE2]; rfl)
 have hq8 : mem.rules.slam = (((M.stoM mem p depth value bound).1).rules).slam := by first | (rw [hE]; done) | (rw [hE]; rfl) | (rw [hE2]; done) | (rw [hE2]; rfl)
 have hq9 : (M.stoS mem.slots (M.Slo.mk true p.pits p.player depth value bound)) = ((M.stoM mem p depth value bound).1).slots := by first | (rw [hE]; done) | (rw [hE]; rfl) | (rw [hE2]; done) | (rw [hE2]; rfl)
 have hq10 : 0 = (M.stoM mem p depth value bound).2 := by first | (rw [hE]; done) | (rw [hE]; rfl) | (rw [hE2]; done) | (rw [hE2]; rfl)
 refine zN <| Q9 3 rfl rfl ?_
 refine zw 4 rfl rfl rfl ?_
 refine Qa rfl <| JL.nil ?_
 exact zro (Up.refl _ _)
theorem c_impl_LookValue (mem : M.Mem) {v_mem : Value} (p : M.Pos) {v_p : Value} (depth : Int) {w : World} (h_mem : (Ty.agg (cMemory mem)).ok w v_mem) (h_p : (Ty.agg (cPosition p)).ok w v_p) (r0 : mem.slots.length ≤ 4194304 := by exact om_) (r1 : ∀ x ∈ mem.slots, x.pits.length ≤ 4194304 := by exact om_) (r2 : p.pits.length ≤ 4194304 := by exact om_) (r3 : p.stores.length ≤ 4194304 := by exact om_) : RetV Try.prog 12 [v_mem, v_p, .int .i64 depth] w (.tuple #[.int .i64 ((M.lokM mem p depth).1), .int .i64 ((M.lokM mem p depth).2.1), .int .i64 ((M.lokM mem p depth).2.2)]) := by
 revert v_mem; apply opn
 intro A1 c1 h1 bl1 bh1
 revert v_p; apply opn
 intro A2 c2 h2 bl2 bh2 A3 c3 h3 bl3 bh3
 refine enter @Try.func12 @Try.ntmps12 rfl rfl ?_
 refine zent ?_
 refine zS <| zb rfl fun b4 => zb rfl fun b5 => Qa rfl <| Qa rfl <| Qa rfl <| zJ <| zS <| Q9 1 rfl rfl ?_
 refine Q9 0 rfl rfl ?_
 refine zv rfl (fun w hw => c_impl_areRemembered mem p (ok_ hw) (ok_ hw) (r1 := r1)) <| Qt rfl <| JL.nil ?_
 refine zi (fun h6 h6' => ?_) fun h6 h6' => ?_
 ·
  have hnr := M.rem_no (m := mem) (p := p) (by have h9 := h6; simpa using h9)
  have hE := M.lokM_1 (d := depth) hnr
  refine zS <| Qa rfl <| Qa rfl <| Qa rfl <| JL.nil ?_
  refine zR (Up.refl _ _) ?_
  rw [hE]; rfl
 have hrem : M.remB mem p = true := by simpa using h6
 obtain ⟨ho1, ho2, ho3, ho4, ho5⟩ := M.rem_parts hrem
 refine Js.skip <| zS <| Q9 1 rfl rfl ?_
 refine Q9 0 rfl rfl ?_
 refine Qm rfl <| zp rfl (fun w hw => c_impl_Memory_look mem p depth (ok_ hw) (ok_ hw) (r1 := r1) (r4 := ho2)) ?_
 intro u7 x7 v8 h8
 refine Qm rfl <| Qx rfl rfl <| Qx rfl rfl <| za zeh fun b9 => ?_
 refine JL.s (e_store (i := 0) (c' := [.bool ((M.fnd mem.slots p).used), v8, .int .i64 ((M.fnd mem.slots p).player), .int .i64 ((M.fnd mem.slots p).depth), .int .i64 ((M.fnd mem.slots p).value), .int .i64 ((M.fnd mem.slots p).bound)]) ty_45.h rfl rfl rfl rfl rfl (show List.all [.bool ((M.fnd mem.slots p).used), v8, .int .i64 ((M.fnd mem.slots p).player), .int .i64 ((M.fnd mem.slots p).depth), .int .i64 ((M.fnd mem.slots p).value), .int .i64 ((M.fnd mem.slots p).bound)] (·.oneCell') = true by simp only [List.all_cons, List.all_nil, h8]; rfl) rfl rfl) ?_
 rintro _ _ _ ⟨rfl, rfl⟩ _
 refine znl ?_
 refine Qa rfl <| zJ <| zS <| Qm rfl <| Qt rfl <| JL.nil ?_
 refine zi (fun h10 h10' => ?_) fun h10 h10' => ?_
 ·
  have hE := M.lokM_3 hrem (by simpa using h10)
  refine zS <| Qa rfl <| Qa rfl <| Qa rfl <| JL.nil ?_
  refine zR x7 ?_
  rw [hE]; rfl
 have hE := M.lokM_0 hrem (by simpa using h10)
 refine Js.skip <| Js.seq ?_
 refine zdr [] ?_
 refine jF 0 fld_45_4 rfl rfl ?_
 refine jB 1 0 ty_2 rfl rfl rfl rfl ?_
 refine jF 2 fld_45_5 rfl rfl ?_
 refine jB 3 0 ty_2 rfl rfl rfl rfl ?_
 refine jA 4 rfl rfl ?_
 refine jA 5 rfl rfl ?_
 refine jA 6 rfl rfl ?_
 refine yd ?_
 refine zR x7 ?_
 rw [hE]; rfl
theorem c_impl_FilledSlots (mem : M.Mem) {v_mem : Value} {w : World} (h_mem : (Ty.agg (cMemory mem)).ok w v_mem) (r0 : mem.slots.length ≤ 4194304 := by exact om_) (r1 : ∀ x ∈ mem.slots, x.pits.length ≤ 4194304 := by exact om_) : RetV Try.prog 15 [v_mem] w (.tuple #[.int .i64 (M.filM mem), .int .i64 (M.okMC mem)]) := by
 revert v_mem; apply opn
 intro A1 c1 h1 bl1 bh1
 refine enter @Try.func15 @Try.ntmps15 rfl rfl ?_
 refine zent ?_
 refine zS <| zb rfl fun b2 => Qa rfl <| Qa rfl <| zJ <| zS <| Q9 0 rfl rfl ?_
 refine zv rfl (fun w hw => c_impl_ValidMemory mem (ok_ hw) (r1 := r1)) <| Qt rfl <| JL.nil ?_
 refine zi (fun h3 h3' => ?_) fun h3 h3' => ?_
 ·
  obtain ⟨hE, hE2⟩ := M.filM_1 (m := mem) (by simpa using h3)
  refine zS <| Qa rfl <| Qa rfl <| JL.nil ?_
  refine zR (Up.refl _ _) ?_
  first | (rw [hE, hE2]; rfl) | (rw [hE, hE2, hN, hA]; rfl)
 have hok : M.okM mem = true := by simpa using h3
 obtain ⟨hE, hE2⟩ := M.filM_0 hok
 refine Js.skip <| zS <| Qa rfl <| zJ <| zS <| Qf fh rfl <| Q0 0 rfl rfl rfl <| Qz rfl <| Qm rfl <| JL.nil <| Js.block ?_
 refine zl [11, 12] (fun F U l os u m => ∃ (k : Nat) (n : Int), l = F [(4, .int .i64 n), (13, .int .i64 (k : Int))] ∧ os = U [] ∧ (n = M.cntS (·.used) (mem.slots.take k)) ∧ (k ≤ mem.slots.length) ∧ m = mem.slots.length - k) ⟨0, 0, rfl, rfl, by rfl, zt, rfl⟩ ?_
 rintro _ _ u4 _ ⟨k, n, rfl, rfl, hN, hk, rfl⟩ x4
 refine zn ?_
 have hcb := M.cntS_tk (·.used) mem.slots k
 refine zS <| Ql rfl rfl <| zJ ?_
 refine zi (fun h5 h5' => ?_) fun h5 h5' => ?_
 ·
  have hkk : k < mem.slots.length := by have := h5'; omega
  have hy6 : mem.slots[k]? = some (M.slo mem.slots k) := M.slo_get (by omega)
  obtain ⟨b6, o6, A6_1, c6_1, he6, hr6, h6_1, bl6_1, bh6_1⟩ := elem_Slot (Ty.mono _ h1 x4.vis) hy6
  refine Js.skip <| Js.seq <| Js.block <| zS <| Qq (p_indexAddr el_26 rfl rfl (by omega) (by omega) he6) <| QS 0 hr6 rfl ?_
  refine za zeh fun b7 => zw 0 rfl rfl rfl ?_
  refine zN <| Qf fh rfl <| Q0 0 rfl rfl rfl <| JL.nil ?_
  refine zi (fun h8 h8' => ?_) fun h8 h8' => ?_
  ·
   have hu9 : (M.slo mem.slots k).used = true := h8
   refine Js.region <| Qm rfl <| Qp rfl rfl <| Qa rfl <| JL.nil <| Js.blockEnd <| Js.region <| Qp rfl rfl <| Qm rfl <| JL.nil ?_
   refine zd [1] rfl fun u9 x9 => ?_
   exact zag ⟨k + 1, n + 1, rfl, rfl, by first | (rw [M.cntS_y hkk ‹_›, hN]; done) | (rw [M.cntS_n hkk ‹_›, hN]; done), zt, rfl⟩ (x4.trans x9)
  have hu9 : (M.slo mem.slots k).used = false := h8
  refine Js.skip <| Js.blockEnd <| Js.region <| Qp rfl rfl <| Qm rfl <| JL.nil ?_
  refine zd [1] rfl fun u10 x10 => ?_
  exact zag ⟨k + 1, n, rfl, rfl, by first | (rw [M.cntS_y hkk ‹_›, hN]; done) | (rw [M.cntS_n hkk ‹_›, hN]; done), zt, rfl⟩ (x4.trans x10)
 have hA := M.cntS_all (q := (·.used)) (l := mem.slots) (k := k) (by have := h5'; omega)
 refine zx ?_
 refine zS <| Qm rfl <| Qa rfl <| Qa rfl <| JL.nil ?_
 refine zR x4 ?_
 first | (rw [hE, hE2]; rfl) | (rw [hE, hE2, hN, hA]; rfl)
theorem c_spec_SlotOf (mem : M.Mem) {v_mem : Value} (p : M.Pos) {v_p : Value} {w : World} (h_mem : (Ty.agg (cMemory mem)).ok w v_mem) (h_p : (Ty.agg (cPosition p)).ok w v_p) (r0 : mem.slots.length ≤ 4194304 := by exact om_) (r1 : ∀ x ∈ mem.slots, x.pits.length ≤ 4194304 := by exact om_) (r2 : p.pits.length ≤ 4194304 := by exact om_) (r3 : p.stores.length ≤ 4194304 := by exact om_) : RetV Try.prog 10 [v_mem, v_p] w (.tuple #[.int .i64 (M.slotR mem p), .int .i64 (M.remC mem p)]) := by
 revert v_mem; apply opn
 intro A1 c1 h1 bl1 bh1
 revert v_p; apply opn
 intro A2 c2 h2 bl2 bh2 A3 c3 h3 bl3 bh3
 refine enter @Try.func10 @Try.ntmps10 rfl rfl ?_
 refine zent ?_
 refine zS <| zb rfl fun b4 => zb rfl fun b5 => Qa rfl <| Qa rfl <| zN <| zv rfl (fun w hw => c_spec_l16Code mem p (ok_ hw) (ok_ hw) (r1 := r1)) <| Qa rfl <| zJ <| zS <| Qm rfl <| Qd rfl rfl <| JL.nil ?_
 refine zi (fun h6 h6' => ?_) fun h6 h6' => ?_
 ·
  have hnr := M.remC_ne (m := mem) (p := p) (by simpa using h6)
  have hE2 := M.remC_1 hnr
  have hE := M.slotR_1 hnr
  refine zS <| Qm rfl <| Qa rfl <| Qa rfl <| JL.nil ?_
  refine zR (Up.refl _ _) ?_
  first | (rw [hE]; done) | (rw [hE]; rfl) | (rw [hE, hE2]; rfl)
 have hrem := M.remC_eq (m := mem) (p := p) (by simpa using h6)
 have hE2 := M.remC_0 hrem
 obtain ⟨ho1, ho2, ho3, ho4, ho5⟩ := M.rem_parts hrem
 have hE := M.slotR_0 hrem
 refine Js.skip <| zS <| zv rfl (fun w hw => c_spec_l16Place mem p (ok_ hw) (ok_ hw) (r0 := ho2)) <| Qa rfl <| Qa rfl <| JL.nil ?_
 refine zR (Up.refl _ _) ?_
 first | (rw [hE]; done) | (rw [hE]; rfl) | (rw [hE, hE2]; rfl)
theorem c_spec_StoreValue (mem : M.Mem) {v_mem : Value} (p : M.Pos) {v_p : Value} (depth value bound : Int) {w : World} (h_mem : (Ty.agg (cMemory mem)).ok w v_mem) (h_p : (Ty.agg (cPosition p)).ok w v_p) (r0 : mem.slots.length ≤ 4194304 := by exact om_) (r1 : ∀ x ∈ mem.slots, x.pits.length ≤ 4194304 := by exact om_) (r2 : p.pits.length ≤ 4194304 := by exact om_) (r3 : p.stores.length ≤ 4194304 := by exact om_) : Ret Try.prog 8 [v_mem, v_p, .int .i64 depth, .int .i64 value, .int .i64 bound] w (Ty.tup [Ty.agg (cMemory ((M.stoM mem p depth value bound).1)), Ty.int ((M.stoM mem p depth value bound).2)]) := by
 revert v_mem; apply opn
 intro A1 c1 h1 bl1 bh1
 revert v_p; apply opn
 intro A2 c2 h2 bl2 bh2 A3 c3 h3 bl3 bh3
 refine enter @Try.func8 @Try.ntmps8 rfl rfl ?_
 refine zent ?_
 refine zS <| zb rfl fun b4 => zb rfl fun b5 => za zeh fun b6 => Qa rfl <| zN <| zv rfl (fun w hw => c_spec_l16Code mem p (ok_ hw) (ok_ hw) (r1 := r1)) <| Qa rfl <| zJ <| zS <| Qm rfl <| Qd rfl rfl <| JL.nil ?_
 refine zi (fun h7 h7' => ?_) fun h7 h7' => ?_
 ·
  have hnr := M.remC_ne (m := mem) (p := p) (by simpa using h7)
  have hE2 := M.remC_1 hnr
  have hE := M.stoM_1 (d := depth) (v := value) (b := bound) hnr
  have hq0 : 0 = (((M.stoM mem p depth value bound).1).rules).pits := by first | (rw [hE]; done) | (rw [hE]; rfl) | (rw [hE, hE2]; done) | (rw [hE2, hE]; rfl) | (rw [hE2]; rw [hE])
  have hq1 : 0 = (((M.stoM mem p depth value bound).1).rules).seeds := by first | (rw [hE]; done) | (rw [hE]; rfl) | (rw [hE, hE2]; done) | (rw [hE2, hE]; rfl) | (rw [hE2]; rw [hE])
  have hq2 : false = (((M.stoM mem p depth value bound).1).rules).stores := by first | (rw [hE]; done) | (rw [hE]; rfl) | (rw [hE, hE2]; done) | (rw [hE2, hE]; rfl) | (rw [hE2]; rw [hE])
  have hq3 : false = (((M.stoM mem p depth value bound).1).rules).skip := by first | (rw [hE]; done) | (rw [hE]; rfl) | (rw [hE, hE2]; done) | (rw [hE2, hE]; rfl) | (rw [hE2]; rw [hE])
  have hq4 : false = (((M.stoM mem p depth value bound).1).rules).relay := by first | (rw [hE]; done) | (rw [hE]; rfl) | (rw [hE, hE2]; done) | (rw [hE2, hE]; rfl) | (rw [hE2]; rw [hE])
  have hq5 : false = (((M.stoM mem p depth value bound).1).rules).feed := by first | (rw [hE]; done) | (rw [hE]; rfl) | (rw [hE, hE2]; done) | (rw [hE2, hE]; rfl) | (rw [hE2]; rw [hE])
  have hq6 : false = (((M.stoM mem p depth value bound).1).rules).again := by first | (rw [hE]; done) | (rw [hE]; rfl) | (rw [hE, hE2]; done) | (rw [hE2, hE]; rfl) | (rw [hE2]; rw [hE])
  have hq7 : 0 = (((M.stoM mem p depth value bound).1).rules).capture := by first | (rw [hE]; done) | (rw [hE]; rfl) | (rw [hE, hE2]; done) | (rw [hE2, hE]; rfl) | (rw [hE2]; rw [hE])
  have hq8 : 0 = (((M.stoM mem p depth value bound).1).rules).slam := by first | (rw [hE]; done) | (rw [hE]; rfl) | (rw [hE, hE2]; done) | (rw [hE2, hE]; rfl) | (rw [hE2]; rw [hE])
  have hq9 : [] = ((M.stoM mem p depth value bound).1).slots := by first | (rw [hE]; done) | (rw [hE]; rfl) | (rw [hE, hE2]; done) | (rw [hE2, hE]; rfl) | (rw [hE2]; rw [hE])
  have hq10 : (M.remC mem p) = (M.stoM mem p depth value bound).2 := by first | (rw [hE]; done) | (rw [hE]; rfl) | (rw [hE, hE2]; done) | (rw [hE2, hE]; rfl) | (rw [hE2]; rw [hE])
  refine zS <| Qb ?_
  refine Qm rfl <| zw 0 rfl rfl rfl ?_
  refine Qa rfl <| JL.nil ?_
  exact zro (Up.refl _ _)
 have hrem := M.remC_eq (m := mem) (p := p) (by simpa using h7)
 have hE2 := M.remC_0 hrem
 obtain ⟨ho1, ho2, ho3, ho4, ho5⟩ := M.rem_parts hrem
 refine Js.skip <| Js.seq <| zS <| Qm rfl <| zv rfl (fun w hw => c_spec_l00In depth 1 8) <| Qt rfl <| Qm rfl <| zg (Gd.f1 rfl rfl rfl) (fun hc => p_move rfl) <| zgv (Gd.f1 rfl rfl rfl) (fun hc => (opds_1 (gh hc rfl))) (fun hc => (fun w hw => c_spec_l16Value value)) ?_
 refine zg (Gd.f1 rfl rfl rfl) (fun hc => p_not (gh hc rfl)) <| Qq (p_pickOr rfl rfl rfl) <| Qm rfl <| zg (Gd.f1 rfl rfl rfl) (fun hc => p_move rfl) <| zgv (Gd.f1 rfl rfl rfl) (fun hc => (opds_3 (gh hc rfl) rfl rfl)) (fun hc => (fun w hw => c_spec_l00In bound 0 2)) ?_
 refine zg (Gd.f1 rfl rfl rfl) (fun hc => p_not (gh hc rfl)) <| Qq (p_pickOr rfl rfl rfl) <| JL.nil ?_
 refine zi (fun h8 h8' => ?_) fun h8 h8' => ?_
 ·
  have hE := M.stoM_2 (d := depth) (v := value) (b := bound) hrem (M.okCt_n (by have h9 := h8; simpa using h9))
  have hq0 : 0 = (((M.stoM mem p depth value bound).1).rules).pits := by first | (rw [hE]; done) | (rw [hE]; rfl) | (rw [hE, hE2]; done) | (rw [hE2, hE]; rfl) | (rw [hE2]; rw [hE])
  have hq1 : 0 = (((M.stoM mem p depth value bound).1).rules).seeds := by first | (rw [hE]; done) | (rw [hE]; rfl) | (rw [hE, hE2]; done) | (rw [hE2, hE]; rfl) | (rw [hE2]; rw [hE])
  have hq2 : false = (((M.stoM mem p depth value bound).1).rules).stores := by first | (rw [hE]; done) | (rw [hE]; rfl) | (rw [hE, hE2]; done) | (rw [hE2, hE]; rfl) | (rw [hE2]; rw [hE])
  have hq3 : false = (((M.stoM mem p depth value bound).1).rules).skip := by first | (rw [hE]; done) | (rw [hE]; rfl) | (rw [hE, hE2]; done) | (rw [hE2, hE]; rfl) | (rw [hE2]; rw [hE])
  have hq4 : false = (((M.stoM mem p depth value bound).1).rules).relay := by first | (rw [hE]; done) | (rw [hE]; rfl) | (rw [hE, hE2]; done) | (rw [hE2, hE]; rfl) | (rw [hE2]; rw [hE])
  have hq5 : false = (((M.stoM mem p depth value bound).1).rules).feed := by first | (rw [hE]; done) | (rw [hE]; rfl) | (rw [hE, hE2]; done) | (rw [hE2, hE]; rfl) | (rw [hE2]; rw [hE])
  have hq6 : false = (((M.stoM mem p depth value bound).1).rules).again := by first | (rw [hE]; done) | (rw [hE]; rfl) | (rw [hE, hE2]; done) | (rw [hE2, hE]; rfl) | (rw [hE2]; rw [hE])
  have hq7 : 0 = (((M.stoM mem p depth value bound).1).rules).capture := by first | (rw [hE]; done) | (rw [hE]; rfl) | (rw [hE, hE2]; done) | (rw [hE2, hE]; rfl) | (rw [hE2]; rw [hE])
  have hq8 : 0 = (((M.stoM mem p depth value bound).1).rules).slam := by first | (rw [hE]; done) | (rw [hE]; rfl) | (rw [hE, hE2]; done) | (rw [hE2, hE]; rfl) | (rw [hE2]; rw [hE])
  have hq9 : [] = ((M.stoM mem p depth value bound).1).slots := by first | (rw [hE]; done) | (rw [hE]; rfl) | (rw [hE, hE2]; done) | (rw [hE2, hE]; rfl) | (rw [hE2]; rw [hE])
  have hq10 : 2 = (M.stoM mem p depth value bound).2 := by first | (rw [hE]; done) | (rw [hE]; rfl) | (rw [hE, hE2]; done) | (rw [hE2, hE]; rfl) | (rw [hE2]; rw [hE])
  refine zS <| Qb ?_
  refine zw 0 rfl rfl rfl ?_
  refine Qa rfl <| JL.nil ?_
  exact zro (Up.refl _ _)
 have hE := M.stoM_0 (d := depth) (v := value) (b := bound) hrem (M.okCt_y (by have h9 := h8; simpa using h9))
 refine Js.skip <| zS <| zc rfl (fun w hw => c_spec_l16Own mem (ok_ hw) (r1 := r1)) ?_
 intro A10 c10 vs10 f10 bl10 bh10
 refine za zeh fun b11 => zw 0 rfl rfl rfl ?_
 refine zN <| Qf fh rfl <| Q0 4 rfl rfl rfl <| Qf fh rfl <| Q0 4 rfl rfl rfl <| Qm rfl <| Qm rfl <| Qm rfl <| Qb ?_
 refine zb rfl fun b12 => ?_
 refine zhl [1, 1, 1] ?_
 refine zB 3 sp_ rfl (fun w hb hw => c_spec_l16Store mem.rules mem.slots (M.Slo.mk true p.pits p.player depth value bound) hb (ok_ hw) (r0 := (M.okP_bare ho2))) ?_
 rintro _ _ G13 ⟨A13mem_9, c13mem_9, g13mem_9, vs13mem_9, f13mem_9, rfl, rfl, bl13_0, bl13_1⟩
 refine znl ?_
 have hq0 : mem.rules.pits = (((M.stoM mem p depth value bound).1).rules).pits := by first | (rw [hE]; done) | (rw [hE]; rfl) | (rw [hE, hE2]; done) | (rw [hE2, hE]; rfl) | (rw [hE2]; rw [hE])
 have hq1 : mem.rules.seeds = (((M.stoM mem p depth value bound).1).rules).seeds := by first | (rw [hE]; done) | (rw [hE]; rfl) | (rw [hE, hE2]; done) | (rw [hE2, hE]; rfl) | (rw [hE2]; rw [hE])
 have hq2 : mem.rules.stores = (((M.stoM mem p depth value bound).1).rules).stores := by first | (rw [hE]; done) | (rw [hE]; rfl) | (rw [hE, hE2]; done) | (rw [hE2, hE]; rfl) | (rw [hE2]; rw [hE])
 have hq3 : mem.rules.skip = (((M.stoM mem p depth value bound).1).rules).skip := by first | (rw [hE]; done) | (rw [hE]; rfl) | (rw [hE, hE2]; done) | (rw [hE2, hE]; rfl) | (rw [hE2]; rw [hE])
 have hq4 : mem.rules.relay = (((M.stoM mem p depth value bound).1).rules).relay := by first | (rw [hE]; done) | (rw [hE]; rfl) | (rw [hE, hE2]; done) | (rw [hE2, hE]; rfl) | (rw [hE2]; rw [hE])
 have hq5 : mem.rules.feed = (((M.stoM mem p depth value bound).1).rules).feed := by first | (rw [hE]; done) | (rw [hE]; rfl) | (rw [hE, hE2]; done) | (rw [hE2, hE]; rfl) | (rw [hE2]; rw [hE])
 have hq6 : mem.rules.again = (((M.stoM mem p depth value bound).1).rules).again := by first | (rw [hE]; done) | (rw [hE]; rfl) | (rw [hE, hE2]; done) | (rw [hE2, hE]; rfl) | (rw [hE2]; rw [hE])
 have hq7 : mem.rules.capture = (((M.stoM mem p depth value bound).1).rules).capture := by first | (rw [hE]; done) | (rw [hE]; rfl) | (rw [hE, hE2]; done) | (rw [hE2, hE]; rfl) | (rw [hE2]; rw [hE])
 have hq8 : mem.rules.slam = (((M.stoM mem p depth value bound).1).rules).slam := by first | (rw [hE]; done) | (rw [hE]; rfl) | (rw [hE, hE2]; done) | (rw [hE2, hE]; rfl) | (rw [hE2]; rw [hE])
 have hq9 : (M.stoS mem.slots (M.Slo.mk true p.pits p.player depth value bound)) = ((M.stoM mem p depth value bound).1).slots := by first | (rw [hE]; done) | (rw [hE]; rfl) | (rw [hE, hE2]; done) | (rw [hE2, hE]; rfl) | (rw [hE2]; rw [hE])
 have hq10 : 0 = (M.stoM mem p depth value bound).2 := by first | (rw [hE]; done) | (rw [hE]; rfl) | (rw [hE, hE2]; done) | (rw [hE2, hE]; rfl) | (rw [hE2]; rw [hE])
 refine zN <| Q9 0 rfl rfl ?_
 refine zw 5 rfl rfl rfl ?_
 refine Qa rfl <| JL.nil ?_
 exact zro (Up.refl _ _)
theorem c_spec_LookValue (mem : M.Mem) {v_mem : Value} (p : M.Pos) {v_p : Value} (depth : Int) {w : World} (h_mem : (Ty.agg (cMemory mem)).ok w v_mem) (h_p : (Ty.agg (cPosition p)).ok w v_p) (r0 : mem.slots.length ≤ 4194304 := by exact om_) (r1 : ∀ x ∈ mem.slots, x.pits.length ≤ 4194304 := by exact om_) (r2 : p.pits.length ≤ 4194304 := by exact om_) (r3 : p.stores.length ≤ 4194304 := by exact om_) : RetV Try.prog 13 [v_mem, v_p, .int .i64 depth] w (.tuple #[.int .i64 ((M.lokM mem p depth).1), .int .i64 ((M.lokM mem p depth).2.1), .int .i64 ((M.lokM mem p depth).2.2)]) := by
 revert v_mem; apply opn
 intro A1 c1 h1 bl1 bh1
 revert v_p; apply opn
 intro A2 c2 h2 bl2 bh2 A3 c3 h3 bl3 bh3
 refine enter @Try.func13 @Try.ntmps13 rfl rfl ?_
 refine zent ?_
 refine zS <| zb rfl fun b4 => zb rfl fun b5 => Qa rfl <| Qa rfl <| Qa rfl <| zN <| zv rfl (fun w hw => c_spec_l16Code mem p (ok_ hw) (ok_ hw) (r1 := r1)) <| Qa rfl <| zJ <| zS <| Qm rfl <| Qd rfl rfl <| JL.nil ?_
 refine zi (fun h6 h6' => ?_) fun h6 h6' => ?_
 ·
  have hnr := M.remC_ne (m := mem) (p := p) (by simpa using h6)
  have hE2 := M.remC_1 hnr
  have hE := M.lokM_1 (d := depth) hnr
  refine zS <| Qm rfl <| Qa rfl <| Qa rfl <| Qa rfl <| JL.nil ?_
  refine zR (Up.refl _ _) ?_
  first | (rw [hE]; rfl) | (rw [hE, hE2]; rfl)
 have hrem := M.remC_eq (m := mem) (p := p) (by simpa using h6)
 have hE2 := M.remC_0 hrem
 obtain ⟨ho1, ho2, ho3, ho4, ho5⟩ := M.rem_parts hrem
 obtain ⟨hp1, hp2⟩ := M.plc_bd (n := mem.slots.length) p.pits p.player (by omega)
 have hy7 : mem.slots[(M.plc mem.slots.length p.pits p.player).toNat]? = some (M.slo mem.slots ((M.plc mem.slots.length p.pits p.player).toNat)) := M.slo_get (by omega)
 obtain ⟨b7, o7, A7_1, c7_1, he7, hr7, h7_1, bl7_1, bh7_1⟩ := elem_Slot h1 hy7
 refine Js.skip <| zS <| Qm rfl <| zxc (fun v => v = .tuple #[.pointer (some ⟨b7, o7, none⟩), .bool (M.fndB mem.slots p depth)]) rfl (fun w hw => c_spec_l16Find mem p depth (Ty.mono _ h1 hw.vis) (Mem.boxR (i := 1) rfl 0 10 _ hw) (ok_ hw) (r1 := r1) (r4 := ho2)) (fun w9 v9 hw9 h9 => he7 ▸ h9) ?_
 rintro _ rfl
 refine Qm rfl <| Qx rfl rfl <| Qx rfl rfl <| Qa rfl <| Qa rfl <| zJ <| zS <| Qm rfl <| Qt rfl <| JL.nil ?_
 refine zi (fun h8 h8' => ?_) fun h8 h8' => ?_
 ·
  have hE := M.lokM_3 hrem (by simpa using h8)
  refine zS <| Qa rfl <| Qa rfl <| Qa rfl <| JL.nil ?_
  refine zR (Up.refl _ _) ?_
  first | (rw [hE]; rfl) | (rw [hE, hE2]; rfl)
 have hE := M.lokM_0 hrem (by simpa using h8)
 refine Js.skip <| Js.seq ?_
 refine zdr [] ?_
 refine jM 0 rfl rfl ?_
 refine jN 1 rfl rfl ?_
 refine jF 2 fld_45_4 rfl rfl ?_
 refine jW 3 ty_2 rfl rfl (fun hv => (hr7.vis hv) 4 _ rfl) ?_
 refine jM 4 rfl rfl ?_
 refine jN 5 rfl rfl ?_
 refine jF 6 fld_45_5 rfl rfl ?_
 refine jW 7 ty_2 rfl rfl (fun hv => (hr7.vis hv) 5 _ rfl) ?_
 refine jA 8 rfl rfl ?_
 refine jA 9 rfl rfl ?_
 refine jA 10 rfl rfl ?_
 refine yd ?_
 refine zR (Up.refl _ _) ?_
 first | (rw [hE]; rfl) | (rw [hE, hE2]; rfl)
theorem c_laws_f6big (code : Nat) {v_code : Value} {w : World} (h_code : (Ty.bytes 5 code).ok w v_code) : RetV Try.prog 5 [v_code] w (.bool (decide (4096 < (code : Int)))) := by
 revert v_code; apply opn
 intro A1 c1 h1 bl1 bh1
 have h_code := h1
 refine enter @Try.func5 @Try.ntmps5 rfl rfl ?_
 refine zent ?_
 refine zS <| Qa rfl <| zN <| Qm rfl <| Qz rfl <| Qg rfl rfl <| Qa rfl <| JL.nil ?_
 exact zr (Up.refl _ _)
theorem c_laws_FnStoredValues (code : Nat) {v_code : Value} {w : World} (h_code : (Ty.bytes 5 code).ok w v_code) : RetV Try.prog 3 [v_code] w (.bool true) := by
 revert v_code; apply opn
 intro A1 c1 h1 bl1 bh1
 have h_code := h1
 refine enter @Try.func3 @Try.ntmps3 rfl rfl ?_
 refine zent ?_
 refine zS <| Qa rfl <| zJ <| zS <| Qm rfl <| zv rfl (fun w hw => c_laws_f6big code (ok_ hw)) <| JL.nil ?_
 refine zi (fun h2 h2' => ?_) fun h2 h2' => ?_
 ·
  refine zS <| Qa rfl <| JL.nil ?_
  refine zR (Up.refl _ _) ?_
  first | rfl | (rw [hE]; done) | (rw [hE]; rfl) | (rw [hE]; simp [outV]; done) | (simp [outV, hE]; done)
 refine Js.skip <| zS <| Qm rfl <| zp rfl (fun w hw => c_spec_DrawStoreValue code (ok_ hw)) ?_
 intro u3 x3 X4 hX4 A5 c5 h5 bl5 bh5 X6 hX6 A7 c7 h7 bl7 bh7 A8 c8 h8 bl8 bh8 X9 hX9 X10 hX10 X11 hX11
 have hMB9 := (by assumption : X4.slots.length ≤ 65 ∧ M.SzM 16 X4.slots)
 obtain ⟨hm, hz1⟩ := hMB9
 obtain ⟨hx, hz2⟩ := M.stoM_sz (m := X4) X6 X9 X10 X11 hm hz1
 refine Qm rfl <| Qx rfl rfl <| Qx rfl rfl <| Qx rfl rfl <| Qx rfl rfl <| Qx rfl rfl <| za zeh fun b12 => za zeh fun b13 => zw 1 rfl rfl rfl ?_
 refine zw 0 rfl rfl rfl ?_
 refine Qa rfl <| Qa rfl <| Qa rfl <| zN <| Q9 1 rfl rfl ?_
 refine Q9 0 rfl rfl ?_
 refine Qm rfl <| Qm rfl <| Qm rfl <| zp rfl (fun w hw => c_impl_StoreValue X4 X6 X9 X10 X11 (ok_ hw) (ok_ hw) (r1 := (by first | exact hz1.mono (by omega) | exact hz2.mono (by omega) | exact hz3.mono (by omega)))) ?_
 intro u14 x14 A15 c15 h15 bl15 bh15
 refine Qm rfl <| Qx rfl rfl <| Qx rfl rfl <| za zeh fun b16 => zw 0 rfl rfl rfl ?_
 refine Qa rfl <| zN <| Q9 2 rfl rfl ?_
 refine Q9 1 rfl rfl ?_
 refine Qm rfl <| Qm rfl <| Qm rfl <| zp rfl (fun w hw => c_spec_StoreValue X4 X6 X9 X10 X11 (ok_ hw) (ok_ hw) (r1 := (by first | exact hz1.mono (by omega) | exact hz2.mono (by omega) | exact hz3.mono (by omega)))) ?_
 intro u17 x17 A18 c18 h18 bl18 bh18
 refine Qm rfl <| Qx rfl rfl <| Qx rfl rfl <| za zeh fun b19 => zw 0 rfl rfl rfl ?_
 refine Qa rfl <| zN <| Q9 3 rfl rfl ?_
 refine Q9 2 rfl rfl ?_
 refine zv rfl (fun w hw => c_impl_SlotOf X4 X6 (ok_ hw) (ok_ hw) (r1 := (by first | exact hz1.mono (by omega) | exact hz2.mono (by omega) | exact hz3.mono (by omega)))) <| Qm rfl <| Qx rfl rfl <| Qx rfl rfl <| Qa rfl <| Qa rfl <| zN <| Q9 3 rfl rfl ?_
 refine Q9 2 rfl rfl ?_
 refine zv rfl (fun w hw => c_spec_SlotOf X4 X6 (ok_ hw) (ok_ hw) (r1 := (by first | exact hz1.mono (by omega) | exact hz2.mono (by omega) | exact hz3.mono (by omega)))) <| Qm rfl <| Qx rfl rfl <| Qx rfl rfl <| Qa rfl <| Qa rfl <| zN <| Qm rfl <| zp rfl (fun w hw => c_spec_DrawLookValue code (ok_ hw)) ?_
 intro u20 x20 X21 hX21 A22 c22 h22 bl22 bh22 X23 hX23 A24 c24 h24 bl24 bh24 A25 c25 h25 bl25 bh25 X26 hX26
 have hMB8 := (by assumption : X21.slots.length ≤ 65 ∧ M.SzM 16 X21.slots)
 obtain ⟨hm3, hz3⟩ := hMB8
 refine Qm rfl <| Qx rfl rfl <| Qx rfl rfl <| Qx rfl rfl <| za zeh fun b27 => za zeh fun b28 => zw 1 rfl rfl rfl ?_
 refine zw 0 rfl rfl rfl ?_
 refine Qa rfl <| zN <| Q9 1 rfl rfl ?_
 refine Q9 0 rfl rfl ?_
 refine Qm rfl <| zv rfl (fun w hw => c_impl_LookValue X21 X23 X26 (ok_ hw) (ok_ hw) (r1 := (by first | exact hz1.mono (by omega) | exact hz2.mono (by omega) | exact hz3.mono (by omega)))) <| Qm rfl <| Qx rfl rfl <| Qx rfl rfl <| Qx rfl rfl <| Qa rfl <| Qa rfl <| Qa rfl <| zN <| Q9 1 rfl rfl ?_
 refine Q9 0 rfl rfl ?_
 refine Qm rfl <| zv rfl (fun w hw => c_spec_LookValue X21 X23 X26 (ok_ hw) (ok_ hw) (r1 := (by first | exact hz1.mono (by omega) | exact hz2.mono (by omega) | exact hz3.mono (by omega)))) <| Qm rfl <| Qx rfl rfl <| Qx rfl rfl <| Qx rfl rfl <| Qa rfl <| Qa rfl <| Qa rfl <| zJ <| zS <| Qm rfl <| Qm rfl <| Qd rfl rfl ?_
 refine Qm rfl <| zgq (Gd.f1 rfl rfl rfl) (fun hc => L9 3 rfl rfl) <| zgq (Gd.f1 rfl rfl rfl) (fun hc => L9 2 rfl rfl) <| zgv (Gd.f1 rfl rfl rfl) (fun hc => (opds_2 (gh hc rfl) (gh hc rfl))) (fun hc => (fun w hw => c_spec_SameMemory ((M.stoM X4 X6 X9 X10 X11).1) ((M.stoM X4 X6 X9 X10 X11).1) (ok_ hw) (ok_ hw) (r0 := (by have hc9 := hc; (try simp only [Bool.not_eq_true', Bool.not_eq_false', decide_eq_true_eq] at hc9); omega)) (r1 := (by first | exact hz1.mono (by omega) | exact hz2.mono (by omega) | exact hz3.mono (by omega))) (r2 := (by have hc9 := hc; (try simp only [Bool.not_eq_true', Bool.not_eq_false', decide_eq_true_eq] at hc9); omega)) (r3 := (by first | exact hz1.mono (by omega) | exact hz2.mono (by omega) | exact hz3.mono (by omega))))) ?_
 refine zg (Gd.f1 rfl rfl rfl) (fun hc => p_not (gh hc rfl)) <| Qq (p_pickOr rfl rfl rfl) <| Qm rfl <| zg (Gd.f1 rfl rfl rfl) (fun hc => p_move rfl) <| zg (Gd.f1 rfl rfl rfl) (fun hc => p_move rfl) <| zg (Gd.f1 rfl rfl rfl) (fun hc => p_neq (gh hc rfl) (gh hc rfl)) <| Qq (p_pickOr rfl rfl rfl) <| Qm rfl <| zg (Gd.f1 rfl rfl rfl) (fun hc => p_move rfl) <| zg (Gd.f1 rfl rfl rfl) (fun hc => p_move rfl) <| zg (Gd.f1 rfl rfl rfl) (fun hc => p_neq (gh hc rfl) (gh hc rfl)) <| Qq (p_pickOr rfl rfl rfl) <| Qm rfl <| zg (Gd.f1 rfl rfl rfl) (fun hc => p_move rfl) ?_
 refine zg (Gd.f1 rfl rfl rfl) (fun hc => p_move rfl) <| zg (Gd.f1 rfl rfl rfl) (fun hc => p_neq (gh hc rfl) (gh hc rfl)) <| Qq (p_pickOr rfl rfl rfl) <| Qm rfl <| zg (Gd.f1 rfl rfl rfl) (fun hc => p_move rfl) <| zg (Gd.f1 rfl rfl rfl) (fun hc => p_move rfl) <| zg (Gd.f1 rfl rfl rfl) (fun hc => p_neq (gh hc rfl) (gh hc rfl)) <| Qq (p_pickOr rfl rfl rfl) <| Qm rfl <| zg (Gd.f1 rfl rfl rfl) (fun hc => p_move rfl) <| zg (Gd.f1 rfl rfl rfl) (fun hc => p_move rfl) <| zg (Gd.f1 rfl rfl rfl) (fun hc => p_neq (gh hc rfl) (gh hc rfl)) <| Qq (p_pickOr rfl rfl rfl) <| JL.nil ?_
 refine zi (fun h29 h29' => ?_) fun h29 h29' => ?_
 · exact absurd h29 (by simp [M.sameM_iff])
 refine Js.skip <| Js.seq <| zS <| Qm rfl <| Qd rfl rfl <| JL.nil ?_
 refine zi (fun h30 h30' => ?_) fun h30 h30' => ?_
 ·
  refine zS <| Qa rfl <| JL.nil ?_
  refine zR (((x3.trans x14).trans x17).trans x20) ?_
  first | rfl | (rw [hE]; done) | (rw [hE]; rfl) | (rw [hE]; simp [outV]; done) | (simp [outV, hE]; done)
 have hS := M.sto_law (m := X4) (p := X6) (d := X9) (v := X10) (b := X11) (by simpa using h30)
 have hpl0 : 0 ≤ M.slotR X4 X6 := by rw [hS.pl]; exact hS.p0
 have hpl1 : M.slotR X4 X6 < X4.slots.length := by rw [hS.pl]; exact hS.p1
 have hfd : M.slo X4.slots (M.slotR X4 X6).toNat = M.fnd X4.slots X6 := by rw [hS.pl]; rfl
 have hfb := M.filM_bd X4
 have hn1 := hS.n1
 have hn2 := hS.n2
 have hlo := hS.lo
 have hhi := hS.hi
 have hox := hS.ox
 have hy31 : X4.slots[(M.slotR X4 X6).toNat]? = some (M.slo X4.slots ((M.slotR X4 X6).toNat)) := M.slo_get (by omega)
 obtain ⟨b31, o31, A31_1, c31_1, he31, hr31, h31_1, bl31_1, bh31_1⟩ := elem_Slot (Ty.mono _ h5 ((x14.vis.trans x17.vis).trans x20.vis)) hy31
 refine Js.skip <| zS <| Q9 5 rfl rfl ?_
 refine zv rfl (fun w hw => c_impl_FilledSlots X4 (ok_ hw) (r1 := (by first | exact hz1.mono (by omega) | exact hz2.mono (by omega) | exact hz3.mono (by omega)))) <| Qm rfl <| Qx rfl rfl <| Qx rfl rfl <| Qa rfl <| Qa rfl <| zN <| Q9 3 rfl rfl ?_
 refine zv rfl (fun w hw => c_impl_FilledSlots ((M.stoM X4 X6 X9 X10 X11).1) (ok_ hw) (r1 := (by first | exact hz1.mono (by omega) | exact hz2.mono (by omega) | exact hz3.mono (by omega)))) <| Qm rfl <| Qx rfl rfl <| Qx rfl rfl <| Qa rfl <| Qa rfl <| zN <| Q9 3 rfl rfl ?_
 refine Q9 4 rfl rfl ?_
 refine Qm rfl <| zv rfl (fun w hw => c_impl_LookValue ((M.stoM X4 X6 X9 X10 X11).1) X6 X9 (ok_ hw) (ok_ hw) (r1 := (by first | exact hz1.mono (by omega) | exact hz2.mono (by omega) | exact hz3.mono (by omega)))) <| Qm rfl <| Qx rfl rfl <| Qx rfl rfl <| Qx rfl rfl <| Qa rfl <| Qa rfl <| Qa rfl <| zN <| Qf fh rfl <| Q0 5 rfl rfl rfl <| Qm rfl <| Qq (p_indexAddr el_26 rfl rfl (by omega) (by omega) he31) ?_
 refine QS 0 hr31 rfl ?_
 refine za zeh fun b32 => zw 0 rfl rfl rfl ?_
 refine zJ <| zS <| Qm rfl <| Qd rfl rfl <| Qm rfl <| zg (Gd.f1 rfl rfl rfl) (fun hc => p_move rfl) <| zg (Gd.f1 rfl rfl rfl) (fun hc => p_neq (gh hc rfl) rfl) <| Qq (p_pickOr rfl rfl rfl) <| Qm rfl <| zg (Gd.f1 rfl rfl rfl) (fun hc => p_move rfl) <| zg (Gd.f1 rfl rfl rfl) (fun hc => p_move rfl) <| zg (Gd.f1 rfl rfl rfl) (fun hc => p_lss (gh hc rfl) (gh hc rfl)) <| Qq (p_pickOr rfl rfl rfl) <| Qm rfl ?_
 refine zg (Gd.f1 rfl rfl rfl) (fun hc => p_move rfl) <| zg (Gd.f1 rfl rfl rfl) (fun hc => p_move rfl) <| zg (Gd.f1 rfl rfl rfl) (fun hc => p_add (gh hc rfl) rfl (IntWalk.i64_in _ (by have hc9 := hc; (try simp only [Bool.not_eq_true', Bool.or_eq_false_iff, Bool.not_eq_false', decide_eq_true_eq, decide_eq_false_iff_not, Int.not_lt] at hc9); omega))) ?_
 refine zg (Gd.f1 rfl rfl rfl) (fun hc => p_gtr (gh hc rfl) (gh hc rfl)) <| Qq (p_pickOr rfl rfl rfl) <| Qm rfl <| zgq (Gd.f1 rfl rfl rfl) (fun hc => L9 4 rfl rfl) <| zgv (Gd.f1 rfl rfl rfl) (fun hc => (opds_1 (gh hc rfl))) (fun hc => (fun w hw => c_impl_ValidMemory ((M.stoM X4 X6 X9 X10 X11).1) (ok_ hw) (r0 := (by have hc9 := hc; (try simp only [Bool.not_eq_true', Bool.or_eq_false_iff, Bool.not_eq_false', decide_eq_true_eq, decide_eq_false_iff_not, Int.not_lt] at hc9); omega)) (r1 := (by first | exact hz1.mono (by omega) | exact hz2.mono (by omega) | exact hz3.mono (by omega))))) ?_
 refine zg (Gd.f1 rfl rfl rfl) (fun hc => p_not (gh hc rfl)) <| Qq (p_pickOr rfl rfl rfl) <| JL.nil ?_
 refine zi (fun h33 h33' => ?_) fun h33 h33' => ?_
 · have h9 := h33; simp [hn1, hn2, hox] at h9; omega
 refine Js.skip <| Js.seq <| zS <| Qf fh rfl <| Q0 0 rfl rfl rfl <| Qm rfl <| zg (Gd.t1 rfl rfl rfl) (fun hc => p_fieldAddr fld_45_3.h rfl) <| zgq (Gd.t1 rfl rfl rfl) (fun hc => q_load1 ty_2.h (gh hc rfl) (Mem.box (i := 0) rfl rfl)) <| zg (Gd.t1 rfl rfl rfl) (fun hc => p_move rfl) <| zg (Gd.t1 rfl rfl rfl) (fun hc => p_gtr (gh hc rfl) (gh hc rfl)) <| Qq (p_pickAnd rfl rfl rfl) <| JL.nil ?_
 refine zi (fun h34 h34' => ?_) fun h34 h34' => ?_
 ·
  have hq9 := h34
  rw [hfd] at hq9
  simp only [Bool.and_eq_true, decide_eq_true_eq] at hq9
  have hE : M.sameM (M.stoM X4 X6 X9 X10 X11).1 X4 = true := M.sameM_iff.2 (hS.deep hq9.1 hq9.2)
  refine zS <| Q9 4 rfl rfl ?_
  refine Q9 6 rfl rfl ?_
  refine zv rfl (fun w hw => c_spec_SameMemory ((M.stoM X4 X6 X9 X10 X11).1) X4 (ok_ hw) (ok_ hw) (r1 := (by first | exact hz1.mono (by omega) | exact hz2.mono (by omega) | exact hz3.mono (by omega))) (r3 := (by first | exact hz1.mono (by omega) | exact hz2.mono (by omega) | exact hz3.mono (by omega)))) <| Qa rfl <| JL.nil ?_
  refine zR (((x3.trans x14).trans x17).trans x20) ?_
  first | rfl | (rw [hE]; done) | (rw [hE]; rfl) | (rw [hE]; simp [outV]; done) | (simp [outV, hE]; done)
 have hq9 := h34
 rw [hfd] at hq9
 simp only [Bool.and_eq_false_iff, decide_eq_false_iff_not] at hq9
 have hE : M.lokM (M.stoM X4 X6 X9 X10 X11).1 X6 X9 = (X10, X11, 0) := hS.flat (by rintro ⟨a8, b8⟩; rcases hq9 with h8 | h8; (rw [a8] at h8; cases h8); exact h8 b8)
 refine Js.skip <| zS <| Qm rfl <| Qe rfl rfl <| Qm rfl <| zg (Gd.t1 rfl rfl rfl) (fun hc => p_move rfl) <| zg (Gd.t1 rfl rfl rfl) (fun hc => p_move rfl) <| zg (Gd.t1 rfl rfl rfl) (fun hc => p_eql (gh hc rfl) (gh hc rfl)) <| Qq (p_pickAnd rfl rfl rfl) <| Qm rfl <| zg (Gd.t1 rfl rfl rfl) (fun hc => p_move rfl) <| zg (Gd.t1 rfl rfl rfl) (fun hc => p_move rfl) <| zg (Gd.t1 rfl rfl rfl) (fun hc => p_eql (gh hc rfl) (gh hc rfl)) <| Qq (p_pickAnd rfl rfl rfl) ?_
 refine Qa rfl <| JL.nil ?_
 refine zR (((x3.trans x14).trans x17).trans x20) ?_
 first | rfl | (rw [hE]; done) | (rw [hE]; rfl) | (rw [hE]; simp [outV]; done) | (simp [outV, hE]; done)
end Go.Proofs.Ytmgnckfhghibeaa

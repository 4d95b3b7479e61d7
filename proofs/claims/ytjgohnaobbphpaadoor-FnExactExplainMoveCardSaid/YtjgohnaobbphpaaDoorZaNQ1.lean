/- The rows: whatever the input, the laws FnExactExplainMove return true, and their arguments read as they did. -/
import Derived.Test.YtjgohnaobbphpaaDoorTie
import Derived.Test.YtjgohnaobbphpaaDoorCards
import Derived.Deep.DeepHandedRow
import Derived.SevenTiedAt
import Derived.Stop.LaidErr
import Derived.Test.YtjgohnaobbphpaaDoorZaA2
import Derived.ChangeMaps5
import Derived.Test.YtjgohnaobbphpaaDoorZaA3
import Derived.Test.YtjgohnaobbphpaaDoorZaA7
import Derived.Test.YtjgohnaobbphpaaDoorRows
set_option linter.unusedSimpArgs false
set_option linter.unusedVariables false
namespace Go.Proofs.YtjgohnaobbphpaaDoor
open Go.RowKit Go.ChangeShapes Go.WideShapes Go.ChangeAt
theorem NQ1_own : ownKnob Tryd.prog.godebug = none := by kernel_rfl
theorem NQ1_laid : laidOutB Tryd.prog = true := by kernel_rfl
section
variable {H : Type} {enc : TypeId × Value → H} {w : World} {spare : Nat → Bool} {held : Bool} {fuel : Nat} {x : DataW H × List MemPlace} {cs : List Value}
theorem rd_23 (h : DataW.trod enc Tryd.prog w 0 spare held fuel 23 cs = some x) : ∃ m : M.Rul, cellsOk w (cRules m) cs := by
  obtain ⟨xs, n, _, _, hl, hx, hf⟩ := DataW.trod_struct @Tryd.underlying23 h
  have hl : cs.length = 9 := hl.trans (by kernel_rfl)
  have hx : xs.length = 9 := hx
  have k0 : DataW.trod enc Tryd.prog w 0 spare held n 2 ((cs.drop 0).take (Tryd.prog.cellsOf 2)) = xs[0]? := hf 0 _ rfl
  obtain ⟨y0, e0⟩ : ∃ y, xs[0]? = some y := ⟨_, List.getElem?_eq_getElem (by omega)⟩
  rw [e0, show Tryd.prog.cellsOf _ = 1 from (by kernel_rfl : Tryd.prog.cellsOf 2 = 1)] at k0
  obtain ⟨m0, c0⟩ := rd_int @Tryd.underlying2 k0
  have k1 : DataW.trod enc Tryd.prog w 0 spare held n 2 ((cs.drop 1).take (Tryd.prog.cellsOf 2)) = xs[1]? := hf 1 _ rfl
  obtain ⟨y1, e1⟩ : ∃ y, xs[1]? = some y := ⟨_, List.getElem?_eq_getElem (by omega)⟩
  rw [e1, show Tryd.prog.cellsOf _ = 1 from (by kernel_rfl : Tryd.prog.cellsOf 2 = 1)] at k1
  obtain ⟨m1, c1⟩ := rd_int @Tryd.underlying2 k1
  have k2 : DataW.trod enc Tryd.prog w 0 spare held n 4 ((cs.drop 2).take (Tryd.prog.cellsOf 4)) = xs[2]? := hf 2 _ rfl
  obtain ⟨y2, e2⟩ : ∃ y, xs[2]? = some y := ⟨_, List.getElem?_eq_getElem (by omega)⟩
  rw [e2, show Tryd.prog.cellsOf _ = 1 from (by kernel_rfl : Tryd.prog.cellsOf 4 = 1)] at k2
  obtain ⟨m2, c2⟩ := rd_bool @Tryd.underlying4 k2
  have k3 : DataW.trod enc Tryd.prog w 0 spare held n 4 ((cs.drop 3).take (Tryd.prog.cellsOf 4)) = xs[3]? := hf 3 _ rfl
  obtain ⟨y3, e3⟩ : ∃ y, xs[3]? = some y := ⟨_, List.getElem?_eq_getElem (by omega)⟩
  rw [e3, show Tryd.prog.cellsOf _ = 1 from (by kernel_rfl : Tryd.prog.cellsOf 4 = 1)] at k3
  obtain ⟨m3, c3⟩ := rd_bool @Tryd.underlying4 k3
  have k4 : DataW.trod enc Tryd.prog w 0 spare held n 4 ((cs.drop 4).take (Tryd.prog.cellsOf 4)) = xs[4]? := hf 4 _ rfl
  obtain ⟨y4, e4⟩ : ∃ y, xs[4]? = some y := ⟨_, List.getElem?_eq_getElem (by omega)⟩
  rw [e4, show Tryd.prog.cellsOf _ = 1 from (by kernel_rfl : Tryd.prog.cellsOf 4 = 1)] at k4
  obtain ⟨m4, c4⟩ := rd_bool @Tryd.underlying4 k4
  have k5 : DataW.trod enc Tryd.prog w 0 spare held n 4 ((cs.drop 5).take (Tryd.prog.cellsOf 4)) = xs[5]? := hf 5 _ rfl
  obtain ⟨y5, e5⟩ : ∃ y, xs[5]? = some y := ⟨_, List.getElem?_eq_getElem (by omega)⟩
  rw [e5, show Tryd.prog.cellsOf _ = 1 from (by kernel_rfl : Tryd.prog.cellsOf 4 = 1)] at k5
  obtain ⟨m5, c5⟩ := rd_bool @Tryd.underlying4 k5
  have k6 : DataW.trod enc Tryd.prog w 0 spare held n 4 ((cs.drop 6).take (Tryd.prog.cellsOf 4)) = xs[6]? := hf 6 _ rfl
  obtain ⟨y6, e6⟩ : ∃ y, xs[6]? = some y := ⟨_, List.getElem?_eq_getElem (by omega)⟩
  rw [e6, show Tryd.prog.cellsOf _ = 1 from (by kernel_rfl : Tryd.prog.cellsOf 4 = 1)] at k6
  obtain ⟨m6, c6⟩ := rd_bool @Tryd.underlying4 k6
  have k7 : DataW.trod enc Tryd.prog w 0 spare held n 2 ((cs.drop 7).take (Tryd.prog.cellsOf 2)) = xs[7]? := hf 7 _ rfl
  obtain ⟨y7, e7⟩ : ∃ y, xs[7]? = some y := ⟨_, List.getElem?_eq_getElem (by omega)⟩
  rw [e7, show Tryd.prog.cellsOf _ = 1 from (by kernel_rfl : Tryd.prog.cellsOf 2 = 1)] at k7
  obtain ⟨m7, c7⟩ := rd_int @Tryd.underlying2 k7
  have k8 : DataW.trod enc Tryd.prog w 0 spare held n 2 ((cs.drop 8).take (Tryd.prog.cellsOf 2)) = xs[8]? := hf 8 _ rfl
  obtain ⟨y8, e8⟩ : ∃ y, xs[8]? = some y := ⟨_, List.getElem?_eq_getElem (by omega)⟩
  rw [e8, show Tryd.prog.cellsOf _ = 1 from (by kernel_rfl : Tryd.prog.cellsOf 2 = 1)] at k8
  obtain ⟨m8, c8⟩ := rd_int @Tryd.underlying2 k8
  exact ⟨⟨m0, m1, m2, m3, m4, m5, m6, m7, m8⟩, rd_cat 0 1 c0 (rd_cat 1 1 c1 (rd_cat 2 1 c2 (rd_cat 3 1 c3 (rd_cat 4 1 c4 (rd_cat 5 1 c5 (rd_cat 6 1 c6 (rd_cat 7 1 c7 (rd_cat 8 1 c8 (rd_end hl)))))))))⟩
theorem rd_26 (h : DataW.trod enc Tryd.prog w 0 spare held fuel 26 cs = some x) : ∃ m : M.Pos, cellsOk w (cPosition m) cs := by
  obtain ⟨xs, n, _, _, hl, hx, hf⟩ := DataW.trod_struct @Tryd.underlying26 h
  have hl : cs.length = 3 := hl.trans (by kernel_rfl)
  have hx : xs.length = 3 := hx
  have k0 : DataW.trod enc Tryd.prog w 0 spare held n 24 ((cs.drop 0).take (Tryd.prog.cellsOf 24)) = xs[0]? := hf 0 _ rfl
  obtain ⟨y0, e0⟩ : ∃ y, xs[0]? = some y := ⟨_, List.getElem?_eq_getElem (by omega)⟩
  rw [e0, show Tryd.prog.cellsOf _ = 1 from (by kernel_rfl : Tryd.prog.cellsOf 24 = 1)] at k0
  obtain ⟨m0, c0⟩ := rd_ints (P := Tryd.prog) @Tryd.underlying24 @Tryd.underlying2 (by kernel_rfl) k0
  have k1 : DataW.trod enc Tryd.prog w 0 spare held n 24 ((cs.drop 1).take (Tryd.prog.cellsOf 24)) = xs[1]? := hf 1 _ rfl
  obtain ⟨y1, e1⟩ : ∃ y, xs[1]? = some y := ⟨_, List.getElem?_eq_getElem (by omega)⟩
  rw [e1, show Tryd.prog.cellsOf _ = 1 from (by kernel_rfl : Tryd.prog.cellsOf 24 = 1)] at k1
  obtain ⟨m1, c1⟩ := rd_ints (P := Tryd.prog) @Tryd.underlying24 @Tryd.underlying2 (by kernel_rfl) k1
  have k2 : DataW.trod enc Tryd.prog w 0 spare held n 2 ((cs.drop 2).take (Tryd.prog.cellsOf 2)) = xs[2]? := hf 2 _ rfl
  obtain ⟨y2, e2⟩ : ∃ y, xs[2]? = some y := ⟨_, List.getElem?_eq_getElem (by omega)⟩
  rw [e2, show Tryd.prog.cellsOf _ = 1 from (by kernel_rfl : Tryd.prog.cellsOf 2 = 1)] at k2
  obtain ⟨m2, c2⟩ := rd_int @Tryd.underlying2 k2
  exact ⟨⟨m0, m1, m2⟩, rd_cat 0 1 c0 (rd_cat 1 1 c1 (rd_cat 2 1 c2 (rd_end hl)))⟩
end
def NQ1_c1 : Array Value := #[.int .u8 0, .int .u8 1, .int .u8 28, .int .u8 2, .int .u8 29, .int .u8 14, .int .u8 24, .int .u8 3, .int .u8 30, .int .u8 22, .int .u8 20, .int .u8 15, .int .u8 25, .int .u8 17, .int .u8 4, .int .u8 8, .int .u8 31, .int .u8 27, .int .u8 13, .int .u8 23, .int .u8 21, .int .u8 19, .int .u8 16, .int .u8 7, .int .u8 26, .int .u8 12, .int .u8 18, .int .u8 6, .int .u8 11, .int .u8 5, .int .u8 10, .int .u8 9]
def NQ1_c2 : Array Value := #[.int .u8 0, .int .u8 1, .int .u8 56, .int .u8 2, .int .u8 57, .int .u8 49, .int .u8 28, .int .u8 3, .int .u8 61, .int .u8 58, .int .u8 42, .int .u8 50, .int .u8 38, .int .u8 29, .int .u8 17, .int .u8 4, .int .u8 62, .int .u8 47, .int .u8 59, .int .u8 36, .int .u8 45, .int .u8 43, .int .u8 51, .int .u8 22, .int .u8 53, .int .u8 39, .int .u8 33, .int .u8 30, .int .u8 24, .int .u8 18, .int .u8 12, .int .u8 5, .int .u8 63, .int .u8 55, .int .u8 48, .int .u8 27, .int .u8 60, .int .u8 41, .int .u8 37, .int .u8 16, .int .u8 46, .int .u8 35, .int .u8 44, .int .u8 21, .int .u8 52, .int .u8 32, .int .u8 23, .int .u8 11, .int .u8 54, .int .u8 26, .int .u8 40, .int .u8 15, .int .u8 34, .int .u8 20, .int .u8 31, .int .u8 10, .int .u8 25, .int .u8 14, .int .u8 19, .int .u8 9, .int .u8 13, .int .u8 8, .int .u8 7, .int .u8 6]
def NQ1_c0 : Array Value := #[.int .u64 1, .int .u64 10, .int .u64 100, .int .u64 1000, .int .u64 10000, .int .u64 100000, .int .u64 1000000, .int .u64 10000000, .int .u64 100000000, .int .u64 1000000000, .int .u64 10000000000, .int .u64 100000000000, .int .u64 1000000000000, .int .u64 10000000000000, .int .u64 100000000000000, .int .u64 1000000000000000, .int .u64 10000000000000000, .int .u64 100000000000000000, .int .u64 1000000000000000000, .int .u64 10000000000000000000]
def NQ1_put (cs : Array Value) : Obj → Obj
  | .cells _ t z => .cells cs t z
  | o => o
noncomputable def NQ1_laidWorld (os : Os) : World := { World.holding Tryd.prog os ⟨#[], #[], []⟩ with heap := ((((World.holding Tryd.prog os ⟨#[], #[], []⟩).heap).modify 1 (NQ1_put NQ1_c1)).modify 2 (NQ1_put NQ1_c2)).modify 0 (NQ1_put NQ1_c0) }
theorem NQ1_tab {W : World} (hL : laidMet Tryd.prog Rows.fnExactExplainMoveRow.laid W) : tabT.ok W undef :=
  Lib.tabIs_of_head (name := tabN) (k := .u64) (zs := Lib.pow10Tab) (g := 0) (by kernel_rfl) (by kernel_rfl : (Tryd.prog.globals[0]?).map (·.type) = some 125) Tryd.underlying125 Tryd.underlying118 (by kernel_rfl) (by kernel_rfl) hL.tail.tail
set_option maxRecDepth 100000 in
theorem fnExactExplainMove_met (os : Os) : laidMet Tryd.prog Rows.fnExactExplainMoveRow.laid ((NQ1_laidWorld os).forCall (fun _ _ => 0) ⟨#[], #[.agg #[.int .i64 0, .int .i64 0, .bool false, .bool false, .bool false, .bool false, .bool false, .int .i64 0, .int .i64 0], .agg #[.slice none 0 0, .slice none 0 0, .int .i64 0], .int .i64 0], []⟩).memory :=
  laidMet_of_run' 80 (by kernel_rfl) (by kernel_rfl)
set_option maxRecDepth 100000 in
theorem fnExactExplainMove_wrow (os : Os) {H : Type} (enc : TypeId × Value → H) :
    (OpenSpec.ofChange Rows.fnExactExplainMoveSpec).preRow enc Tryd.prog Tryd.f3 Rows.fnExactExplainMoveRow.domain false Rows.fnExactExplainMoveRow.laid ((NQ1_laidWorld os).forCall (fun _ _ => 0) ⟨#[], #[.agg #[.int .i64 0, .int .i64 0, .bool false, .bool false, .bool false, .bool false, .bool false, .int .i64 0, .int .i64 0], .agg #[.slice none 0 0, .slice none 0 0, .int .i64 0], .int .i64 0], []⟩).memory #[.agg #[.int .i64 0, .int .i64 0, .bool false, .bool false, .bool false, .bool false, .bool false, .int .i64 0, .int .i64 0], .agg #[.slice none 0 0, .slice none 0 0, .int .i64 0], .int .i64 0] := by
  have hw : ∃ x, DataW.whole enc Tryd.prog ((NQ1_laidWorld os).forCall (fun _ _ => 0) ⟨#[], #[.agg #[.int .i64 0, .int .i64 0, .bool false, .bool false, .bool false, .bool false, .bool false, .int .i64 0, .int .i64 0], .agg #[.slice none 0 0, .slice none 0 0, .int .i64 0], .int .i64 0], []⟩).memory Tryd.f3.params.toList (OpenSpec.ofChange Rows.fnExactExplainMoveSpec).vars false (#[.agg #[.int .i64 0, .int .i64 0, .bool false, .bool false, .bool false, .bool false, .bool false, .int .i64 0, .int .i64 0], .agg #[.slice none 0 0, .slice none 0 0, .int .i64 0], .int .i64 0] : Array Value).toList 12 = some x :=
    Option.isSome_iff_exists.1 (by kernel_rfl)
  obtain ⟨x, hx⟩ := hw
  exact OpenSpec.preRow_of_cond 12 hx rfl (fun k hk => by cases hk) (by kernel_rfl) (fnExactExplainMove_met os)
set_option maxRecDepth 100000 in
theorem fnExactExplainMove_lifted (os : Os) (started : os.Started) (H : Type) (enc : TypeId × Value → H) (F : Stop.Interp) :
    ReturnsInHanded {} Tryd.checked os 3 .any ((OpenSpec.ofChange Rows.fnExactExplainMoveSpec).preRow enc Tryd.prog Tryd.f3 Rows.fnExactExplainMoveRow.domain false Rows.fnExactExplainMoveRow.laid) (((OpenSpec.ofChange Rows.fnExactExplainMoveSpec).at F).post enc Tryd.prog Tryd.f3 false true false false) := by
  refine returnsInHanded_of_row (C := Tryd.checked) (s := OpenSpec.ofChange Rows.fnExactExplainMoveSpec) NQ1_own started (by kernel_rfl) Tryd.func3
    (witness_row_at (enc := enc) (C := Tryd.checked) false (NQ1_laidWorld os) #[.agg #[.int .i64 0, .int .i64 0, .bool false, .bool false, .bool false, .bool false, .bool false, .int .i64 0, .int .i64 0], .agg #[.slice none 0 0, .slice none 0 0, .int .i64 0], .int .i64 0] rfl (by kernel_rfl) (by kernel_rfl) (by kernel_rfl) (fnExactExplainMove_wrow os enc)) ?_
  intro W base args ds gs before hval0 hW _ _ _ hL _ _
  have h_tab : tabT.ok W undef := NQ1_tab hL
  have hW' := hW
  obtain ⟨p, q, hA0, hV, rfl, _, _⟩ := hW
  have hA : DataW.TrodAll enc Tryd.prog W 0 (fun _ => true) true [23, 26, 2] args.toList ds p := hA0
  have hval : ∀ (j : Nat) t v, (#[23, 26, 2] : Array TypeId)[j]? = some t → args[j]? = some v → Value.okWide Tryd.prog W .any base t v := hval0
  obtain ⟨v0, v1, v2, d0, d1, d2, p0, p1, p2, rfl, rfl, rfl, h0, h1, h2⟩ := trodAll_three hA
  obtain ⟨rfl, rfl⟩ := trodVars_none hV
  simp only [List.append_nil] at hW'
  have hlt : ∀ x ∈ p0 ++ p1 ++ p2, x.block < W.heap.size := fun x hx => by simpa using hW'.lt x (by simpa using hx)
  have hargs0 : ∀ (W' : World), Below W.heap.size W W' → DataW.Trod enc Tryd.prog W' 0 (fun b => decide (b < W.heap.size)) true 23 v0 d0 p0 := fun W' hn => Below.trod NQ1_laid (by kernel_rfl) (of_decide_eq_true (by kernel_rfl)) h0 hn (fun x hx => hlt x (by simp [hx]))
  obtain ⟨cs0, rfl, _⟩ := okWide_struct @Tryd.underlying23 (hval 0 23 v0 rfl rfl)
  obtain ⟨f0, hf0⟩ := h0
  obtain ⟨m0, hm0⟩ := rd_23 hf0
  have hargs1 : ∀ (W' : World), Below W.heap.size W W' → DataW.Trod enc Tryd.prog W' 0 (fun b => decide (b < W.heap.size)) true 26 v1 d1 p1 := fun W' hn => Below.trod NQ1_laid (by kernel_rfl) (of_decide_eq_true (by kernel_rfl)) h1 hn (fun x hx => hlt x (by simp [hx]))
  obtain ⟨cs1, rfl, _⟩ := okWide_struct @Tryd.underlying26 (hval 1 26 v1 rfl rfl)
  obtain ⟨f1, hf1⟩ := h1
  obtain ⟨m1, hm1⟩ := rd_26 hf1
  have hargs2 : ∀ (W' : World), Below W.heap.size W W' → DataW.Trod enc Tryd.prog W' 0 (fun b => decide (b < W.heap.size)) true 2 v2 d2 p2 := fun W' hn => Below.trod NQ1_laid (by kernel_rfl) (of_decide_eq_true (by kernel_rfl)) h2 hn (fun x hx => hlt x (by simp [hx]))
  obtain ⟨m2, rfl, rfl, rfl, wm2⟩ := open_int @Tryd.underlying2 (hval 2 2 v2 rfl rfl) h2
  refine (c_laws_FnExactExplainMove m0 m1 m2 ⟨cs0.toList, rfl, hm0⟩ ⟨cs1.toList, rfl, hm1⟩ h_tab).mono fun e W' ⟨he, hx⟩ => ?_
  exact ⟨_, he, _, _, _, [], _, [], hW', trodAll_mk1 (shut_bool @Tryd.underlying4 true), trodAll_mk3 (hargs0 W' hx) (hargs1 W' hx) (hargs2 W' hx), rfl, Below.frame hx _, fun h => by cases h⟩
theorem fnExactExplainMove_f1 : Tryd.prog.funcNamed Rows.fnExactExplainMoveRow.func = some 3 := by kernel_rfl
theorem fnExactExplainMove_f2 : Tryd.f3.isInstance Tryd.prog Rows.fnExactExplainMoveRow.origin Rows.fnExactExplainMoveRow.targs := of_decide_eq_true (by kernel_rfl)
theorem fnExactExplainMove_f3 : Tryd.f3.isWrapper Tryd.prog Rows.fnExactExplainMoveRow.wrapper Rows.fnExactExplainMoveRow.mainSum := by unfold Func.isWrapper; first | (rw [if_pos (by decide +kernel)]; kernel_rfl) | (rw [if_neg (by decide +kernel)]; exact ⟨rfl, rfl⟩)
theorem fnExactExplainMove_f4 : joinedFacts Tryd.prog 3 Tryd.f3 Rows.fnExactExplainMoveSpec Rows.fnExactExplainMoveRow = true := by kernel_rfl
set_option maxRecDepth 100000 in
theorem fnExactExplainMove_row_holds : Rows.FnExactExplainMoveSaid :=
  OpenClaim.holds_of_cond 3 Tryd.f3 rfl rfl rfl rfl rfl rfl rfl ⟨rfl, rfl, rfl, rfl, rfl⟩ rfl rfl rfl rfl rfl fnExactExplainMove_f1 Tryd.func3 fnExactExplainMove_f4 fnExactExplainMove_f2 fnExactExplainMove_f3
    (fun os started H enc _ F0 => by rw [OpenClaim.pre_eq_preRow]; exact fnExactExplainMove_lifted os started H enc F0)
set_option maxRecDepth 100000 in
theorem fnExactExplainMoveCard_holds : Rows.FnExactExplainMoveCardSaid :=
  Claim7.holds_tied_plain_at .later [] [.data, .data, .data] true (true, "afecae2bc0b8151d6eb81e6bef34e0d23982ea7b26c8ee9dcd269d7cdac3abe8") false
    fnExactExplainMove_row_holds (fun _ h => by cases h) (by kernel_rfl) (fun _ h => by cases h) fnExactExplainMove_row_tie rfl ⟨rfl, rfl⟩ (by kernel_rfl) rfl
    (fun f fn hf hfn => by
      obtain rfl : f = 3 := Option.some.inj (hf.symm.trans fnExactExplainMove_f1)
      obtain rfl : fn = Tryd.f3 := (Option.some.inj (Tryd.func3.symm.trans hfn)).symm
      exact ⟨by kernel_rfl, fun j t ht => by
        have hm : t ∈ [23, 26, 2] := by
          have := Array.mem_of_getElem? ht
          rw [show Tryd.f3.params = #[23, 26, 2] from rfl] at this; simpa using this
        exact (show ∀ t ∈ [23, 26, 2], Tryd.prog.wantsStandIn t = false from by decide +kernel) t hm⟩)
    (by kernel_rfl)
end Go.Proofs.YtjgohnaobbphpaaDoor

/- The rows: whatever the input, the laws FnExactBookText return true, and their arguments read as they did. -/
import Derived.Test.YtjklnidbndopiaaGreatDoorTie
import Derived.Test.YtjklnidbndopiaaGreatDoorCards
import Derived.Deep.DeepHandedRow
import Derived.SevenTiedAt
import Derived.Stop.LaidErr
import Derived.Test.YtjklnidbndopiaaGreatDoorZaA2
import Derived.ChangeMaps5
import Derived.Test.YtjklnidbndopiaaGreatDoorZaA3
import Derived.Test.YtjklnidbndopiaaGreatDoorZaA6
import Derived.Test.YtjklnidbndopiaaGreatDoorRows
set_option linter.unusedSimpArgs false
set_option linter.unusedVariables false
namespace Go.Proofs.YtjklnidbndopiaaGreatDoor
open Go.RowKit Go.ChangeShapes Go.WideShapes Go.ChangeAt
theorem NQ1_own : ownKnob Tryz.prog.godebug = none := by kernel_rfl
theorem NQ1_laid : laidOutB Tryz.prog = true := by kernel_rfl
section
variable {H : Type} {enc : TypeId × Value → H} {w : World} {spare : Nat → Bool} {held : Bool} {fuel : Nat} {x : DataW H × List MemPlace} {cs : List Value}
theorem rd_23 (h : DataW.trod enc Tryz.prog w 0 spare held fuel 23 cs = some x) : ∃ m : M.Rul, cellsOk w (cRules m) cs := by
  obtain ⟨xs, n, _, _, hl, hx, hf⟩ := DataW.trod_struct @Tryz.underlying23 h
  have hl : cs.length = 9 := hl.trans (by kernel_rfl)
  have hx : xs.length = 9 := hx
  have k0 : DataW.trod enc Tryz.prog w 0 spare held n 2 ((cs.drop 0).take (Tryz.prog.cellsOf 2)) = xs[0]? := hf 0 _ rfl
  obtain ⟨y0, e0⟩ : ∃ y, xs[0]? = some y := ⟨_, List.getElem?_eq_getElem (by omega)⟩
  rw [e0, show Tryz.prog.cellsOf _ = 1 from (by kernel_rfl : Tryz.prog.cellsOf 2 = 1)] at k0
  obtain ⟨m0, c0⟩ := rd_int @Tryz.underlying2 k0
  have k1 : DataW.trod enc Tryz.prog w 0 spare held n 2 ((cs.drop 1).take (Tryz.prog.cellsOf 2)) = xs[1]? := hf 1 _ rfl
  obtain ⟨y1, e1⟩ : ∃ y, xs[1]? = some y := ⟨_, List.getElem?_eq_getElem (by omega)⟩
  rw [e1, show Tryz.prog.cellsOf _ = 1 from (by kernel_rfl : Tryz.prog.cellsOf 2 = 1)] at k1
  obtain ⟨m1, c1⟩ := rd_int @Tryz.underlying2 k1
  have k2 : DataW.trod enc Tryz.prog w 0 spare held n 4 ((cs.drop 2).take (Tryz.prog.cellsOf 4)) = xs[2]? := hf 2 _ rfl
  obtain ⟨y2, e2⟩ : ∃ y, xs[2]? = some y := ⟨_, List.getElem?_eq_getElem (by omega)⟩
  rw [e2, show Tryz.prog.cellsOf _ = 1 from (by kernel_rfl : Tryz.prog.cellsOf 4 = 1)] at k2
  obtain ⟨m2, c2⟩ := rd_bool @Tryz.underlying4 k2
  have k3 : DataW.trod enc Tryz.prog w 0 spare held n 4 ((cs.drop 3).take (Tryz.prog.cellsOf 4)) = xs[3]? := hf 3 _ rfl
  obtain ⟨y3, e3⟩ : ∃ y, xs[3]? = some y := ⟨_, List.getElem?_eq_getElem (by omega)⟩
  rw [e3, show Tryz.prog.cellsOf _ = 1 from (by kernel_rfl : Tryz.prog.cellsOf 4 = 1)] at k3
  obtain ⟨m3, c3⟩ := rd_bool @Tryz.underlying4 k3
  have k4 : DataW.trod enc Tryz.prog w 0 spare held n 4 ((cs.drop 4).take (Tryz.prog.cellsOf 4)) = xs[4]? := hf 4 _ rfl
  obtain ⟨y4, e4⟩ : ∃ y, xs[4]? = some y := ⟨_, List.getElem?_eq_getElem (by omega)⟩
  rw [e4, show Tryz.prog.cellsOf _ = 1 from (by kernel_rfl : Tryz.prog.cellsOf 4 = 1)] at k4
  obtain ⟨m4, c4⟩ := rd_bool @Tryz.underlying4 k4
  have k5 : DataW.trod enc Tryz.prog w 0 spare held n 4 ((cs.drop 5).take (Tryz.prog.cellsOf 4)) = xs[5]? := hf 5 _ rfl
  obtain ⟨y5, e5⟩ : ∃ y, xs[5]? = some y := ⟨_, List.getElem?_eq_getElem (by omega)⟩
  rw [e5, show Tryz.prog.cellsOf _ = 1 from (by kernel_rfl : Tryz.prog.cellsOf 4 = 1)] at k5
  obtain ⟨m5, c5⟩ := rd_bool @Tryz.underlying4 k5
  have k6 : DataW.trod enc Tryz.prog w 0 spare held n 4 ((cs.drop 6).take (Tryz.prog.cellsOf 4)) = xs[6]? := hf 6 _ rfl
  obtain ⟨y6, e6⟩ : ∃ y, xs[6]? = some y := ⟨_, List.getElem?_eq_getElem (by omega)⟩
  rw [e6, show Tryz.prog.cellsOf _ = 1 from (by kernel_rfl : Tryz.prog.cellsOf 4 = 1)] at k6
  obtain ⟨m6, c6⟩ := rd_bool @Tryz.underlying4 k6
  have k7 : DataW.trod enc Tryz.prog w 0 spare held n 2 ((cs.drop 7).take (Tryz.prog.cellsOf 2)) = xs[7]? := hf 7 _ rfl
  obtain ⟨y7, e7⟩ : ∃ y, xs[7]? = some y := ⟨_, List.getElem?_eq_getElem (by omega)⟩
  rw [e7, show Tryz.prog.cellsOf _ = 1 from (by kernel_rfl : Tryz.prog.cellsOf 2 = 1)] at k7
  obtain ⟨m7, c7⟩ := rd_int @Tryz.underlying2 k7
  have k8 : DataW.trod enc Tryz.prog w 0 spare held n 2 ((cs.drop 8).take (Tryz.prog.cellsOf 2)) = xs[8]? := hf 8 _ rfl
  obtain ⟨y8, e8⟩ : ∃ y, xs[8]? = some y := ⟨_, List.getElem?_eq_getElem (by omega)⟩
  rw [e8, show Tryz.prog.cellsOf _ = 1 from (by kernel_rfl : Tryz.prog.cellsOf 2 = 1)] at k8
  obtain ⟨m8, c8⟩ := rd_int @Tryz.underlying2 k8
  exact ⟨⟨m0, m1, m2, m3, m4, m5, m6, m7, m8⟩, rd_cat 0 1 c0 (rd_cat 1 1 c1 (rd_cat 2 1 c2 (rd_cat 3 1 c3 (rd_cat 4 1 c4 (rd_cat 5 1 c5 (rd_cat 6 1 c6 (rd_cat 7 1 c7 (rd_cat 8 1 c8 (rd_end hl)))))))))⟩
theorem rd_218 (h : DataW.trod enc Tryz.prog w 0 spare held fuel 218 cs = some x) : ∃ m : M.Cho, cellsOk w (cChoice m) cs := by
  obtain ⟨xs, n, _, _, hl, hx, hf⟩ := DataW.trod_struct @Tryz.underlying218 h
  have hl : cs.length = 3 := hl.trans (by kernel_rfl)
  have hx : xs.length = 3 := hx
  have k0 : DataW.trod enc Tryz.prog w 0 spare held n 2 ((cs.drop 0).take (Tryz.prog.cellsOf 2)) = xs[0]? := hf 0 _ rfl
  obtain ⟨y0, e0⟩ : ∃ y, xs[0]? = some y := ⟨_, List.getElem?_eq_getElem (by omega)⟩
  rw [e0, show Tryz.prog.cellsOf _ = 1 from (by kernel_rfl : Tryz.prog.cellsOf 2 = 1)] at k0
  obtain ⟨m0, c0⟩ := rd_int @Tryz.underlying2 k0
  have k1 : DataW.trod enc Tryz.prog w 0 spare held n 2 ((cs.drop 1).take (Tryz.prog.cellsOf 2)) = xs[1]? := hf 1 _ rfl
  obtain ⟨y1, e1⟩ : ∃ y, xs[1]? = some y := ⟨_, List.getElem?_eq_getElem (by omega)⟩
  rw [e1, show Tryz.prog.cellsOf _ = 1 from (by kernel_rfl : Tryz.prog.cellsOf 2 = 1)] at k1
  obtain ⟨m1, c1⟩ := rd_int @Tryz.underlying2 k1
  have k2 : DataW.trod enc Tryz.prog w 0 spare held n 2 ((cs.drop 2).take (Tryz.prog.cellsOf 2)) = xs[2]? := hf 2 _ rfl
  obtain ⟨y2, e2⟩ : ∃ y, xs[2]? = some y := ⟨_, List.getElem?_eq_getElem (by omega)⟩
  rw [e2, show Tryz.prog.cellsOf _ = 1 from (by kernel_rfl : Tryz.prog.cellsOf 2 = 1)] at k2
  obtain ⟨m2, c2⟩ := rd_int @Tryz.underlying2 k2
  exact ⟨⟨m0, m1, m2⟩, rd_cat 0 1 c0 (rd_cat 1 1 c1 (rd_cat 2 1 c2 (rd_end hl)))⟩
theorem rd_121 (h : DataW.trod enc Tryz.prog w 0 spare held fuel 121 cs = some x) : ∃ m : M.Ent, cellsOk w (cBookEntry m) cs := by
  obtain ⟨xs, n, _, _, hl, hx, hf⟩ := DataW.trod_struct @Tryz.underlying121 h
  have hl : cs.length = 2 := hl.trans (by kernel_rfl)
  have hx : xs.length = 2 := hx
  have k0 : DataW.trod enc Tryz.prog w 0 spare held n 42 ((cs.drop 0).take (Tryz.prog.cellsOf 42)) = xs[0]? := hf 0 _ rfl
  obtain ⟨y0, e0⟩ : ∃ y, xs[0]? = some y := ⟨_, List.getElem?_eq_getElem (by omega)⟩
  rw [e0, show Tryz.prog.cellsOf _ = 1 from (by kernel_rfl : Tryz.prog.cellsOf 42 = 1)] at k0
  obtain ⟨m0, c0⟩ := rd_ints (P := Tryz.prog) @Tryz.underlying42 @Tryz.underlying2 (by kernel_rfl) k0
  have k1 : DataW.trod enc Tryz.prog w 0 spare held n 119 ((cs.drop 1).take (Tryz.prog.cellsOf 119)) = xs[1]? := hf 1 _ rfl
  obtain ⟨y1, e1⟩ : ∃ y, xs[1]? = some y := ⟨_, List.getElem?_eq_getElem (by omega)⟩
  rw [e1, show Tryz.prog.cellsOf _ = 1 from (by kernel_rfl : Tryz.prog.cellsOf 119 = 1)] at k1
  obtain ⟨m1, c1⟩ := rd_sl (P := Tryz.prog) (sz := 3) cChoice @Tryz.underlying119 (by kernel_rfl) (by decide) (fun _ => rfl) (fun h => rd_218 h) k1
  exact ⟨⟨m0, m1⟩, rd_cat 0 1 c0 (rd_cat 1 1 c1 (rd_end hl))⟩
theorem rd_26 (h : DataW.trod enc Tryz.prog w 0 spare held fuel 26 cs = some x) : ∃ m : M.Boo, cellsOk w (cBook m) cs := by
  obtain ⟨xs, n, _, _, hl, hx, hf⟩ := DataW.trod_struct @Tryz.underlying26 h
  have hl : cs.length = 10 := hl.trans (by kernel_rfl)
  have hx : xs.length = 2 := hx
  have k0 : DataW.trod enc Tryz.prog w 0 spare held n 23 ((cs.drop 0).take (Tryz.prog.cellsOf 23)) = xs[0]? := hf 0 _ rfl
  obtain ⟨y0, e0⟩ : ∃ y, xs[0]? = some y := ⟨_, List.getElem?_eq_getElem (by omega)⟩
  rw [e0, show Tryz.prog.cellsOf _ = 9 from (by kernel_rfl : Tryz.prog.cellsOf 23 = 9)] at k0
  obtain ⟨m0, c0⟩ := rd_23 k0
  have k1 : DataW.trod enc Tryz.prog w 0 spare held n 24 ((cs.drop 9).take (Tryz.prog.cellsOf 24)) = xs[1]? := hf 1 _ rfl
  obtain ⟨y1, e1⟩ : ∃ y, xs[1]? = some y := ⟨_, List.getElem?_eq_getElem (by omega)⟩
  rw [e1, show Tryz.prog.cellsOf _ = 1 from (by kernel_rfl : Tryz.prog.cellsOf 24 = 1)] at k1
  obtain ⟨m1, c1⟩ := rd_sl (P := Tryz.prog) (sz := 2) cBookEntry @Tryz.underlying24 (by kernel_rfl) (by decide) (fun _ => rfl) (fun h => rd_121 h) k1
  exact ⟨⟨m0, m1⟩, rd_cat 0 9 c0 (rd_cat 9 1 c1 (rd_end hl))⟩
end
def NQ1_c1 : Array Value := #[.int .u8 0, .int .u8 1, .int .u8 28, .int .u8 2, .int .u8 29, .int .u8 14, .int .u8 24, .int .u8 3, .int .u8 30, .int .u8 22, .int .u8 20, .int .u8 15, .int .u8 25, .int .u8 17, .int .u8 4, .int .u8 8, .int .u8 31, .int .u8 27, .int .u8 13, .int .u8 23, .int .u8 21, .int .u8 19, .int .u8 16, .int .u8 7, .int .u8 26, .int .u8 12, .int .u8 18, .int .u8 6, .int .u8 11, .int .u8 5, .int .u8 10, .int .u8 9]
def NQ1_c2 : Array Value := #[.int .u8 0, .int .u8 1, .int .u8 56, .int .u8 2, .int .u8 57, .int .u8 49, .int .u8 28, .int .u8 3, .int .u8 61, .int .u8 58, .int .u8 42, .int .u8 50, .int .u8 38, .int .u8 29, .int .u8 17, .int .u8 4, .int .u8 62, .int .u8 47, .int .u8 59, .int .u8 36, .int .u8 45, .int .u8 43, .int .u8 51, .int .u8 22, .int .u8 53, .int .u8 39, .int .u8 33, .int .u8 30, .int .u8 24, .int .u8 18, .int .u8 12, .int .u8 5, .int .u8 63, .int .u8 55, .int .u8 48, .int .u8 27, .int .u8 60, .int .u8 41, .int .u8 37, .int .u8 16, .int .u8 46, .int .u8 35, .int .u8 44, .int .u8 21, .int .u8 52, .int .u8 32, .int .u8 23, .int .u8 11, .int .u8 54, .int .u8 26, .int .u8 40, .int .u8 15, .int .u8 34, .int .u8 20, .int .u8 31, .int .u8 10, .int .u8 25, .int .u8 14, .int .u8 19, .int .u8 9, .int .u8 13, .int .u8 8, .int .u8 7, .int .u8 6]
def NQ1_c0 : Array Value := #[.int .u64 1, .int .u64 10, .int .u64 100, .int .u64 1000, .int .u64 10000, .int .u64 100000, .int .u64 1000000, .int .u64 10000000, .int .u64 100000000, .int .u64 1000000000, .int .u64 10000000000, .int .u64 100000000000, .int .u64 1000000000000, .int .u64 10000000000000, .int .u64 100000000000000, .int .u64 1000000000000000, .int .u64 10000000000000000, .int .u64 100000000000000000, .int .u64 1000000000000000000, .int .u64 10000000000000000000]
def NQ1_put (cs : Array Value) : Obj → Obj
  | .cells _ t z => .cells cs t z
  | o => o
noncomputable def NQ1_laidWorld (os : Os) : World := { World.holding Tryz.prog os ⟨#[], #[], []⟩ with heap := ((((World.holding Tryz.prog os ⟨#[], #[], []⟩).heap).modify 1 (NQ1_put NQ1_c1)).modify 2 (NQ1_put NQ1_c2)).modify 0 (NQ1_put NQ1_c0) }
theorem NQ1_tab {W : World} (hL : laidMet Tryz.prog Rows.fnExactBookTextRow.laid W) : tabT.ok W undef :=
  Lib.tabIs_of_head (name := tabN) (k := .u64) (zs := Lib.pow10Tab) (g := 0) (by kernel_rfl) (by kernel_rfl : (Tryz.prog.globals[0]?).map (·.type) = some 242) Tryz.underlying242 Tryz.underlying142 (by kernel_rfl) (by kernel_rfl) hL.tail.tail
set_option maxRecDepth 100000 in
theorem fnExactBookText_met (os : Os) : laidMet Tryz.prog Rows.fnExactBookTextRow.laid ((NQ1_laidWorld os).forCall (fun _ _ => 0) ⟨#[], #[.agg #[.int .i64 0, .int .i64 0, .bool false, .bool false, .bool false, .bool false, .bool false, .int .i64 0, .int .i64 0, .slice none 0 0]], []⟩).memory :=
  laidMet_of_run' 80 (by kernel_rfl) (by kernel_rfl)
set_option maxRecDepth 100000 in
theorem fnExactBookText_wrow (os : Os) {H : Type} (enc : TypeId × Value → H) :
    (OpenSpec.ofChange Rows.fnExactBookTextSpec).preRow enc Tryz.prog Tryz.f3 Rows.fnExactBookTextRow.domain false Rows.fnExactBookTextRow.laid ((NQ1_laidWorld os).forCall (fun _ _ => 0) ⟨#[], #[.agg #[.int .i64 0, .int .i64 0, .bool false, .bool false, .bool false, .bool false, .bool false, .int .i64 0, .int .i64 0, .slice none 0 0]], []⟩).memory #[.agg #[.int .i64 0, .int .i64 0, .bool false, .bool false, .bool false, .bool false, .bool false, .int .i64 0, .int .i64 0, .slice none 0 0]] := by
  have hw : ∃ x, DataW.whole enc Tryz.prog ((NQ1_laidWorld os).forCall (fun _ _ => 0) ⟨#[], #[.agg #[.int .i64 0, .int .i64 0, .bool false, .bool false, .bool false, .bool false, .bool false, .int .i64 0, .int .i64 0, .slice none 0 0]], []⟩).memory Tryz.f3.params.toList (OpenSpec.ofChange Rows.fnExactBookTextSpec).vars false (#[.agg #[.int .i64 0, .int .i64 0, .bool false, .bool false, .bool false, .bool false, .bool false, .int .i64 0, .int .i64 0, .slice none 0 0]] : Array Value).toList 12 = some x :=
    Option.isSome_iff_exists.1 (by kernel_rfl)
  obtain ⟨x, hx⟩ := hw
  exact OpenSpec.preRow_of_cond 12 hx rfl (fun k hk => by cases hk) (by kernel_rfl) (fnExactBookText_met os)
set_option maxRecDepth 100000 in
theorem fnExactBookText_lifted (os : Os) (started : os.Started) (H : Type) (enc : TypeId × Value → H) (F : Stop.Interp) :
    ReturnsInHanded {} Tryz.checked os 3 .any ((OpenSpec.ofChange Rows.fnExactBookTextSpec).preRow enc Tryz.prog Tryz.f3 Rows.fnExactBookTextRow.domain false Rows.fnExactBookTextRow.laid) (((OpenSpec.ofChange Rows.fnExactBookTextSpec).at F).post enc Tryz.prog Tryz.f3 false true false false) := by
  refine returnsInHanded_of_row (C := Tryz.checked) (s := OpenSpec.ofChange Rows.fnExactBookTextSpec) NQ1_own started (by kernel_rfl) Tryz.func3
    (witness_row_at (enc := enc) (C := Tryz.checked) false (NQ1_laidWorld os) #[.agg #[.int .i64 0, .int .i64 0, .bool false, .bool false, .bool false, .bool false, .bool false, .int .i64 0, .int .i64 0, .slice none 0 0]] rfl (by kernel_rfl) (by kernel_rfl) (by kernel_rfl) (fnExactBookText_wrow os enc)) ?_
  intro W base args ds gs before hval0 hW _ _ _ hL _ _
  have h_tab : tabT.ok W undef := NQ1_tab hL
  have hW' := hW
  obtain ⟨p, q, hA0, hV, rfl, _, _⟩ := hW
  have hA : DataW.TrodAll enc Tryz.prog W 0 (fun _ => true) true [26] args.toList ds p := hA0
  have hval : ∀ (j : Nat) t v, (#[26] : Array TypeId)[j]? = some t → args[j]? = some v → Value.okWide Tryz.prog W .any base t v := hval0
  obtain ⟨v0, d0, rfl, rfl, h0⟩ := trodAll_one hA
  obtain ⟨rfl, rfl⟩ := trodVars_none hV
  simp only [List.append_nil] at hW'
  have hlt : ∀ x ∈ p, x.block < W.heap.size := fun x hx => by simpa using hW'.lt x (by simpa using hx)
  have hargs0 : ∀ (W' : World), Below W.heap.size W W' → DataW.Trod enc Tryz.prog W' 0 (fun b => decide (b < W.heap.size)) true 26 v0 d0 p := fun W' hn => Below.trod NQ1_laid (by kernel_rfl) (of_decide_eq_true (by kernel_rfl)) h0 hn (fun x hx => hlt x (by simp [hx]))
  obtain ⟨cs0, rfl, _⟩ := okWide_struct @Tryz.underlying26 (hval 0 26 v0 rfl rfl)
  obtain ⟨f0, hf0⟩ := h0
  obtain ⟨m0, hm0⟩ := rd_26 hf0
  refine (c_laws_FnExactBookText m0 ⟨cs0.toList, rfl, hm0⟩ h_tab).mono fun e W' ⟨he, hx⟩ => ?_
  exact ⟨_, he, _, _, _, [], _, [], hW', trodAll_mk1 (shut_bool @Tryz.underlying4 true), trodAll_mk1 (hargs0 W' hx), rfl, Below.frame hx _, fun h => by cases h⟩
theorem fnExactBookText_f1 : Tryz.prog.funcNamed Rows.fnExactBookTextRow.func = some 3 := by kernel_rfl
theorem fnExactBookText_f2 : Tryz.f3.isInstance Tryz.prog Rows.fnExactBookTextRow.origin Rows.fnExactBookTextRow.targs := of_decide_eq_true (by kernel_rfl)
theorem fnExactBookText_f3 : Tryz.f3.isWrapper Tryz.prog Rows.fnExactBookTextRow.wrapper Rows.fnExactBookTextRow.mainSum := by unfold Func.isWrapper; first | (rw [if_pos (by decide +kernel)]; kernel_rfl) | (rw [if_neg (by decide +kernel)]; exact ⟨rfl, rfl⟩)
theorem fnExactBookText_f4 : joinedFacts Tryz.prog 3 Tryz.f3 Rows.fnExactBookTextSpec Rows.fnExactBookTextRow = true := by kernel_rfl
set_option maxRecDepth 100000 in
theorem fnExactBookText_row_holds : Rows.FnExactBookTextSaid :=
  OpenClaim.holds_of_cond 3 Tryz.f3 rfl rfl rfl rfl rfl rfl rfl ⟨rfl, rfl, rfl, rfl, rfl⟩ rfl rfl rfl rfl rfl fnExactBookText_f1 Tryz.func3 fnExactBookText_f4 fnExactBookText_f2 fnExactBookText_f3
    (fun os started H enc _ F0 => by rw [OpenClaim.pre_eq_preRow]; exact fnExactBookText_lifted os started H enc F0)
set_option maxRecDepth 100000 in
theorem fnExactBookTextCard_holds : Rows.FnExactBookTextCardSaid :=
  Claim7.holds_tied_plain_at .later [] [.data, .data, .data] true (true, "d29c4d75d1b53a7167e0b74afe20591982ebc55190f9b38c64685a87ebe3c31f") false
    fnExactBookText_row_holds (fun _ h => by cases h) (by kernel_rfl) (fun _ h => by cases h) fnExactBookText_row_tie rfl ⟨rfl, rfl⟩ (by kernel_rfl) rfl
    (fun f fn hf hfn => by
      obtain rfl : f = 3 := Option.some.inj (hf.symm.trans fnExactBookText_f1)
      obtain rfl : fn = Tryz.f3 := (Option.some.inj (Tryz.func3.symm.trans hfn)).symm
      exact ⟨by kernel_rfl, fun j t ht => by
        have hm : t ∈ [26] := by
          have := Array.mem_of_getElem? ht
          rw [show Tryz.f3.params = #[26] from rfl] at this; simpa using this
        exact (show ∀ t ∈ [26], Tryz.prog.wantsStandIn t = false from by decide +kernel) t hm⟩)
    (by kernel_rfl)
end Go.Proofs.YtjklnidbndopiaaGreatDoor

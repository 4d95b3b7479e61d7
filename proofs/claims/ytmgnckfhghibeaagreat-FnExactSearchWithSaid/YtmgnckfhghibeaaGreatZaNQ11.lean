/- The rows: whatever the input, the laws FnExactSearchWith return true, and their arguments read as they did. -/
import Derived.Test.YtmgnckfhghibeaaGreatZaA3
import Derived.Test.YtmgnckfhghibeaaGreatZaA7
import Derived.Test.YtmgnckfhghibeaaGreatRows
set_option linter.unusedSimpArgs false
set_option linter.unusedVariables false
namespace Go.Proofs.YtmgnckfhghibeaaGreat
open Go.RowKit Go.ChangeShapes Go.WideShapes Go.ChangeAt
theorem NQ11_own : ownKnob Tryz.prog.godebug = none := by kernel_rfl
theorem NQ11_laid : laidOutB Tryz.prog = true := by kernel_rfl
section
variable {H : Type} {enc : TypeId × Value → H} {w : World} {spare : Nat → Bool} {held : Bool} {fuel : Nat} {x : DataW H × List MemPlace} {cs : List Value}
theorem rd_64 (h : DataW.trod enc Tryz.prog w 0 spare held fuel 64 cs = some x) : ∃ m : M.Rul, cellsOk w (cRules m) cs := by
  obtain ⟨xs, n, _, _, hl, hx, hf⟩ := DataW.trod_struct @Tryz.underlying64 h
  have hl : cs.length = 9 := hl.trans (by kernel_rfl)
  have hx : xs.length = 9 := hx
  have k0 : DataW.trod enc Tryz.prog w 0 spare held n 2 ((cs.drop 0).take (Tryz.prog.cellsOf 2)) = xs[0]? := hf 0 _ rfl
  obtain ⟨y0, e0⟩ : ∃ y, xs[0]? = some y := ⟨_, List.getElem?_eq_getElem (by omega)⟩
  rw [e0, show Tryz.prog.cellsOf _ = 1 from (by kernel_rfl : Tryz.prog.cellsOf 2 = 1)] at k0
  obtain ⟨m0, c0⟩ := rd_int @Tryz.underlying2 k0
  have k1 : DataW.trod enc Tryz.prog w 0 spare held n 2 ((cs.drop 1).take (Tryz.prog.cellsOf 2)) = xs[1]? := hf 1 _ rfl
  obtain ⟨y1, e1⟩ : ∃ y, xs[1]? = some y := ⟨_, List.getElem?_eq_getElem (by omega)⟩
  rw [e1, show Tryz.prog.cellsOf _ = 1 from (by kernel_rfl : Tryz.prog.cellsOf 2 = 1)] at k1
  obtain ⟨m1, c1⟩ := rd_int @Tryz.underlying2 k1
  have k2 : DataW.trod enc Tryz.prog w 0 spare held n 4 ((cs.drop 2).take (Tryz.prog.cellsOf 4)) = xs[2]? := hf 2 _ rfl
  obtain ⟨y2, e2⟩ : ∃ y, xs[2]? = some y := ⟨_, List.getElem?_eq_getElem (by omega)⟩
  rw [e2, show Tryz.prog.cellsOf _ = 1 from (by kernel_rfl : Tryz.prog.cellsOf 4 = 1)] at k2
  obtain ⟨m2, c2⟩ := rd_bool @Tryz.underlying4 k2
  have k3 : DataW.trod enc Tryz.prog w 0 spare held n 4 ((cs.drop 3).take (Tryz.prog.cellsOf 4)) = xs[3]? := hf 3 _ rfl
  obtain ⟨y3, e3⟩ : ∃ y, xs[3]? = some y := ⟨_, List.getElem?_eq_getElem (by omega)⟩
  rw [e3, show Tryz.prog.cellsOf _ = 1 from (by kernel_rfl : Tryz.prog.cellsOf 4 = 1)] at k3
  obtain ⟨m3, c3⟩ := rd_bool @Tryz.underlying4 k3
  have k4 : DataW.trod enc Tryz.prog w 0 spare held n 4 ((cs.drop 4).take (Tryz.prog.cellsOf 4)) = xs[4]? := hf 4 _ rfl
  obtain ⟨y4, e4⟩ : ∃ y, xs[4]? = some y := ⟨_, List.getElem?_eq_getElem (by omega)⟩
  rw [e4, show Tryz.prog.cellsOf _ = 1 from (by kernel_rfl : Tryz.prog.cellsOf 4 = 1)] at k4
  obtain ⟨m4, c4⟩ := rd_bool @Tryz.underlying4 k4
  have k5 : DataW.trod enc Tryz.prog w 0 spare held n 4 ((cs.drop 5).take (Tryz.prog.cellsOf 4)) = xs[5]? := hf 5 _ rfl
  obtain ⟨y5, e5⟩ : ∃ y, xs[5]? = some y := ⟨_, List.getElem?_eq_getElem (by omega)⟩
  rw [e5, show Tryz.prog.cellsOf _ = 1 from (by kernel_rfl : Tryz.prog.cellsOf 4 = 1)] at k5
  obtain ⟨m5, c5⟩ := rd_bool @Tryz.underlying4 k5
  have k6 : DataW.trod enc Tryz.prog w 0 spare held n 4 ((cs.drop 6).take (Tryz.prog.cellsOf 4)) = xs[6]? := hf 6 _ rfl
  obtain ⟨y6, e6⟩ : ∃ y, xs[6]? = some y := ⟨_, List.getElem?_eq_getElem (by omega)⟩
  rw [e6, show Tryz.prog.cellsOf _ = 1 from (by kernel_rfl : Tryz.prog.cellsOf 4 = 1)] at k6
  obtain ⟨m6, c6⟩ := rd_bool @Tryz.underlying4 k6
  have k7 : DataW.trod enc Tryz.prog w 0 spare held n 2 ((cs.drop 7).take (Tryz.prog.cellsOf 2)) = xs[7]? := hf 7 _ rfl
  obtain ⟨y7, e7⟩ : ∃ y, xs[7]? = some y := ⟨_, List.getElem?_eq_getElem (by omega)⟩
  rw [e7, show Tryz.prog.cellsOf _ = 1 from (by kernel_rfl : Tryz.prog.cellsOf 2 = 1)] at k7
  obtain ⟨m7, c7⟩ := rd_int @Tryz.underlying2 k7
  have k8 : DataW.trod enc Tryz.prog w 0 spare held n 2 ((cs.drop 8).take (Tryz.prog.cellsOf 2)) = xs[8]? := hf 8 _ rfl
  obtain ⟨y8, e8⟩ : ∃ y, xs[8]? = some y := ⟨_, List.getElem?_eq_getElem (by omega)⟩
  rw [e8, show Tryz.prog.cellsOf _ = 1 from (by kernel_rfl : Tryz.prog.cellsOf 2 = 1)] at k8
  obtain ⟨m8, c8⟩ := rd_int @Tryz.underlying2 k8
  exact ⟨⟨m0, m1, m2, m3, m4, m5, m6, m7, m8⟩, rd_cat 0 1 c0 (rd_cat 1 1 c1 (rd_cat 2 1 c2 (rd_cat 3 1 c3 (rd_cat 4 1 c4 (rd_cat 5 1 c5 (rd_cat 6 1 c6 (rd_cat 7 1 c7 (rd_cat 8 1 c8 (rd_end hl)))))))))⟩
theorem rd_175 (h : DataW.trod enc Tryz.prog w 0 spare held fuel 175 cs = some x) : ∃ m : M.Slo, cellsOk w (cSlot m) cs := by
  obtain ⟨xs, n, _, _, hl, hx, hf⟩ := DataW.trod_struct @Tryz.underlying175 h
  have hl : cs.length = 6 := hl.trans (by kernel_rfl)
  have hx : xs.length = 6 := hx
  have k0 : DataW.trod enc Tryz.prog w 0 spare held n 4 ((cs.drop 0).take (Tryz.prog.cellsOf 4)) = xs[0]? := hf 0 _ rfl
  obtain ⟨y0, e0⟩ : ∃ y, xs[0]? = some y := ⟨_, List.getElem?_eq_getElem (by omega)⟩
  rw [e0, show Tryz.prog.cellsOf _ = 1 from (by kernel_rfl : Tryz.prog.cellsOf 4 = 1)] at k0
  obtain ⟨m0, c0⟩ := rd_bool @Tryz.underlying4 k0
  have k1 : DataW.trod enc Tryz.prog w 0 spare held n 29 ((cs.drop 1).take (Tryz.prog.cellsOf 29)) = xs[1]? := hf 1 _ rfl
  obtain ⟨y1, e1⟩ : ∃ y, xs[1]? = some y := ⟨_, List.getElem?_eq_getElem (by omega)⟩
  rw [e1, show Tryz.prog.cellsOf _ = 1 from (by kernel_rfl : Tryz.prog.cellsOf 29 = 1)] at k1
  obtain ⟨m1, c1⟩ := rd_ints (P := Tryz.prog) @Tryz.underlying29 @Tryz.underlying2 (by kernel_rfl) k1
  have k2 : DataW.trod enc Tryz.prog w 0 spare held n 2 ((cs.drop 2).take (Tryz.prog.cellsOf 2)) = xs[2]? := hf 2 _ rfl
  obtain ⟨y2, e2⟩ : ∃ y, xs[2]? = some y := ⟨_, List.getElem?_eq_getElem (by omega)⟩
  rw [e2, show Tryz.prog.cellsOf _ = 1 from (by kernel_rfl : Tryz.prog.cellsOf 2 = 1)] at k2
  obtain ⟨m2, c2⟩ := rd_int @Tryz.underlying2 k2
  have k3 : DataW.trod enc Tryz.prog w 0 spare held n 2 ((cs.drop 3).take (Tryz.prog.cellsOf 2)) = xs[3]? := hf 3 _ rfl
  obtain ⟨y3, e3⟩ : ∃ y, xs[3]? = some y := ⟨_, List.getElem?_eq_getElem (by omega)⟩
  rw [e3, show Tryz.prog.cellsOf _ = 1 from (by kernel_rfl : Tryz.prog.cellsOf 2 = 1)] at k3
  obtain ⟨m3, c3⟩ := rd_int @Tryz.underlying2 k3
  have k4 : DataW.trod enc Tryz.prog w 0 spare held n 2 ((cs.drop 4).take (Tryz.prog.cellsOf 2)) = xs[4]? := hf 4 _ rfl
  obtain ⟨y4, e4⟩ : ∃ y, xs[4]? = some y := ⟨_, List.getElem?_eq_getElem (by omega)⟩
  rw [e4, show Tryz.prog.cellsOf _ = 1 from (by kernel_rfl : Tryz.prog.cellsOf 2 = 1)] at k4
  obtain ⟨m4, c4⟩ := rd_int @Tryz.underlying2 k4
  have k5 : DataW.trod enc Tryz.prog w 0 spare held n 2 ((cs.drop 5).take (Tryz.prog.cellsOf 2)) = xs[5]? := hf 5 _ rfl
  obtain ⟨y5, e5⟩ : ∃ y, xs[5]? = some y := ⟨_, List.getElem?_eq_getElem (by omega)⟩
  rw [e5, show Tryz.prog.cellsOf _ = 1 from (by kernel_rfl : Tryz.prog.cellsOf 2 = 1)] at k5
  obtain ⟨m5, c5⟩ := rd_int @Tryz.underlying2 k5
  exact ⟨⟨m0, m1, m2, m3, m4, m5⟩, rd_cat 0 1 c0 (rd_cat 1 1 c1 (rd_cat 2 1 c2 (rd_cat 3 1 c3 (rd_cat 4 1 c4 (rd_cat 5 1 c5 (rd_end hl))))))⟩
theorem rd_67 (h : DataW.trod enc Tryz.prog w 0 spare held fuel 67 cs = some x) : ∃ m : M.Mem, cellsOk w (cMemory m) cs := by
  obtain ⟨xs, n, _, _, hl, hx, hf⟩ := DataW.trod_struct @Tryz.underlying67 h
  have hl : cs.length = 10 := hl.trans (by kernel_rfl)
  have hx : xs.length = 2 := hx
  have k0 : DataW.trod enc Tryz.prog w 0 spare held n 64 ((cs.drop 0).take (Tryz.prog.cellsOf 64)) = xs[0]? := hf 0 _ rfl
  obtain ⟨y0, e0⟩ : ∃ y, xs[0]? = some y := ⟨_, List.getElem?_eq_getElem (by omega)⟩
  rw [e0, show Tryz.prog.cellsOf _ = 9 from (by kernel_rfl : Tryz.prog.cellsOf 64 = 9)] at k0
  obtain ⟨m0, c0⟩ := rd_64 k0
  have k1 : DataW.trod enc Tryz.prog w 0 spare held n 65 ((cs.drop 9).take (Tryz.prog.cellsOf 65)) = xs[1]? := hf 1 _ rfl
  obtain ⟨y1, e1⟩ : ∃ y, xs[1]? = some y := ⟨_, List.getElem?_eq_getElem (by omega)⟩
  rw [e1, show Tryz.prog.cellsOf _ = 1 from (by kernel_rfl : Tryz.prog.cellsOf 65 = 1)] at k1
  obtain ⟨m1, c1⟩ := rd_sl (P := Tryz.prog) (sz := 6) cSlot @Tryz.underlying65 (by kernel_rfl) (by decide) (fun _ => rfl) (fun h => rd_175 h) k1
  exact ⟨⟨m0, m1⟩, rd_cat 0 9 c0 (rd_cat 9 1 c1 (rd_end hl))⟩
theorem rd_68 (h : DataW.trod enc Tryz.prog w 0 spare held fuel 68 cs = some x) : ∃ m : M.Pos, cellsOk w (cPosition m) cs := by
  obtain ⟨xs, n, _, _, hl, hx, hf⟩ := DataW.trod_struct @Tryz.underlying68 h
  have hl : cs.length = 3 := hl.trans (by kernel_rfl)
  have hx : xs.length = 3 := hx
  have k0 : DataW.trod enc Tryz.prog w 0 spare held n 29 ((cs.drop 0).take (Tryz.prog.cellsOf 29)) = xs[0]? := hf 0 _ rfl
  obtain ⟨y0, e0⟩ : ∃ y, xs[0]? = some y := ⟨_, List.getElem?_eq_getElem (by omega)⟩
  rw [e0, show Tryz.prog.cellsOf _ = 1 from (by kernel_rfl : Tryz.prog.cellsOf 29 = 1)] at k0
  obtain ⟨m0, c0⟩ := rd_ints (P := Tryz.prog) @Tryz.underlying29 @Tryz.underlying2 (by kernel_rfl) k0
  have k1 : DataW.trod enc Tryz.prog w 0 spare held n 29 ((cs.drop 1).take (Tryz.prog.cellsOf 29)) = xs[1]? := hf 1 _ rfl
  obtain ⟨y1, e1⟩ : ∃ y, xs[1]? = some y := ⟨_, List.getElem?_eq_getElem (by omega)⟩
  rw [e1, show Tryz.prog.cellsOf _ = 1 from (by kernel_rfl : Tryz.prog.cellsOf 29 = 1)] at k1
  obtain ⟨m1, c1⟩ := rd_ints (P := Tryz.prog) @Tryz.underlying29 @Tryz.underlying2 (by kernel_rfl) k1
  have k2 : DataW.trod enc Tryz.prog w 0 spare held n 2 ((cs.drop 2).take (Tryz.prog.cellsOf 2)) = xs[2]? := hf 2 _ rfl
  obtain ⟨y2, e2⟩ : ∃ y, xs[2]? = some y := ⟨_, List.getElem?_eq_getElem (by omega)⟩
  rw [e2, show Tryz.prog.cellsOf _ = 1 from (by kernel_rfl : Tryz.prog.cellsOf 2 = 1)] at k2
  obtain ⟨m2, c2⟩ := rd_int @Tryz.underlying2 k2
  exact ⟨⟨m0, m1, m2⟩, rd_cat 0 1 c0 (rd_cat 1 1 c1 (rd_cat 2 1 c2 (rd_end hl)))⟩
end
set_option maxRecDepth 100000 in
theorem fnExactSearchWith_lifted (os : Os) (started : os.Started) (H : Type) (enc : TypeId × Value → H) :
    ReturnsInHanded {} Tryz.checked os 5 .any (Rows.fnExactSearchWithSpec.pre6 enc Tryz.prog Tryz.f5 Rows.fnExactSearchWithRow.domain false) (Rows.fnExactSearchWithSpec.post enc Tryz.prog Tryz.f5 false true false false) := by
  refine returnsInHanded_of_change_sized (C := Tryz.checked) NQ11_own started (by kernel_rfl) Tryz.func5
    (ChangeSpec.witness6 (enc := enc) (C := Tryz.checked) false ⟨#[], #[.agg #[.int .i64 0, .int .i64 0, .bool false, .bool false, .bool false, .bool false, .bool false, .int .i64 0, .int .i64 0, .slice none 0 0], .agg #[.slice none 0 0, .slice none 0 0, .int .i64 0], .int .i64 0], []⟩ 12 (by kernel_rfl) (by kernel_rfl) (by kernel_rfl) (by kernel_rfl)) ?_
  intro W base args ds gs before hval0 hW _ _ _
  have hW' := hW
  obtain ⟨p, q, hA0, hV, rfl, _, _⟩ := hW
  have hA : DataW.TrodAll enc Tryz.prog W 0 (fun _ => true) true [67, 68, 2] args.toList ds p := hA0
  have hval : ∀ (j : Nat) t v, (#[67, 68, 2] : Array TypeId)[j]? = some t → args[j]? = some v → Value.okWide Tryz.prog W .any base t v := hval0
  obtain ⟨v0, v1, v2, d0, d1, d2, p0, p1, p2, rfl, rfl, rfl, h0, h1, h2⟩ := trodAll_three hA
  obtain ⟨rfl, rfl⟩ := trodVars_none hV
  simp only [List.append_nil] at hW'
  have hlt : ∀ x ∈ p0 ++ p1 ++ p2, x.block < W.heap.size := fun x hx => by simpa using hW'.lt x (by simpa using hx)
  have hargs0 : ∀ (W' : World), Below W.heap.size W W' → DataW.Trod enc Tryz.prog W' 0 (fun b => decide (b < W.heap.size)) true 67 v0 d0 p0 := fun W' hn => Below.trod NQ11_laid (by kernel_rfl) (of_decide_eq_true (by kernel_rfl)) h0 hn (fun x hx => hlt x (by simp [hx]))
  obtain ⟨cs0, rfl, _⟩ := okWide_struct @Tryz.underlying67 (hval 0 67 v0 rfl rfl)
  obtain ⟨f0, hf0⟩ := h0
  obtain ⟨m0, hm0⟩ := rd_67 hf0
  have hargs1 : ∀ (W' : World), Below W.heap.size W W' → DataW.Trod enc Tryz.prog W' 0 (fun b => decide (b < W.heap.size)) true 68 v1 d1 p1 := fun W' hn => Below.trod NQ11_laid (by kernel_rfl) (of_decide_eq_true (by kernel_rfl)) h1 hn (fun x hx => hlt x (by simp [hx]))
  obtain ⟨cs1, rfl, _⟩ := okWide_struct @Tryz.underlying68 (hval 1 68 v1 rfl rfl)
  obtain ⟨f1, hf1⟩ := h1
  obtain ⟨m1, hm1⟩ := rd_68 hf1
  have hargs2 : ∀ (W' : World), Below W.heap.size W W' → DataW.Trod enc Tryz.prog W' 0 (fun b => decide (b < W.heap.size)) true 2 v2 d2 p2 := fun W' hn => Below.trod NQ11_laid (by kernel_rfl) (of_decide_eq_true (by kernel_rfl)) h2 hn (fun x hx => hlt x (by simp [hx]))
  obtain ⟨m2, rfl, rfl, rfl, wm2⟩ := open_int @Tryz.underlying2 (hval 2 2 v2 rfl rfl) h2
  refine (c_laws_FnExactSearchWith m0 m1 m2 ⟨cs0.toList, rfl, hm0⟩ ⟨cs1.toList, rfl, hm1⟩).mono fun e W' ⟨he, hx⟩ => ?_
  exact ⟨_, he, _, _, _, [], _, [], hW', trodAll_mk1 (shut_bool @Tryz.underlying4 true), trodAll_mk3 (hargs0 W' hx) (hargs1 W' hx) (hargs2 W' hx), rfl, Below.frame hx _, fun h => by cases h⟩
theorem fnExactSearchWith_f1 : Tryz.prog.funcNamed Rows.fnExactSearchWithRow.func = some 5 := by kernel_rfl
theorem fnExactSearchWith_f2 : Tryz.f5.isInstance Tryz.prog Rows.fnExactSearchWithRow.origin Rows.fnExactSearchWithRow.targs := of_decide_eq_true (by kernel_rfl)
theorem fnExactSearchWith_f3 : Tryz.f5.isWrapper Tryz.prog Rows.fnExactSearchWithRow.wrapper Rows.fnExactSearchWithRow.mainSum := by unfold Func.isWrapper; first | (rw [if_pos (by decide +kernel)]; kernel_rfl) | (rw [if_neg (by decide +kernel)]; exact ⟨rfl, rfl⟩)
theorem fnExactSearchWith_f4 : joinedFacts Tryz.prog 5 Tryz.f5 Rows.fnExactSearchWithSpec Rows.fnExactSearchWithRow = true := by kernel_rfl
theorem fnExactSearchWith_holds : Rows.FnExactSearchWithSaid :=
  OpenClaim.holds_of_wide 5 Tryz.f5 rfl rfl rfl rfl rfl rfl rfl ⟨rfl, rfl, rfl, rfl, rfl⟩ rfl rfl rfl rfl rfl fnExactSearchWith_f1 Tryz.func5 fnExactSearchWith_f4 fnExactSearchWith_f2 fnExactSearchWith_f3
    (fun os started H enc _ => fnExactSearchWith_lifted os started H enc)
end Go.Proofs.YtmgnckfhghibeaaGreat

/- The rows: whatever the input, the laws FnPuzzles return true, and their arguments read as they did. -/
import Derived.Test.YtmgnckfhghibeaaGreatZyA3
import Derived.Test.YtmgnckfhghibeaaGreatZyA10
import Derived.Test.YtmgnckfhghibeaaGreatRows
set_option linter.unusedSimpArgs false
set_option linter.unusedVariables false
namespace Go.Proofs.YtmgnckfhghibeaaGreat
open Go.RowKit Go.ChangeShapes Go.WideShapes Go.ChangeAt
theorem NQ10_own : ownKnob Tryz.prog.godebug = none := by kernel_rfl
theorem NQ10_laid : laidOutB Tryz.prog = true := by kernel_rfl
section
variable {H : Type} {enc : TypeId × Value → H} {w : World} {spare : Nat → Bool} {held : Bool} {fuel : Nat} {x : DataW H × List MemPlace} {cs : List Value}
end
set_option maxRecDepth 100000 in
theorem fnPuzzles_lifted (os : Os) (started : os.Started) (H : Type) (enc : TypeId × Value → H) :
    ReturnsInHanded {} Tryz.checked os 4 .any (Rows.fnPuzzlesSpec.pre6 enc Tryz.prog Tryz.f4 Rows.fnPuzzlesRow.domain false) (Rows.fnPuzzlesSpec.post enc Tryz.prog Tryz.f4 false true false false) := by
  refine returnsInHanded_of_change_sized (C := Tryz.checked) NQ10_own started (by kernel_rfl) Tryz.func4
    (ChangeSpec.witness6 (enc := enc) (C := Tryz.checked) false ⟨#[], #[.slice none 0 0], []⟩ 12 (by kernel_rfl) (by kernel_rfl) (by kernel_rfl) (by kernel_rfl)) ?_
  intro W base args ds gs before hval0 hW _ _ _
  have hW' := hW
  obtain ⟨p, q, hA0, hV, rfl, _, _⟩ := hW
  have hA : DataW.TrodAll enc Tryz.prog W 0 (fun _ => true) true [22] args.toList ds p := hA0
  have hval : ∀ (j : Nat) t v, (#[22] : Array TypeId)[j]? = some t → args[j]? = some v → Value.okWide Tryz.prog W .any base t v := hval0
  obtain ⟨v0, d0, rfl, rfl, h0⟩ := trodAll_one hA
  obtain ⟨rfl, rfl⟩ := trodVars_none hV
  simp only [List.append_nil] at hW'
  have hlt : ∀ x ∈ p, x.block < W.heap.size := fun x hx => by simpa using hW'.lt x (by simpa using hx)
  have hargs0 : ∀ (W' : World), Below W.heap.size W W' → DataW.Trod enc Tryz.prog W' 0 (fun b => decide (b < W.heap.size)) true 22 v0 d0 p := fun W' hn => Below.trod NQ10_laid (by kernel_rfl) (of_decide_eq_true (by kernel_rfl)) h0 hn (fun x hx => hlt x (by simp [hx]))
  obtain ⟨f0, hf0⟩ := h0
  obtain ⟨m0, hm0⟩ := rd_bytes (P := Tryz.prog) @Tryz.underlying22 @Tryz.underlying5 (by kernel_rfl) hf0
  obtain ⟨a0, n0, c0, rfl⟩ := okWide_slice @Tryz.underlying22 (hval 0 22 v0 rfl rfl)
  refine (c_laws_FnPuzzles m0 hm0.1).mono fun e W' ⟨he, hx⟩ => ?_
  exact ⟨_, he, _, _, _, [], _, [], hW', trodAll_mk1 (shut_bool @Tryz.underlying4 true), trodAll_mk1 (hargs0 W' hx), rfl, Below.frame hx _, fun h => by cases h⟩
theorem fnPuzzles_f1 : Tryz.prog.funcNamed Rows.fnPuzzlesRow.func = some 4 := by kernel_rfl
theorem fnPuzzles_f2 : Tryz.f4.isInstance Tryz.prog Rows.fnPuzzlesRow.origin Rows.fnPuzzlesRow.targs := of_decide_eq_true (by kernel_rfl)
theorem fnPuzzles_f3 : Tryz.f4.isWrapper Tryz.prog Rows.fnPuzzlesRow.wrapper Rows.fnPuzzlesRow.mainSum := by unfold Func.isWrapper; first | (rw [if_pos (by decide +kernel)]; kernel_rfl) | (rw [if_neg (by decide +kernel)]; exact ⟨rfl, rfl⟩)
theorem fnPuzzles_f4 : joinedFacts Tryz.prog 4 Tryz.f4 Rows.fnPuzzlesSpec Rows.fnPuzzlesRow = true := by kernel_rfl
theorem fnPuzzles_holds : Rows.FnPuzzlesSaid :=
  OpenClaim.holds_of_wide 4 Tryz.f4 rfl rfl rfl rfl rfl rfl rfl ⟨rfl, rfl, rfl, rfl, rfl⟩ rfl rfl rfl rfl rfl fnPuzzles_f1 Tryz.func4 fnPuzzles_f4 fnPuzzles_f2 fnPuzzles_f3
    (fun os started H enc _ => fnPuzzles_lifted os started H enc)
end Go.Proofs.YtmgnckfhghibeaaGreat

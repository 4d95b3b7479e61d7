/- The rows: whatever the input, the laws FnMemories return true, and their arguments read as they did. -/
import Derived.Test.YtmgnckfhghibeaaGreatZbA3
import Derived.Test.YtmgnckfhghibeaaGreatZbA11
import Derived.Test.YtmgnckfhghibeaaGreatRows
set_option linter.unusedSimpArgs false
set_option linter.unusedVariables false
namespace Go.Proofs.YtmgnckfhghibeaaGreat
open Go.RowKit Go.ChangeShapes Go.WideShapes Go.ChangeAt
theorem NQ12_own : ownKnob Tryz.prog.godebug = none := by kernel_rfl
theorem NQ12_laid : laidOutB Tryz.prog = true := by kernel_rfl
section
variable {H : Type} {enc : TypeId × Value → H} {w : World} {spare : Nat → Bool} {held : Bool} {fuel : Nat} {x : DataW H × List MemPlace} {cs : List Value}
end
set_option maxRecDepth 100000 in
theorem fnMemories_lifted (os : Os) (started : os.Started) (H : Type) (enc : TypeId × Value → H) :
    ReturnsInHanded {} Tryz.checked os 3 .any (Rows.fnMemoriesSpec.pre6 enc Tryz.prog Tryz.f3 Rows.fnMemoriesRow.domain false) (Rows.fnMemoriesSpec.post enc Tryz.prog Tryz.f3 false true false false) := by
  refine returnsInHanded_of_change_sized (C := Tryz.checked) NQ12_own started (by kernel_rfl) Tryz.func3
    (ChangeSpec.witness6 (enc := enc) (C := Tryz.checked) false ⟨#[], #[.slice none 0 0], []⟩ 12 (by kernel_rfl) (by kernel_rfl) (by kernel_rfl) (by kernel_rfl)) ?_
  intro W base args ds gs before hval0 hW _ _ _
  have hW' := hW
  obtain ⟨p, q, hA0, hV, rfl, _, _⟩ := hW
  have hA : DataW.TrodAll enc Tryz.prog W 0 (fun _ => true) true [22] args.toList ds p := hA0
  have hval : ∀ (j : Nat) t v, (#[22] : Array TypeId)[j]? = some t → args[j]? = some v → Value.okWide Tryz.prog W .any base t v := hval0
  obtain ⟨v0, d0, rfl, rfl, h0⟩ := trodAll_one hA
  obtain ⟨rfl, rfl⟩ := trodVars_none hV
  simp only [List.append_nil] at hW'
  have hlt : ∀ x ∈ p, x.block < W.heap.size := fun x hx => by simpa using hW'.lt x (by simpa using hx)
  have hargs0 : ∀ (W' : World), Below W.heap.size W W' → DataW.Trod enc Tryz.prog W' 0 (fun b => decide (b < W.heap.size)) true 22 v0 d0 p := fun W' hn => Below.trod NQ12_laid (by kernel_rfl) (of_decide_eq_true (by kernel_rfl)) h0 hn (fun x hx => hlt x (by simp [hx]))
  obtain ⟨f0, hf0⟩ := h0
  obtain ⟨m0, hm0⟩ := rd_bytes (P := Tryz.prog) @Tryz.underlying22 @Tryz.underlying5 (by kernel_rfl) hf0
  obtain ⟨a0, n0, c0, rfl⟩ := okWide_slice @Tryz.underlying22 (hval 0 22 v0 rfl rfl)
  refine (c_laws_FnMemories m0 hm0.1).mono fun e W' ⟨he, hx⟩ => ?_
  exact ⟨_, he, _, _, _, [], _, [], hW', trodAll_mk1 (shut_bool @Tryz.underlying4 true), trodAll_mk1 (hargs0 W' hx), rfl, Below.frame hx _, fun h => by cases h⟩
theorem fnMemories_f1 : Tryz.prog.funcNamed Rows.fnMemoriesRow.func = some 3 := by kernel_rfl
theorem fnMemories_f2 : Tryz.f3.isInstance Tryz.prog Rows.fnMemoriesRow.origin Rows.fnMemoriesRow.targs := of_decide_eq_true (by kernel_rfl)
theorem fnMemories_f3 : Tryz.f3.isWrapper Tryz.prog Rows.fnMemoriesRow.wrapper Rows.fnMemoriesRow.mainSum := by unfold Func.isWrapper; first | (rw [if_pos (by decide +kernel)]; kernel_rfl) | (rw [if_neg (by decide +kernel)]; exact ⟨rfl, rfl⟩)
theorem fnMemories_f4 : joinedFacts Tryz.prog 3 Tryz.f3 Rows.fnMemoriesSpec Rows.fnMemoriesRow = true := by kernel_rfl
theorem fnMemories_holds : Rows.FnMemoriesSaid :=
  OpenClaim.holds_of_wide 3 Tryz.f3 rfl rfl rfl rfl rfl rfl rfl ⟨rfl, rfl, rfl, rfl, rfl⟩ rfl rfl rfl rfl rfl fnMemories_f1 Tryz.func3 fnMemories_f4 fnMemories_f2 fnMemories_f3
    (fun os started H enc _ => fnMemories_lifted os started H enc)
end Go.Proofs.YtmgnckfhghibeaaGreat

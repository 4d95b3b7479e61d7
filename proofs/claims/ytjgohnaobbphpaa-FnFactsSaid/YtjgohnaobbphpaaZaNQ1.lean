/- The rows: whatever the input, the laws FnFacts return true, and their arguments read as they did. -/
import Derived.Test.YtjgohnaobbphpaaZaA3
import Derived.Test.YtjgohnaobbphpaaZaA10
import Derived.Test.YtjgohnaobbphpaaRows
set_option linter.unusedSimpArgs false
set_option linter.unusedVariables false
namespace Go.Proofs.Ytjgohnaobbphpaa
open Go.RowKit Go.ChangeShapes Go.WideShapes Go.ChangeAt
theorem NQ1_own : ownKnob Try.prog.godebug = none := by kernel_rfl
theorem NQ1_laid : laidOutB Try.prog = true := by kernel_rfl
section
variable {H : Type} {enc : TypeId × Value → H} {w : World} {spare : Nat → Bool} {held : Bool} {fuel : Nat} {x : DataW H × List MemPlace} {cs : List Value}
end
set_option maxRecDepth 100000 in
theorem fnFacts_lifted (os : Os) (started : os.Started) (H : Type) (enc : TypeId × Value → H) :
    ReturnsInHanded {} Try.checked os 3 .any (Rows.fnFactsSpec.pre6 enc Try.prog Try.f3 Rows.fnFactsRow.domain false) (Rows.fnFactsSpec.post enc Try.prog Try.f3 false true false false) := by
  refine returnsInHanded_of_change_sized (C := Try.checked) NQ1_own started (by kernel_rfl) Try.func3
    (ChangeSpec.witness6 (enc := enc) (C := Try.checked) false ⟨#[], #[.slice none 0 0], []⟩ 12 (by kernel_rfl) (by kernel_rfl) (by kernel_rfl) (by kernel_rfl)) ?_
  intro W base args ds gs before hval0 hW _ _ _
  have hW' := hW
  obtain ⟨p, q, hA0, hV, rfl, _, _⟩ := hW
  have hA : DataW.TrodAll enc Try.prog W 0 (fun _ => true) true [22] args.toList ds p := hA0
  have hval : ∀ (j : Nat) t v, (#[22] : Array TypeId)[j]? = some t → args[j]? = some v → Value.okWide Try.prog W .any base t v := hval0
  obtain ⟨v0, d0, rfl, rfl, h0⟩ := trodAll_one hA
  obtain ⟨rfl, rfl⟩ := trodVars_none hV
  simp only [List.append_nil] at hW'
  have hlt : ∀ x ∈ p, x.block < W.heap.size := fun x hx => by simpa using hW'.lt x (by simpa using hx)
  have hargs0 : ∀ (W' : World), Below W.heap.size W W' → DataW.Trod enc Try.prog W' 0 (fun b => decide (b < W.heap.size)) true 22 v0 d0 p := fun W' hn => Below.trod NQ1_laid (by kernel_rfl) (of_decide_eq_true (by kernel_rfl)) h0 hn (fun x hx => hlt x (by simp [hx]))
  obtain ⟨f0, hf0⟩ := h0
  obtain ⟨m0, hm0⟩ := rd_bytes (P := Try.prog) @Try.underlying22 @Try.underlying5 (by kernel_rfl) hf0
  obtain ⟨a0, n0, c0, rfl⟩ := okWide_slice @Try.underlying22 (hval 0 22 v0 rfl rfl)
  refine (c_laws_FnFacts m0 hm0.1).mono fun e W' ⟨he, hx⟩ => ?_
  exact ⟨_, he, _, _, _, [], _, [], hW', trodAll_mk1 (shut_bool @Try.underlying4 true), trodAll_mk1 (hargs0 W' hx), rfl, Below.frame hx _, fun h => by cases h⟩
theorem fnFacts_f1 : Try.prog.funcNamed Rows.fnFactsRow.func = some 3 := by kernel_rfl
theorem fnFacts_f2 : Try.f3.isInstance Try.prog Rows.fnFactsRow.origin Rows.fnFactsRow.targs := of_decide_eq_true (by kernel_rfl)
theorem fnFacts_f3 : Try.f3.isWrapper Try.prog Rows.fnFactsRow.wrapper Rows.fnFactsRow.mainSum := by unfold Func.isWrapper; first | (rw [if_pos (by decide +kernel)]; kernel_rfl) | (rw [if_neg (by decide +kernel)]; exact ⟨rfl, rfl⟩)
theorem fnFacts_f4 : joinedFacts Try.prog 3 Try.f3 Rows.fnFactsSpec Rows.fnFactsRow = true := by kernel_rfl
theorem fnFacts_holds : Rows.FnFactsSaid :=
  OpenClaim.holds_of_wide 3 Try.f3 rfl rfl rfl rfl rfl rfl rfl ⟨rfl, rfl, rfl, rfl, rfl⟩ rfl rfl rfl rfl rfl fnFacts_f1 Try.func3 fnFacts_f4 fnFacts_f2 fnFacts_f3
    (fun os started H enc _ => fnFacts_lifted os started H enc)
end Go.Proofs.Ytjgohnaobbphpaa

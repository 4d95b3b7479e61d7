/- The rows: whatever the input, the laws FnForgotten return true, and their arguments read as they did. -/
import Derived.Test.YtmgnckfhghibeaaZdA3
import Derived.Test.YtmgnckfhghibeaaZdA9
import Derived.Test.YtmgnckfhghibeaaRows
set_option linter.unusedSimpArgs false
set_option linter.unusedVariables false
namespace Go.Proofs.Ytmgnckfhghibeaa
open Go.RowKit Go.ChangeShapes Go.WideShapes Go.ChangeAt
theorem NQ14_own : ownKnob Try.prog.godebug = none := by kernel_rfl
theorem NQ14_laid : laidOutB Try.prog = true := by kernel_rfl
section
variable {H : Type} {enc : TypeId × Value → H} {w : World} {spare : Nat → Bool} {held : Bool} {fuel : Nat} {x : DataW H × List MemPlace} {cs : List Value}
end
set_option maxRecDepth 100000 in
theorem fnForgotten_lifted (os : Os) (started : os.Started) (H : Type) (enc : TypeId × Value → H) :
    ReturnsInHanded {} Try.checked os 4 .any (Rows.fnForgottenSpec.pre6 enc Try.prog Try.f4 Rows.fnForgottenRow.domain false) (Rows.fnForgottenSpec.post enc Try.prog Try.f4 false true false false) := by
  refine returnsInHanded_of_change_sized (C := Try.checked) NQ14_own started (by kernel_rfl) Try.func4
    (ChangeSpec.witness6 (enc := enc) (C := Try.checked) false ⟨#[], #[.slice none 0 0], []⟩ 12 (by kernel_rfl) (by kernel_rfl) (by kernel_rfl) (by kernel_rfl)) ?_
  intro W base args ds gs before hval0 hW _ _ _
  have hW' := hW
  obtain ⟨p, q, hA0, hV, rfl, _, _⟩ := hW
  have hA : DataW.TrodAll enc Try.prog W 0 (fun _ => true) true [22] args.toList ds p := hA0
  have hval : ∀ (j : Nat) t v, (#[22] : Array TypeId)[j]? = some t → args[j]? = some v → Value.okWide Try.prog W .any base t v := hval0
  obtain ⟨v0, d0, rfl, rfl, h0⟩ := trodAll_one hA
  obtain ⟨rfl, rfl⟩ := trodVars_none hV
  simp only [List.append_nil] at hW'
  have hlt : ∀ x ∈ p, x.block < W.heap.size := fun x hx => by simpa using hW'.lt x (by simpa using hx)
  have hargs0 : ∀ (W' : World), Below W.heap.size W W' → DataW.Trod enc Try.prog W' 0 (fun b => decide (b < W.heap.size)) true 22 v0 d0 p := fun W' hn => Below.trod NQ14_laid (by kernel_rfl) (of_decide_eq_true (by kernel_rfl)) h0 hn (fun x hx => hlt x (by simp [hx]))
  obtain ⟨f0, hf0⟩ := h0
  obtain ⟨m0, hm0⟩ := rd_bytes (P := Try.prog) @Try.underlying22 @Try.underlying5 (by kernel_rfl) hf0
  obtain ⟨a0, n0, c0, rfl⟩ := okWide_slice @Try.underlying22 (hval 0 22 v0 rfl rfl)
  refine (c_laws_FnForgotten m0 hm0.1).mono fun e W' ⟨he, hx⟩ => ?_
  exact ⟨_, he, _, _, _, [], _, [], hW', trodAll_mk1 (shut_bool @Try.underlying4 true), trodAll_mk1 (hargs0 W' hx), rfl, Below.frame hx _, fun h => by cases h⟩
theorem fnForgotten_f1 : Try.prog.funcNamed Rows.fnForgottenRow.func = some 4 := by kernel_rfl
theorem fnForgotten_f2 : Try.f4.isInstance Try.prog Rows.fnForgottenRow.origin Rows.fnForgottenRow.targs := of_decide_eq_true (by kernel_rfl)
theorem fnForgotten_f3 : Try.f4.isWrapper Try.prog Rows.fnForgottenRow.wrapper Rows.fnForgottenRow.mainSum := by unfold Func.isWrapper; first | (rw [if_pos (by decide +kernel)]; kernel_rfl) | (rw [if_neg (by decide +kernel)]; exact ⟨rfl, rfl⟩)
theorem fnForgotten_f4 : joinedFacts Try.prog 4 Try.f4 Rows.fnForgottenSpec Rows.fnForgottenRow = true := by kernel_rfl
theorem fnForgotten_holds : Rows.FnForgottenSaid :=
  OpenClaim.holds_of_wide 4 Try.f4 rfl rfl rfl rfl rfl rfl rfl ⟨rfl, rfl, rfl, rfl, rfl⟩ rfl rfl rfl rfl rfl fnForgotten_f1 Try.func4 fnForgotten_f4 fnForgotten_f2 fnForgotten_f3
    (fun os started H enc _ => fnForgotten_lifted os started H enc)
end Go.Proofs.Ytmgnckfhghibeaa

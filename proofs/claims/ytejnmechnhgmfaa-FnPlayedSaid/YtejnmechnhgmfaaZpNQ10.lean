/- The rows: whatever the input, the laws FnPlayed return true, and their arguments read as they did. -/
import Derived.Test.YtejnmechnhgmfaaZpRd
import Derived.Test.YtejnmechnhgmfaaZpRd2
import Derived.Test.YtejnmechnhgmfaaZpNL18
import Derived.Test.YtejnmechnhgmfaaRows
set_option linter.unusedSimpArgs false
set_option linter.unusedVariables false
namespace Go.Proofs.Ytejnmechnhgmfaa
open Go.RowKit Go.ChangeShapes Go.WideShapes Go.ChangeAt
theorem NQ10_own : ownKnob Try.prog.godebug = none := by kernel_rfl
theorem NQ10_laid : laidOutB Try.prog = true := by kernel_rfl
section
variable {H : Type} {enc : TypeId × Value → H} {w : World} {spare : Nat → Bool} {held : Bool} {fuel : Nat} {x : DataW H × List MemPlace} {cs : List Value}
end
set_option maxRecDepth 100000 in
theorem fnPlayed_lifted (os : Os) (started : os.Started) (H : Type) (enc : TypeId × Value → H) :
    ReturnsInHanded {} Try.checked os 16 .any (Rows.fnPlayedSpec.pre6 enc Try.prog Try.f16 Rows.fnPlayedRow.domain false) (Rows.fnPlayedSpec.post enc Try.prog Try.f16 false true false false) := by
  refine returnsInHanded_of_change_sized (C := Try.checked) NQ10_own started (by kernel_rfl) Try.func16
    (ChangeSpec.witness6 (enc := enc) (C := Try.checked) false ⟨#[], #[.slice none 0 0], []⟩ 12 (by kernel_rfl) (by kernel_rfl) (by kernel_rfl) (by kernel_rfl)) ?_
  intro W base args ds gs before hval0 hW _ _ _
  have hW' := hW
  obtain ⟨p, q, hA0, hV, rfl, _, _⟩ := hW
  have hA : DataW.TrodAll enc Try.prog W 0 (fun _ => true) true [61] args.toList ds p := hA0
  have hval : ∀ (j : Nat) t v, (#[61] : Array TypeId)[j]? = some t → args[j]? = some v → Value.okWide Try.prog W .any base t v := hval0
  obtain ⟨v0, d0, rfl, rfl, h0⟩ := trodAll_one hA
  obtain ⟨rfl, rfl⟩ := trodVars_none hV
  simp only [List.append_nil] at hW'
  have hlt : ∀ x ∈ p, x.block < W.heap.size := fun x hx => by simpa using hW'.lt x (by simpa using hx)
  have hargs0 : ∀ (W' : World), Below W.heap.size W W' → DataW.Trod enc Try.prog W' 0 (fun b => decide (b < W.heap.size)) true 61 v0 d0 p := fun W' hn => Below.trod NQ10_laid (by kernel_rfl) (of_decide_eq_true (by kernel_rfl)) h0 hn (fun x hx => hlt x (by simp [hx]))
  obtain ⟨f0, hf0⟩ := h0
  obtain ⟨m0, hm0⟩ := rd_bytes (P := Try.prog) @Try.underlying61 @Try.underlying5 (by kernel_rfl) hf0
  obtain ⟨a0, n0, c0, rfl⟩ := okWide_slice @Try.underlying61 (hval 0 61 v0 rfl rfl)
  refine (c_laws_FnPlayed m0 hm0.1).mono fun e W' ⟨he, hx⟩ => ?_
  exact ⟨_, he, _, _, _, [], _, [], hW', trodAll_mk1 (shut_bool @Try.underlying4 true), trodAll_mk1 (hargs0 W' hx), rfl, Below.frame hx _, fun h => by cases h⟩
theorem fnPlayed_f1 : Try.prog.funcNamed Rows.fnPlayedRow.func = some 16 := by kernel_rfl
theorem fnPlayed_f2 : Try.f16.isInstance Try.prog Rows.fnPlayedRow.origin Rows.fnPlayedRow.targs := of_decide_eq_true (by kernel_rfl)
theorem fnPlayed_f3 : Try.f16.isWrapper Try.prog Rows.fnPlayedRow.wrapper Rows.fnPlayedRow.mainSum := by unfold Func.isWrapper; first | (rw [if_pos (by decide +kernel)]; kernel_rfl) | (rw [if_neg (by decide +kernel)]; exact ⟨rfl, rfl⟩)
theorem fnPlayed_f4 : joinedFacts Try.prog 16 Try.f16 Rows.fnPlayedSpec Rows.fnPlayedRow = true := by kernel_rfl
theorem fnPlayed_holds : Rows.FnPlayedSaid :=
  OpenClaim.holds_of_wide 16 Try.f16 rfl rfl rfl rfl rfl rfl rfl ⟨rfl, rfl, rfl, rfl, rfl⟩ rfl rfl rfl rfl rfl fnPlayed_f1 Try.func16 fnPlayed_f4 fnPlayed_f2 fnPlayed_f3
    (fun os started H enc _ => fnPlayed_lifted os started H enc)
end Go.Proofs.Ytejnmechnhgmfaa

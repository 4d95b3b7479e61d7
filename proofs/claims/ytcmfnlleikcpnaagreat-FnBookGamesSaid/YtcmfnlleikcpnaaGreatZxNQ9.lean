/- The rows: whatever the input, the laws FnBookGames return true, and their arguments read as they did. -/
import Derived.Test.YtcmfnlleikcpnaaGreatZxA3
import Derived.Test.YtcmfnlleikcpnaaGreatZxA13
import Derived.Test.YtcmfnlleikcpnaaGreatRows
set_option linter.unusedSimpArgs false
set_option linter.unusedVariables false
namespace Go.Proofs.YtcmfnlleikcpnaaGreat
open Go.RowKit Go.ChangeShapes Go.WideShapes Go.ChangeAt
theorem NQ9_own : ownKnob Tryz.prog.godebug = none := by kernel_rfl
theorem NQ9_laid : laidOutB Tryz.prog = true := by kernel_rfl
section
variable {H : Type} {enc : TypeId × Value → H} {w : World} {spare : Nat → Bool} {held : Bool} {fuel : Nat} {x : DataW H × List MemPlace} {cs : List Value}
end
set_option maxRecDepth 100000 in
theorem fnBookGames_lifted (os : Os) (started : os.Started) (H : Type) (enc : TypeId × Value → H) :
    ReturnsInHanded {} Tryz.checked os 7 .any (Rows.fnBookGamesSpec.pre6 enc Tryz.prog Tryz.f7 Rows.fnBookGamesRow.domain false) (Rows.fnBookGamesSpec.post enc Tryz.prog Tryz.f7 false true false false) := by
  refine returnsInHanded_of_change_sized (C := Tryz.checked) NQ9_own started (by kernel_rfl) Tryz.func7
    (ChangeSpec.witness6 (enc := enc) (C := Tryz.checked) false ⟨#[], #[.slice none 0 0], []⟩ 12 (by kernel_rfl) (by kernel_rfl) (by kernel_rfl) (by kernel_rfl)) ?_
  intro W base args ds gs before hval0 hW _ _ _
  have hW' := hW
  obtain ⟨p, q, hA0, hV, rfl, _, _⟩ := hW
  have hA : DataW.TrodAll enc Tryz.prog W 0 (fun _ => true) true [61] args.toList ds p := hA0
  have hval : ∀ (j : Nat) t v, (#[61] : Array TypeId)[j]? = some t → args[j]? = some v → Value.okWide Tryz.prog W .any base t v := hval0
  obtain ⟨v0, d0, rfl, rfl, h0⟩ := trodAll_one hA
  obtain ⟨rfl, rfl⟩ := trodVars_none hV
  simp only [List.append_nil] at hW'
  have hlt : ∀ x ∈ p, x.block < W.heap.size := fun x hx => by simpa using hW'.lt x (by simpa using hx)
  have hargs0 : ∀ (W' : World), Below W.heap.size W W' → DataW.Trod enc Tryz.prog W' 0 (fun b => decide (b < W.heap.size)) true 61 v0 d0 p := fun W' hn => Below.trod NQ9_laid (by kernel_rfl) (of_decide_eq_true (by kernel_rfl)) h0 hn (fun x hx => hlt x (by simp [hx]))
  obtain ⟨f0, hf0⟩ := h0
  obtain ⟨m0, hm0⟩ := rd_bytes (P := Tryz.prog) @Tryz.underlying61 @Tryz.underlying5 (by kernel_rfl) hf0
  obtain ⟨a0, n0, c0, rfl⟩ := okWide_slice @Tryz.underlying61 (hval 0 61 v0 rfl rfl)
  refine (c_laws_FnBookGames m0 hm0.1).mono fun e W' ⟨he, hx⟩ => ?_
  exact ⟨_, he, _, _, _, [], _, [], hW', trodAll_mk1 (shut_bool @Tryz.underlying4 true), trodAll_mk1 (hargs0 W' hx), rfl, Below.frame hx _, fun h => by cases h⟩
theorem fnBookGames_f1 : Tryz.prog.funcNamed Rows.fnBookGamesRow.func = some 7 := by kernel_rfl
theorem fnBookGames_f2 : Tryz.f7.isInstance Tryz.prog Rows.fnBookGamesRow.origin Rows.fnBookGamesRow.targs := of_decide_eq_true (by kernel_rfl)
theorem fnBookGames_f3 : Tryz.f7.isWrapper Tryz.prog Rows.fnBookGamesRow.wrapper Rows.fnBookGamesRow.mainSum := by unfold Func.isWrapper; first | (rw [if_pos (by decide +kernel)]; kernel_rfl) | (rw [if_neg (by decide +kernel)]; exact ⟨rfl, rfl⟩)
theorem fnBookGames_f4 : joinedFacts Tryz.prog 7 Tryz.f7 Rows.fnBookGamesSpec Rows.fnBookGamesRow = true := by kernel_rfl
theorem fnBookGames_holds : Rows.FnBookGamesSaid :=
  OpenClaim.holds_of_wide 7 Tryz.f7 rfl rfl rfl rfl rfl rfl rfl ⟨rfl, rfl, rfl, rfl, rfl⟩ rfl rfl rfl rfl rfl fnBookGames_f1 Tryz.func7 fnBookGames_f4 fnBookGames_f2 fnBookGames_f3
    (fun os started H enc _ => fnBookGames_lifted os started H enc)
end Go.Proofs.YtcmfnlleikcpnaaGreat

/- The rows: whatever the input, the laws FnRuleTexts return true, and their arguments read as they did. -/
import Derived.Test.YthdmaamdlibjaaaDoorTie
import Derived.Test.YthdmaamdlibjaaaDoorCards
import Derived.Deep.DeepHandedRow
import Derived.SevenTiedAt
import Derived.Stop.LaidErr
import Derived.Test.YthdmaamdlibjaaaDoorZcA2
import Derived.ChangeMaps5
import Derived.Test.YthdmaamdlibjaaaDoorZcA3
import Derived.Test.YthdmaamdlibjaaaDoorZcA8
import Derived.Test.YthdmaamdlibjaaaDoorRows
set_option linter.unusedSimpArgs false
set_option linter.unusedVariables false
namespace Go.Proofs.YthdmaamdlibjaaaDoor
open Go.RowKit Go.ChangeShapes Go.WideShapes Go.ChangeAt
theorem NQ3_own : ownKnob Tryd.prog.godebug = none := by kernel_rfl
theorem NQ3_laid : laidOutB Tryd.prog = true := by kernel_rfl
section
variable {H : Type} {enc : TypeId × Value → H} {w : World} {spare : Nat → Bool} {held : Bool} {fuel : Nat} {x : DataW H × List MemPlace} {cs : List Value}
end
def NQ3_c1 : Array Value := #[.int .u8 0, .int .u8 1, .int .u8 28, .int .u8 2, .int .u8 29, .int .u8 14, .int .u8 24, .int .u8 3, .int .u8 30, .int .u8 22, .int .u8 20, .int .u8 15, .int .u8 25, .int .u8 17, .int .u8 4, .int .u8 8, .int .u8 31, .int .u8 27, .int .u8 13, .int .u8 23, .int .u8 21, .int .u8 19, .int .u8 16, .int .u8 7, .int .u8 26, .int .u8 12, .int .u8 18, .int .u8 6, .int .u8 11, .int .u8 5, .int .u8 10, .int .u8 9]
def NQ3_c2 : Array Value := #[.int .u8 0, .int .u8 1, .int .u8 56, .int .u8 2, .int .u8 57, .int .u8 49, .int .u8 28, .int .u8 3, .int .u8 61, .int .u8 58, .int .u8 42, .int .u8 50, .int .u8 38, .int .u8 29, .int .u8 17, .int .u8 4, .int .u8 62, .int .u8 47, .int .u8 59, .int .u8 36, .int .u8 45, .int .u8 43, .int .u8 51, .int .u8 22, .int .u8 53, .int .u8 39, .int .u8 33, .int .u8 30, .int .u8 24, .int .u8 18, .int .u8 12, .int .u8 5, .int .u8 63, .int .u8 55, .int .u8 48, .int .u8 27, .int .u8 60, .int .u8 41, .int .u8 37, .int .u8 16, .int .u8 46, .int .u8 35, .int .u8 44, .int .u8 21, .int .u8 52, .int .u8 32, .int .u8 23, .int .u8 11, .int .u8 54, .int .u8 26, .int .u8 40, .int .u8 15, .int .u8 34, .int .u8 20, .int .u8 31, .int .u8 10, .int .u8 25, .int .u8 14, .int .u8 19, .int .u8 9, .int .u8 13, .int .u8 8, .int .u8 7, .int .u8 6]
def NQ3_c0 : Array Value := #[.int .u64 1, .int .u64 10, .int .u64 100, .int .u64 1000, .int .u64 10000, .int .u64 100000, .int .u64 1000000, .int .u64 10000000, .int .u64 100000000, .int .u64 1000000000, .int .u64 10000000000, .int .u64 100000000000, .int .u64 1000000000000, .int .u64 10000000000000, .int .u64 100000000000000, .int .u64 1000000000000000, .int .u64 10000000000000000, .int .u64 100000000000000000, .int .u64 1000000000000000000, .int .u64 10000000000000000000]
def NQ3_put (cs : Array Value) : Obj → Obj
  | .cells _ t z => .cells cs t z
  | o => o
noncomputable def NQ3_laidWorld (os : Os) : World := { World.holding Tryd.prog os ⟨#[], #[], []⟩ with heap := ((((World.holding Tryd.prog os ⟨#[], #[], []⟩).heap).modify 1 (NQ3_put NQ3_c1)).modify 2 (NQ3_put NQ3_c2)).modify 0 (NQ3_put NQ3_c0) }
theorem NQ3_tab {W : World} (hL : laidMet Tryd.prog Rows.fnRuleTextsRow.laid W) : tabT.ok W undef :=
  Lib.tabIs_of_head (name := tabN) (k := .u64) (zs := Lib.pow10Tab) (g := 0) (by kernel_rfl) (by kernel_rfl : (Tryd.prog.globals[0]?).map (·.type) = some 115) Tryd.underlying115 Tryd.underlying85 (by kernel_rfl) (by kernel_rfl) hL.tail.tail
set_option maxRecDepth 100000 in
theorem fnRuleTexts_met (os : Os) : laidMet Tryd.prog Rows.fnRuleTextsRow.laid ((NQ3_laidWorld os).forCall (fun _ _ => 0) ⟨#[], #[.slice none 0 0], []⟩).memory :=
  laidMet_of_run' 80 (by kernel_rfl) (by kernel_rfl)
set_option maxRecDepth 100000 in
theorem fnRuleTexts_wrow (os : Os) {H : Type} (enc : TypeId × Value → H) :
    (OpenSpec.ofChange Rows.fnRuleTextsSpec).preRow enc Tryd.prog Tryd.f5 Rows.fnRuleTextsRow.domain false Rows.fnRuleTextsRow.laid ((NQ3_laidWorld os).forCall (fun _ _ => 0) ⟨#[], #[.slice none 0 0], []⟩).memory #[.slice none 0 0] := by
  have hw : ∃ x, DataW.whole enc Tryd.prog ((NQ3_laidWorld os).forCall (fun _ _ => 0) ⟨#[], #[.slice none 0 0], []⟩).memory Tryd.f5.params.toList (OpenSpec.ofChange Rows.fnRuleTextsSpec).vars false (#[.slice none 0 0] : Array Value).toList 12 = some x :=
    Option.isSome_iff_exists.1 (by kernel_rfl)
  obtain ⟨x, hx⟩ := hw
  exact OpenSpec.preRow_of_cond 12 hx rfl (fun k hk => by cases hk) (by kernel_rfl) (fnRuleTexts_met os)
set_option maxRecDepth 100000 in
theorem fnRuleTexts_lifted (os : Os) (started : os.Started) (H : Type) (enc : TypeId × Value → H) (F : Stop.Interp) :
    ReturnsInHanded {} Tryd.checked os 5 .any ((OpenSpec.ofChange Rows.fnRuleTextsSpec).preRow enc Tryd.prog Tryd.f5 Rows.fnRuleTextsRow.domain false Rows.fnRuleTextsRow.laid) (((OpenSpec.ofChange Rows.fnRuleTextsSpec).at F).post enc Tryd.prog Tryd.f5 false true false false) := by
  refine returnsInHanded_of_row (C := Tryd.checked) (s := OpenSpec.ofChange Rows.fnRuleTextsSpec) NQ3_own started (by kernel_rfl) Tryd.func5
    (witness_row_at (enc := enc) (C := Tryd.checked) false (NQ3_laidWorld os) #[.slice none 0 0] rfl (by kernel_rfl) (by kernel_rfl) (by kernel_rfl) (fnRuleTexts_wrow os enc)) ?_
  intro W base args ds gs before hval0 hW _ _ _ hL _ _
  have h_tab : tabT.ok W undef := NQ3_tab hL
  have hW' := hW
  obtain ⟨p, q, hA0, hV, rfl, _, _⟩ := hW
  have hA : DataW.TrodAll enc Tryd.prog W 0 (fun _ => true) true [22] args.toList ds p := hA0
  have hval : ∀ (j : Nat) t v, (#[22] : Array TypeId)[j]? = some t → args[j]? = some v → Value.okWide Tryd.prog W .any base t v := hval0
  obtain ⟨v0, d0, rfl, rfl, h0⟩ := trodAll_one hA
  obtain ⟨rfl, rfl⟩ := trodVars_none hV
  simp only [List.append_nil] at hW'
  have hlt : ∀ x ∈ p, x.block < W.heap.size := fun x hx => by simpa using hW'.lt x (by simpa using hx)
  have hargs0 : ∀ (W' : World), Below W.heap.size W W' → DataW.Trod enc Tryd.prog W' 0 (fun b => decide (b < W.heap.size)) true 22 v0 d0 p := fun W' hn => Below.trod NQ3_laid (by kernel_rfl) (of_decide_eq_true (by kernel_rfl)) h0 hn (fun x hx => hlt x (by simp [hx]))
  obtain ⟨f0, hf0⟩ := h0
  obtain ⟨m0, hm0⟩ := rd_bytes (P := Tryd.prog) @Tryd.underlying22 @Tryd.underlying5 (by kernel_rfl) hf0
  obtain ⟨a0, n0, c0, rfl⟩ := okWide_slice @Tryd.underlying22 (hval 0 22 v0 rfl rfl)
  refine (c_laws_FnRuleTexts m0 hm0.1 h_tab).mono fun e W' ⟨he, hx⟩ => ?_
  exact ⟨_, he, _, _, _, [], _, [], hW', trodAll_mk1 (shut_bool @Tryd.underlying4 true), trodAll_mk1 (hargs0 W' hx), rfl, Below.frame hx _, fun h => by cases h⟩
theorem fnRuleTexts_f1 : Tryd.prog.funcNamed Rows.fnRuleTextsRow.func = some 5 := by kernel_rfl
theorem fnRuleTexts_f2 : Tryd.f5.isInstance Tryd.prog Rows.fnRuleTextsRow.origin Rows.fnRuleTextsRow.targs := of_decide_eq_true (by kernel_rfl)
theorem fnRuleTexts_f3 : Tryd.f5.isWrapper Tryd.prog Rows.fnRuleTextsRow.wrapper Rows.fnRuleTextsRow.mainSum := by unfold Func.isWrapper; first | (rw [if_pos (by decide +kernel)]; kernel_rfl) | (rw [if_neg (by decide +kernel)]; exact ⟨rfl, rfl⟩)
theorem fnRuleTexts_f4 : joinedFacts Tryd.prog 5 Tryd.f5 Rows.fnRuleTextsSpec Rows.fnRuleTextsRow = true := by kernel_rfl
set_option maxRecDepth 100000 in
theorem fnRuleTexts_row_holds : Rows.FnRuleTextsSaid :=
  OpenClaim.holds_of_cond 5 Tryd.f5 rfl rfl rfl rfl rfl rfl rfl ⟨rfl, rfl, rfl, rfl, rfl⟩ rfl rfl rfl rfl rfl fnRuleTexts_f1 Tryd.func5 fnRuleTexts_f4 fnRuleTexts_f2 fnRuleTexts_f3
    (fun os started H enc _ F0 => by rw [OpenClaim.pre_eq_preRow]; exact fnRuleTexts_lifted os started H enc F0)
set_option maxRecDepth 100000 in
theorem fnRuleTextsCard_holds : Rows.FnRuleTextsCardSaid :=
  Claim7.holds_tied_plain_at .later [] [.data, .data, .data] true (true, "aeaaaa604d07ff224b42f4b57f0d3b8516c6c65109b50a4dd8bcf91051230a92") false
    fnRuleTexts_row_holds (fun _ h => by cases h) (by kernel_rfl) (fun _ h => by cases h) fnRuleTexts_row_tie rfl ⟨rfl, rfl⟩ (by kernel_rfl) rfl
    (fun f fn hf hfn => by
      obtain rfl : f = 5 := Option.some.inj (hf.symm.trans fnRuleTexts_f1)
      obtain rfl : fn = Tryd.f5 := (Option.some.inj (Tryd.func5.symm.trans hfn)).symm
      exact ⟨by kernel_rfl, fun j t ht => by
        have hm : t ∈ [22] := by
          have := Array.mem_of_getElem? ht
          rw [show Tryd.f5.params = #[22] from rfl] at this; simpa using this
        exact (show ∀ t ∈ [22], Tryd.prog.wantsStandIn t = false from by decide +kernel) t hm⟩)
    (by kernel_rfl)
end Go.Proofs.YthdmaamdlibjaaaDoor

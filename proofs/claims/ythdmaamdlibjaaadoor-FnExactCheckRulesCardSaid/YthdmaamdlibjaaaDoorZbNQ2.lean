/- The rows: whatever the input, the laws FnExactCheckRules return true, and their arguments read as they did. -/
import Derived.Test.YthdmaamdlibjaaaDoorTie
import Derived.Test.YthdmaamdlibjaaaDoorCards
import Derived.Deep.DeepHandedRow
import Derived.SevenTiedAt
import Derived.Stop.LaidErr
import Derived.Test.YthdmaamdlibjaaaDoorZbA2
import Derived.ChangeMaps5
import Derived.Test.YthdmaamdlibjaaaDoorZbA3
import Derived.Test.YthdmaamdlibjaaaDoorZbA6
import Derived.Test.YthdmaamdlibjaaaDoorRows
set_option linter.unusedSimpArgs false
set_option linter.unusedVariables false
namespace Go.Proofs.YthdmaamdlibjaaaDoor
open Go.RowKit Go.ChangeShapes Go.WideShapes Go.ChangeAt
theorem NQ2_own : ownKnob Tryd.prog.godebug = none := by kernel_rfl
theorem NQ2_laid : laidOutB Tryd.prog = true := by kernel_rfl
section
variable {H : Type} {enc : TypeId × Value → H} {w : World} {spare : Nat → Bool} {held : Bool} {fuel : Nat} {x : DataW H × List MemPlace} {cs : List Value}
end
def NQ2_c1 : Array Value := #[.int .u8 0, .int .u8 1, .int .u8 28, .int .u8 2, .int .u8 29, .int .u8 14, .int .u8 24, .int .u8 3, .int .u8 30, .int .u8 22, .int .u8 20, .int .u8 15, .int .u8 25, .int .u8 17, .int .u8 4, .int .u8 8, .int .u8 31, .int .u8 27, .int .u8 13, .int .u8 23, .int .u8 21, .int .u8 19, .int .u8 16, .int .u8 7, .int .u8 26, .int .u8 12, .int .u8 18, .int .u8 6, .int .u8 11, .int .u8 5, .int .u8 10, .int .u8 9]
def NQ2_c2 : Array Value := #[.int .u8 0, .int .u8 1, .int .u8 56, .int .u8 2, .int .u8 57, .int .u8 49, .int .u8 28, .int .u8 3, .int .u8 61, .int .u8 58, .int .u8 42, .int .u8 50, .int .u8 38, .int .u8 29, .int .u8 17, .int .u8 4, .int .u8 62, .int .u8 47, .int .u8 59, .int .u8 36, .int .u8 45, .int .u8 43, .int .u8 51, .int .u8 22, .int .u8 53, .int .u8 39, .int .u8 33, .int .u8 30, .int .u8 24, .int .u8 18, .int .u8 12, .int .u8 5, .int .u8 63, .int .u8 55, .int .u8 48, .int .u8 27, .int .u8 60, .int .u8 41, .int .u8 37, .int .u8 16, .int .u8 46, .int .u8 35, .int .u8 44, .int .u8 21, .int .u8 52, .int .u8 32, .int .u8 23, .int .u8 11, .int .u8 54, .int .u8 26, .int .u8 40, .int .u8 15, .int .u8 34, .int .u8 20, .int .u8 31, .int .u8 10, .int .u8 25, .int .u8 14, .int .u8 19, .int .u8 9, .int .u8 13, .int .u8 8, .int .u8 7, .int .u8 6]
def NQ2_c0 : Array Value := #[.int .u64 1, .int .u64 10, .int .u64 100, .int .u64 1000, .int .u64 10000, .int .u64 100000, .int .u64 1000000, .int .u64 10000000, .int .u64 100000000, .int .u64 1000000000, .int .u64 10000000000, .int .u64 100000000000, .int .u64 1000000000000, .int .u64 10000000000000, .int .u64 100000000000000, .int .u64 1000000000000000, .int .u64 10000000000000000, .int .u64 100000000000000000, .int .u64 1000000000000000000, .int .u64 10000000000000000000]
def NQ2_put (cs : Array Value) : Obj → Obj
  | .cells _ t z => .cells cs t z
  | o => o
noncomputable def NQ2_laidWorld (os : Os) : World := { World.holding Tryd.prog os ⟨#[], #[], []⟩ with heap := ((((World.holding Tryd.prog os ⟨#[], #[], []⟩).heap).modify 1 (NQ2_put NQ2_c1)).modify 2 (NQ2_put NQ2_c2)).modify 0 (NQ2_put NQ2_c0) }
theorem NQ2_tab {W : World} (hL : laidMet Tryd.prog Rows.fnExactCheckRulesRow.laid W) : tabT.ok W undef :=
  Lib.tabIs_of_head (name := tabN) (k := .u64) (zs := Lib.pow10Tab) (g := 0) (by kernel_rfl) (by kernel_rfl : (Tryd.prog.globals[0]?).map (·.type) = some 115) Tryd.underlying115 Tryd.underlying85 (by kernel_rfl) (by kernel_rfl) hL.tail.tail
set_option maxRecDepth 100000 in
theorem fnExactCheckRules_met (os : Os) : laidMet Tryd.prog Rows.fnExactCheckRulesRow.laid ((NQ2_laidWorld os).forCall (fun _ _ => 0) ⟨#[], #[.string ByteArray.empty], []⟩).memory :=
  laidMet_of_run' 80 (by kernel_rfl) (by kernel_rfl)
set_option maxRecDepth 100000 in
theorem fnExactCheckRules_wrow (os : Os) {H : Type} (enc : TypeId × Value → H) :
    (OpenSpec.ofChange Rows.fnExactCheckRulesSpec).preRow enc Tryd.prog Tryd.f4 Rows.fnExactCheckRulesRow.domain false Rows.fnExactCheckRulesRow.laid ((NQ2_laidWorld os).forCall (fun _ _ => 0) ⟨#[], #[.string ByteArray.empty], []⟩).memory #[.string ByteArray.empty] := by
  have hw : ∃ x, DataW.whole enc Tryd.prog ((NQ2_laidWorld os).forCall (fun _ _ => 0) ⟨#[], #[.string ByteArray.empty], []⟩).memory Tryd.f4.params.toList (OpenSpec.ofChange Rows.fnExactCheckRulesSpec).vars false (#[.string ByteArray.empty] : Array Value).toList 12 = some x :=
    Option.isSome_iff_exists.1 (by kernel_rfl)
  obtain ⟨x, hx⟩ := hw
  exact OpenSpec.preRow_of_cond 12 hx rfl (fun k hk => by cases hk) (by kernel_rfl) (fnExactCheckRules_met os)
set_option maxRecDepth 100000 in
theorem fnExactCheckRules_lifted (os : Os) (started : os.Started) (H : Type) (enc : TypeId × Value → H) (F : Stop.Interp) :
    ReturnsInHanded {} Tryd.checked os 4 .any ((OpenSpec.ofChange Rows.fnExactCheckRulesSpec).preRow enc Tryd.prog Tryd.f4 Rows.fnExactCheckRulesRow.domain false Rows.fnExactCheckRulesRow.laid) (((OpenSpec.ofChange Rows.fnExactCheckRulesSpec).at F).post enc Tryd.prog Tryd.f4 false true false false) := by
  refine returnsInHanded_of_row (C := Tryd.checked) (s := OpenSpec.ofChange Rows.fnExactCheckRulesSpec) NQ2_own started (by kernel_rfl) Tryd.func4
    (witness_row_at (enc := enc) (C := Tryd.checked) false (NQ2_laidWorld os) #[.string ByteArray.empty] rfl (by kernel_rfl) (by kernel_rfl) (by kernel_rfl) (fnExactCheckRules_wrow os enc)) ?_
  intro W base args ds gs before hval0 hW _ _ _ hL _ _
  have h_tab : tabT.ok W undef := NQ2_tab hL
  have hW' := hW
  obtain ⟨p, q, hA0, hV, rfl, _, _⟩ := hW
  have hA : DataW.TrodAll enc Tryd.prog W 0 (fun _ => true) true [9] args.toList ds p := hA0
  have hval : ∀ (j : Nat) t v, (#[9] : Array TypeId)[j]? = some t → args[j]? = some v → Value.okWide Tryd.prog W .any base t v := hval0
  obtain ⟨v0, d0, rfl, rfl, h0⟩ := trodAll_one hA
  obtain ⟨rfl, rfl⟩ := trodVars_none hV
  simp only [List.append_nil] at hW'
  have hlt : ∀ x ∈ p, x.block < W.heap.size := fun x hx => by simpa using hW'.lt x (by simpa using hx)
  have hargs0 : ∀ (W' : World), Below W.heap.size W W' → DataW.Trod enc Tryd.prog W' 0 (fun b => decide (b < W.heap.size)) true 9 v0 d0 p := fun W' hn => Below.trod NQ2_laid (by kernel_rfl) (of_decide_eq_true (by kernel_rfl)) h0 hn (fun x hx => hlt x (by simp [hx]))
  obtain ⟨s0, rfl, rfl, rfl, ws0⟩ := Go.ChangeMaps.open_string @Tryd.underlying9 (hval 0 9 v0 rfl rfl) h0
  obtain ⟨m0, rfl⟩ : ∃ l, s0 = sB l := ⟨s0.data.toList, (sB_eta s0).symm⟩
  refine (c_laws_FnExactCheckRules m0 h_tab).mono fun e W' ⟨he, hx⟩ => ?_
  exact ⟨_, he, _, _, _, [], _, [], hW', trodAll_mk1 (shut_bool @Tryd.underlying4 true), trodAll_mk1 (hargs0 W' hx), rfl, Below.frame hx _, fun h => by cases h⟩
theorem fnExactCheckRules_f1 : Tryd.prog.funcNamed Rows.fnExactCheckRulesRow.func = some 4 := by kernel_rfl
theorem fnExactCheckRules_f2 : Tryd.f4.isInstance Tryd.prog Rows.fnExactCheckRulesRow.origin Rows.fnExactCheckRulesRow.targs := of_decide_eq_true (by kernel_rfl)
theorem fnExactCheckRules_f3 : Tryd.f4.isWrapper Tryd.prog Rows.fnExactCheckRulesRow.wrapper Rows.fnExactCheckRulesRow.mainSum := by unfold Func.isWrapper; first | (rw [if_pos (by decide +kernel)]; kernel_rfl) | (rw [if_neg (by decide +kernel)]; exact ⟨rfl, rfl⟩)
theorem fnExactCheckRules_f4 : joinedFacts Tryd.prog 4 Tryd.f4 Rows.fnExactCheckRulesSpec Rows.fnExactCheckRulesRow = true := by kernel_rfl
set_option maxRecDepth 100000 in
theorem fnExactCheckRules_row_holds : Rows.FnExactCheckRulesSaid :=
  OpenClaim.holds_of_cond 4 Tryd.f4 rfl rfl rfl rfl rfl rfl rfl ⟨rfl, rfl, rfl, rfl, rfl⟩ rfl rfl rfl rfl rfl fnExactCheckRules_f1 Tryd.func4 fnExactCheckRules_f4 fnExactCheckRules_f2 fnExactCheckRules_f3
    (fun os started H enc _ F0 => by rw [OpenClaim.pre_eq_preRow]; exact fnExactCheckRules_lifted os started H enc F0)
set_option maxRecDepth 100000 in
theorem fnExactCheckRulesCard_holds : Rows.FnExactCheckRulesCardSaid :=
  Claim7.holds_tied_plain_at .later [] [.data, .data, .data] true (true, "aeaaaa604d07ff224b42f4b57f0d3b8516c6c65109b50a4dd8bcf91051230a92") false
    fnExactCheckRules_row_holds (fun _ h => by cases h) (by kernel_rfl) (fun _ h => by cases h) fnExactCheckRules_row_tie rfl ⟨rfl, rfl⟩ (by kernel_rfl) rfl
    (fun f fn hf hfn => by
      obtain rfl : f = 4 := Option.some.inj (hf.symm.trans fnExactCheckRules_f1)
      obtain rfl : fn = Tryd.f4 := (Option.some.inj (Tryd.func4.symm.trans hfn)).symm
      exact ⟨by kernel_rfl, fun j t ht => by
        have hm : t ∈ [9] := by
          have := Array.mem_of_getElem? ht
          rw [show Tryd.f4.params = #[9] from rfl] at this; simpa using this
        exact (show ∀ t ∈ [9], Tryd.prog.wantsStandIn t = false from by decide +kernel) t hm⟩)
    (by kernel_rfl)
end Go.Proofs.YthdmaamdlibjaaaDoor

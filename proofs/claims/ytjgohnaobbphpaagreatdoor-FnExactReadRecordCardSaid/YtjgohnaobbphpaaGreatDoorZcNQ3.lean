/- The rows: whatever the input, the laws FnExactReadRecord return true, and their arguments read as they did. -/
import Derived.Test.YtjgohnaobbphpaaGreatDoorTie
import Derived.Test.YtjgohnaobbphpaaGreatDoorCards
import Derived.Deep.DeepHandedRow
import Derived.SevenTiedAt
import Derived.Stop.LaidErr
import Derived.Test.YtjgohnaobbphpaaGreatDoorZcA2
import Derived.ChangeMaps5
import Derived.Test.YtjgohnaobbphpaaGreatDoorZcA3
import Derived.Test.YtjgohnaobbphpaaGreatDoorZcA10
import Derived.Test.YtjgohnaobbphpaaGreatDoorRows
set_option linter.unusedSimpArgs false
set_option linter.unusedVariables false
namespace Go.Proofs.YtjgohnaobbphpaaGreatDoor
open Go.RowKit Go.ChangeShapes Go.WideShapes Go.ChangeAt
theorem NQ3_own : ownKnob Tryz.prog.godebug = none := by kernel_rfl
theorem NQ3_laid : laidOutB Tryz.prog = true := by kernel_rfl
section
variable {H : Type} {enc : TypeId × Value → H} {w : World} {spare : Nat → Bool} {held : Bool} {fuel : Nat} {x : DataW H × List MemPlace} {cs : List Value}
end
def NQ3_c1 : Array Value := #[.int .u8 0, .int .u8 1, .int .u8 28, .int .u8 2, .int .u8 29, .int .u8 14, .int .u8 24, .int .u8 3, .int .u8 30, .int .u8 22, .int .u8 20, .int .u8 15, .int .u8 25, .int .u8 17, .int .u8 4, .int .u8 8, .int .u8 31, .int .u8 27, .int .u8 13, .int .u8 23, .int .u8 21, .int .u8 19, .int .u8 16, .int .u8 7, .int .u8 26, .int .u8 12, .int .u8 18, .int .u8 6, .int .u8 11, .int .u8 5, .int .u8 10, .int .u8 9]
def NQ3_c2 : Array Value := #[.int .u8 0, .int .u8 1, .int .u8 56, .int .u8 2, .int .u8 57, .int .u8 49, .int .u8 28, .int .u8 3, .int .u8 61, .int .u8 58, .int .u8 42, .int .u8 50, .int .u8 38, .int .u8 29, .int .u8 17, .int .u8 4, .int .u8 62, .int .u8 47, .int .u8 59, .int .u8 36, .int .u8 45, .int .u8 43, .int .u8 51, .int .u8 22, .int .u8 53, .int .u8 39, .int .u8 33, .int .u8 30, .int .u8 24, .int .u8 18, .int .u8 12, .int .u8 5, .int .u8 63, .int .u8 55, .int .u8 48, .int .u8 27, .int .u8 60, .int .u8 41, .int .u8 37, .int .u8 16, .int .u8 46, .int .u8 35, .int .u8 44, .int .u8 21, .int .u8 52, .int .u8 32, .int .u8 23, .int .u8 11, .int .u8 54, .int .u8 26, .int .u8 40, .int .u8 15, .int .u8 34, .int .u8 20, .int .u8 31, .int .u8 10, .int .u8 25, .int .u8 14, .int .u8 19, .int .u8 9, .int .u8 13, .int .u8 8, .int .u8 7, .int .u8 6]
def NQ3_c0 : Array Value := #[.int .u64 1, .int .u64 10, .int .u64 100, .int .u64 1000, .int .u64 10000, .int .u64 100000, .int .u64 1000000, .int .u64 10000000, .int .u64 100000000, .int .u64 1000000000, .int .u64 10000000000, .int .u64 100000000000, .int .u64 1000000000000, .int .u64 10000000000000, .int .u64 100000000000000, .int .u64 1000000000000000, .int .u64 10000000000000000, .int .u64 100000000000000000, .int .u64 1000000000000000000, .int .u64 10000000000000000000]
def NQ3_put (cs : Array Value) : Obj → Obj
  | .cells _ t z => .cells cs t z
  | o => o
noncomputable def NQ3_laidWorld (os : Os) : World := { World.holding Tryz.prog os ⟨#[], #[], []⟩ with heap := ((((World.holding Tryz.prog os ⟨#[], #[], []⟩).heap).modify 1 (NQ3_put NQ3_c1)).modify 2 (NQ3_put NQ3_c2)).modify 0 (NQ3_put NQ3_c0) }
theorem NQ3_tab {W : World} (hL : laidMet Tryz.prog Rows.fnExactReadRecordRow.laid W) : tabT.ok W undef :=
  Lib.tabIs_of_head (name := tabN) (k := .u64) (zs := Lib.pow10Tab) (g := 0) (by kernel_rfl) (by kernel_rfl : (Tryz.prog.globals[0]?).map (·.type) = some 230) Tryz.underlying230 Tryz.underlying139 (by kernel_rfl) (by kernel_rfl) hL.tail.tail
set_option maxRecDepth 100000 in
theorem fnExactReadRecord_met (os : Os) : laidMet Tryz.prog Rows.fnExactReadRecordRow.laid ((NQ3_laidWorld os).forCall (fun _ _ => 0) ⟨#[], #[.string ByteArray.empty], []⟩).memory :=
  laidMet_of_run' 80 (by kernel_rfl) (by kernel_rfl)
set_option maxRecDepth 100000 in
theorem fnExactReadRecord_wrow (os : Os) {H : Type} (enc : TypeId × Value → H) :
    (OpenSpec.ofChange Rows.fnExactReadRecordSpec).preRow enc Tryz.prog Tryz.f5 Rows.fnExactReadRecordRow.domain false Rows.fnExactReadRecordRow.laid ((NQ3_laidWorld os).forCall (fun _ _ => 0) ⟨#[], #[.string ByteArray.empty], []⟩).memory #[.string ByteArray.empty] := by
  have hw : ∃ x, DataW.whole enc Tryz.prog ((NQ3_laidWorld os).forCall (fun _ _ => 0) ⟨#[], #[.string ByteArray.empty], []⟩).memory Tryz.f5.params.toList (OpenSpec.ofChange Rows.fnExactReadRecordSpec).vars false (#[.string ByteArray.empty] : Array Value).toList 12 = some x :=
    Option.isSome_iff_exists.1 (by kernel_rfl)
  obtain ⟨x, hx⟩ := hw
  exact OpenSpec.preRow_of_cond 12 hx rfl (fun k hk => by cases hk) (by kernel_rfl) (fnExactReadRecord_met os)
set_option maxRecDepth 100000 in
theorem fnExactReadRecord_lifted (os : Os) (started : os.Started) (H : Type) (enc : TypeId × Value → H) (F : Stop.Interp) :
    ReturnsInHanded {} Tryz.checked os 5 .any ((OpenSpec.ofChange Rows.fnExactReadRecordSpec).preRow enc Tryz.prog Tryz.f5 Rows.fnExactReadRecordRow.domain false Rows.fnExactReadRecordRow.laid) (((OpenSpec.ofChange Rows.fnExactReadRecordSpec).at F).post enc Tryz.prog Tryz.f5 false true false false) := by
  refine returnsInHanded_of_row (C := Tryz.checked) (s := OpenSpec.ofChange Rows.fnExactReadRecordSpec) NQ3_own started (by kernel_rfl) Tryz.func5
    (witness_row_at (enc := enc) (C := Tryz.checked) false (NQ3_laidWorld os) #[.string ByteArray.empty] rfl (by kernel_rfl) (by kernel_rfl) (by kernel_rfl) (fnExactReadRecord_wrow os enc)) ?_
  intro W base args ds gs before hval0 hW _ _ _ hL _ _
  have h_tab : tabT.ok W undef := NQ3_tab hL
  have hW' := hW
  obtain ⟨p, q, hA0, hV, rfl, _, _⟩ := hW
  have hA : DataW.TrodAll enc Tryz.prog W 0 (fun _ => true) true [9] args.toList ds p := hA0
  have hval : ∀ (j : Nat) t v, (#[9] : Array TypeId)[j]? = some t → args[j]? = some v → Value.okWide Tryz.prog W .any base t v := hval0
  obtain ⟨v0, d0, rfl, rfl, h0⟩ := trodAll_one hA
  obtain ⟨rfl, rfl⟩ := trodVars_none hV
  simp only [List.append_nil] at hW'
  have hlt : ∀ x ∈ p, x.block < W.heap.size := fun x hx => by simpa using hW'.lt x (by simpa using hx)
  have hargs0 : ∀ (W' : World), Below W.heap.size W W' → DataW.Trod enc Tryz.prog W' 0 (fun b => decide (b < W.heap.size)) true 9 v0 d0 p := fun W' hn => Below.trod NQ3_laid (by kernel_rfl) (of_decide_eq_true (by kernel_rfl)) h0 hn (fun x hx => hlt x (by simp [hx]))
  obtain ⟨s0, rfl, rfl, rfl, ws0⟩ := Go.ChangeMaps.open_string @Tryz.underlying9 (hval 0 9 v0 rfl rfl) h0
  obtain ⟨m0, rfl⟩ : ∃ l, s0 = sB l := ⟨s0.data.toList, (sB_eta s0).symm⟩
  refine (c_laws_FnExactReadRecord m0 h_tab).mono fun e W' ⟨he, hx⟩ => ?_
  exact ⟨_, he, _, _, _, [], _, [], hW', trodAll_mk1 (shut_bool @Tryz.underlying4 true), trodAll_mk1 (hargs0 W' hx), rfl, Below.frame hx _, fun h => by cases h⟩
theorem fnExactReadRecord_f1 : Tryz.prog.funcNamed Rows.fnExactReadRecordRow.func = some 5 := by kernel_rfl
theorem fnExactReadRecord_f2 : Tryz.f5.isInstance Tryz.prog Rows.fnExactReadRecordRow.origin Rows.fnExactReadRecordRow.targs := of_decide_eq_true (by kernel_rfl)
theorem fnExactReadRecord_f3 : Tryz.f5.isWrapper Tryz.prog Rows.fnExactReadRecordRow.wrapper Rows.fnExactReadRecordRow.mainSum := by unfold Func.isWrapper; first | (rw [if_pos (by decide +kernel)]; kernel_rfl) | (rw [if_neg (by decide +kernel)]; exact ⟨rfl, rfl⟩)
theorem fnExactReadRecord_f4 : joinedFacts Tryz.prog 5 Tryz.f5 Rows.fnExactReadRecordSpec Rows.fnExactReadRecordRow = true := by kernel_rfl
set_option maxRecDepth 100000 in
theorem fnExactReadRecord_row_holds : Rows.FnExactReadRecordSaid :=
  OpenClaim.holds_of_cond 5 Tryz.f5 rfl rfl rfl rfl rfl rfl rfl ⟨rfl, rfl, rfl, rfl, rfl⟩ rfl rfl rfl rfl rfl fnExactReadRecord_f1 Tryz.func5 fnExactReadRecord_f4 fnExactReadRecord_f2 fnExactReadRecord_f3
    (fun os started H enc _ F0 => by rw [OpenClaim.pre_eq_preRow]; exact fnExactReadRecord_lifted os started H enc F0)
set_option maxRecDepth 100000 in
theorem fnExactReadRecordCard_holds : Rows.FnExactReadRecordCardSaid :=
  Claim7.holds_tied_plain_at .later [] [.data, .data, .data] true (true, "c155937754f0643ff84c5b4a489a44c6299357d1e1a97638edccd3c63fd74ec6") false
    fnExactReadRecord_row_holds (fun _ h => by cases h) (by kernel_rfl) (fun _ h => by cases h) fnExactReadRecord_row_tie rfl ⟨rfl, rfl⟩ (by kernel_rfl) rfl
    (fun f fn hf hfn => by
      obtain rfl : f = 5 := Option.some.inj (hf.symm.trans fnExactReadRecord_f1)
      obtain rfl : fn = Tryz.f5 := (Option.some.inj (Tryz.func5.symm.trans hfn)).symm
      exact ⟨by kernel_rfl, fun j t ht => by
        have hm : t ∈ [9] := by
          have := Array.mem_of_getElem? ht
          rw [show Tryz.f5.params = #[9] from rfl] at this; simpa using this
        exact (show ∀ t ∈ [9], Tryz.prog.wantsStandIn t = false from by decide +kernel) t hm⟩)
    (by kernel_rfl)
end Go.Proofs.YtjgohnaobbphpaaGreatDoor

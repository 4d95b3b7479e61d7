/- The rows: whatever the input, the laws FnExactReadBook return true, and their arguments read as they did. -/
import Derived.Test.YtjklnidbndopiaaGreatDoorTie
import Derived.Test.YtjklnidbndopiaaGreatDoorCards
import Derived.Deep.DeepHandedRow
import Derived.SevenTiedAt
import Derived.Stop.LaidErr
import Derived.Test.YtjklnidbndopiaaGreatDoorZbA2
import Derived.ChangeMaps5
import Derived.Test.YtjklnidbndopiaaGreatDoorZbA4
import Derived.Test.YtjklnidbndopiaaGreatDoorZbA10
import Derived.Test.YtjklnidbndopiaaGreatDoorRows
set_option linter.unusedSimpArgs false
set_option linter.unusedVariables false
namespace Go.Proofs.YtjklnidbndopiaaGreatDoor
open Go.RowKit Go.ChangeShapes Go.WideShapes Go.ChangeAt
theorem NQ2_own : ownKnob Tryz.prog.godebug = none := by kernel_rfl
theorem NQ2_laid : laidOutB Tryz.prog = true := by kernel_rfl
section
variable {H : Type} {enc : TypeId × Value → H} {w : World} {spare : Nat → Bool} {held : Bool} {fuel : Nat} {x : DataW H × List MemPlace} {cs : List Value}
end
def NQ2_c1 : Array Value := #[.int .u8 0, .int .u8 1, .int .u8 28, .int .u8 2, .int .u8 29, .int .u8 14, .int .u8 24, .int .u8 3, .int .u8 30, .int .u8 22, .int .u8 20, .int .u8 15, .int .u8 25, .int .u8 17, .int .u8 4, .int .u8 8, .int .u8 31, .int .u8 27, .int .u8 13, .int .u8 23, .int .u8 21, .int .u8 19, .int .u8 16, .int .u8 7, .int .u8 26, .int .u8 12, .int .u8 18, .int .u8 6, .int .u8 11, .int .u8 5, .int .u8 10, .int .u8 9]
def NQ2_c2 : Array Value := #[.int .u8 0, .int .u8 1, .int .u8 56, .int .u8 2, .int .u8 57, .int .u8 49, .int .u8 28, .int .u8 3, .int .u8 61, .int .u8 58, .int .u8 42, .int .u8 50, .int .u8 38, .int .u8 29, .int .u8 17, .int .u8 4, .int .u8 62, .int .u8 47, .int .u8 59, .int .u8 36, .int .u8 45, .int .u8 43, .int .u8 51, .int .u8 22, .int .u8 53, .int .u8 39, .int .u8 33, .int .u8 30, .int .u8 24, .int .u8 18, .int .u8 12, .int .u8 5, .int .u8 63, .int .u8 55, .int .u8 48, .int .u8 27, .int .u8 60, .int .u8 41, .int .u8 37, .int .u8 16, .int .u8 46, .int .u8 35, .int .u8 44, .int .u8 21, .int .u8 52, .int .u8 32, .int .u8 23, .int .u8 11, .int .u8 54, .int .u8 26, .int .u8 40, .int .u8 15, .int .u8 34, .int .u8 20, .int .u8 31, .int .u8 10, .int .u8 25, .int .u8 14, .int .u8 19, .int .u8 9, .int .u8 13, .int .u8 8, .int .u8 7, .int .u8 6]
def NQ2_c0 : Array Value := #[.int .u64 1, .int .u64 10, .int .u64 100, .int .u64 1000, .int .u64 10000, .int .u64 100000, .int .u64 1000000, .int .u64 10000000, .int .u64 100000000, .int .u64 1000000000, .int .u64 10000000000, .int .u64 100000000000, .int .u64 1000000000000, .int .u64 10000000000000, .int .u64 100000000000000, .int .u64 1000000000000000, .int .u64 10000000000000000, .int .u64 100000000000000000, .int .u64 1000000000000000000, .int .u64 10000000000000000000]
def NQ2_put (cs : Array Value) : Obj → Obj
  | .cells _ t z => .cells cs t z
  | o => o
noncomputable def NQ2_laidWorld (os : Os) : World := { World.holding Tryz.prog os ⟨#[], #[], []⟩ with heap := ((((World.holding Tryz.prog os ⟨#[], #[], []⟩).heap).modify 1 (NQ2_put NQ2_c1)).modify 2 (NQ2_put NQ2_c2)).modify 0 (NQ2_put NQ2_c0) }
theorem NQ2_tab {W : World} (hL : laidMet Tryz.prog Rows.fnExactReadBookRow.laid W) : tabT.ok W undef :=
  Lib.tabIs_of_head (name := tabN) (k := .u64) (zs := Lib.pow10Tab) (g := 0) (by kernel_rfl) (by kernel_rfl : (Tryz.prog.globals[0]?).map (·.type) = some 242) Tryz.underlying242 Tryz.underlying142 (by kernel_rfl) (by kernel_rfl) hL.tail.tail
set_option maxRecDepth 100000 in
theorem fnExactReadBook_met (os : Os) : laidMet Tryz.prog Rows.fnExactReadBookRow.laid ((NQ2_laidWorld os).forCall (fun _ _ => 0) ⟨#[], #[.string ByteArray.empty], []⟩).memory :=
  laidMet_of_run' 80 (by kernel_rfl) (by kernel_rfl)
set_option maxRecDepth 100000 in
theorem fnExactReadBook_wrow (os : Os) {H : Type} (enc : TypeId × Value → H) :
    (OpenSpec.ofChange Rows.fnExactReadBookSpec).preRow enc Tryz.prog Tryz.f4 Rows.fnExactReadBookRow.domain false Rows.fnExactReadBookRow.laid ((NQ2_laidWorld os).forCall (fun _ _ => 0) ⟨#[], #[.string ByteArray.empty], []⟩).memory #[.string ByteArray.empty] := by
  have hw : ∃ x, DataW.whole enc Tryz.prog ((NQ2_laidWorld os).forCall (fun _ _ => 0) ⟨#[], #[.string ByteArray.empty], []⟩).memory Tryz.f4.params.toList (OpenSpec.ofChange Rows.fnExactReadBookSpec).vars false (#[.string ByteArray.empty] : Array Value).toList 12 = some x :=
    Option.isSome_iff_exists.1 (by kernel_rfl)
  obtain ⟨x, hx⟩ := hw
  exact OpenSpec.preRow_of_cond 12 hx rfl (fun k hk => by cases hk) (by kernel_rfl) (fnExactReadBook_met os)
set_option maxRecDepth 100000 in
theorem fnExactReadBook_lifted (os : Os) (started : os.Started) (H : Type) (enc : TypeId × Value → H) (F : Stop.Interp) :
    ReturnsInHanded {} Tryz.checked os 4 .any ((OpenSpec.ofChange Rows.fnExactReadBookSpec).preRow enc Tryz.prog Tryz.f4 Rows.fnExactReadBookRow.domain false Rows.fnExactReadBookRow.laid) (((OpenSpec.ofChange Rows.fnExactReadBookSpec).at F).post enc Tryz.prog Tryz.f4 false true false false) := by
  refine returnsInHanded_of_row (C := Tryz.checked) (s := OpenSpec.ofChange Rows.fnExactReadBookSpec) NQ2_own started (by kernel_rfl) Tryz.func4
    (witness_row_at (enc := enc) (C := Tryz.checked) false (NQ2_laidWorld os) #[.string ByteArray.empty] rfl (by kernel_rfl) (by kernel_rfl) (by kernel_rfl) (fnExactReadBook_wrow os enc)) ?_
  intro W base args ds gs before hval0 hW _ _ _ hL _ _
  have h_tab : tabT.ok W undef := NQ2_tab hL
  have hW' := hW
  obtain ⟨p, q, hA0, hV, rfl, _, _⟩ := hW
  have hA : DataW.TrodAll enc Tryz.prog W 0 (fun _ => true) true [9] args.toList ds p := hA0
  have hval : ∀ (j : Nat) t v, (#[9] : Array TypeId)[j]? = some t → args[j]? = some v → Value.okWide Tryz.prog W .any base t v := hval0
  obtain ⟨v0, d0, rfl, rfl, h0⟩ := trodAll_one hA
  obtain ⟨rfl, rfl⟩ := trodVars_none hV
  simp only [List.append_nil] at hW'
  have hlt : ∀ x ∈ p, x.block < W.heap.size := fun x hx => by simpa using hW'.lt x (by simpa using hx)
  have hargs0 : ∀ (W' : World), Below W.heap.size W W' → DataW.Trod enc Tryz.prog W' 0 (fun b => decide (b < W.heap.size)) true 9 v0 d0 p := fun W' hn => Below.trod NQ2_laid (by kernel_rfl) (of_decide_eq_true (by kernel_rfl)) h0 hn (fun x hx => hlt x (by simp [hx]))
  obtain ⟨s0, rfl, rfl, rfl, ws0⟩ := Go.ChangeMaps.open_string @Tryz.underlying9 (hval 0 9 v0 rfl rfl) h0
  obtain ⟨m0, rfl⟩ : ∃ l, s0 = sB l := ⟨s0.data.toList, (sB_eta s0).symm⟩
  refine (c_laws_FnExactReadBook m0 h_tab).mono fun e W' ⟨he, hx⟩ => ?_
  exact ⟨_, he, _, _, _, [], _, [], hW', trodAll_mk1 (shut_bool @Tryz.underlying4 true), trodAll_mk1 (hargs0 W' hx), rfl, Below.frame hx _, fun h => by cases h⟩
theorem fnExactReadBook_f1 : Tryz.prog.funcNamed Rows.fnExactReadBookRow.func = some 4 := by kernel_rfl
theorem fnExactReadBook_f2 : Tryz.f4.isInstance Tryz.prog Rows.fnExactReadBookRow.origin Rows.fnExactReadBookRow.targs := of_decide_eq_true (by kernel_rfl)
theorem fnExactReadBook_f3 : Tryz.f4.isWrapper Tryz.prog Rows.fnExactReadBookRow.wrapper Rows.fnExactReadBookRow.mainSum := by unfold Func.isWrapper; first | (rw [if_pos (by decide +kernel)]; kernel_rfl) | (rw [if_neg (by decide +kernel)]; exact ⟨rfl, rfl⟩)
theorem fnExactReadBook_f4 : joinedFacts Tryz.prog 4 Tryz.f4 Rows.fnExactReadBookSpec Rows.fnExactReadBookRow = true := by kernel_rfl
set_option maxRecDepth 100000 in
theorem fnExactReadBook_row_holds : Rows.FnExactReadBookSaid :=
  OpenClaim.holds_of_cond 4 Tryz.f4 rfl rfl rfl rfl rfl rfl rfl ⟨rfl, rfl, rfl, rfl, rfl⟩ rfl rfl rfl rfl rfl fnExactReadBook_f1 Tryz.func4 fnExactReadBook_f4 fnExactReadBook_f2 fnExactReadBook_f3
    (fun os started H enc _ F0 => by rw [OpenClaim.pre_eq_preRow]; exact fnExactReadBook_lifted os started H enc F0)
set_option maxRecDepth 100000 in
theorem fnExactReadBookCard_holds : Rows.FnExactReadBookCardSaid :=
  Claim7.holds_tied_plain_at .later [] [.data, .data, .data] true (true, "d29c4d75d1b53a7167e0b74afe20591982ebc55190f9b38c64685a87ebe3c31f") false
    fnExactReadBook_row_holds (fun _ h => by cases h) (by kernel_rfl) (fun _ h => by cases h) fnExactReadBook_row_tie rfl ⟨rfl, rfl⟩ (by kernel_rfl) rfl
    (fun f fn hf hfn => by
      obtain rfl : f = 4 := Option.some.inj (hf.symm.trans fnExactReadBook_f1)
      obtain rfl : fn = Tryz.f4 := (Option.some.inj (Tryz.func4.symm.trans hfn)).symm
      exact ⟨by kernel_rfl, fun j t ht => by
        have hm : t ∈ [9] := by
          have := Array.mem_of_getElem? ht
          rw [show Tryz.f4.params = #[9] from rfl] at this; simpa using this
        exact (show ∀ t ∈ [9], Tryz.prog.wantsStandIn t = false from by decide +kernel) t hm⟩)
    (by kernel_rfl)
end Go.Proofs.YtjklnidbndopiaaGreatDoor

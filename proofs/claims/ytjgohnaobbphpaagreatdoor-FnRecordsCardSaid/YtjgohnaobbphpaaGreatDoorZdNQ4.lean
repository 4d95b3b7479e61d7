/- The rows: whatever the input, the laws FnRecords return true, and their arguments read as they did. -/
import Derived.Test.YtjgohnaobbphpaaGreatDoorTie
import Derived.Test.YtjgohnaobbphpaaGreatDoorCards
import Derived.Deep.DeepHandedRow
import Derived.SevenTiedAt
import Derived.Stop.LaidErr
import Derived.Test.YtjgohnaobbphpaaGreatDoorZdA2
import Derived.ChangeMaps5
import Derived.Test.YtjgohnaobbphpaaGreatDoorZdA4
import Derived.Test.YtjgohnaobbphpaaGreatDoorZdA13
import Derived.Test.YtjgohnaobbphpaaGreatDoorRows
set_option linter.unusedSimpArgs false
set_option linter.unusedVariables false
namespace Go.Proofs.YtjgohnaobbphpaaGreatDoor
open Go.RowKit Go.ChangeShapes Go.WideShapes Go.ChangeAt
theorem NQ4_own:ownKnob Tryz.prog.godebug=none:=by kernel_rfl
theorem NQ4_laid:laidOutB Tryz.prog=true:=by kernel_rfl
section
variable {H : Type} {enc : TypeId × Value → H} {w : World} {spare : Nat → Bool} {held : Bool} {fuel : Nat} {x : DataW H × List MemPlace} {cs : List Value}
end
def NQ4_c1:Array Value:=#[.int .u8 0,.int .u8 1,.int .u8 28,.int .u8 2,.int .u8 29,.int .u8 14,.int .u8 24,.int .u8 3,.int .u8 30,.int .u8 22,.int .u8 20,.int .u8 15,.int .u8 25,.int .u8 17,.int .u8 4,.int .u8 8,.int .u8 31,.int .u8 27,.int .u8 13,.int .u8 23,.int .u8 21,.int .u8 19,.int .u8 16,.int .u8 7,.int .u8 26,.int .u8 12,.int .u8 18,.int .u8 6,.int .u8 11,.int .u8 5,.int .u8 10,.int .u8 9]
def NQ4_c2:Array Value:=#[.int .u8 0,.int .u8 1,.int .u8 56,.int .u8 2,.int .u8 57,.int .u8 49,.int .u8 28,.int .u8 3,.int .u8 61,.int .u8 58,.int .u8 42,.int .u8 50,.int .u8 38,.int .u8 29,.int .u8 17,.int .u8 4,.int .u8 62,.int .u8 47,.int .u8 59,.int .u8 36,.int .u8 45,.int .u8 43,.int .u8 51,.int .u8 22,.int .u8 53,.int .u8 39,.int .u8 33,.int .u8 30,.int .u8 24,.int .u8 18,.int .u8 12,.int .u8 5,.int .u8 63,.int .u8 55,.int .u8 48,.int .u8 27,.int .u8 60,.int .u8 41,.int .u8 37,.int .u8 16,.int .u8 46,.int .u8 35,.int .u8 44,.int .u8 21,.int .u8 52,.int .u8 32,.int .u8 23,.int .u8 11,.int .u8 54,.int .u8 26,.int .u8 40,.int .u8 15,.int .u8 34,.int .u8 20,.int .u8 31,.int .u8 10,.int .u8 25,.int .u8 14,.int .u8 19,.int .u8 9,.int .u8 13,.int .u8 8,.int .u8 7,.int .u8 6]
def NQ4_c0:Array Value:=#[.int .u64 1,.int .u64 10,.int .u64 100,.int .u64 1000,.int .u64 10000,.int .u64 100000,.int .u64 1000000,.int .u64 10000000,.int .u64 100000000,.int .u64 1000000000,.int .u64 10000000000,.int .u64 100000000000,.int .u64 1000000000000,.int .u64 10000000000000,.int .u64 100000000000000,.int .u64 1000000000000000,.int .u64 10000000000000000,.int .u64 100000000000000000,.int .u64 1000000000000000000,.int .u64 10000000000000000000]
def b7f(cs:Array Value):Obj->Obj
  | .cells _ t z=>.cells cs t z
  | o=>o
noncomputable def NQ4_laidWorld (os:Os):World:={ World.holding Tryz.prog os ⟨#[],#[],[]⟩ with heap:=((((World.holding Tryz.prog os ⟨#[],#[],[]⟩).heap).modify 1 (b7f NQ4_c1)).modify 2 (b7f NQ4_c2)).modify 0 (b7f NQ4_c0) }
theorem NQ4_tab{W:World}(hL:laidMet Tryz.prog Rows.fnRecordsRow.laid W):tabT.ok W undef :=
  Lib.tabIs_of_head (name:=tabN) (k:=.u64) (zs:=Lib.pow10Tab) (g:=0) (by kernel_rfl) (by kernel_rfl:(Tryz.prog.globals[0]?).map (·.type)=some 230) Tryz.underlying230 Tryz.underlying139 (by kernel_rfl) (by kernel_rfl) hL.tail.tail
set_option maxRecDepth 100000 in
theorem b1x(os:Os):laidMet Tryz.prog Rows.fnRecordsRow.laid ((NQ4_laidWorld os).forCall (λ_ _=>0) ⟨#[],#[.slice none 0 0],[]⟩).memory :=
  laidMet_of_run' 80 (by kernel_rfl) (by kernel_rfl)
set_option maxRecDepth 100000 in
theorem b0y (os : Os) {H : Type} (enc : TypeId × Value → H) :
    (OpenSpec.ofChange Rows.fnRecordsSpec).preRow enc Tryz.prog Tryz.f6 Rows.fnRecordsRow.domain false Rows.fnRecordsRow.laid ((NQ4_laidWorld os).forCall (λ_ _=>0) ⟨#[],#[.slice none 0 0],[]⟩).memory #[.slice none 0 0]:=by
  have hw:∃ x,DataW.whole enc Tryz.prog ((NQ4_laidWorld os).forCall (λ_ _=>0) ⟨#[],#[.slice none 0 0],[]⟩).memory Tryz.f6.params.toList (OpenSpec.ofChange Rows.fnRecordsSpec).vars false (#[.slice none 0 0]:Array Value).toList 12=some x :=
    Option.isSome_iff_exists.1 (by kernel_rfl)
  obtain⟨x,hx⟩:=hw
  exact OpenSpec.preRow_of_cond 12 hx rfl (λk hk=>by cases hk) (by kernel_rfl) (b1x os)
set_option maxRecDepth 100000 in
theorem a8s (os : Os) (started : os.Started) (H : Type) (enc : TypeId × Value → H) (F : Stop.Interp) :
    ReturnsInHanded {} Tryz.checked os 6 .any ((OpenSpec.ofChange Rows.fnRecordsSpec).preRow enc Tryz.prog Tryz.f6 Rows.fnRecordsRow.domain false Rows.fnRecordsRow.laid) (((OpenSpec.ofChange Rows.fnRecordsSpec).at F).post enc Tryz.prog Tryz.f6 false true false false):=by
  refine returnsInHanded_of_row (C:=Tryz.checked) (s:=OpenSpec.ofChange Rows.fnRecordsSpec) NQ4_own started (by kernel_rfl) Tryz.func6
    (witness_row_at (enc:=enc) (C:=Tryz.checked) false (NQ4_laidWorld os) #[.slice none 0 0] rfl (by kernel_rfl) (by kernel_rfl) (by kernel_rfl) (b0y os enc)) ?_
  intro W base args ds gs before hval0 hW _ _ _ hL _ _
  have h_tab:tabT.ok W undef:=NQ4_tab hL
  have hW':=hW
  obtain⟨p,q,hA0,hV,rfl,_,_⟩:=hW
  have hA:DataW.TrodAll enc Tryz.prog W 0 (λ_=>true) true [22] args.toList ds p:=hA0
  have hval:∀ (j:Nat) t v,(#[22]:Array TypeId)[j]?=some t->args[j]?=some v->Value.okWide Tryz.prog W .any base t v:=hval0
  obtain⟨v0,d0,rfl,rfl,h0⟩:=trodAll_one hA
  obtain⟨rfl,rfl⟩:=trodVars_none hV
  simp only[List.append_nil] at hW'
  have hlt:∀ x∈p,x.block < W.heap.size:=λx hx=>by simpa using hW'.lt x (by simpa using hx)
  have hargs0:∀ (W':World),Below W.heap.size W W'->DataW.Trod enc Tryz.prog W' 0 (λb=>decide (b < W.heap.size)) true 22 v0 d0 p:=λW' hn=>Below.trod NQ4_laid (by kernel_rfl) (of_decide_eq_true (by kernel_rfl)) h0 hn (λx hx=>hlt x (by simp[hx]))
  obtain⟨f0,hf0⟩:=h0
  obtain⟨m0,hm0⟩:=rd_bytes (P:=Tryz.prog) @Tryz.underlying22 @Tryz.underlying5 (by kernel_rfl) hf0
  obtain⟨a0,n0,c0,rfl⟩:=okWide_slice @Tryz.underlying22 (hval 0 22 v0 rfl rfl)
  refine(zq123 m0 hm0.1 h_tab).mono λe W' ⟨he,hx⟩=>?_
  exact⟨_,he,_,_,_,[],_,[],hW',trodAll_mk1 (shut_bool @Tryz.underlying4 true),trodAll_mk1 (hargs0 W' hx),rfl,Below.frame hx _,λh=>by cases h⟩
theorem a8j:Tryz.prog.funcNamed Rows.fnRecordsRow.func=some 6:=by kernel_rfl
theorem b4u:Tryz.f6.isInstance Tryz.prog Rows.fnRecordsRow.origin Rows.fnRecordsRow.targs:=of_decide_eq_true (by kernel_rfl)
theorem b5n:Tryz.f6.isWrapper Tryz.prog Rows.fnRecordsRow.wrapper Rows.fnRecordsRow.mainSum:=by unfold Func.isWrapper;first|(rw[if_pos (by decide +kernel)];kernel_rfl)|(rw[if_neg (by decide +kernel)];exact⟨rfl,rfl⟩)
theorem b5k:joinedFacts Tryz.prog 6 Tryz.f6 Rows.fnRecordsSpec Rows.fnRecordsRow=true:=by kernel_rfl
set_option maxRecDepth 100000 in
theorem fnRecords_row_holds:Rows.FnRecordsSaid :=
  OpenClaim.holds_of_cond 6 Tryz.f6 rfl rfl rfl rfl rfl rfl rfl ⟨rfl,rfl,rfl,rfl,rfl⟩ rfl rfl rfl rfl rfl a8j Tryz.func6 b5k b4u b5n
    (λos started H enc _ F0=>by rw[OpenClaim.pre_eq_preRow];exact a8s os started H enc F0)
set_option maxRecDepth 100000 in
theorem fnRecordsCard_holds:Rows.FnRecordsCardSaid :=
  Claim7.holds_tied_plain_at .later [] [.data, .data, .data] true (true, "c155937754f0643ff84c5b4a489a44c6299357d1e1a97638edccd3c63fd74ec6") false
    fnRecords_row_holds (λ_ h=>by cases h) (by kernel_rfl) (λ_ h=>by cases h) fnRecords_row_tie rfl ⟨rfl,rfl⟩ (by kernel_rfl) rfl
    (λf fn hf hfn=>by
      obtain rfl:f=6:=Option.some.inj (hf.symm.trans a8j)
      obtain rfl:fn=Tryz.f6:=(Option.some.inj (Tryz.func6.symm.trans hfn)).symm
      exact⟨by kernel_rfl,λj t ht=>by
        have hm:t∈[22]:=by
          have:=Array.mem_of_getElem? ht
          rw[show Tryz.f6.params=#[22] from rfl] at this;simpa using this
        exact(show ∀ t∈[22],Tryz.prog.wantsStandIn t=false from by decide +kernel) t hm⟩)
    (by kernel_rfl)
end Go.Proofs.YtjgohnaobbphpaaGreatDoor

/- Short rules: what acts, conditions, loops, results. -/
import Derived.Test.YtejnmechnhgmfaaZpF15
set_option linter.unusedSimpArgs false
set_option linter.unusedVariables false
namespace Go.Proofs.Ytejnmechnhgmfaa
open Go.RowKit
section
variable {P : Program} {n lo : Nat} {B : List Nat} {Q : Exit → Act → World → Prop} {cs : List Code} {K : Act → World → Prop} {ops : Array Oper} {rest : List Oper} {l : Fr} {os os' : List Own} {u : World} {ty : TypeId} {pos : String} {af : Array Edge} {v : Value} {d : Nat} {x y : Operand} {c : Bool} {o : Oper}
  {u₀ : World} {os₀ : List Own} {nm : List Nat} {fuel i : Nat} {listed : Array Bool} {z : Bool}
theorem e_callE {f : FuncId} {xs : List Operand} {ts : Array TypeId} {vs : List Value} {T : Ty} {E : (Value → List Own → Prop) → List Own → Prop} {K0 : Value → List Own → Prop} {dst : Option Tmp} {gd : Option (Nat × Bool)} (hf : goodF P f = true) (hx : opds l xs = some vs) [he : Elm T E] (hc : ∀ w, St lo B u w os → Ret P f vs w T) (k : E K0 os) :
    OpE P n lo B l os u ⟨dst, .call { callee := .value (.func f), args := xs.toArray, argTypes := ts }, ty, pos, af, gd⟩ true (fun v' os' u' => K0 v' os' ∧ u = u') := fun a w ha hw K Q hk => by
  unfold Oper.wp
  rw [run_call hf ha hx, Oper.upon_enter]
  refine Calls.mono (hc w hw) fun e w' h => ?_
  obtain ⟨v, fp, rfl, ho, hn, hfp, hx'⟩ := h
  obtain ⟨ow, hR, hfe, hp⟩ := he.h K0 os k w' v fp ho
  have h1 : St lo B u w' ((ownO ⟨fun _ _ => True, fun w _ f => f = fp ∧ ∀ o ∈ ow, o.pr w, fun _ _ => trivial, fun {w w' v f} h k => ⟨h.1, fun o ho => o.loc (fun j hj => k j (by rw [h.1]; exact hfe.mem_iff.2 (List.mem_flatMap.2 ⟨o, ho, hj⟩))) (h.2 o ho)⟩, fun _ => trivial⟩ v fp) :: os) :=
    hw.new hx' (o := ownO _ v fp) hfp hn ⟨rfl, hp⟩
  refine hk _ _ u _ ⟨hR, rfl⟩ (Up.refl lo u) (h1.conv (fun o ho => ?_) ?_) (fun _ => hx')
  · rcases List.mem_append.1 ho with ho | ho
    · exact hp o ho
    · exact h1.prs o (by simp [ho])
  · simp only [List.flatMap_append, List.flatMap_cons, ownO]
    exact List.Perm.append_right _ hfe.symm
theorem e_callS {f : FuncId} {xs : List Operand} {ts : Array TypeId} {vs : List Value} {T : Ty} {E : (Value → List Own → Prop) → List Own → Prop} {K0 : Value → List Own → Prop} {dst : Option Tmp} {gd : Option (Nat × Bool)} (hf : goodF P f = true) (hx : opds l xs = some vs) [he : ElmS T E] (hc : ∀ w, St lo B u w os → Ret P f vs w T) (k : E K0 os) :
    OpE P n lo B l os u ⟨dst, .call { callee := .value (.func f), args := xs.toArray, argTypes := ts }, ty, pos, af, gd⟩ true (fun v' os' u' => K0 v' os' ∧ u = u') := fun a w ha hw K Q hk => by
  unfold Oper.wp
  rw [run_call hf ha hx, Oper.upon_enter]
  refine Calls.mono (hc w hw) fun e w' h => ?_
  obtain ⟨v, fp, rfl, ho, hn, hfp, hx'⟩ := h
  obtain ⟨ow, hR, hfe, hp⟩ := he.h K0 os k w' v fp ho
  have h1 : St lo B u w' ((ownO ⟨fun _ _ => True, fun w _ f => f = fp ∧ ∀ o ∈ ow, o.pr w, fun _ _ => trivial, fun {w w' v f} h k => ⟨h.1, fun o ho => o.loc (fun j hj => k j (by rw [h.1]; exact hfe.mem_iff.2 (List.mem_flatMap.2 ⟨o, ho, hj⟩))) (h.2 o ho)⟩, fun _ => trivial⟩ v fp) :: os) :=
    hw.new hx' (o := ownO _ v fp) hfp hn ⟨rfl, hp⟩
  refine hk _ _ u _ ⟨hR, rfl⟩ (Up.refl lo u) (h1.conv (fun o ho => ?_) ?_) (fun _ => hx')
  · rcases List.mem_append.1 ho with ho | ho
    · exact hp o ho
    · exact h1.prs o (by simp [ho])
  · simp only [List.flatMap_append, List.flatMap_cons, ownO]
    exact List.Perm.append_right _ hfe.symm
variable {gd : Option (Nat × Bool)}
theorem zS {id : Nat} {y : Code} {os2 : List Oper} (h : JL P n lo B (seqs P Q (y :: cs)) os2.toArray os2 l os u) : Js P n lo B Q (.seq (.region id os2.toArray false) y :: cs) l os u := Js.seq (Js.region h)
theorem zN {id : Nat} {y : Code} {os2 : List Oper} (h : JL P n lo B (seqs P Q (y :: cs)) os2.toArray os2 l os u) : JL P n lo B (seqs P Q (.seq (.region id os2.toArray false) y :: cs)) ops [] l os u := JL.nil (Js.seq (Js.region h))
theorem zG {id : Nat} {os2 : List Oper} (h : JL P n lo B (seqs P Q cs) os2.toArray os2 l os u) : JL P n lo B (seqs P Q (.region id os2.toArray false :: cs)) ops [] l os u := JL.nil (Js.region h)
theorem zJ {c y : Code} (h : Js P n lo B Q (c :: y :: cs) l os u) : JL P n lo B (seqs P Q (.seq c y :: cs)) ops [] l os u := JL.nil (Js.seq h)
theorem fh {t : TypeId} {k off : Nat} {ft : TypeId} {g : Bool} {s : Nat} [h : FldI P t k off ft g s] : fldOf P t k = some (off, ft, g, s) := h.h
theorem Qm {v : Value} (h : opd l x = some v) (k : JL P n lo B K ops rest ((d, v) :: l) os u) (hn : Nat.blt d n = true := by rfl) : JL P n lo B K ops (⟨some d, .move x, ty, pos, af, none⟩ :: rest) l os u := JL.q (p_move h).q k rfl rfl hn
theorem Qa {v : Value} (h : opd l x = some v) (k : JL P n lo B K ops rest ((d, v) :: l) os u) (hn : Nat.blt d n = true := by rfl) : JL P n lo B K ops (⟨some d, .assign x, ty, pos, af, none⟩ :: rest) l os u := JL.q (p_assign h).q k rfl rfl hn
theorem Qf {b o j off : Nat} {t ft : TypeId} {g : Bool} {s : Nat} (hf : fldOf P t j = some (off, ft, g, s + 1)) (h : opd l x = some (.pointer (some ⟨b, o, none⟩))) (k : JL P n lo B K ops rest ((d, .pointer (some ⟨b, o + off, none⟩)) :: l) os u) (hn : Nat.blt d n = true := by rfl) : JL P n lo B K ops (⟨some d, .fieldAddr t x j, ty, pos, af, none⟩ :: rest) l os u := JL.q (p_fieldAddr hf h).q k rfl rfl hn
theorem Qx {vs : List Value} {i : Nat} {v : Value} (h : opd l x = some (.tuple vs.toArray)) (hv : vs[i]? = some v) (k : JL P n lo B K ops rest ((d, v) :: l) os u) (hn : Nat.blt d n = true := by rfl) : JL P n lo B K ops (⟨some d, .extract x i, ty, pos, af, none⟩ :: rest) l os u := JL.q (p_extract h hv).q k rfl rfl hn
theorem Qt {b : Bool} {t : TypeId} (h : opd l x = some (.bool b)) (k : JL P n lo B K ops rest ((d, .bool (!b)) :: l) os u) (hn : Nat.blt d n = true := by rfl) : JL P n lo B K ops (⟨some d, .unOp .not t x, ty, pos, af, none⟩ :: rest) l os u := JL.q (p_not h).q k rfl rfl hn
theorem Ql {kk : IntKind} {i j : Int} {t t' : TypeId} (h1 : opd l x = some (.int kk i)) (h2 : opd l y = some (.int kk j)) (k : JL P n lo B K ops rest ((d, .bool (decide (i < j))) :: l) os u) (hn : Nat.blt d n = true := by rfl) : JL P n lo B K ops (⟨some d, .binOp .lss t x y t', ty, pos, af, none⟩ :: rest) l os u := JL.q (p_lss h1 h2).q k rfl rfl hn
theorem Qk {kk : IntKind} {i j : Int} {t t' : TypeId} (h1 : opd l x = some (.int kk i)) (h2 : opd l y = some (.int kk j)) (k : JL P n lo B K ops rest ((d, .bool (decide (i ≤ j))) :: l) os u) (hn : Nat.blt d n = true := by rfl) : JL P n lo B K ops (⟨some d, .binOp .leq t x y t', ty, pos, af, none⟩ :: rest) l os u := JL.q (p_leq h1 h2).q k rfl rfl hn
theorem Qg {kk : IntKind} {i j : Int} {t t' : TypeId} (h1 : opd l x = some (.int kk i)) (h2 : opd l y = some (.int kk j)) (k : JL P n lo B K ops rest ((d, .bool (decide (j < i))) :: l) os u) (hn : Nat.blt d n = true := by rfl) : JL P n lo B K ops (⟨some d, .binOp .gtr t x y t', ty, pos, af, none⟩ :: rest) l os u := JL.q (p_gtr h1 h2).q k rfl rfl hn
theorem Qh {kk : IntKind} {i j : Int} {t t' : TypeId} (h1 : opd l x = some (.int kk i)) (h2 : opd l y = some (.int kk j)) (k : JL P n lo B K ops rest ((d, .bool (decide (j ≤ i))) :: l) os u) (hn : Nat.blt d n = true := by rfl) : JL P n lo B K ops (⟨some d, .binOp .geq t x y t', ty, pos, af, none⟩ :: rest) l os u := JL.q (p_geq h1 h2).q k rfl rfl hn
theorem Qe {kk : IntKind} {i j : Int} {t t' : TypeId} (h1 : opd l x = some (.int kk i)) (h2 : opd l y = some (.int kk j)) (k : JL P n lo B K ops rest ((d, .bool (decide (i = j))) :: l) os u) (hn : Nat.blt d n = true := by rfl) : JL P n lo B K ops (⟨some d, .binOp .eql t x y t', ty, pos, af, none⟩ :: rest) l os u := JL.q (p_eql h1 h2).q k rfl rfl hn
theorem Qd {kk : IntKind} {i j : Int} {t t' : TypeId} (h1 : opd l x = some (.int kk i)) (h2 : opd l y = some (.int kk j)) (k : JL P n lo B K ops rest ((d, .bool (!decide (i = j))) :: l) os u) (hn : Nat.blt d n = true := by rfl) : JL P n lo B K ops (⟨some d, .binOp .neq t x y t', ty, pos, af, none⟩ :: rest) l os u := JL.q (p_neq h1 h2).q k rfl rfl hn
theorem Qc {p : Addr} (h : opd l x = some (.pointer (some p))) (k : JL P n lo B K ops rest ((d, .pointer (some p)) :: l) os u) (hn : Nat.blt d n = true := by rfl) : JL P n lo B K ops (⟨some d, .nilCheck x, ty, pos, af, none⟩ :: rest) l os u := JL.q (p_nilCheck h).q k rfl rfl hn
theorem Qz {t e : TypeId} {sz by' : Nat} {z : List Value} {A : Option Addr} {m c : Nat} [ht : ElI P t e sz by' z] (hx : opd l x = some (.slice A m c)) (k : JL P n lo B K ops rest ((d, .int .i64 m) :: l) os u) (hn : Nat.blt d n = true := by rfl) : JL P n lo B K ops (⟨some d, .call { callee := .builtin .len, args := #[x], argTypes := #[t] }, ty, pos, af, none⟩ :: rest) l os u := JL.q (p_len ht.h hx).q k rfl rfl hn
theorem Qb {t : TypeId} {parts : List (Nat × Operand)} {pv : List (Nat × Value)} {pl : List (Nat × Nat)} {z us vs : List Value} [hz : ZeroI P t z] [hp : FldsI P t pl] (k : JL P n lo B K ops rest ((d, .agg vs.toArray) :: l) os u) (hv : opdP l parts = some pv := by rfl) (hf : fillL pl z pv = some us := by rfl) (hl : NL us vs := by exact nl) (hn : Nat.blt d n = true := by rfl) :
    JL P n lo B K ops (⟨some d, .build t parts.toArray, ty, pos, af, none⟩ :: rest) l os u := JL.q (hl.eq ▸ p_build hz.h hp.h hv hf : OpP P n l _ _).q k rfl rfl hn
theorem Qp {i j : Int} {t t' : TypeId} (h1 : opd l x = some (.int .i64 i)) (h2 : opd l y = some (.int .i64 j)) (k : JL P n lo B K ops rest ((d, .int .i64 (i + j)) :: l) os u) (hr : -9223372036854775808 ≤ i + j ∧ i + j ≤ 9223372036854775807 := by omega) (hn : Nat.blt d n = true := by rfl) : JL P n lo B K ops (⟨some d, .binOp .add t x y t', ty, pos, af, none⟩ :: rest) l os u := JL.q (p_add h1 h2 (IntWalk.i64_in _ (by omega))).q k rfl rfl hn
theorem Qs {i j : Int} {t t' : TypeId} (h1 : opd l x = some (.int .i64 i)) (h2 : opd l y = some (.int .i64 j)) (k : JL P n lo B K ops rest ((d, .int .i64 (i - j)) :: l) os u) (hr : -9223372036854775808 ≤ i - j ∧ i - j ≤ 9223372036854775807 := by omega) (hn : Nat.blt d n = true := by rfl) : JL P n lo B K ops (⟨some d, .binOp .sub t x y t', ty, pos, af, none⟩ :: rest) l os u := JL.q (p_sub h1 h2 (IntWalk.i64_in _ (by omega))).q k rfl rfl hn
theorem Qu {i j : Int} {t t' : TypeId} (h1 : opd l x = some (.int .i64 i)) (h2 : opd l y = some (.int .i64 j)) (k : JL P n lo B K ops rest ((d, .int .i64 (i * j)) :: l) os u) (hr : -9223372036854775808 ≤ i * j ∧ i * j ≤ 9223372036854775807 := by omega) (hn : Nat.blt d n = true := by rfl) : JL P n lo B K ops (⟨some d, .binOp .mul t x y t', ty, pos, af, none⟩ :: rest) l os u := JL.q (p_mul h1 h2 (IntWalk.i64_in _ (by omega))).q k rfl rfl hn
theorem Q0 (i : Nat) {t T : TypeId} {s b o : Nat} {c : List Value} {v : Value} [ht : TyI P t false s] (hx : opd l x = some (.pointer (some ⟨b, o, none⟩))) (hi : os[i]? = some (boxO b c T)) (hv : c[o]? = some v) (k : JL P n lo B K ops rest ((d, v) :: l) os u) (hn : Nat.blt d n = true := by rfl) : JL P n lo B K ops (⟨some d, .load t x, ty, pos, af, none⟩ :: rest) l os u := JL.q (q_load1 ht.h hx (Mem.box hi hv)) k rfl rfl hn
theorem Q9 (i : Nat) {t T : TypeId} {s b o : Nat} {c vs : List Value} [ht : TyI P t true s] (hx : opd l x = some (.pointer (some ⟨b, o, none⟩))) (hi : os[i]? = some (boxO b c T)) (k : JL P n lo B K ops rest ((d, .agg vs.toArray) :: l) os u) (hv : NL (takV c o s) vs := by exact nl) (hs : vs.length = s := by rfl) (hn : Nat.blt d n = true := by rfl) : JL P n lo B K ops (⟨some d, .load t x, ty, pos, af, none⟩ :: rest) l os u := JL.q (q_loadN ht.h hx (Mem.boxR hi o s) (by rw [← hv.eq, takV_eq]) hs) k rfl rfl hn
theorem QC {t : TypeId} {s b o : Nat} {v : Value} [ht : TyI P t false s] (h : Cell u b o v) (hx : opd l x = some (.pointer (some ⟨b, o, none⟩))) (k : JL P n lo B K ops rest ((d, v) :: l) os u) (hn : Nat.blt d n = true := by rfl) : JL P n lo B K ops (⟨some d, .load t x, ty, pos, af, none⟩ :: rest) l os u := JL.q (q_load1 ht.h hx (Mem.pub h)) k rfl rfl hn
theorem zw (i : Nat) {t T : TypeId} {g : Bool} {s b o : Nat} {v : Value} {c c' : List Value} [ht : TyI P t g s] (hx : opd l x = some (.pointer (some ⟨b, o, none⟩))) (hy : opd l y = some v) (hi : os[i]? = some (boxO b c T)) (k : JL P n lo B K ops rest l os' u) (hc : NL (setV c o (cellsL v)) c' := by exact nl) (ho : NL (os.set i (boxO b c' T)) os' := by exact nl) (hs : (cellsL v).length = s := by rfl) (hl : Nat.ble (o + s) c.length = true := by rfl) (h1 : (cellsL v).all (·.oneCell') = true := by first | rfl | (simp [cellsL, *]; done) | (simp [cellsL, *]; repeat' (first | exact rfl | apply And.intro))) :
    JL P n lo B K ops (⟨none, .store t x y, ty, pos, af, none⟩ :: rest) l os u := by
  rw [← ho.eq] at k
  refine JL.s (e_store (c' := c') ht.h hx hi hy rfl hs h1 hl ?_) ?_
  · rw [← hc.eq, setV_eq]; simpa [Nat.ble_eq, hs] using hl
  · rintro _ _ _ ⟨rfl, rfl⟩ _; exact k
theorem Qq {v : Value} {p : Op} (h : OpP P n l ⟨some d, p, ty, pos, af, none⟩ v) (k : JL P n lo B K ops rest ((d, v) :: l) os u) (hn : Nat.blt d n = true := by rfl) : JL P n lo B K ops (⟨some d, p, ty, pos, af, none⟩ :: rest) l os u := JL.q h.q k rfl rfl hn
theorem Qw {v : Value} {p : Op} (h : OpQ P n lo B l os u ⟨some d, p, ty, pos, af, none⟩ v) (k : JL P n lo B K ops rest ((d, v) :: l) os u) (hn : Nat.blt d n = true := by rfl) : JL P n lo B K ops (⟨some d, p, ty, pos, af, none⟩ :: rest) l os u := JL.q h k rfl rfl hn
theorem gh {v : Value} (hc : c = true) (h : opd l x = some (gv c v)) : opd l x = some v := gvt h hc
theorem zg {v : Value} {p : Op} (hg : Gd ops l ⟨some d, p, ty, pos, af, gd⟩ c) (h : c = true → OpP P n l ⟨some d, p, ty, pos, af, gd⟩ v) (k : JL P n lo B K ops rest ((d, gv c v) :: l) os u) (hn : Nat.blt d n = true := by rfl) : JL P n lo B K ops (⟨some d, p, ty, pos, af, gd⟩ :: rest) l os u := JL.g hg (fun hc => (h hc).q) k rfl hn
theorem zgq {v : Value} {p : Op} (hg : Gd ops l ⟨some d, p, ty, pos, af, gd⟩ c) (h : c = true → OpQ P n lo B l os u ⟨some d, p, ty, pos, af, gd⟩ v) (k : JL P n lo B K ops rest ((d, gv c v) :: l) os u) (hn : Nat.blt d n = true := by rfl) : JL P n lo B K ops (⟨some d, p, ty, pos, af, gd⟩ :: rest) l os u := JL.g hg h k rfl hn
theorem zgv {f : FuncId} {xs : List Operand} {ts : Array TypeId} {vs : List Value} {v : Value} [hf : FnI P f] (hg : Gd ops l ⟨some d, .call { callee := .value (.func f), args := xs.toArray, argTypes := ts }, ty, pos, af, gd⟩ c) (h : c = true → opds l xs = some vs) (hc : c = true → ∀ w, St lo B u w os → RetV P f vs w v) (k : JL P n lo B K ops rest ((d, gv c v) :: l) os u) (hn : Nat.blt d n = true := by rfl) :
    JL P n lo B K ops (⟨some d, .call { callee := .value (.func f), args := xs.toArray, argTypes := ts }, ty, pos, af, gd⟩ :: rest) l os u := JL.ge hg (fun e => e_callV hf.h (h e) (hc e)) k rfl hn
theorem zT {p : Op} {dst : Option Tmp} (hg : Gd ops l ⟨dst, p, ty, pos, af, gd⟩ c) (hc : c = true) (k : JL P n lo B K ops (⟨dst, p, ty, pos, af, none⟩ :: rest) l os u) : JL P n lo B K ops (⟨dst, p, ty, pos, af, gd⟩ :: rest) l os u := fun a w ha hw => by
  have h := k a w ha hw
  unfold wpList at h ⊢
  rw [if_pos (by simp [Region.wanted])] at h
  rw [if_pos (by rw [hg n a ha, hc])]
  exact h
theorem zent {l' : Fr} (k : Js P n lo B Q cs l' os u) (h : NL l l' := by exact nl) : Js P n lo B Q cs l os u := by rw [h.eq]; exact k
theorem zb {t : TypeId} {c : List Value} (hx : opd l x = some (.agg c.toArray)) (k : ∀ b, JL P n lo B K ops rest ((d, .pointer (some ⟨b, 0, none⟩)) :: l) (boxO b c t :: os) u) (hn : Nat.blt d n = true := by rfl) :
    JL P n lo B K ops (⟨some d, .box t x, ty, pos, af, none⟩ :: rest) l os u := JL.e (e_box (c := c) hx rfl) (by rintro _ _ _ ⟨b, rfl, rfl, rfl⟩ _; exact k b) rfl rfl hn
theorem zeh {t : TypeId} {c : List Value} [hz : ZeroI P t c] : zeroOf P t = some c := hz.h
theorem za {t : TypeId} {c : List Value} (hz : zeroOf P t = some c) (k : ∀ b, JL P n lo B K ops rest ((d, .pointer (some ⟨b, 0, none⟩)) :: l) (boxO b c t :: os) u) (hn : Nat.blt d n = true := by rfl) :
    JL P n lo B K ops (⟨some d, .alloc t, ty, pos, af, none⟩ :: rest) l os u := JL.e (e_alloc hz) (by rintro _ _ _ ⟨b, rfl, rfl, rfl⟩ _; exact k b) rfl rfl hn
theorem zbs {t e : TypeId} {sz by' m : Nat} {z us vs : List Value} {parts : List (Nat × Operand)} {pv : List (Nat × Value)} [ht : ElI P t e sz by' z] (k : ∀ b, JL P n lo B K ops rest ((d, .slice (some ⟨b, 0, none⟩) m m) :: l) (rowO e sz (.slice (some ⟨b, 0, none⟩) m m) m vs [] :: os) u)
    (hv : opdP l parts = some pv := by rfl) (hf : fillL (elPl sz m) (repL z m) pv = some us := by rfl) (hnl : NL us vs := by exact nl) (hzl : Nat.beq z.length sz = true := by rfl) (hz0 : Nat.blt 0 sz = true := by rfl) (hm : Nat.ble (m * sz) 16777216 = true := by rfl) (hi : pv.all (fun p => Nat.blt p.1 m) = true := by rfl) (hn : Nat.blt d n = true := by rfl) :
    JL P n lo B K ops (⟨some d, .buildSlice t m parts.toArray, ty, pos, af, none⟩ :: rest) l os u := JL.e (e_buildSlice (vs := vs) ht.h hzl hz0 hm hv hi (by rw [hf, hnl.eq])) (by rintro _ _ _ ⟨b, rfl, rfl, _, rfl⟩ _; exact k b) rfl rfl hn
theorem zv {f : FuncId} {xs : List Operand} {ts : Array TypeId} {vs : List Value} [hf : FnI P f] (hx : opds l xs = some vs) (hc : ∀ w, St lo B u w os → RetV P f vs w v) (k : JL P n lo B K ops rest ((d, v) :: l) os u) (hn : Nat.blt d n = true := by rfl) :
    JL P n lo B K ops (⟨some d, .call { callee := .value (.func f), args := xs.toArray, argTypes := ts }, ty, pos, af, none⟩ :: rest) l os u := JL.e (e_callV hf.h hx hc) (by rintro _ _ _ ⟨rfl, rfl, rfl⟩ _; exact k) rfl rfl hn
theorem zc {f : FuncId} {xs : List Operand} {ts : Array TypeId} {vs : List Value} {T : Ty} {E : (Value → List Own → Prop) → List Own → Prop} [hf : FnI P f] (hx : opds l xs = some vs) (hc : ∀ w, St lo B u w os → Ret P f vs w T) [he : Elm T E] (k : E (fun v os' => JL P n lo B K ops rest ((d, v) :: l) os' u) os) (hn : Nat.blt d n = true := by rfl) :
    JL P n lo B K ops (⟨some d, .call { callee := .value (.func f), args := xs.toArray, argTypes := ts }, ty, pos, af, none⟩ :: rest) l os u := JL.e (e_callE hf.h hx hc k) (by rintro _ _ _ ⟨h, rfl⟩ _; exact h) rfl rfl hn
theorem zcs {f : FuncId} {xs : List Operand} {ts : Array TypeId} {vs : List Value} {T : Ty} {E : (Value → List Own → Prop) → List Own → Prop} [hf : FnI P f] (hx : opds l xs = some vs) (hc : ∀ w, St lo B u w os → Ret P f vs w T) [he : ElmS T E] (k : E (fun v os' => JL P n lo B K ops rest ((d, v) :: l) os' u) os) (hn : Nat.blt d n = true := by rfl) :
    JL P n lo B K ops (⟨some d, .call { callee := .value (.func f), args := xs.toArray, argTypes := ts }, ty, pos, af, none⟩ :: rest) l os u := JL.e (e_callS hf.h hx hc k) (by rintro _ _ _ ⟨h, rfl⟩ _; exact h) rfl rfl hn
theorem zp {f : FuncId} {xs : List Operand} {ts : Array TypeId} {vs : List Value} {T : Ty} {E : World → (Value → Prop) → Prop} [hf : FnI P f] (hx : opds l xs = some vs) (hc : ∀ w, St lo B u w os → Ret P f vs w T) [he : Opn T E] (k : ∀ u', Up lo u u' → E u' (fun v => JL P n lo B K ops rest ((d, v) :: l) os u')) (hn : Nat.blt d n = true := by rfl) :
    JL P n lo B K ops (⟨some d, .call { callee := .value (.func f), args := xs.toArray, argTypes := ts }, ty, pos, af, none⟩ :: rest) l os u := JL.e (e_callP hf.h hx hc) (by rintro v _ u' ⟨h, rfl⟩ x; exact he.h u' (fun v => JL P n lo B K ops rest ((d, v) :: l) _ u') (k u' x) v h) rfl rfl hn
inductive SpL : List Own → Nat → List Own → List Own → Prop
  | z {r : List Own} : SpL r 0 [] r
  | s {o : Own} {r a b : List Own} {k : Nat} (h : SpL r k a b) : SpL (o :: r) (k + 1) (o :: a) b
theorem SpL.eq {os a b : List Own} {k : Nat} (h : SpL os k a b) : os = a ++ b := by induction h with | z => rfl | s _ ih => rw [ih]; rfl
theorem sp_ {os a b : List Own} {k : Nat} (h : SpL os k a b := by repeat (first | exact SpL.z | apply SpL.s)) : SpL os k a b := h
theorem zB (m : Nat) {f : FuncId} {xs : List Operand} {ts : Array TypeId} {vs : List Value} {bs rs : List Own} {R : Value → List Own → Prop} (hs : SpL os m bs rs) [hf : FnI P f] (hx : opds l xs = some vs)
    (hc : ∀ w, Bw w bs → St lo [] u (offW w (bs.flatMap (·.fp))) rs → RetB P f vs w bs R) (k : ∀ v bs' G, R v bs' → JL P n lo B K ops rest ((d, v) :: l) (bs' ++ anyO G :: rs) u) (hB : B = [] := by rfl) (hn : Nat.blt d n = true := by rfl) :
    JL P n lo B K ops (⟨some d, .call { callee := .value (.func f), args := xs.toArray, argTypes := ts }, ty, pos, af, none⟩ :: rest) l os u := by
  rw [hs.eq]
  exact JL.e (e_callB hf.h hx hc hB) (by rintro v _ _ ⟨bs', G, h, rfl, rfl⟩ _; exact k v bs' G h) rfl rfl hn
theorem zBB (m : Nat) {f : FuncId} {xs : List Operand} {ts : Array TypeId} {vs : List Value} {bs rs : List Own} {R : Value → List Own → Prop} (hs : SpL os m bs rs) [hf : FnI P f] (hx : opds l xs = some vs)
    (hc : ∀ w, Bw w bs → ∀ B', St lo B' u (offW w (bs.flatMap (·.fp))) rs → RetB P f vs w bs R) (k : ∀ v bs' G, R v bs' → JL P n lo B K ops rest ((d, v) :: l) (bs' ++ anyO G :: rs) u) (hn : Nat.blt d n = true := by rfl) :
    JL P n lo B K ops (⟨some d, .call { callee := .value (.func f), args := xs.toArray, argTypes := ts }, ty, pos, af, none⟩ :: rest) l os u := by
  rw [hs.eq]
  exact JL.e (e_callBB hf.h hx fun w hb ⟨B', hw⟩ => hc w hb B' hw) (by rintro v _ _ ⟨bs', G, h, rfl, rfl⟩ _; exact k v bs' G h) rfl rfl hn
theorem yB (m : Nat) {f : FuncId} {xs : List Operand} {ts : Array TypeId} {vs : List Value} {bs rs : List Own} {R : Value → List Own → Prop} (hs : SpL os m bs rs) [hf : FnI P f] (hi : ops[i]? = some ⟨some d, .call { callee := .value (.func f), args := xs.toArray, argTypes := ts }, ty, pos, af, none⟩) (hx : opds l xs = some vs)
    (hc : ∀ w, Bw w bs → St lo [] u (offW w (bs.flatMap (·.fp))) rs → RetB P f vs w bs R) (k : ∀ v bs' G, R v bs' → JH P n lo B K ops u₀ os₀ nm fuel (listed.setIfInBounds i true) (z && false) ((d, v) :: l) (bs' ++ anyO G :: rs) u) (hm : nm.contains i = true := by rfl) (hB : B = [] := by rfl) (hn : Nat.blt d n = true := by rfl) :
    JHo P n lo B K ops u₀ os₀ nm fuel listed z l os u i := by
  rw [hs.eq]
  exact JHo.e hi (e_callB hf.h hx hc hB) (.inr hm) (by rintro v _ _ ⟨bs', G, h, rfl, rfl⟩ _; exact k v bs' G h) rfl rfl hn
theorem yBB (m : Nat) {f : FuncId} {xs : List Operand} {ts : Array TypeId} {vs : List Value} {bs rs : List Own} {R : Value → List Own → Prop} (hs : SpL os m bs rs) [hf : FnI P f] (hi : ops[i]? = some ⟨some d, .call { callee := .value (.func f), args := xs.toArray, argTypes := ts }, ty, pos, af, none⟩) (hx : opds l xs = some vs)
    (hc : ∀ w, Bw w bs → ∀ B', St lo B' u (offW w (bs.flatMap (·.fp))) rs → RetB P f vs w bs R) (k : ∀ v bs' G, R v bs' → JH P n lo B K ops u₀ os₀ nm fuel (listed.setIfInBounds i true) (z && false) ((d, v) :: l) (bs' ++ anyO G :: rs) u) (hm : nm.contains i = true := by rfl) (hn : Nat.blt d n = true := by rfl) :
    JHo P n lo B K ops u₀ os₀ nm fuel listed z l os u i := by
  rw [hs.eq]
  exact JHo.e hi (e_callBB hf.h hx fun w hb ⟨B', hw⟩ => hc w hb B' hw) (.inr hm) (by rintro v _ _ ⟨bs', G, h, rfl, rfl⟩ _; exact k v bs' G h) rfl rfl hn
theorem ya {t : TypeId} {c : List Value} [hz : ZeroI P t c] (hi : ops[i]? = some ⟨some d, .alloc t, ty, pos, af, none⟩) (k : ∀ b, JH P n lo B K ops u₀ os₀ nm fuel (listed.setIfInBounds i true) (z && true) ((d, .pointer (some ⟨b, 0, none⟩)) :: l) (boxO b c t :: os) u) (hn : Nat.blt d n = true := by rfl) :
    JHo P n lo B K ops u₀ os₀ nm fuel listed z l os u i := JHo.e hi (e_alloc hz.h) (.inl rfl) (by rintro _ _ _ ⟨b, rfl, rfl, rfl⟩ _; exact k b) rfl rfl hn
theorem ybs {t e : TypeId} {sz by' m : Nat} {z' us vs : List Value} {parts : List (Nat × Operand)} {pv : List (Nat × Value)} [ht : ElI P t e sz by' z'] (hi : ops[i]? = some ⟨some d, .buildSlice t m parts.toArray, ty, pos, af, none⟩) (k : ∀ b, JH P n lo B K ops u₀ os₀ nm fuel (listed.setIfInBounds i true) (z && true) ((d, .slice (some ⟨b, 0, none⟩) m m) :: l) (rowO e sz (.slice (some ⟨b, 0, none⟩) m m) m vs [] :: os) u)
    (hv : opdP l parts = some pv := by rfl) (hf : fillL (elPl sz m) (repL z' m) pv = some us := by rfl) (hnl : NL us vs := by exact nl) (hzl : Nat.beq z'.length sz = true := by rfl) (hz0 : Nat.blt 0 sz = true := by rfl) (hm : Nat.ble (m * sz) 16777216 = true := by rfl) (hpi : pv.all (fun p => Nat.blt p.1 m) = true := by rfl) (hn : Nat.blt d n = true := by rfl) :
    JHo P n lo B K ops u₀ os₀ nm fuel listed z l os u i := JHo.e hi (e_buildSlice (vs := vs) ht.h hzl hz0 hm hv hpi (by rw [hf, hnl.eq])) (.inl rfl) (by rintro _ _ _ ⟨b, rfl, rfl, _, rfl⟩ _; exact k b) rfl rfl hn
theorem yv {f : FuncId} {xs : List Operand} {ts : Array TypeId} {vs : List Value} [hf : FnI P f] (hi : ops[i]? = some ⟨some d, .call { callee := .value (.func f), args := xs.toArray, argTypes := ts }, ty, pos, af, none⟩) (hx : opds l xs = some vs) (hc : ∀ w, St lo B u w os → RetV P f vs w v) (k : JH P n lo B K ops u₀ os₀ nm fuel (listed.setIfInBounds i true) (z && true) ((d, v) :: l) os u) (hn : Nat.blt d n = true := by rfl) :
    JHo P n lo B K ops u₀ os₀ nm fuel listed z l os u i := JHo.e hi (e_callV hf.h hx hc) (.inl rfl) (by rintro _ _ _ ⟨rfl, rfl, rfl⟩ _; exact k) rfl rfl hn
theorem yc {f : FuncId} {xs : List Operand} {ts : Array TypeId} {vs : List Value} {T : Ty} {E : (Value → List Own → Prop) → List Own → Prop} [hf : FnI P f] (hi : ops[i]? = some ⟨some d, .call { callee := .value (.func f), args := xs.toArray, argTypes := ts }, ty, pos, af, none⟩) (hx : opds l xs = some vs) (hc : ∀ w, St lo B u w os → Ret P f vs w T) [he : Elm T E] (k : E (fun v os' => JH P n lo B K ops u₀ os₀ nm fuel (listed.setIfInBounds i true) (z && true) ((d, v) :: l) os' u) os) (hn : Nat.blt d n = true := by rfl) :
    JHo P n lo B K ops u₀ os₀ nm fuel listed z l os u i := JHo.e hi (e_callE hf.h hx hc k) (.inl rfl) (by rintro _ _ _ ⟨h, rfl⟩ _; exact h) rfl rfl hn
theorem ycs {f : FuncId} {xs : List Operand} {ts : Array TypeId} {vs : List Value} {T : Ty} {E : (Value → List Own → Prop) → List Own → Prop} [hf : FnI P f] (hi : ops[i]? = some ⟨some d, .call { callee := .value (.func f), args := xs.toArray, argTypes := ts }, ty, pos, af, none⟩) (hx : opds l xs = some vs) (hc : ∀ w, St lo B u w os → Ret P f vs w T) [he : ElmS T E] (k : E (fun v os' => JH P n lo B K ops u₀ os₀ nm fuel (listed.setIfInBounds i true) (z && true) ((d, v) :: l) os' u) os) (hn : Nat.blt d n = true := by rfl) :
    JHo P n lo B K ops u₀ os₀ nm fuel listed z l os u i := JHo.e hi (e_callS hf.h hx hc k) (.inl rfl) (by rintro _ _ _ ⟨h, rfl⟩ _; exact h) rfl rfl hn
theorem yp {f : FuncId} {xs : List Operand} {ts : Array TypeId} {vs : List Value} {T : Ty} {E : World → (Value → Prop) → Prop} [hf : FnI P f] (hi : ops[i]? = some ⟨some d, .call { callee := .value (.func f), args := xs.toArray, argTypes := ts }, ty, pos, af, none⟩) (hx : opds l xs = some vs) (hc : ∀ w, St lo B u w os → Ret P f vs w T) [he : Opn T E] (k : ∀ u', Up lo u u' → E u' (fun v => JH P n lo B K ops u₀ os₀ nm fuel (listed.setIfInBounds i true) (z && true) ((d, v) :: l) os u')) (hn : Nat.blt d n = true := by rfl) :
    JHo P n lo B K ops u₀ os₀ nm fuel listed z l os u i := JHo.e hi (e_callP hf.h hx hc) (.inl rfl) (by rintro v _ u' ⟨h, rfl⟩ x; exact he.h u' (fun v => JH P n lo B K ops u₀ os₀ nm fuel (listed.setIfInBounds i true) (z && true) ((d, v) :: l) _ u') (k u' x) v h) rfl rfl hn
theorem yst {t : TypeId} {g : Bool} {s b o : Nat} (hi : ops[i]? = some ⟨none, .store t x y, ty, pos, af, none⟩) (hx : opd l x = some (.pointer (some ⟨b, o, none⟩))) (hy : opd l y = some v) (k : JH P n lo B K ops u₀ os₀ nm fuel (listed.setIfInBounds i true) (z && false) l os' u) [ht : TyI P t g s] (hm : nm.contains i = true := by rfl) (hw : St1 os b o (cellsL v) os' := by exact st1_) (hs : (cellsL v).length = s := by rfl) :
    JHo P n lo B K ops u₀ os₀ nm fuel listed z l os u i := by
  obtain ⟨j, c, T, h1, h2, h3, rfl⟩ := hw.get
  refine JHo.s hi (e_store ht.h hx h1 hy rfl hs h2 (hs ▸ h3) rfl) (.inr hm) ?_
  rintro _ _ _ ⟨rfl, rfl⟩ _
  exact k
theorem y1 (i : Nat) (h : JHo P n lo B K ops u₀ os₀ nm fuel listed z l os u i) (hr : Region.ready .any ops listed = [i] := by kernel_rfl) : JH P n lo B K ops u₀ os₀ nm (fuel + 1) listed z l os u := JH.one hr h
theorem y2 (i j : Nat) (h : JHo P n lo B K ops u₀ os₀ nm fuel listed z l os u i) (k : JHo P n lo B K ops u₀ os₀ nm fuel listed z l os u j) (hr : Region.ready .any ops listed = [i, j] := by kernel_rfl) : JH P n lo B K ops u₀ os₀ nm (fuel + 1) listed z l os u := JH.all hr rfl ⟨h, k, trivial⟩
theorem y3 (i j m : Nat) (h : JHo P n lo B K ops u₀ os₀ nm fuel listed z l os u i) (k : JHo P n lo B K ops u₀ os₀ nm fuel listed z l os u j) (k2 : JHo P n lo B K ops u₀ os₀ nm fuel listed z l os u m) (hr : Region.ready .any ops listed = [i, j, m] := by kernel_rfl) : JH P n lo B K ops u₀ os₀ nm (fuel + 1) listed z l os u := JH.all hr rfl ⟨h, k, k2, trivial⟩
theorem yd (h : Js P n lo B Q cs l os u) (hr : Region.ready .any ops listed = [] := by kernel_rfl) : JH P n lo B (seqs P Q cs) ops u₀ os₀ nm fuel listed z l os u := JH.done hr h
theorem zdr (nm : List Nat) {id : Nat} {ops : List Oper} [hm : MixI P] (h : JH P n lo B (seqs P Q cs) ops.toArray u os nm ops.length (Array.replicate ops.length false) true l os u) : Js P n lo B Q (.region id ops.toArray true :: cs) l os u := Js.drawn os nm hm.h (fun _ h => h) h
theorem zi {cnd : Operand} {b : Bool} {x y : Code} {p q : Prop} (ht : b = true → p → Js P n lo B Q (x :: cs) l os u) (hf : b = false → q → Js P n lo B Q (y :: cs) l os u) (hc : opd l cnd = some (.bool b) := by rfl)
    (hp : b = true → p := by intro h; (try simp only [Bool.or_eq_true, Bool.or_eq_false_iff, Bool.and_eq_true, Bool.and_eq_false_iff, Bool.not_eq_true', Bool.not_eq_false', decide_eq_true_eq, decide_eq_false_iff_not, Int.not_lt, Int.not_le] at h); exact h)
    (hq : b = false → q := by intro h; (try simp only [Bool.or_eq_true, Bool.or_eq_false_iff, Bool.and_eq_true, Bool.and_eq_false_iff, Bool.not_eq_true', Bool.not_eq_false', decide_eq_true_eq, decide_eq_false_iff_not, Int.not_lt, Int.not_le] at h); exact h) :
    Js P n lo B Q (.cond cnd x y :: cs) l os u := Js.cond hc (fun h => ht h (hp h)) (fun h => hf h (hq h))
theorem zx {j : Nat} {cs' : List Code} {Q' : Exit → Act → World → Prop} (h : Js P n lo B Q' cs' l os u) (hQ : ∀ a w, Q (.exit j) a w = seqs P Q' cs' a w := by exact fun _ _ => rfl) : Js P n lo B Q (.exit j :: cs) l os u := Js.exit hQ h
inductive Kp : Fr → List Nat → Fr → Prop
  | nil {L : Fr} : Kp L [] []
  | cons {L r : Fr} {k : Nat} {ks : List Nat} {v : Value} (h : look L k = some v) (t : Kp L ks r) : Kp L (k :: ks) ((k, v) :: r)
theorem kp_ {L r : Fr} {ks : List Nat} (h : Kp L ks r := by repeat (first | exact Kp.nil | (apply Kp.cons; rfl))) : Kp L ks r := h
theorem sub_ {L r : Fr} (h : subf L r := by repeat (first | exact trivial | refine And.intro rfl ?_)) : subf L r := h
abbrev nO : Option Own := none
def updO : List Own → List (Option Own) → List Own
  | _ :: os, some x :: r => x :: updO os r
  | o :: os, none :: r => o :: updO os r
  | os, [] => os
  | [], _ => []
theorem zl (ks : List Nat) {lk : Fr} (I : (Fr → Fr) → (List (Option Own) → List Own) → Fr → List Own → World → Nat → Prop) {body : Code} {l₀ : Fr} {m₀ : Nat} (h0 : I (· ++ lk) (updO os) l₀ os u m₀)
    (round : ∀ l' os' u' m, I (· ++ lk) (updO os) l' os' u' m → Up lo u u' → Js P n lo B (LQ n lo B (fun l os w m => I (· ++ lk) (updO os₀) l os w m ∧ Up lo u w) m Q) [body] l' os' u')
    (e : os₀ = os := by rfl) (hk : Kp l ks lk := by exact kp_) (hl : subf l l₀ := by exact sub_) : Js P n lo B Q (.loop body :: cs) l os u := by
  subst e
  exact Js.loop (fun l os' w m => I (· ++ lk) (updO os₀) l os' w m ∧ Up lo u w) ⟨h0, Up.refl _ _⟩ hl fun l' os' u' m h => round l' os' u' m h.1 h.2
theorem zag {J : Fr → List Own → World → Nat → Prop} {m m' : Nat} {l' : Fr} {u1 : World} (hI : J l' os u m') (x : Up lo u1 u) (hm : m' < m := by omega) (hl : subf l l' := by exact sub_) : Js P n lo B (LQ n lo B (fun l os w m => J l os w m ∧ Up lo u1 w) m Q) [] l os u := Js.again ⟨hI, x⟩ hm hl
theorem zk (ks : List Nat) {lk : Fr} (I : (Fr → Fr) → (List (Option Own) → List Own) → Fr → List Own → World → Prop) {c : Code} (h1 : Js P n lo B (CQ n lo B (fun l os w => I (· ++ lk) (updO os₀) l os w ∧ Up lo u w) Q) [c] l os u)
    (h2 : ∀ l' os' u', I (· ++ lk) (updO os₀) l' os' u' → Up lo u u' → Js P n lo B Q cs l' os' u') (e : os₀ = os := by rfl) (hk : Kp l ks lk := by exact kp_) : Js P n lo B Q (c :: cs) l os u := by
  subst e
  exact Js.cut (fun l os w => I (· ++ lk) (updO os₀) l os w ∧ Up lo u w) h1 fun l' os' u' h => h2 l' os' u' h.1 h.2
theorem zm {J : Fr → List Own → World → Prop} {l' : Fr} {u1 : World} (hI : J l' os u) (x : Up lo u1 u) (hl : subf l l' := by exact sub_) : Js P n lo B (CQ n lo B (fun l os w => J l os w ∧ Up lo u1 w) Q) [] l os u := Js.meet ⟨hI, x⟩ hl
theorem zt {p : Prop} (h : p := by first | assumption | omega | rfl | (simp; done)) : p := h
theorem zu {p : Prop} (h : p := by first | omega | (simp only [List.length_append, List.length_cons, List.length_nil] <;> omega)) : p := h
theorem om_ {p : Prop} (h : p := by first | omega | (simp only [List.length_append, List.length_cons, List.length_nil]; omega)) : p := h
theorem zn {l' : Fr} (k : Js P n lo B Q cs l' os' u) (hl : NL l l' := by exact nl) (ho : NL os os' := by exact nl) : Js P n lo B Q cs l os u := by rw [hl.eq, ho.eq]; exact k
theorem znl (k : JL P n lo B K ops rest l os' u) (ho : NL os os' := by exact nl) : JL P n lo B K ops rest l os u := by rw [ho.eq]; exact k
theorem znh (k : JH P n lo B K ops u₀ os₀ nm fuel listed z l os' u) (ho : NL os os' := by exact nl) : JH P n lo B K ops u₀ os₀ nm fuel listed z l os u := by rw [ho.eq]; exact k
inductive PickI : List Own → Nat → Own → List Own → Prop
  | z {o : Own} {r : List Own} : PickI (o :: r) 0 o r
  | s {o q : Own} {r s : List Own} {k : Nat} (h : PickI r k o s) : PickI (q :: r) (k + 1) o (q :: s)
theorem PickI.perm {os r : List Own} {k : Nat} {o : Own} (h : PickI os k o r) : os.Perm (o :: r) := by
  induction h with
  | z => exact List.Perm.refl _
  | s _ ih => exact (ih.cons _).trans (List.Perm.swap _ _ _)
inductive PP : List Own → List Nat → List Own → Prop
  | nil {os : List Own} : PP os [] os
  | cons {os r s : List Own} {k : Nat} {ks : List Nat} {o : Own} (h : PickI os k o r) (t : PP r ks s) : PP os (k :: ks) (o :: s)
theorem PP.perm {os s : List Own} {ks : List Nat} (h : PP os ks s) : os.Perm s := by
  induction h with
  | nil => exact List.Perm.refl _
  | cons h _ ih => exact h.perm.trans (ih.cons _)
theorem pp_ {os s : List Own} {ks : List Nat} (h : PP os ks s := by repeat (first | exact PP.nil | (apply PP.cons; repeat (first | exact PickI.z | apply PickI.s)))) : PP os ks s := h
theorem zh (ks : List Nat) (k : Js P n lo B Q cs l os' u) (h : PP os ks os' := by exact pp_) : Js P n lo B Q cs l os u := Js.conv (fun _ hw => hw.swap h.perm.symm) k
theorem zhl (ks : List Nat) (k : JL P n lo B K ops rest l os' u) (h : PP os ks os' := by exact pp_) : JL P n lo B K ops rest l os u := JL.conv (fun _ hw => hw.swap h.perm.symm) k
theorem zhh (ks : List Nat) (k : JHo P n lo B K ops u₀ os₀ nm fuel listed z l os' u i) (h : PP os ks os' := by exact pp_) : JHo P n lo B K ops u₀ os₀ nm fuel listed z l os u i := JHo.conv (fun _ hw => hw.swap h.perm.symm) k
theorem zf (ks : List Nat) {m : Nat} {ra : List Own} (k : ∀ G, Js P n lo B Q cs l (ra ++ [anyO G]) u) (hm : ks.length = m := by rfl) (h : PP os ks os' := by exact pp_) (hs' : NL (os'.take m) ra := by exact nl) : Js P n lo B Q cs l os u :=
  Js.conv (os' := ra ++ [anyO ((os'.drop m).flatMap (·.fp))]) (fun w hw => by
    have hp := h.perm
    have e : os' = ra ++ os'.drop m := by rw [← hs'.eq, List.take_append_drop]
    refine hw.conv (fun o ho => ?_) ?_
    · rcases List.mem_append.1 ho with ho | ho
      · exact hw.prs o (hp.mem_iff.2 (by rw [e]; exact List.mem_append_left _ ho))
      · simp at ho; subst ho; trivial
    · have := hp.symm.flatMap_right (fun o : Own => o.fp)
      rw [e, List.flatMap_append] at this
      rw [List.flatMap_append]
      simpa [anyO] using this) (k _)
theorem zd (ks : List Nat) {m : Nat} {ra : List Own} (hB : B = []) (k : ∀ u', Up lo u u' → Js P n lo B Q cs l ra u') (hm : ks.length = m := by rfl) (h : PP os ks os' := by exact pp_) (hs' : NL (os'.take m) ra := by exact nl) : Js P n lo B Q cs l os u := by
  rw [← hs'.eq] at k
  refine zh ks ?_ h
  have key : ∀ (r s : List Own) (u : World), (∀ u', Up lo u u' → Js P n lo B Q cs l r u') → Js P n lo B Q cs l (r ++ s) u := by
    intro r s
    induction s generalizing r with
    | nil => intro u h; simpa using h u (Up.refl _ _)
    | cons o s ih =>
      intro u h
      refine Js.drop (i := r.length) (o := o) hB (by simp) fun u' x => ?_
      have : (r ++ o :: s).eraseIdx r.length = r ++ s := by rw [List.eraseIdx_append_of_length_le (Nat.le_refl _)]; simp
      rw [this]
      exact ih r u' fun u'' x' => h u'' (x.trans x')
  have := key (os'.take m) (os'.drop m) u k
  rwa [List.take_append_drop] at this
end
end Go.Proofs.Ytejnmechnhgmfaa

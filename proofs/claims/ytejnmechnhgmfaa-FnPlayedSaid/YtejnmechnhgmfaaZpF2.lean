/- A framework for walks: judgements on code, on the rows of a region, on a region that draws its order. -/
import Derived.Test.YtejnmechnhgmfaaZpF1
set_option linter.unusedSimpArgs false
set_option linter.unusedVariables false
namespace Go.Proofs.Ytejnmechnhgmfaa
open Go.RowKit
theorem least (p : Nat → Prop) (h : ∃ m, p m) : ∃ m, p m ∧ ∀ k, p k → m ≤ k := by
  obtain ⟨m, hm⟩ := h
  induction m using Nat.strongRecOn with
  | _ m ih =>
    by_cases hx : ∃ k, k < m ∧ p k
    · obtain ⟨k, hk, hp⟩ := hx; exact ih k hk hp
    · exact ⟨m, hm, fun k hk => Nat.le_of_not_lt fun hlt => hx ⟨k, hlt, hk⟩⟩
def NQ (K : Act → World → Prop) : Exit → Act → World → Prop
  | .normal, a, w => K a w
  | _, _, _ => False
theorem NQ.imp {K : Act → World → Prop} {Q : Exit → Act → World → Prop} (h : ∀ a w, K a w → Q .normal a w) : ∀ e a w, NQ K e a w → Q e a w := fun e a w k => by
  cases e <;> first | exact h _ _ k | exact (k : False).elim
def seqs (P : Program) (Q : Exit → Act → World → Prop) : List Code → Act → World → Prop
  | [], a, w => Q .normal a w
  | c :: cs, a, w => c.wp P (Exit.then (seqs P Q cs) Q) a w
def Js (P : Program) (n lo : Nat) (B : List Nat) (Q : Exit → Act → World → Prop) (cs : List Code) (l : Fr) (os : List Own) (u : World) : Prop :=
  ∀ a w, Has n a l → St lo B u w os → seqs P Q cs a w
def JL (P : Program) (n lo : Nat) (B : List Nat) (K : Act → World → Prop) (ops : Array Oper) (rest : List Oper) (l : Fr) (os : List Own) (u : World) : Prop :=
  ∀ a w, Has n a l → St lo B u w os → wpList P ops (NQ K) rest a w
section
variable {P : Program} {n lo : Nat} {B : List Nat} {Q : Exit → Act → World → Prop} {cs : List Code} {l : Fr} {os : List Own} {u : World}
theorem Js.seq {x y : Code} (h : Js P n lo B Q (x :: y :: cs) l os u) : Js P n lo B Q (.seq x y :: cs) l os u := fun a w ha hw =>
  wp_seq (wp_mono (h a w ha hw) fun e a w k => by cases e <;> exact k)
theorem Js.skip (h : Js P n lo B Q cs l os u) : Js P n lo B Q (.skip :: cs) l os u := fun a w ha hw => wp_skip (h a w ha hw)
theorem Js.ret_ (h : ∀ a w, Has n a l → St lo B u w os → Q .ret a w) : Js P n lo B Q (.ret :: cs) l os u := fun a w ha hw => wp_ret (h a w ha hw)
theorem Js.exit {i : Nat} {cs' : List Code} {Q' : Exit → Act → World → Prop} (hQ : ∀ a w, Q (.exit i) a w = seqs P Q' cs' a w) (h : Js P n lo B Q' cs' l os u) : Js P n lo B Q (.exit i :: cs) l os u := fun a w ha hw =>
  wp_exit (by show Q (.exit i) a w; rw [hQ]; exact h a w ha hw)
theorem Js.conv {os' : List Own} (ho : ∀ w, St lo B u w os → St lo B u w os') (h : Js P n lo B Q cs l os' u) : Js P n lo B Q cs l os u := fun a w ha hw => h a w ha (ho w hw)
theorem Js.cond {c : Operand} {b : Bool} {x y : Code} (hc : opd l c = some (.bool b)) (ht : b = true → Js P n lo B Q (x :: cs) l os u) (hf : b = false → Js P n lo B Q (y :: cs) l os u) :
    Js P n lo B Q (.cond c x y :: cs) l os u := fun a w ha hw => by
  refine wp_cond_split (ha.eval hc) (fun e => ht e a w ha hw) (fun e => hf e a w ha hw)
theorem Js.region {id : Nat} {ops : List Oper} (h : JL P n lo B (seqs P Q cs) ops.toArray ops l os u) : Js P n lo B Q (.region id ops.toArray false :: cs) l os u := fun a w ha hw =>
  wp_mono (wp_region_lit (h a w ha hw)) (NQ.imp fun _ _ k => k)
def BQ (i : Nat) (K : Act → World → Prop) (Q : Exit → Act → World → Prop) : Exit → Act → World → Prop
  | .normal, a, w => K a w
  | .exit j, a, w => bif Nat.beq j i then K a w else Q (.exit j) a w
  | e, a, w => Q e a w
theorem Js.block {i : Nat} {c : Code} (h : Js P n lo B (BQ i (seqs P Q cs) Q) [c] l os u) : Js P n lo B Q (.block i c :: cs) l os u := fun a w ha hw => by
  refine wp_block (wp_mono (h a w ha hw) fun e a w k => ?_)
  cases e with
  | exit j =>
    simp only [Exit.then, BQ] at k
    simp only [Exit.inBlock]
    by_cases e : j = i
    · subst e; simpa [Exit.then] using k
    · have e' : Nat.beq j i = false := by cases h : Nat.beq j i <;> simp_all [Nat.beq_eq]
      rw [e'] at k
      rw [if_neg e]; exact k
  | _ => exact k
def LQ (n lo : Nat) (B : List Nat) (I : Fr → List Own → World → Nat → Prop) (m : Nat) (Q : Exit → Act → World → Prop) : Exit → Act → World → Prop
  | .normal, a, w => ∃ l os u m', m' < m ∧ I l os u m' ∧ Has n a l ∧ St lo B u w os
  | e, a, w => Q e a w
open Classical in
theorem Js.loop (I : Fr → List Own → World → Nat → Prop) {body : Code} {l₀ : Fr} {m₀ : Nat} (h0 : I l₀ os u m₀) (hl : subf l l₀)
    (round : ∀ l os u m, I l os u m → Js P n lo B (LQ n lo B I m Q) [body] l os u) : Js P n lo B Q (.loop body :: cs) l os u := fun a w ha hw => by
  have D : ∀ (a : Act) (w : World), (∃ m, ∃ l os u, I l os u m ∧ Has n a l ∧ St lo B u w os) → ∃ m, (∃ l os u, I l os u m ∧ Has n a l ∧ St lo B u w os) ∧ ∀ k, (∃ l os u, I l os u k ∧ Has n a l ∧ St lo B u w os) → m ≤ k := fun a w h =>
    least (fun m => ∃ l os u, I l os u m ∧ Has n a l ∧ St lo B u w os) h
  refine wp_loop (fun a w => ∃ m, ∃ l os u, I l os u m ∧ Has n a l ∧ St lo B u w os) (fun a w => if h : ∃ m, ∃ l os u, I l os u m ∧ Has n a l ∧ St lo B u w os then Classical.choose (D a w h) else 0) ⟨m₀, l₀, os, u, h0, ha.sub hl, hw⟩ fun a w h => ?_
  have hs := Classical.choose_spec (D a w h)
  simp only [dif_pos h]
  generalize Classical.choose (D a w h) = m at hs
  obtain ⟨⟨l, os, u, hI, hA, hW⟩, _⟩ := hs
  refine wp_mono (round l os u m hI a w hA hW) fun e a' w' k => ?_
  cases e with
  | normal =>
    obtain ⟨l', os', u', m', hm, hI', hA', hW'⟩ := k
    have h' : ∃ m, ∃ l os u, I l os u m ∧ Has n a' l ∧ St lo B u w' os := ⟨m', l', os', u', hI', hA', hW'⟩
    refine ⟨h', ?_⟩
    have hs' := Classical.choose_spec (D a' w' h')
    rw [dif_pos h']
    exact Nat.lt_of_le_of_lt (hs'.2 m' ⟨l', os', u', hI', hA', hW'⟩) hm
  | _ => exact k
theorem Js.again {I : Fr → List Own → World → Nat → Prop} {m m' : Nat} {l' : Fr} (hI : I l' os u m') (hm : m' < m) (hl : subf l l') : Js P n lo B (LQ n lo B I m Q) [] l os u := fun a w ha hw =>
  ⟨l', os, u, m', hm, hI, ha.sub hl, hw⟩
def CQ (n lo : Nat) (B : List Nat) (I : Fr → List Own → World → Prop) (Q : Exit → Act → World → Prop) : Exit → Act → World → Prop
  | .normal, a, w => ∃ l os u, I l os u ∧ Has n a l ∧ St lo B u w os
  | e, a, w => Q e a w
theorem Js.cut (I : Fr → List Own → World → Prop) {c : Code} (h1 : Js P n lo B (CQ n lo B I Q) [c] l os u) (h2 : ∀ l os u, I l os u → Js P n lo B Q cs l os u) : Js P n lo B Q (c :: cs) l os u := fun a w ha hw =>
  wp_mono (h1 a w ha hw) fun e a w k => by
    cases e with
    | normal => obtain ⟨l, os, u, hI, hA, hW⟩ := k; exact h2 l os u hI a w hA hW
    | _ => exact k
theorem Js.meet {I : Fr → List Own → World → Prop} {l' : Fr} (hI : I l' os u) (hl : subf l l') : Js P n lo B (CQ n lo B I Q) [] l os u := fun a w ha hw =>
  ⟨l', os, u, hI, ha.sub hl, hw⟩
end
def entryFr : Nat → List Value → Fr
  | _, [] => []
  | i, v :: vs => (i, v) :: entryFr (i + 1) vs
theorem entryFr_look : ∀ (vs : List Value) (i k : Nat) (v : Value), look (entryFr i vs) k = some v → i ≤ k ∧ vs[k - i]? = some v
  | [], i, k, v, h => by simp [entryFr, look] at h
  | x :: vs, i, k, v, h => by
    simp only [entryFr, look] at h
    by_cases e : i = k
    · subst e; simp at h; subst h; simp
    · have e' : Nat.beq i k = false := by cases h : Nat.beq i k <;> simp_all [Nat.beq_eq]
      rw [e'] at h
      obtain ⟨h1, h2⟩ := entryFr_look vs (i + 1) k v h
      refine ⟨by omega, ?_⟩
      rw [show k - i = (k - (i + 1)) + 1 by omega]
      simpa using h2
theorem enter {P : Program} {f : FuncId} {fn : Func} {c : Code} {n : Nat} {vs : List Value} {w : World} {R : Ending → World → Prop} (hf : P.funcs[f]? = some fn) (hn : fn.ntmps = n) (hb : fn.body = some c)
    (hs : Nat.ble vs.length n = true) (h : Js P n w.heap.size [] (bodyPost P fn R) [c] (entryFr 0 vs) [] w) : Calls P f vs.toArray w R := by
  have hs : vs.length ≤ n := by simpa [Nat.ble_eq] using hs
  refine calls_of_wp hf hb ?_
  refine wp_mono (h _ w ⟨rfl, by simp [hn]; omega, fun k v hk => ?_⟩ (St.start w)) fun e a w k => by cases e <;> exact k
  obtain ⟨_, h2⟩ := entryFr_look vs 0 k v hk
  simp only [Nat.sub_zero] at h2
  have hlt : k < vs.length := (List.getElem?_eq_some_iff.1 h2).1
  have h3 := (List.getElem?_eq_some_iff.1 h2).2
  simp [Array.getD_eq_getD_getElem?, Array.getElem?_append, hlt, h3]
def OpQ (P : Program) (n lo : Nat) (B : List Nat) (l : Fr) (os : List Own) (u : World) (o : Oper) (v : Value) : Prop :=
  ∀ a w, Has n a l → St lo B u w os → (execOp a.eval o).run P w = .ok (.value v) w
def OpE (P : Program) (n lo : Nat) (B : List Nat) (l : Fr) (os : List Own) (u : World) (o : Oper) (x : Bool) (E : Value → List Own → World → Prop) : Prop :=
  ∀ a w, Has n a l → St lo B u w os → ∀ (K : Act → World → Prop) (Q : Exit → Act → World → Prop),
    (∀ v os' u' w', E v os' u' → Up lo u u' → St lo B u' w' os' → (x = true → Ext w w') → K (a.put o.dst v) w') → o.wp P a w K Q
def Gd (ops : Array Oper) (l : Fr) (o : Oper) (c : Bool) : Prop := ∀ n a, Has n a l → Region.wanted o (yielded ops a.tmps) = c
theorem Gd.none {ops : Array Oper} {l : Fr} {o : Oper} (h : o.guard = none) : Gd ops l o true := fun n a _ => by simp [Region.wanted, h]
theorem Gd.some {ops : Array Oper} {l : Fr} {o : Oper} {j t : Nat} {want b c : Bool} (h : o.guard = some (j, want)) (hj : (ops[j]?).bind (·.dst) = some t) (hl : look l t = some (gv c (.bool b))) (c' : Bool) (hc : (c && (b == want)) = c') : Gd ops l o c' := fun n a ha => by
  have e := ha.get t _ hl
  have e2 : a.tmps[t]?.getD undef = gv c (.bool b) := by rw [← Array.getD_eq_getD_getElem?]; exact e
  subst hc
  unfold Region.wanted yielded
  rw [h]
  simp only [hj, Option.bind_some]
  cases ht : a.tmps[t]? with
  | none =>
    rw [ht] at e2
    simp at e2
    cases c with
    | false => simp
    | true => simp [gv, undef] at e2
  | some x =>
    rw [ht] at e2
    simp at e2
    subst e2
    cases c with
    | false => simp [gv, undef]
    | true => cases b <;> cases want <;> simp [gv]
theorem Gd.some' {ops : Array Oper} {l : Fr} {o : Oper} {j t : Nat} {want b : Bool} (h : o.guard = Option.some (j, want)) (hj : (ops[j]?).bind (·.dst) = Option.some t) (hl : look l t = Option.some (.bool b)) (c' : Bool) (hc : (b == want) = c') : Gd ops l o c' :=
  Gd.some (c := true) h hj hl c' (by simpa using hc)
section
variable {P : Program} {n lo : Nat} {B : List Nat} {K : Act → World → Prop} {ops : Array Oper} {rest : List Oper} {l : Fr} {os : List Own} {u : World} {o : Oper} {v : Value} {d : Nat} {c : Bool}
theorem JL.nil {Q : Exit → Act → World → Prop} {cs : List Code} (h : Js P n lo B Q cs l os u) : JL P n lo B (seqs P Q cs) ops [] l os u := fun a w ha hw => wpList_nil (h a w ha hw)
theorem JL.conv {os' : List Own} (ho : ∀ w, St lo B u w os → St lo B u w os') (h : JL P n lo B K ops rest l os' u) : JL P n lo B K ops rest l os u := fun a w ha hw => h a w ha (ho w hw)
theorem wp_of_quiet {a : Act} {w : World} {K : Act → World → Prop} {Q : Exit → Act → World → Prop} (h : (execOp a.eval o).run P w = .ok (.value v) w) (k : K (a.put o.dst v) w) : o.wp P a w K Q := by
  unfold Oper.wp; rw [h]; exact k
theorem JL.q (h : OpQ P n lo B l os u o v) (k : JL P n lo B K ops rest ((d, v) :: l) os u) (hg : o.guard = none := by rfl) (hd : o.dst = some d := by rfl) (hn : Nat.blt d n = true := by rfl) : JL P n lo B K ops (o :: rest) l os u := fun a w ha hw =>
  wpList_plain hg fun _ hK => wp_of_quiet (h a w ha hw) (hK _ _ (by rw [hd]; exact k _ w (ha.put hn v) hw))
theorem JL.g (hg : Gd ops l o c) (h : c = true → OpQ P n lo B l os u o v) (k : JL P n lo B K ops rest ((d, gv c v) :: l) os u) (hd : o.dst = some d := by rfl) (hn : Nat.blt d n = true := by rfl) : JL P n lo B K ops (o :: rest) l os u := fun a w ha hw => by
  refine wpList_step fun K' hK => ?_
  rw [hg n a ha]
  cases c with
  | true => rw [if_pos rfl]; exact wp_of_quiet (h rfl a w ha hw) (hK _ _ (by rw [hd]; exact k _ w (ha.put hn v) hw))
  | false => rw [if_neg (by simp)]; exact hK _ _ (by rw [hd]; exact k _ w (ha.put hn undef) hw)
theorem JL.e {x : Bool} {E : Value → List Own → World → Prop} (h : OpE P n lo B l os u o x E) (k : ∀ v os' u', E v os' u' → Up lo u u' → JL P n lo B K ops rest ((d, v) :: l) os' u') (hg : o.guard = none := by rfl) (hd : o.dst = some d := by rfl) (hn : Nat.blt d n = true := by rfl) : JL P n lo B K ops (o :: rest) l os u := fun a w ha hw =>
  wpList_plain hg fun _ hK => h a w ha hw _ _ fun v os' u' w' hE hx hw' _ => hK _ _ (by rw [hd]; exact k v os' u' hE hx _ w' (ha.put hn v) hw')
theorem JL.s {x : Bool} {E : Value → List Own → World → Prop} (h : OpE P n lo B l os u o x E) (k : ∀ v os' u', E v os' u' → Up lo u u' → JL P n lo B K ops rest l os' u') (hg : o.guard = none := by rfl) (hd : o.dst = none := by rfl) : JL P n lo B K ops (o :: rest) l os u := fun a w ha hw =>
  wpList_plain hg fun _ hK => h a w ha hw _ _ fun v os' u' w' hE hx hw' _ => hK _ _ (by rw [hd]; exact k v os' u' hE hx _ w' (ha.none v) hw')
theorem JL.eT {x : Bool} {E : Value → List Own → World → Prop} (hg : Gd ops l o c) (hc : c = true) (h : OpE P n lo B l os u o x E) (k : ∀ v os' u', E v os' u' → Up lo u u' → JL P n lo B K ops rest ((d, v) :: l) os' u') (hd : o.dst = some d := by rfl) (hn : Nat.blt d n = true := by rfl) : JL P n lo B K ops (o :: rest) l os u := fun a w ha hw => by
  refine wpList_step fun K' hK => ?_
  rw [hg n a ha, hc, if_pos rfl]
  exact h a w ha hw _ _ fun v os' u' w' hE hx hw' _ => hK _ _ (by rw [hd]; exact k v os' u' hE hx _ w' (ha.put hn v) hw')
theorem JL.ge (hg : Gd ops l o c) (h : c = true → OpE P n lo B l os u o true (fun v' os' u' => v' = v ∧ os' = os ∧ u = u')) (k : JL P n lo B K ops rest ((d, gv c v) :: l) os u) (hd : o.dst = some d := by rfl) (hn : Nat.blt d n = true := by rfl) : JL P n lo B K ops (o :: rest) l os u := fun a w ha hw => by
  refine wpList_step fun K' hK => ?_
  rw [hg n a ha]
  cases c with
  | true =>
    rw [if_pos rfl]
    refine h rfl a w ha hw _ _ fun v' os' u' w' hE hx hw' _ => hK _ _ ?_
    obtain ⟨rfl, rfl, rfl⟩ := hE
    rw [hd]; exact k _ w' (ha.put hn v') hw'
  | false => rw [if_neg (by simp)]; exact hK _ _ (by rw [hd]; exact k _ w (ha.put hn undef) hw)
end
section
variable {P : Program} {ops : Array Oper} {Q : Exit → Act → World → Prop} {md : Region.Mode}
def wpAnyS (P : Program) (md : Region.Mode) (ops : Array Oper) (Q : Exit → Act → World → Prop) (S : Nat → World → World → Prop) : Nat → Array Bool → Act → World → Prop
  | 0, listed, a, w => Region.ready md ops listed = [] ∧ Q .normal a w
  | fuel + 1, listed, a, w =>
    (Region.ready md ops listed = [] → Q .normal a w) ∧
    ∀ i ∈ Region.ready md ops listed, wpOp P ops Q i (fun a' w' => S i w w' ∧ wpAnyS P md ops Q S fuel (listed.setIfInBounds i true) a' w') a w
theorem wpAnyS.any {S : Nat → World → World → Prop} : ∀ (fuel : Nat) (listed : Array Bool) (a : Act) (w : World), wpAnyS P md ops Q S fuel listed a w → wpAny P md ops Q fuel listed a w
  | 0, _, _, _, h => h
  | fuel + 1, _, _, _, h => ⟨h.1, fun i hi => wpOp_mono (fun a' w' h' => wpAnyS.any fuel _ a' w' h'.2) (h.2 i hi)⟩
theorem wpAnyS.first {C : Array Bool → Prop} {S : Nat → World → World → Prop} {S0 : World → Prop} {i : Nat} {oi : Oper} {v : Value} (hi : ops[i]? = some oi) (hsel : ∀ (j : Nat) (o : Oper) cs b, ops[j]? = some o → o.op ≠ .select cs b)
    (hQ : ∀ c a w, Q (.panic c) (a.put oi.dst v) w → Q (.panic c) a w)
    (hC : ∀ j listed, C listed → j ∈ Region.ready md ops listed → C (listed.setIfInBounds j true)) (hS : ∀ j w w' listed, C listed → j ≠ i → listed.getD i false = false → j ∈ Region.ready md ops listed → S j w w' → S0 w → S0 w') (hSi : ∀ w, S i w w)
    (hfree : ∀ j oj, ops[j]? = some oj → j ≠ i → ∀ listed : Array Bool, i ∈ Region.ready md ops listed → listed.getD i false = false → j ∈ Region.ready md ops listed → oi.apart ops oj = true) :
    ∀ (fuel : Nat) (listed : Array Bool) (a : Act) (w : World), C listed → i ∈ Region.ready md ops listed → YieldsIf P ops S0 oi v a → S0 w →
      wpAnyS P md ops Q S fuel (listed.setIfInBounds i true) (a.put oi.dst v) w → wpAnyS P md ops Q S (fuel + 1) listed a w := by
  intro fuel
  have unl : ∀ {listed : Array Bool}, i ∈ Region.ready md ops listed → listed.getD i false = false := fun {listed} hr => by
    have h0 := (mem_ready.1 hr).1
    rcases Nat.lt_or_ge i listed.size with h' | h'
    · simp [h'] at h0 ⊢; exact h0
    · simp [Array.getElem?_eq_none h']
  induction fuel with
  | zero =>
    intro listed a w hcl hr hy hw H
    refine ⟨fun h => (by rw [h] at hr; cases hr), fun j hj => ?_⟩
    by_cases hji : j = i
    · subst hji; exact hy.wpOp hi hw ⟨hSi w, H⟩
    · have := ready_mono hj hji
      rw [H.1] at this
      cases this
  | succ fuel ih =>
    intro listed a w hcl hr hy hw H
    refine ⟨fun h => (by rw [h] at hr; cases hr), fun j hj => ?_⟩
    by_cases hji : j = i
    · subst hji; exact hy.wpOp hi hw ⟨hSi w, H⟩
    · have h1 := H.2 j (ready_mono hj hji)
      obtain ⟨hjun, oj, hoj, hall⟩ := mem_ready.1 hj
      have h2 := wpOp_putIf hoj (hfree j oj hoj hji listed hr (unl hr) hj) (fun cs b => hsel i oi cs b hi) (fun cs b => hsel j oj cs b hoj) hQ hy h1
      refine wpOp_mono (fun a' w' h3 => ⟨h3.2.1, ih (listed.setIfInBounds j true) a' w' (hC j listed hcl hj) (ready_mono hr (Ne.symm hji)) h3.1 (hS j w w' listed hcl hji (unl hr) hj h3.2.1 hw) ?_⟩) h2
      rw [Array.setIfInBounds_comm _ _ hji]
      exact h3.2.2
end
def freeB (ops : Array Oper) (i : Nat) : Bool :=
  match ops[i]? with
  | none => false
  | some oi => (List.range ops.size).all fun j => j == i || match ops[j]? with
      | some oj => oj.after.any (fun e => Region.binds .any e && e.on == i) || oi.after.any (fun e => Region.binds .any e && e.on == j) || oi.apart ops oj
      | none => true
def Clo (ops : Array Oper) (listed : Array Bool) : Prop := ∀ x o, ops[x]? = some o → listed.getD x false = true → ∀ e ∈ o.after, Region.binds .any e = true → listed.getD e.on false = true
def cloB (ops : Array Oper) (listed : Array Bool) : Bool := (List.range ops.size).all fun x => !listed.getD x false || match ops[x]? with
  | some o => o.after.all (fun e => !Region.binds .any e || listed.getD e.on false)
  | none => true
theorem cloB_spec {ops : Array Oper} {listed : Array Bool} (h : cloB ops listed = true) : Clo ops listed := fun x o ho hl e he hb => by
  simp only [cloB, List.all_eq_true, List.mem_range] at h
  have h1 := h x (Array.getElem?_eq_some_iff.1 ho).1
  rw [hl, ho] at h1
  simp only [Bool.not_true, Bool.false_or] at h1
  have h2 := Array.all_eq_true'.1 h1 e he
  rw [hb] at h2
  simpa using h2
theorem Clo.step {ops : Array Oper} {listed : Array Bool} {j : Nat} (h : Clo ops listed) (hj : j ∈ Region.ready .any ops listed) : Clo ops (listed.setIfInBounds j true) := fun x o ho hl e he hb => by
  have up : ∀ k, listed.getD k false = true → (listed.setIfInBounds j true).getD k false = true := fun k hk => by
    rcases Nat.lt_or_ge k listed.size with h' | h'
    · simp [h'] at hk ⊢
      rw [Array.getElem_setIfInBounds (by simpa using h')]
      split
      · rfl
      · exact hk
    · simp [Array.getElem?_eq_none h'] at hk
  by_cases hx : x = j
  · subst hx
    obtain ⟨_, o', ho', hall⟩ := mem_ready.1 hj
    rw [ho] at ho'
    injection ho' with ho'
    subst ho'
    exact up _ (hall e he hb)
  · refine up _ (h x o ho ?_ e he hb)
    rcases Nat.lt_or_ge x listed.size with h' | h'
    · simp [h'] at hl ⊢
      rw [Array.getElem_setIfInBounds (by simpa using h'), if_neg (fun e => hx e.symm)] at hl
      exact hl
    · have h2 : (listed.setIfInBounds j true)[x]? = none := Array.getElem?_eq_none (by simpa using h')
      rw [Array.getD_eq_getD_getElem?, h2] at hl
      simp at hl
def marks (i : Nat) : List Oper → Nat → List Nat → List Nat
  | [], _, s => s
  | o :: r, k, s => marks i r (k + 1) (if Nat.beq k i || o.after.any (fun e => Region.binds .any e && s.any (Nat.beq e.on)) then k :: s else s)
def MInv (ops : Array Oper) (i : Nat) (s : List Nat) : Prop := ∀ x ∈ s, x = i ∨ ∃ o, ops[x]? = some o ∧ ∃ e ∈ o.after, Region.binds .any e = true ∧ ∀ listed, Clo ops listed → listed.getD e.on false = true → listed.getD i false = true
theorem marks_inv {ops : Array Oper} {i : Nat} : ∀ (r : List Oper) (k : Nat) (s : List Nat), (∀ n o, r[n]? = some o → ops[k + n]? = some o) → MInv ops i s → MInv ops i (marks i r k s)
  | [], _, _, _, h => h
  | o :: r, k, s, hr, h => by
    refine marks_inv r (k + 1) _ (fun n o' hn => by have := hr (n + 1) o' (by simpa using hn); rwa [show k + 1 + n = k + (n + 1) by omega]) ?_
    split
    · rename_i hc
      intro x hx
      rcases List.mem_cons.1 hx with rfl | hx
      · simp only [Bool.or_eq_true, Nat.beq_eq] at hc
        rcases hc with rfl | hc
        · exact .inl rfl
        · refine .inr ⟨o, hr 0 o rfl, ?_⟩
          obtain ⟨e, he, hb⟩ := Array.any_eq_true'.1 hc
          simp only [Bool.and_eq_true] at hb
          obtain ⟨y, hy, hye⟩ := List.any_eq_true.1 hb.2
          have hye : e.on = y := by simpa [Nat.beq_eq] using hye
          refine ⟨e, he, hb.1, fun listed hcl hl => ?_⟩
          rcases h y hy with rfl | ⟨o', ho', e', he', hb', k'⟩
          · rw [← hye]; exact hl
          · exact k' listed hcl (hcl y o' ho' (hye ▸ hl) e' he' hb')
      · exact h x hx
    · exact h
def waitB (ops : Array Oper) (i : Nat) (nm : List Nat) (listed : Array Bool) : Bool := cloB ops listed && nm.all fun j => !Nat.beq j i && (marks i ops.toList 0 []).any (Nat.beq j)
theorem not_ready {ops : Array Oper} {i j : Nat} {oj : Oper} {listed : Array Bool} (hj : ops[j]? = some oj) (h : oj.after.any (fun e => Region.binds .any e && e.on == i) = true) (hl : listed.getD i false = false)
    (hr : j ∈ Region.ready .any ops listed) : False := by
  obtain ⟨_, o, ho, hall⟩ := mem_ready.1 hr
  rw [hj] at ho
  injection ho with ho
  subst ho
  obtain ⟨e, he, hb⟩ := Array.any_eq_true'.1 h
  simp only [Bool.and_eq_true, beq_iff_eq] at hb
  have := hall e he hb.1
  rw [hb.2, hl] at this
  cases this
theorem freeB_spec {ops : Array Oper} {i : Nat} {oi : Oper} (hi : ops[i]? = some oi) (h : freeB ops i = true) (j : Nat) (oj : Oper) (hj : ops[j]? = some oj) (hne : j ≠ i) (listed : Array Bool) (hir : i ∈ Region.ready .any ops listed) (hl : listed.getD i false = false)
    (hr : j ∈ Region.ready .any ops listed) : oi.apart ops oj = true := by
  simp only [freeB, hi, List.all_eq_true, List.mem_range] at h
  have h1 := h j (Array.getElem?_eq_some_iff.1 hj).1
  simp only [hj, Bool.or_eq_true, beq_iff_eq, hne, false_or] at h1
  rcases h1 with (h1 | h1) | h1
  · exact (not_ready hj h1 hl hr).elim
  · have hj0 := (mem_ready.1 hr).1
    refine (not_ready hi h1 ?_ hir).elim
    rcases Nat.lt_or_ge j listed.size with h' | h'
    · simp [h'] at hj0 ⊢; exact hj0
    · simp [Array.getElem?_eq_none h']
  · exact h1
theorem waitB_spec {ops : Array Oper} {i : Nat} {nm : List Nat} {listed₀ : Array Bool} (h : waitB ops i nm listed₀ = true) {j : Nat} (hj : nm.contains j = true) {listed : Array Bool} (hc : Clo ops listed) (hl : listed.getD i false = false) (hr : j ∈ Region.ready .any ops listed) : False := by
  simp only [waitB, Bool.and_eq_true, List.all_eq_true] at h
  have h1 := h.2 j (by simpa using hj)
  obtain ⟨y, hy, hye⟩ := List.any_eq_true.1 h1.2
  have hye : j = y := by simpa [Nat.beq_eq] using hye
  subst hye
  rcases marks_inv (ops := ops) (i := i) ops.toList 0 [] (fun n o hn => by simpa using hn) (fun x hx => by simp at hx) j hy with e | ⟨o, ho, e, he, hb, k⟩
  · subst e; have := h1.1; simp at this
  · obtain ⟨_, o', ho', hall⟩ := mem_ready.1 hr
    rw [ho] at ho'
    injection ho' with ho'
    subst ho'
    rw [k listed hc (hall e he hb)] at hl
    cases hl
def SH (lo : Nat) (B : List Nat) (u₀ : World) (os₀ : List Own) (nm : List Nat) (j : Nat) (w w' : World) : Prop := (nm.contains j = false → St lo B u₀ w os₀ → St lo B u₀ w' os₀) ∧ ((∃ os u, St lo B u w os ∧ Vis u₀ u) → ∃ os u, St lo B u w' os ∧ Vis u₀ u)
def JH (P : Program) (n lo : Nat) (B : List Nat) (K : Act → World → Prop) (ops : Array Oper) (u₀ : World) (os₀ : List Own) (nm : List Nat) (fuel : Nat) (listed : Array Bool) (z : Bool) (l : Fr) (os : List Own) (u : World) : Prop :=
  ∀ a w, Has n a l → St lo B u w os → (z = true → St lo B u₀ w os₀) → Vis u₀ u → wpAnyS P .any ops (NQ K) (SH lo B u₀ os₀ nm) fuel listed a w
def JHo (P : Program) (n lo : Nat) (B : List Nat) (K : Act → World → Prop) (ops : Array Oper) (u₀ : World) (os₀ : List Own) (nm : List Nat) (fuel : Nat) (listed : Array Bool) (z : Bool) (l : Fr) (os : List Own) (u : World) (i : Nat) : Prop :=
  ∀ a w, Has n a l → St lo B u w os → (z = true → St lo B u₀ w os₀) → Vis u₀ u → wpOp P ops (NQ K) i (fun a' w' => SH lo B u₀ os₀ nm i w w' ∧ wpAnyS P .any ops (NQ K) (SH lo B u₀ os₀ nm) fuel (listed.setIfInBounds i true) a' w') a w
def allR (p : Nat → Prop) : List Nat → Prop
  | [] => True
  | i :: r => p i ∧ allR p r
theorem allR.mem {p : Nat → Prop} : ∀ {l : List Nat}, allR p l → ∀ i ∈ l, p i
  | i :: r, h, j, hj => by
    simp only [List.mem_cons] at hj
    rcases hj with rfl | hj
    · exact h.1
    · exact allR.mem h.2 j hj
def OpP (P : Program) (n : Nat) (l : Fr) (o : Oper) (v : Value) : Prop := ∀ a w, Has n a l → (execOp a.eval o).run P w = .ok (.value v) w
theorem OpP.q {P : Program} {n lo : Nat} {B : List Nat} {l : Fr} {os : List Own} {u : World} {o : Oper} {v : Value} (h : OpP P n l o v) : OpQ P n lo B l os u o v := fun a w ha _ => h a w ha
section
variable {P : Program} {n lo : Nat} {B : List Nat} {Q : Exit → Act → World → Prop} {cs : List Code} {K : Act → World → Prop} {ops : Array Oper} {u₀ : World} {os₀ : List Own} {nm : List Nat} {fuel : Nat} {listed : Array Bool} {z : Bool} {l : Fr} {os : List Own} {u : World}
  {i d : Nat} {o : Oper} {v : Value} {c : Bool}
theorem Js.drawn {id : Nat} {ops : List Oper} (os₀ : List Own) (nm : List Nat) (hm : P.follows .mixedOrders = true) (hos : ∀ w, St lo B u w os → St lo B u w os₀)
    (h : JH P n lo B (seqs P Q cs) ops.toArray u os₀ nm ops.length (Array.replicate ops.length false) true l os u) : Js P n lo B Q (.region id ops.toArray true :: cs) l os u := fun a w ha hw => by
  refine wp_mono (wp_region_any (Q := NQ (seqs P Q cs)) hm ?_) (NQ.imp fun _ _ k => k)
  have := h a w.drew ha hw.drew (fun _ => hos _ hw.drew) (Vis.refl _)
  simpa using wpAnyS.any _ _ _ _ this
theorem JH.done (hr : Region.ready .any ops listed = []) (h : Js P n lo B Q cs l os u) : JH P n lo B (seqs P Q cs) ops u₀ os₀ nm fuel listed z l os u := fun a w ha hw _ _ => by
  cases fuel with
  | zero => exact ⟨hr, h a w ha hw⟩
  | succ f => exact ⟨fun _ => h a w ha hw, by rw [hr]; simp⟩
theorem JH.q (i : Nat) (hi : ops[i]? = some o) (h : OpQ P n lo B l os₀ u₀ o v) (k : JH P n lo B K ops u₀ os₀ nm fuel (listed.setIfInBounds i true) true ((d, v) :: l) os u) (hs : Region.noSelect ops = true := by kernel_rfl) (hf : freeB ops i = true := by kernel_rfl) (hwt : waitB ops i nm listed = true := by kernel_rfl) (hr : (Region.ready .any ops listed).contains i = true := by kernel_rfl) (hg : o.guard = none := by rfl) (hd : o.dst = some d := by rfl) (hn : Nat.blt d n = true := by rfl) : JH P n lo B K ops u₀ os₀ nm (fuel + 1) listed true l os u := fun a w ha hw hz hv => by
  refine wpAnyS.first (S0 := fun w => St lo B u₀ w os₀) hi (Region.noSelect_spec hs) (fun _ _ _ h => h) (C := Clo ops) (fun _ _ h hj => h.step hj) (fun j w' w'' listed' hcl hne hl hj hS hw' => ?_) (fun w' => ⟨fun _ h' => h', fun h' => h'⟩) (freeB_spec hi hf) fuel listed a w (cloB_spec (by simp only [waitB, Bool.and_eq_true] at hwt; exact hwt.1)) (by simpa using hr) (.inl ⟨by simp [Region.wanted, hg], fun w' hw' => h a w' ha hw'⟩) (hz rfl) ?_
  · cases hc : nm.contains j with
    | false => exact hS.1 hc hw'
    | true => exact (waitB_spec hwt hc hcl hl hj).elim
  · rw [hd]; exact k _ w (ha.put hn v) hw hz hv
theorem JH.qg (i : Nat) (hi : ops[i]? = some o) (hg : Gd ops l o c) (h : c = true → OpQ P n lo B l os₀ u₀ o v) (k : JH P n lo B K ops u₀ os₀ nm fuel (listed.setIfInBounds i true) true ((d, gv c v) :: l) os u) (hs : Region.noSelect ops = true := by kernel_rfl) (hf : freeB ops i = true := by kernel_rfl) (hwt : waitB ops i nm listed = true := by kernel_rfl) (hr : (Region.ready .any ops listed).contains i = true := by kernel_rfl) (hd : o.dst = some d := by rfl) (hn : Nat.blt d n = true := by rfl) : JH P n lo B K ops u₀ os₀ nm (fuel + 1) listed true l os u := fun a w ha hw hz hv => by
  refine wpAnyS.first (S0 := fun w => St lo B u₀ w os₀) (v := gv c v) hi (Region.noSelect_spec hs) (fun _ _ _ h => h) (C := Clo ops) (fun _ _ h hj => h.step hj) (fun j w' w'' listed' hcl hne hl hj hS hw' => ?_) (fun w' => ⟨fun _ h' => h', fun h' => h'⟩) (freeB_spec hi hf) fuel listed a w (cloB_spec (by simp only [waitB, Bool.and_eq_true] at hwt; exact hwt.1)) (by simpa using hr) ?_ (hz rfl) ?_
  · cases hc : nm.contains j with
    | false => exact hS.1 hc hw'
    | true => exact (waitB_spec hwt hc hcl hl hj).elim
  · cases c with
    | true => exact .inl ⟨hg n a ha, fun w' hw' => h rfl a w' ha hw'⟩
    | false => exact .inr ⟨hg n a ha, rfl⟩
  · rw [hd]; exact k _ w (ha.put hn _) hw hz hv
theorem JH.p (i : Nat) (hi : ops[i]? = some o) (h : OpP P n l o v) (k : JH P n lo B K ops u₀ os₀ nm fuel (listed.setIfInBounds i true) z ((d, v) :: l) os u) (hs : Region.noSelect ops = true := by kernel_rfl) (hf : freeB ops i = true := by kernel_rfl) (hr : (Region.ready .any ops listed).contains i = true := by kernel_rfl) (hg : o.guard = none := by rfl) (hd : o.dst = some d := by rfl) (hn : Nat.blt d n = true := by rfl) : JH P n lo B K ops u₀ os₀ nm (fuel + 1) listed z l os u := fun a w ha hw hz hv => by
  refine wpAnyS.first (S0 := fun _ => True) hi (Region.noSelect_spec hs) (fun _ _ _ h => h) (C := fun _ => True) (fun _ _ _ _ => trivial) (fun _ _ _ _ _ _ _ _ _ _ => trivial) (fun w' => ⟨fun _ h' => h', fun h' => h'⟩) (freeB_spec hi hf) fuel listed a w trivial (by simpa using hr) (.inl ⟨by simp [Region.wanted, hg], fun w' _ => h a w' ha⟩) trivial ?_
  rw [hd]; exact k _ w (ha.put hn v) hw hz hv
theorem JH.pg (i : Nat) (hi : ops[i]? = some o) (hg : Gd ops l o c) (h : c = true → OpP P n l o v) (k : JH P n lo B K ops u₀ os₀ nm fuel (listed.setIfInBounds i true) z ((d, gv c v) :: l) os u) (hs : Region.noSelect ops = true := by kernel_rfl) (hf : freeB ops i = true := by kernel_rfl) (hr : (Region.ready .any ops listed).contains i = true := by kernel_rfl) (hd : o.dst = some d := by rfl) (hn : Nat.blt d n = true := by rfl) : JH P n lo B K ops u₀ os₀ nm (fuel + 1) listed z l os u := fun a w ha hw hz hv => by
  refine wpAnyS.first (S0 := fun _ => True) (v := gv c v) hi (Region.noSelect_spec hs) (fun _ _ _ h => h) (C := fun _ => True) (fun _ _ _ _ => trivial) (fun _ _ _ _ _ _ _ _ _ _ => trivial) (fun w' => ⟨fun _ h' => h', fun h' => h'⟩) (freeB_spec hi hf) fuel listed a w trivial (by simpa using hr) ?_ trivial ?_
  · cases c with
    | true => exact .inl ⟨hg n a ha, fun w' _ => h rfl a w' ha⟩
    | false => exact .inr ⟨hg n a ha, rfl⟩
  · rw [hd]; exact k _ w (ha.put hn _) hw hz hv
theorem JH.w (i : Nat) (hi : ops[i]? = some o) (h : ∀ os' u', Vis u₀ u' → OpQ P n lo B l os' u' o v) (k : JH P n lo B K ops u₀ os₀ nm fuel (listed.setIfInBounds i true) z ((d, v) :: l) os u) (hs : Region.noSelect ops = true := by kernel_rfl) (hf : freeB ops i = true := by kernel_rfl) (hr : (Region.ready .any ops listed).contains i = true := by kernel_rfl) (hg : o.guard = none := by rfl) (hd : o.dst = some d := by rfl) (hn : Nat.blt d n = true := by rfl) : JH P n lo B K ops u₀ os₀ nm (fuel + 1) listed z l os u := fun a w ha hw hz hv => by
  refine wpAnyS.first (S0 := fun w => ∃ os' u', St lo B u' w os' ∧ Vis u₀ u') hi (Region.noSelect_spec hs) (fun _ _ _ h => h) (C := fun _ => True) (fun _ _ _ _ => trivial) (fun _ _ _ _ _ _ _ _ hS hw' => hS.2 hw') (fun w' => ⟨fun _ h' => h', fun h' => h'⟩) (freeB_spec hi hf) fuel listed a w trivial (by simpa using hr) (.inl ⟨by simp [Region.wanted, hg], fun w' ⟨os', u', hw', hv'⟩ => h os' u' hv' a w' ha hw'⟩) ⟨os, u, hw, hv⟩ ?_
  rw [hd]; exact k _ w (ha.put hn v) hw hz hv
theorem JH.wg (i : Nat) (hi : ops[i]? = some o) (hg : Gd ops l o c) (h : c = true → ∀ os' u', Vis u₀ u' → OpQ P n lo B l os' u' o v) (k : JH P n lo B K ops u₀ os₀ nm fuel (listed.setIfInBounds i true) z ((d, gv c v) :: l) os u) (hs : Region.noSelect ops = true := by kernel_rfl) (hf : freeB ops i = true := by kernel_rfl) (hr : (Region.ready .any ops listed).contains i = true := by kernel_rfl) (hd : o.dst = some d := by rfl) (hn : Nat.blt d n = true := by rfl) : JH P n lo B K ops u₀ os₀ nm (fuel + 1) listed z l os u := fun a w ha hw hz hv => by
  refine wpAnyS.first (S0 := fun w => ∃ os' u', St lo B u' w os' ∧ Vis u₀ u') (v := gv c v) hi (Region.noSelect_spec hs) (fun _ _ _ h => h) (C := fun _ => True) (fun _ _ _ _ => trivial) (fun _ _ _ _ _ _ _ _ hS hw' => hS.2 hw') (fun w' => ⟨fun _ h' => h', fun h' => h'⟩) (freeB_spec hi hf) fuel listed a w trivial (by simpa using hr) ?_ ⟨os, u, hw, hv⟩ ?_
  · cases c with
    | true => exact .inl ⟨hg n a ha, fun w' ⟨os', u', hw', hv'⟩ => h rfl os' u' hv' a w' ha hw'⟩
    | false => exact .inr ⟨hg n a ha, rfl⟩
  · rw [hd]; exact k _ w (ha.put hn _) hw hz hv
theorem JH.all {rs : List Nat} (hr : Region.ready .any ops listed = rs) (hne : rs.isEmpty = false) (h : allR (JHo P n lo B K ops u₀ os₀ nm fuel listed z l os u) rs) : JH P n lo B K ops u₀ os₀ nm (fuel + 1) listed z l os u := fun a w ha hw hz hv =>
  ⟨fun h0 => by rw [hr] at h0; subst h0; simp at hne, fun i hi => (allR.mem h i (hr ▸ hi)) a w ha hw hz hv⟩
theorem JH.one (hr : Region.ready .any ops listed = [i]) (h : JHo P n lo B K ops u₀ os₀ nm fuel listed z l os u i) : JH P n lo B K ops u₀ os₀ nm (fuel + 1) listed z l os u := JH.all hr rfl ⟨h, trivial⟩
theorem JHo.e {x : Bool} {E : Value → List Own → World → Prop} (hi : ops[i]? = some o) (h : OpE P n lo B l os u o x E) (hx : x = true ∨ nm.contains i = true) (k : ∀ v os' u', E v os' u' → Up lo u u' → JH P n lo B K ops u₀ os₀ nm fuel (listed.setIfInBounds i true) (z && x) ((d, v) :: l) os' u') (hg : o.guard = none := by rfl) (hd : o.dst = some d := by rfl) (hn : Nat.blt d n = true := by rfl) : JHo P n lo B K ops u₀ os₀ nm fuel listed z l os u i := fun a w ha hw hz hv => by
  unfold wpOp
  simp only [hi]
  rw [if_pos (by simp [Region.wanted, hg])]
  refine .inl (h a w ha hw _ _ fun v os' u' w' hE hxu hw' hxt => ⟨⟨fun hc hw0 => ?_, fun _ => ⟨os', u', hw', hv.trans hxu.vis⟩⟩, ?_⟩)
  · rcases hx with hx | hx
    · exact hw0.call (hxt hx)
    · rw [hx] at hc; cases hc
  · rw [hd]
    refine k v os' u' hE hxu _ w' (ha.put hn v) hw' (fun hzx => ?_) (hv.trans hxu.vis)
    simp only [Bool.and_eq_true] at hzx
    exact (hz hzx.1).call (hxt hzx.2)
theorem JHo.s {x : Bool} {E : Value → List Own → World → Prop} (hi : ops[i]? = some o) (h : OpE P n lo B l os u o x E) (hx : x = true ∨ nm.contains i = true) (k : ∀ v os' u', E v os' u' → Up lo u u' → JH P n lo B K ops u₀ os₀ nm fuel (listed.setIfInBounds i true) (z && x) l os' u') (hg : o.guard = none := by rfl) (hd : o.dst = none := by rfl) : JHo P n lo B K ops u₀ os₀ nm fuel listed z l os u i := fun a w ha hw hz hv => by
  unfold wpOp
  simp only [hi]
  rw [if_pos (by simp [Region.wanted, hg])]
  refine .inl (h a w ha hw _ _ fun v os' u' w' hE hxu hw' hxt => ⟨⟨fun hc hw0 => ?_, fun _ => ⟨os', u', hw', hv.trans hxu.vis⟩⟩, ?_⟩)
  · rcases hx with hx | hx
    · exact hw0.call (hxt hx)
    · rw [hx] at hc; cases hc
  · rw [hd]
    refine k v os' u' hE hxu _ w' (ha.none v) hw' (fun hzx => ?_) (hv.trans hxu.vis)
    simp only [Bool.and_eq_true] at hzx
    exact (hz hzx.1).call (hxt hzx.2)
theorem JHo.ge (hi : ops[i]? = some o) (hg : Gd ops l o c) (h : c = true → OpE P n lo B l os u o true (fun v' os' u' => v' = v ∧ os' = os ∧ u = u')) (k : JH P n lo B K ops u₀ os₀ nm fuel (listed.setIfInBounds i true) z ((d, gv c v) :: l) os u) (hd : o.dst = some d := by rfl) (hn : Nat.blt d n = true := by rfl) : JHo P n lo B K ops u₀ os₀ nm fuel listed z l os u i := fun a w ha hw hz hv => by
  unfold wpOp
  simp only [hi]
  rw [hg n a ha]
  cases c with
  | true =>
    rw [if_pos rfl]
    refine .inl (h rfl a w ha hw _ _ fun v' os' u' w' hE hxu hw' hxt => ⟨⟨fun _ hw0 => hw0.call (hxt rfl), fun _ => ⟨os', u', hw', hv.trans hxu.vis⟩⟩, ?_⟩)
    obtain ⟨rfl, rfl, rfl⟩ := hE
    rw [hd]
    exact k _ w' (ha.put hn v') hw' (fun hzx => (hz hzx).call (hxt rfl)) hv
  | false =>
    rw [if_neg (by simp)]
    exact ⟨⟨fun _ h => h, fun h => h⟩, by rw [hd]; exact k _ w (ha.put hn undef) hw hz hv⟩
theorem JHo.eT {x : Bool} {E : Value → List Own → World → Prop} (hi : ops[i]? = some o) (hg : Gd ops l o c) (hc : c = true) (h : OpE P n lo B l os u o x E) (hx : x = true ∨ nm.contains i = true) (k : ∀ v os' u', E v os' u' → Up lo u u' → JH P n lo B K ops u₀ os₀ nm fuel (listed.setIfInBounds i true) (z && x) ((d, v) :: l) os' u') (hd : o.dst = some d := by rfl) (hn : Nat.blt d n = true := by rfl) : JHo P n lo B K ops u₀ os₀ nm fuel listed z l os u i := fun a w ha hw hz hv => by
  unfold wpOp
  simp only [hi]
  rw [hg n a ha, hc, if_pos rfl]
  refine .inl (h a w ha hw _ _ fun v os' u' w' hE hxu hw' hxt => ⟨⟨fun hc hw0 => ?_, fun _ => ⟨os', u', hw', hv.trans hxu.vis⟩⟩, ?_⟩)
  · rcases hx with hx | hx
    · exact hw0.call (hxt hx)
    · rw [hx] at hc; cases hc
  · rw [hd]
    refine k v os' u' hE hxu _ w' (ha.put hn v) hw' (fun hzx => ?_) (hv.trans hxu.vis)
    simp only [Bool.and_eq_true] at hzx
    exact (hz hzx.1).call (hxt hzx.2)
theorem JHo.q (hi : ops[i]? = some o) (h : OpQ P n lo B l os u o v) (k : JH P n lo B K ops u₀ os₀ nm fuel (listed.setIfInBounds i true) z ((d, v) :: l) os u) (hg : o.guard = none := by rfl) (hd : o.dst = some d := by rfl) (hn : Nat.blt d n = true := by rfl) : JHo P n lo B K ops u₀ os₀ nm fuel listed z l os u i := fun a w ha hw hz hv => by
  unfold wpOp
  simp only [hi]
  rw [if_pos (by simp [Region.wanted, hg])]
  exact .inl (wp_of_quiet (h a w ha hw) ⟨⟨fun _ h => h, fun h => h⟩, by rw [hd]; exact k _ w (ha.put hn v) hw hz hv⟩)
theorem JHo.qg (hi : ops[i]? = some o) (hg : Gd ops l o c) (h : c = true → OpQ P n lo B l os u o v) (k : JH P n lo B K ops u₀ os₀ nm fuel (listed.setIfInBounds i true) z ((d, gv c v) :: l) os u) (hd : o.dst = some d := by rfl) (hn : Nat.blt d n = true := by rfl) : JHo P n lo B K ops u₀ os₀ nm fuel listed z l os u i := fun a w ha hw hz hv => by
  unfold wpOp
  simp only [hi]
  rw [hg n a ha]
  cases c with
  | true =>
    rw [if_pos rfl]
    exact .inl (wp_of_quiet (h rfl a w ha hw) ⟨⟨fun _ h => h, fun h => h⟩, by rw [hd]; exact k _ w (ha.put hn v) hw hz hv⟩)
  | false =>
    rw [if_neg (by simp)]
    exact ⟨⟨fun _ h => h, fun h => h⟩, by rw [hd]; exact k _ w (ha.put hn undef) hw hz hv⟩
end
end Go.Proofs.Ytejnmechnhgmfaa

/- A framework for walks: calls that write into what they are handed. -/
import Derived.Test.YtejnmechnhgmfaaZpF6
set_option linter.unusedSimpArgs false
set_option linter.unusedVariables false
namespace Go.Proofs.Ytejnmechnhgmfaa
open Go.RowKit
structure Bw (w : World) (bs : List Own) : Prop where
  prs : ∀ o ∈ bs, o.pr w
  dis : (bs.flatMap (·.fp)).Nodup
  lt : ∀ k ∈ bs.flatMap (·.fp), k < w.heap.size
structure Bor (w w' : World) (bs bs' : List Own) : Prop where
  os_ : w'.os = w.os
  tape : w'.tape = w.tape
  output : w'.output = w.output
  size : w.heap.size ≤ w'.heap.size
  rest : ∀ k, k < w.heap.size → k ∉ bs.flatMap (·.fp) → w'.heap[k]? = w.heap[k]?
  prs : ∀ o ∈ bs', o.pr w'
  dis : (bs'.flatMap (·.fp)).Nodup
  frm : ∀ k ∈ bs'.flatMap (·.fp), k ∈ bs.flatMap (·.fp) ∨ (w.heap.size ≤ k ∧ k < w'.heap.size)
  keep : ∀ k ∈ bs.flatMap (·.fp), k ∈ bs'.flatMap (·.fp)
def RB (w : World) (bs : List Own) (R : Value → List Own → Prop) (e : Ending) (w' : World) : Prop := ∃ v bs' G, e = .returned v ∧ R v bs' ∧ Bor w w' bs (bs' ++ [anyO G])
def RetB (P : Program) (f : FuncId) (args : List Value) (w : World) (bs : List Own) (R : Value → List Own → Prop) : Prop := Calls P f args.toArray w (RB w bs R)
theorem St.lend {lo : Nat} {B : List Nat} {u w : World} {bs rest : List Own} (h : St lo B u w (bs ++ rest)) (hB : ∀ k ∈ B, k ∉ bs.flatMap (·.fp)) : St lo B u (offW w (bs.flatMap (·.fp))) rest := by
  have hd := h.dis
  rw [List.flatMap_append, List.nodup_append] at hd
  have hsz := h.size
  have apart : ∀ o ∈ rest, ∀ k ∈ o.fp, k ∉ bs.flatMap (·.fp) := fun o ho k hk hm => hd.2.2 k hm k (List.mem_flatMap.2 ⟨o, ho, hk⟩) rfl
  have hs : (offW w (bs.flatMap (·.fp))).heap.size = w.heap.size := by simp [offW]
  refine ⟨h.os_, h.tape, h.output, h.lo_, by omega, fun k hk hn => ?_, fun o ho k hk => ?_, fun o ho => ?_, hd.2.1, fun k hk => ?_⟩
  · rw [offW_get]
    by_cases hm : k ∈ bs.flatMap (·.fp)
    · rw [if_pos hm, if_pos (by omega)]
      obtain ⟨o, ho, hm⟩ := List.mem_flatMap.1 hm
      exact ((h.hid o (by simp [ho]) k hm).2.2 hk).symm
    · rw [if_neg hm]
      refine h.pub k hk fun o ho hk' => ?_
      rcases List.mem_append.1 ho with ho | ho
      · exact hm (List.mem_flatMap.2 ⟨o, ho, hk'⟩)
      · exact hn o ho hk'
  · obtain ⟨a, b, c⟩ := h.hid o (by simp [ho]) k hk
    exact ⟨by omega, b, c⟩
  · refine o.loc (fun k hk => ?_) (h.prs o (by simp [ho]))
    rw [offW_get, if_neg (apart o ho k hk)]
  · have := h.keep k hk
    rw [List.flatMap_append, List.mem_append] at this
    rcases this with h1 | h1
    · exact (hB k hk h1).elim
    · exact h1
theorem St.back {lo : Nat} {B : List Nat} {u w w' : World} {bs bs' rest : List Own} (h : St lo B u w (bs ++ rest)) (x : Bor w w' bs bs') : St lo B u w' (bs' ++ rest) := by
  have hd := h.dis
  rw [List.flatMap_append, List.nodup_append] at hd
  have hsz := h.size
  have hxs := x.size
  have apart : ∀ o ∈ rest, ∀ k ∈ o.fp, k ∉ bs.flatMap (·.fp) := fun o ho k hk hm => hd.2.2 k hm k (List.mem_flatMap.2 ⟨o, ho, hk⟩) rfl
  refine ⟨x.os_.trans h.os_, x.tape.trans h.tape, x.output.trans h.output, h.lo_, by omega, fun k hk hn => ?_, fun o ho k hk => ?_, fun o ho => ?_, ?_, fun k hk => ?_⟩
  · have hm : k ∉ bs.flatMap (·.fp) := fun hm => by
      obtain ⟨o, ho, hk'⟩ := List.mem_flatMap.1 (x.keep k hm)
      exact hn o (by simp [ho]) hk'
    rw [x.rest k (by omega) hm]
    refine h.pub k hk fun o ho hk' => ?_
    rcases List.mem_append.1 ho with ho | ho
    · exact hm (List.mem_flatMap.2 ⟨o, ho, hk'⟩)
    · exact hn o (by simp [ho]) hk'
  · rcases List.mem_append.1 ho with ho | ho
    · rcases x.frm k (List.mem_flatMap.2 ⟨o, ho, hk⟩) with hm | ⟨h1, h2⟩
      · obtain ⟨o', ho', hk'⟩ := List.mem_flatMap.1 hm
        obtain ⟨a, b, c⟩ := h.hid o' (by simp [ho']) k hk'
        exact ⟨by omega, b, c⟩
      · exact ⟨h2, .inl (by have := h.lo_; omega), fun hlt => by omega⟩
    · obtain ⟨a, b, c⟩ := h.hid o (by simp [ho]) k hk
      exact ⟨by omega, b, c⟩
  · rcases List.mem_append.1 ho with ho | ho
    · exact x.prs o ho
    · exact o.loc (fun k hk => x.rest k (h.hid o (by simp [ho]) k hk).1 (apart o ho k hk)) (h.prs o (by simp [ho]))
  · rw [List.flatMap_append, List.nodup_append]
    refine ⟨x.dis, hd.2.1, fun a ha b hb e => ?_⟩
    subst e
    obtain ⟨o, ho, hk⟩ := List.mem_flatMap.1 hb
    rcases x.frm a ha with hm | ⟨h1, h2⟩
    · exact apart o ho a hk hm
    · have := (h.hid o (by simp [ho]) a hk).1; omega
  · have := h.keep k hk
    rw [List.flatMap_append, List.mem_append] at this ⊢
    rcases this with h1 | h1
    · exact .inl (x.keep k h1)
    · exact .inr h1
theorem St.bw {lo : Nat} {B : List Nat} {u w : World} {bs rest : List Own} (h : St lo B u w (bs ++ rest)) : Bw w bs := by
  have hd := h.dis
  rw [List.flatMap_append, List.nodup_append] at hd
  exact ⟨fun o ho => h.prs o (by simp [ho]), hd.1, fun k hk => by obtain ⟨o, ho, hm⟩ := List.mem_flatMap.1 hk; exact (h.hid o (by simp [ho]) k hm).1⟩
section
variable {P : Program} {n lo : Nat} {B : List Nat} {Q : Exit → Act → World → Prop} {cs : List Code} {l : Fr} {os : List Own} {u : World} {dst : Option Tmp} {ty : TypeId} {pos : String} {af : Array Edge} {gd : Option (Nat × Bool)}
theorem e_callB {f : FuncId} {xs : List Operand} {ts : Array TypeId} {vs : List Value} {bs rest : List Own} {R : Value → List Own → Prop} (hf : goodF P f = true) (hx : opds l xs = some vs)
    (hc : ∀ w, Bw w bs → St lo [] u (offW w (bs.flatMap (·.fp))) rest → RetB P f vs w bs R) (hB : B = []) :
    OpE P n lo B l (bs ++ rest) u ⟨dst, .call { callee := .value (.func f), args := xs.toArray, argTypes := ts }, ty, pos, af, gd⟩ false (fun v' os' u' => ∃ bs' G, R v' bs' ∧ os' = bs' ++ anyO G :: rest ∧ u = u') := fun a w ha hw K Q hk => by
  subst hB
  unfold Oper.wp
  rw [run_call hf ha hx, Oper.upon_enter]
  refine Calls.mono (hc w hw.bw (hw.lend (fun _ h => by simp at h))) fun e w' h => ?_
  obtain ⟨v, bs', G, rfl, hR, hb⟩ := h
  have := hw.back hb
  rw [List.append_assoc, List.singleton_append] at this
  exact hk _ _ u w' ⟨bs', G, hR, rfl, rfl⟩ (Up.refl lo u) this (fun h => by cases h)
theorem e_callBB {f : FuncId} {xs : List Operand} {ts : Array TypeId} {vs : List Value} {bs rest : List Own} {R : Value → List Own → Prop} (hf : goodF P f = true) (hx : opds l xs = some vs)
    (hc : ∀ w, Bw w bs → (∃ B', St lo B' u (offW w (bs.flatMap (·.fp))) rest) → RetB P f vs w bs R) :
    OpE P n lo B l (bs ++ rest) u ⟨dst, .call { callee := .value (.func f), args := xs.toArray, argTypes := ts }, ty, pos, af, gd⟩ false (fun v' os' u' => ∃ bs' G, R v' bs' ∧ os' = bs' ++ anyO G :: rest ∧ u = u') := fun a w ha hw K Q hk => by
  unfold Oper.wp
  rw [run_call hf ha hx, Oper.upon_enter]
  have hl : ∃ B', St lo B' u (offW w (bs.flatMap (·.fp))) rest := by
    refine ⟨rest.flatMap (·.fp), ?_⟩
    have hw' : St lo (rest.flatMap (·.fp)) u w (bs ++ rest) → St lo (rest.flatMap (·.fp)) u (offW w (bs.flatMap (·.fp))) rest := fun h => h.lend fun k hk hm => by
      have hd := h.dis
      rw [List.flatMap_append, List.nodup_append] at hd
      exact hd.2.2 k hm k hk rfl
    have hd := hw.dis
    rw [List.flatMap_append, List.nodup_append] at hd
    have hsz := hw.size
    have apart : ∀ o ∈ rest, ∀ k ∈ o.fp, k ∉ bs.flatMap (·.fp) := fun o ho k hk hm => hd.2.2 k hm k (List.mem_flatMap.2 ⟨o, ho, hk⟩) rfl
    have hs : (offW w (bs.flatMap (·.fp))).heap.size = w.heap.size := by simp [offW]
    refine ⟨hw.os_, hw.tape, hw.output, hw.lo_, by omega, fun k hk hn => ?_, fun o ho k hk => ?_, fun o ho => ?_, hd.2.1, fun k hk => hk⟩
    · rw [offW_get]
      by_cases hm : k ∈ bs.flatMap (·.fp)
      · rw [if_pos hm, if_pos (by omega)]
        obtain ⟨o, ho, hm⟩ := List.mem_flatMap.1 hm
        exact ((hw.hid o (by simp [ho]) k hm).2.2 hk).symm
      · rw [if_neg hm]
        refine hw.pub k hk fun o ho hk' => ?_
        rcases List.mem_append.1 ho with ho | ho
        · exact hm (List.mem_flatMap.2 ⟨o, ho, hk'⟩)
        · exact hn o ho hk'
    · obtain ⟨a, b, c⟩ := hw.hid o (by simp [ho]) k hk
      exact ⟨by omega, .inr (List.mem_flatMap.2 ⟨o, ho, hk⟩), c⟩
    · refine o.loc (fun k hk => ?_) (hw.prs o (by simp [ho]))
      rw [offW_get, if_neg (apart o ho k hk)]
  refine Calls.mono (hc w hw.bw hl) fun e w' h => ?_
  obtain ⟨v, bs', G, rfl, hR, hb⟩ := h
  have := hw.back hb
  rw [List.append_assoc, List.singleton_append] at this
  exact hk _ _ u w' ⟨bs', G, hR, rfl, rfl⟩ (Up.refl lo u) this (fun h => by cases h)
theorem St.startB {w : World} {bs : List Own} (h : Bw w bs) : St w.heap.size (bs.flatMap (·.fp)) (offW w (bs.flatMap (·.fp))) w bs := by
  have hs : (offW w (bs.flatMap (·.fp))).heap.size = w.heap.size := by simp [offW]
  refine ⟨rfl, rfl, rfl, by omega, by omega, fun k hk hn => ?_, fun o ho k hk => ⟨h.lt k (List.mem_flatMap.2 ⟨o, ho, hk⟩), .inr (List.mem_flatMap.2 ⟨o, ho, hk⟩), fun hlt => ?_⟩, h.prs, h.dis, fun _ h => h⟩
  · rw [offW_get, if_neg]
    intro hm
    obtain ⟨o, ho, hk'⟩ := List.mem_flatMap.1 hm
    exact hn o ho hk'
  · rw [offW_get, if_pos (List.mem_flatMap.2 ⟨o, ho, hk⟩), if_pos (by omega)]
theorem enterB {f : FuncId} {fn : Func} {c : Code} {vs : List Value} {w : World} {bs : List Own} {R : Ending → World → Prop} (hb' : Bw w bs) (hf : P.funcs[f]? = some fn) (hn : fn.ntmps = n) (hb : fn.body = some c)
    (hs : Nat.ble vs.length n = true) (h : Js P n w.heap.size (bs.flatMap (·.fp)) (bodyPost P fn R) [c] (entryFr 0 vs) bs (offW w (bs.flatMap (·.fp)))) : Calls P f vs.toArray w R := by
  have hs : vs.length ≤ n := by simpa [Nat.ble_eq] using hs
  refine calls_of_wp hf hb ?_
  refine wp_mono (h _ w ⟨rfl, by simp [hn]; omega, fun k v hk => ?_⟩ (St.startB hb')) fun e a w k => by cases e <;> exact k
  obtain ⟨_, h2⟩ := entryFr_look vs 0 k v hk
  simp only [Nat.sub_zero] at h2
  have hlt : k < vs.length := (List.getElem?_eq_some_iff.1 h2).1
  have h3 := (List.getElem?_eq_some_iff.1 h2).2
  simp [Array.getD_eq_getD_getElem?, Array.getElem?_append, hlt, h3]
theorem St.giveBack {w w' : World} {bs bs' : List Own} {G : List Nat} (hb : Bw w bs) {u : World} (h : St w.heap.size (bs.flatMap (·.fp)) u w' (bs' ++ [anyO G])) (x : Up w.heap.size (offW w (bs.flatMap (·.fp))) u) : Bor w w' bs (bs' ++ [anyO G]) := by
  have hs : (offW w (bs.flatMap (·.fp))).heap.size = w.heap.size := by simp [offW]
  have hsz := h.size
  have hlo := h.lo_
  refine ⟨h.os_.trans x.os_, h.tape.trans x.tape, h.output.trans x.output, by omega, fun k hk hn => ?_, h.prs, h.dis, fun k hk => ?_, h.keep⟩
  · have h1 := x.low k hk
    rw [offW_get, if_neg hn] at h1
    rw [← h1]
    refine h.pub k (by omega) fun o ho hm => ?_
    rcases (h.hid o ho k hm).2.1 with h2 | h2
    · omega
    · exact hn h2
  · obtain ⟨o, ho, hm⟩ := List.mem_flatMap.1 hk
    obtain ⟨a, b, _⟩ := h.hid o ho k hm
    rcases b with b | b
    · exact .inr ⟨b, a⟩
    · exact .inl b
end
theorem ints_get {xs : List Int} {i : Nat} (h : i < xs.length) : (ints_ xs)[0 + i * 1]? = some (.int .i64 (M.nth xs i)) := by
  rw [Nat.zero_add, Nat.mul_one]
  simp [ints_, List.getElem?_map, M.nth, List.getD, h]
theorem ints_setL {xs : List Int} {i : Nat} {v : Int} (h : i < xs.length) : setL (ints_ xs) (0 + i * 1) [.int .i64 v] = ints_ (xs.set i v) := by
  rw [Nat.zero_add, Nat.mul_one]
  simp only [setL, ints_, List.map_set]
  rw [List.set_eq_take_append_cons_drop, if_pos (by simpa using h)]
  simp
theorem row_some {lo : Nat} {B : List Nat} {u : World} {os : List Own} {i m c sz : Nat} {e : TypeId} {A : Option Addr} {vs : List Value} {g : List Nat} (hi : os[i]? = some (rowO e sz (.slice A m c) m vs g)) (hm : 0 < m) : ∀ w, St lo B u w os → ∃ b, A = some ⟨b, 0, none⟩ := fun w hw => by
  rcases row_form hi w hw with ⟨c', h1, h2, _⟩ | ⟨b, c', h1, _⟩
  · omega
  · injection h1 with h1 _ _
    exact ⟨b, h1⟩
end Go.Proofs.Ytejnmechnhgmfaa

/- A framework for walks: frames, worlds with objects of the call's own, types of values. No program in sight. -/
import Derived.WalkKit
import Derived.WalkSpells
import Derived.WalkLawsBesides
import Derived.OrdersHeld
import Derived.Deep.AppendSrc
import Derived.Lib.Hide
set_option linter.unusedSimpArgs false
set_option linter.unusedVariables false
namespace Go.Proofs.Ytejnmechnhgmfaa
open Go.RowKit
abbrev Fr := List (Nat × Value)
def look : Fr → Nat → Option Value
  | [], _ => none
  | (j, v) :: l, k => bif Nat.beq j k then some v else look l k
structure Has (n : Nat) (a : Act) (l : Fr) : Prop where
  dfr : a.defers = []
  size : a.tmps.size = n
  get : ∀ k v, look l k = some v → a.tmps.getD k undef = v
theorem Has.put {n : Nat} {a : Act} {l : Fr} (h : Has n a l) {d : Nat} (hd : Nat.blt d n = true) (v : Value) : Has n (a.put (some d) v) ((d, v) :: l) := by
  have hd : d < n := by simpa [Nat.blt_eq] using hd
  refine ⟨h.dfr, by simp [Act.put, h.size], fun k u hu => ?_⟩
  simp only [look] at hu
  by_cases e : d = k
  · subst e
    simp at hu
    subst hu
    simp [Act.put, h.size, hd]
  · have e' : Nat.beq d k = false := by cases h : Nat.beq d k <;> simp_all [Nat.beq_eq]
    rw [e'] at hu
    rw [← h.get k u hu]
    simp [Act.put, Array.getD_eq_getD_getElem?, Array.getElem?_setIfInBounds_ne e]
theorem Has.none {n : Nat} {a : Act} {l : Fr} (h : Has n a l) (v : Value) : Has n (a.put Option.none v) l := h
def subf (l : Fr) : Fr → Prop
  | [] => True
  | p :: r => look l p.1 = some p.2 ∧ subf l r
theorem subf.look {l : Fr} : ∀ {l' : Fr}, subf l l' → ∀ k v, look l' k = some v → Go.Proofs.Ytejnmechnhgmfaa.look l k = some v
  | [], _, k, v, h => by simp [Go.Proofs.Ytejnmechnhgmfaa.look] at h
  | (j, x) :: r, ⟨h1, h2⟩, k, v, h => by
    simp only [Go.Proofs.Ytejnmechnhgmfaa.look] at h
    by_cases e : j = k
    · subst e; simp at h; subst h; exact h1
    · have e' : Nat.beq j k = false := by cases h : Nat.beq j k <;> simp_all [Nat.beq_eq]
      rw [e'] at h
      exact h2.look k v h
theorem Has.sub {n : Nat} {a : Act} {l l' : Fr} (h : Has n a l) (hs : subf l l') : Has n a l' := ⟨h.dfr, h.size, fun k v hk => h.get k v (hs.look k v hk)⟩
def opd (l : Fr) : Operand → Option Value
  | .tmp t => look l t
  | .const v => some v
  | .func f => some (.func (.func f) #[] #[])
  | .global _ => none
theorem Has.eval {n : Nat} {a : Act} {l : Fr} (h : Has n a l) {x : Operand} {v : Value} (ho : opd l x = some v) : a.eval x = v := by
  cases x with
  | tmp t => exact h.get t v ho
  | const u => simpa [opd, Act.eval] using ho
  | func f => simpa [opd, Act.eval] using ho
  | global g => simp [opd] at ho
def gv (c : Bool) (v : Value) : Value := bif c then v else undef
theorem gvt {l : Fr} {x : Operand} {c : Bool} {v : Value} (h : opd l x = some (gv c v)) (hc : c = true) : opd l x = some v := by subst hc; exact h
def opds (l : Fr) : List Operand → Option (List Value)
  | [] => some []
  | x :: r => match opd l x, opds l r with
    | some v, some vs => some (v :: vs)
    | _, _ => none
theorem Has.evals {n : Nat} {a : Act} {l : Fr} (h : Has n a l) : ∀ {xs : List Operand} {vs : List Value}, opds l xs = some vs → xs.map a.eval = vs
  | [], vs, ho => by simp [opds] at ho; subst ho; rfl
  | x :: r, vs, ho => by
    simp only [opds] at ho
    cases h1 : opd l x with
    | none => simp [h1] at ho
    | some v =>
      cases h2 : opds l r with
      | none => simp [h1, h2] at ho
      | some us =>
        simp [h1, h2] at ho
        subst ho
        simp [h.eval h1, h.evals h2]
def Ext (w w' : World) : Prop := Below w.heap.size w w'
theorem Ext.size {w w' : World} (h : Ext w w') : w.heap.size ≤ w'.heap.size := Below.size h
theorem Ext.refl (w : World) : Ext w w := Below.refl _ _
theorem Ext.trans {a b c : World} (h : Ext a b) (k : Ext b c) : Ext a c := Below.trans h (Below.mono k (Below.size h))
theorem Ext.alloc {a w : World} (h : Ext a w) (o : Obj) : Ext a (w.alloc o) := Below.alloc h (Below.size h) o
theorem Ext.drew {a w : World} (h : Ext a w) : Ext a w.drew := Below.drew h
def hidO : Obj := .coro none
structure Vis (u w : World) : Prop where
  size : u.heap.size ≤ w.heap.size
  vis : ∀ (k : Nat) (c : Array Value) (t : TypeId) (f : Nat × Nat), u.heap[k]? = some (Obj.cells c t f) → w.heap[k]? = some (Obj.cells c t f)
theorem Vis.refl (u : World) : Vis u u := ⟨Nat.le_refl _, fun _ _ _ _ h => h⟩
theorem Vis.trans {a b c : World} (h : Vis a b) (k : Vis b c) : Vis a c := ⟨Nat.le_trans h.size k.size, fun i _ _ _ hi => k.vis i _ _ _ (h.vis i _ _ _ hi)⟩
theorem Ext.vis {a b : World} (h : Ext a b) : Vis a b :=
  ⟨h.size, fun k _ _ _ hk => (Below.block h k (Array.getElem?_eq_some_iff.1 hk).1).trans hk⟩
def Cell (u : World) (b o : Nat) (x : Value) : Prop := ∃ c t f, u.heap[b]? = some (.cells c t f) ∧ c[o]? = some x
theorem Cell.vis {u w : World} {b o : Nat} {x : Value} (h : Cell u b o x) (k : Vis u w) : Cell w b o x := by
  obtain ⟨c, t, f, h1, h2⟩ := h
  exact ⟨c, t, f, k.vis _ _ _ _ h1, h2⟩
theorem Cell.get {u : World} {b o : Nat} {x : Value} (h : Cell u b o x) : u.cell? ⟨b, o, none⟩ = some x := by
  obtain ⟨c, t, f, h1, h2⟩ := h
  simp [World.cell?, h1, h2]
structure Own where
  fp : List Nat
  pr : World → Prop
  loc : ∀ {w w' : World}, (∀ k, k ∈ fp → w'.heap[k]? = w.heap[k]?) → pr w → pr w'
structure St (lo : Nat) (B : List Nat) (u w : World) (os : List Own) : Prop where
  os_ : w.os = u.os
  tape : w.tape = u.tape
  output : w.output = u.output
  lo_ : lo ≤ u.heap.size
  size : u.heap.size ≤ w.heap.size
  pub : ∀ k, k < u.heap.size → (∀ o ∈ os, k ∉ o.fp) → w.heap[k]? = u.heap[k]?
  hid : ∀ o ∈ os, ∀ k ∈ o.fp, k < w.heap.size ∧ (lo ≤ k ∨ k ∈ B) ∧ (k < u.heap.size → u.heap[k]? = some hidO)
  prs : ∀ o ∈ os, o.pr w
  dis : (os.flatMap (·.fp)).Nodup
  keep : ∀ k ∈ B, k ∈ os.flatMap (·.fp)
theorem St.start (w : World) : St w.heap.size [] w w [] :=
  ⟨rfl, rfl, rfl, Nat.le_refl _, Nat.le_refl _, fun _ _ _ => rfl, fun _ h => by simp at h, fun _ h => by simp at h, by simp, fun _ h => by simp at h⟩
section
variable {lo : Nat} {B : List Nat} {u w w' : World} {os : List Own}
theorem St.vis (h : St lo B u w os) : Vis u w := by
  refine ⟨h.size, fun k c t f hk => ?_⟩
  have hlt := (Array.getElem?_eq_some_iff.1 hk).1
  by_cases hx : ∀ o ∈ os, k ∉ o.fp
  · rw [h.pub k hlt hx]; exact hk
  · exfalso
    simp only [Classical.not_forall, Classical.not_not] at hx
    obtain ⟨o, ho, hm⟩ := hx
    have := (h.hid o ho k hm).2.2 hlt
    rw [this] at hk
    simp [hidO] at hk
theorem St.call (h : St lo B u w os) (x : Ext w w') : St lo B u w' os := by
  have hb : ∀ k, k < w.heap.size → w'.heap[k]? = w.heap[k]? := Below.block x
  refine ⟨x.os.trans h.os_, x.tape.trans h.tape, x.output.trans h.output, h.lo_, Nat.le_trans h.size x.size, fun k hk hn => ?_, fun o ho k hk => ?_, fun o ho => ?_, h.dis, h.keep⟩
  · rw [hb k (Nat.lt_of_lt_of_le hk h.size)]; exact h.pub k hk hn
  · obtain ⟨a, b, c⟩ := h.hid o ho k hk
    exact ⟨Nat.lt_of_lt_of_le a x.size, b, c⟩
  · exact o.loc (fun k hk => hb k (h.hid o ho k hk).1) (h.prs o ho)
theorem St.drew (h : St lo B u w os) : St lo B u w.drew os := h.call (Ext.refl w).drew
theorem St.upd (h : St lo B u w os) {i : Nat} {o o' : Own} (hi : os[i]? = some o) (h1 : w'.os = w.os) (h2 : w'.tape = w.tape) (h3 : w'.output = w.output) (hs : w.heap.size ≤ w'.heap.size)
    (hb : ∀ k, k < w.heap.size → k ∉ o.fp → w'.heap[k]? = w.heap[k]?) (hf : ∀ k ∈ o'.fp, k ∈ o.fp ∨ (w.heap.size ≤ k ∧ k < w'.heap.size)) (hn : o'.fp.Nodup) (hp : o'.pr w')
    (hgone : ∀ k, k ∈ o.fp → (k < u.heap.size ∨ k ∈ B) → k ∈ o'.fp) : St lo B u w' (os.set i o') := by
  have hlt : i < os.length := (List.getElem?_eq_some_iff.1 hi).1
  have hom : o ∈ os := List.mem_of_getElem? hi
  have hsz := h.size
  -- the others
  have hpart : ∃ pre post, os = pre ++ o :: post ∧ os.set i o' = pre ++ o' :: post := by
    refine ⟨os.take i, os.drop (i + 1), ?_, by rw [List.set_eq_take_append_cons_drop, if_pos hlt]⟩
    have := (List.getElem?_eq_some_iff.1 hi).2
    rw [← this, ← List.drop_eq_getElem_cons hlt, List.take_append_drop]
  obtain ⟨pre, post, e1, e2⟩ := hpart
  have hd := h.dis
  rw [e1] at hd
  simp only [List.flatMap_append, List.flatMap_cons] at hd
  have other : ∀ x, (x ∈ pre ∨ x ∈ post) → x ∈ os ∧ ∀ k ∈ x.fp, k ∉ o.fp := by
    intro x hx
    refine ⟨by rw [e1]; rcases hx with hx | hx <;> simp [hx], fun k hk hk' => ?_⟩
    rw [List.nodup_append] at hd
    obtain ⟨_, d2, d3⟩ := hd
    rw [List.nodup_append] at d2
    rcases hx with hx | hx
    · exact d3 k (List.mem_flatMap.2 ⟨x, hx, hk⟩) k (List.mem_append_left _ hk') rfl
    · exact d2.2.2 k hk' k (List.mem_flatMap.2 ⟨x, hx, hk⟩) rfl
  refine ⟨h1.trans h.os_, h2.trans h.tape, h3.trans h.output, h.lo_, Nat.le_trans hsz hs, fun k hk hn' => ?_, fun x hx k hk => ?_, fun x hx => ?_, ?_, fun k hk => ?_⟩
  · rw [e2] at hn'
    have hk0 : k ∉ o.fp := fun hm => hn' o' (by simp) (hgone k hm (.inl hk))
    rw [hb k (by omega) hk0]
    refine h.pub k hk fun x hx hm => ?_
    rw [e1] at hx
    simp only [List.mem_append, List.mem_cons] at hx
    rcases hx with hx | rfl | hx
    · exact hn' x (by simp [hx]) hm
    · exact hk0 hm
    · exact hn' x (by simp [hx]) hm
  · rw [e2] at hx
    simp only [List.mem_append, List.mem_cons] at hx
    have old : ∀ x, (x ∈ pre ∨ x ∈ post) → k ∈ x.fp → k < w'.heap.size ∧ (lo ≤ k ∨ k ∈ B) ∧ (k < u.heap.size → u.heap[k]? = some hidO) := fun x hx hk => by
      obtain ⟨a, b, c⟩ := h.hid x (other x hx).1 k hk
      exact ⟨by omega, b, c⟩
    rcases hx with hx | rfl | hx
    · exact old x (.inl hx) hk
    · rcases hf k hk with hm | ⟨hm, hm'⟩
      · obtain ⟨a, b, c⟩ := h.hid o hom k hm
        exact ⟨by omega, b, c⟩
      · exact ⟨hm', .inl (by have := h.lo_; omega), fun hlt => by omega⟩
    · exact old x (.inr hx) hk
  · rw [e2] at hx
    simp only [List.mem_append, List.mem_cons] at hx
    have old : ∀ x, (x ∈ pre ∨ x ∈ post) → x.pr w' := fun x hx => by
      obtain ⟨hxo, hne⟩ := other x hx
      exact x.loc (fun k hk => hb k (h.hid x hxo k hk).1 (hne k hk)) (h.prs x hxo)
    rcases hx with hx | rfl | hx
    · exact old x (.inl hx)
    · exact hp
    · exact old x (.inr hx)
  · rw [e2]
    simp only [List.flatMap_append, List.flatMap_cons]
    rw [List.nodup_append] at hd ⊢
    obtain ⟨d1, d2, d3⟩ := hd
    rw [List.nodup_append] at d2 ⊢
    have fresh : ∀ k ∈ o'.fp, ∀ x, (x ∈ pre ∨ x ∈ post) → k ∉ x.fp := fun k hk x hx hm => by
      rcases hf k hk with hk' | ⟨hk', _⟩
      · exact (other x hx).2 k hm hk'
      · have := (h.hid x (other x hx).1 k hm).1; omega
    refine ⟨d1, ⟨hn, d2.2.1, fun a ha b hb e => ?_⟩, fun a ha b hb e => ?_⟩
    · subst e
      obtain ⟨x, hx, hm⟩ := List.mem_flatMap.1 hb
      exact fresh a ha x (.inr hx) hm
    · subst e
      simp only [List.mem_append] at hb
      obtain ⟨x, hx, hm⟩ := List.mem_flatMap.1 ha
      rcases hb with hb | hb
      · exact fresh a hb x (.inl hx) hm
      · exact d3 a ha a (List.mem_append_right _ hb) rfl
  · have := h.keep k hk
    rw [e2]
    rw [e1] at this
    simp only [List.flatMap_append, List.flatMap_cons, List.mem_append] at this ⊢
    rcases this with h1 | h1 | h1
    · exact .inl h1
    · exact .inr (.inl (hgone k h1 (.inr hk)))
    · exact .inr (.inr h1)
theorem St.new (h : St lo B u w os) (x : Ext w w') {o : Own} (hf : ∀ k ∈ o.fp, w.heap.size ≤ k ∧ k < w'.heap.size) (hn : o.fp.Nodup) (hp : o.pr w') : St lo B u w' (o :: os) := by
  have h' := h.call x
  have hsz := h.size
  refine ⟨h'.os_, h'.tape, h'.output, h'.lo_, h'.size, fun k hk hn' => h'.pub k hk fun y hy => hn' y (by simp [hy]), fun y hy k hk => ?_, fun y hy => ?_, ?_, fun k hk => by simp only [List.flatMap_cons, List.mem_append]; exact .inr (h.keep k hk)⟩
  · simp only [List.mem_cons] at hy
    rcases hy with rfl | hy
    · exact ⟨(hf k hk).2, .inl (by have := h.lo_; have := (hf k hk).1; omega), fun hlt => by have := (hf k hk).1; omega⟩
    · exact h'.hid y hy k hk
  · simp only [List.mem_cons] at hy
    rcases hy with rfl | hy
    · exact hp
    · exact h'.prs y hy
  · simp only [List.flatMap_cons]
    rw [List.nodup_append]
    refine ⟨hn, h.dis, fun a ha b hb e => ?_⟩
    subst e
    obtain ⟨y, hy, hm⟩ := List.mem_flatMap.1 hb
    have := (h.hid y hy a hm).1
    have := (hf a ha).1
    omega
theorem St.conv (h : St lo B u w os) {os' : List Own} (hp : ∀ o ∈ os', o.pr w) (hs : (os'.flatMap (·.fp)).Perm (os.flatMap (·.fp))) : St lo B u w os' := by
  have hm : ∀ k, (∃ o ∈ os', k ∈ o.fp) ↔ ∃ o ∈ os, k ∈ o.fp := fun k => by
    have := hs.mem_iff (a := k)
    simpa [List.mem_flatMap] using this
  refine ⟨h.os_, h.tape, h.output, h.lo_, h.size, fun k hk hn => h.pub k hk fun o ho hk' => ?_, fun o ho k hk => ?_, hp, (hs.nodup_iff).2 h.dis, fun k hk => hs.mem_iff.2 (h.keep k hk)⟩
  · obtain ⟨o', ho', hm'⟩ := (hm k).2 ⟨o, ho, hk'⟩
    exact hn o' ho' hm'
  · obtain ⟨o', ho', hm'⟩ := (hm k).1 ⟨o, ho, hk⟩
    exact h.hid o' ho' k hm'
structure Up (lo : Nat) (u u' : World) : Prop where
  vis : Vis u u'
  low : ∀ k, k < lo → u'.heap[k]? = u.heap[k]?
  os_ : u'.os = u.os
  tape : u'.tape = u.tape
  output : u'.output = u.output
theorem Up.refl (lo : Nat) (u : World) : Up lo u u := ⟨Vis.refl u, fun _ _ => rfl, rfl, rfl, rfl⟩
theorem Up.trans {lo : Nat} {a b c : World} (h : Up lo a b) (k : Up lo b c) : Up lo a c :=
  ⟨h.vis.trans k.vis, fun i hi => (k.low i hi).trans (h.low i hi), k.os_.trans h.os_, k.tape.trans h.tape, k.output.trans h.output⟩
theorem Ext.up {lo : Nat} {u u' : World} (h : Ext u u') (hl : lo ≤ u.heap.size) : Up lo u u' :=
  ⟨h.vis, fun k hk => Below.block h k (by omega), h.os, h.tape, h.output⟩
theorem St.ext {u₀ u w : World} {os : List Own} (h : St u₀.heap.size [] u w os) (x : Up u₀.heap.size u₀ u) : Ext u₀ w := by
  refine ⟨h.os_.trans x.os_, h.tape.trans x.tape, h.output.trans x.output, Nat.le_trans h.lo_ h.size, fun k hk => ?_⟩
  rw [← x.low k hk]
  refine h.pub k (Nat.lt_of_lt_of_le hk h.lo_) fun o ho hm => ?_
  have := (h.hid o ho k hm).2.1
  simp at this
  omega
def offW (w : World) (bs : List Nat) : World := { w with heap := w.heap.mapIdx fun k o => if k ∈ bs then hidO else o }
theorem offW_get (w : World) (bs : List Nat) (k : Nat) : (offW w bs).heap[k]? = if k ∈ bs then (if k < w.heap.size then some hidO else none) else w.heap[k]? := by
  simp only [offW, Array.getElem?_mapIdx]
  by_cases h : k < w.heap.size
  · by_cases hm : k ∈ bs <;> simp [h, hm]
  · rw [Array.getElem?_eq_none (by omega)]; by_cases hm : k ∈ bs <;> simp [h, hm]
theorem St.pubw (h : St lo B u w os) : St lo B (offW w (os.flatMap (·.fp))) w os ∧ Ext u (offW w (os.flatMap (·.fp))) := by
  have hsz := h.size
  have hs : (offW w (os.flatMap (·.fp))).heap.size = w.heap.size := by simp [offW]
  refine ⟨⟨rfl, rfl, rfl, by have := h.lo_; omega, by omega, fun k hk hn => ?_, fun o ho k hk => ⟨(h.hid o ho k hk).1, (h.hid o ho k hk).2.1, fun hlt => ?_⟩, h.prs, h.dis, h.keep⟩, ⟨h.os_, h.tape, h.output, by omega, fun k hk => ?_⟩⟩
  · rw [offW_get, if_neg]
    intro hm
    obtain ⟨o, ho, hm⟩ := List.mem_flatMap.1 hm
    exact hn o ho hm
  · rw [offW_get, if_pos (List.mem_flatMap.2 ⟨o, ho, hk⟩), if_pos (by omega)]
  · rw [offW_get]
    by_cases hm : k ∈ os.flatMap (·.fp)
    · rw [if_pos hm, if_pos (by omega)]
      obtain ⟨o, ho, hm⟩ := List.mem_flatMap.1 hm
      exact ((h.hid o ho k hm).2.2 hk).symm
    · rw [if_neg hm]
      exact h.pub k hk fun o ho hk' => hm (List.mem_flatMap.2 ⟨o, ho, hk'⟩)
end
structure Ty where
  ok : World → Value → Prop
  own : World → Value → List Nat → Prop
  mono : ∀ {u w : World} {v : Value}, ok u v → Vis u w → ok w v
  loc : ∀ {w w' : World} {v : Value} {fp : List Nat}, own w v fp → (∀ k, k ∈ fp → w'.heap[k]? = w.heap[k]?) → own w' v fp
  ownok : ∀ {w : World} {v : Value} {fp : List Nat}, own w v fp → ok w v
def Ty.val (x : Value) : Ty := ⟨fun _ v => v = x, fun _ v fp => v = x ∧ fp = [], fun h _ => h, fun h _ => h, fun h => h.1⟩
def Ty.int (n : Int) : Ty := Ty.val (.int .i64 n)
def Ty.bool (b : Bool) : Ty := Ty.val (.bool b)
def Ty.str (s : ByteArray) : Ty := Ty.val (.string s)
def Ty.any : Ty := ⟨fun _ v => v.oneCell' = true, fun _ v fp => fp = [] ∧ v.oneCell' = true, fun h _ => h, fun h _ => h, fun h => h.2⟩
def cellsOk (w : World) : List Ty → List Value → Prop
  | [], [] => True
  | T :: Ts, v :: vs => T.ok w v ∧ cellsOk w Ts vs
  | _, _ => False
def cellsOwn (w : World) : List Ty → List Value → List Nat → Prop
  | [], [], fp => fp = []
  | T :: Ts, v :: vs, fp => ∃ f1 f2, fp = f1 ++ f2 ∧ T.own w v f1 ∧ cellsOwn w Ts vs f2
  | _, _, _ => False
theorem cellsOk.mono {u w : World} (x : Vis u w) : ∀ {Ts : List Ty} {vs : List Value}, cellsOk u Ts vs → cellsOk w Ts vs
  | [], [], _ => trivial
  | T :: Ts, v :: vs, h => ⟨T.mono h.1 x, cellsOk.mono x h.2⟩
theorem cellsOwn.loc {w w' : World} : ∀ {Ts : List Ty} {vs : List Value} {fp : List Nat}, cellsOwn w Ts vs fp → (∀ k, k ∈ fp → w'.heap[k]? = w.heap[k]?) → cellsOwn w' Ts vs fp
  | [], [], _, h, _ => h
  | T :: Ts, v :: vs, fp, h, hk => by
    obtain ⟨f1, f2, rfl, h1, h2⟩ := h
    exact ⟨f1, f2, rfl, T.loc h1 (fun k hm => hk k (by simp [hm])), cellsOwn.loc h2 (fun k hm => hk k (by simp [hm]))⟩
theorem cellsOwn.ok {w : World} : ∀ {Ts : List Ty} {vs : List Value} {fp : List Nat}, cellsOwn w Ts vs fp → cellsOk w Ts vs
  | [], [], _, _ => trivial
  | T :: Ts, v :: vs, fp, h => by
    obtain ⟨f1, f2, rfl, h1, h2⟩ := h
    exact ⟨T.ownok h1, cellsOwn.ok h2⟩
theorem cellsOk.length {w : World} : ∀ {Ts : List Ty} {vs : List Value}, cellsOk w Ts vs → vs.length = Ts.length
  | [], [], _ => rfl
  | T :: Ts, v :: vs, h => by simp [cellsOk.length h.2]
theorem cellsOwn.length {w : World} {Ts : List Ty} {vs : List Value} {fp : List Nat} (h : cellsOwn w Ts vs fp) : vs.length = Ts.length := (cellsOwn.ok h).length
theorem cellsOk.append {w : World} : ∀ {Ts Us : List Ty} {vs us : List Value}, cellsOk w Ts vs → cellsOk w Us us → cellsOk w (Ts ++ Us) (vs ++ us)
  | [], _, [], _, _, k => k
  | T :: Ts, _, v :: vs, _, h, k => ⟨h.1, cellsOk.append h.2 k⟩
theorem cellsOwn.append {w : World} : ∀ {Ts Us : List Ty} {vs us : List Value} {f g : List Nat}, cellsOwn w Ts vs f → cellsOwn w Us us g → cellsOwn w (Ts ++ Us) (vs ++ us) (f ++ g)
  | [], _, [], _, _, _, h, k => by simp only [cellsOwn] at h; subst h; exact k
  | T :: Ts, _, v :: vs, _, f, g, h, k => by
    obtain ⟨f1, f2, rfl, h1, h2⟩ := h
    exact ⟨f1, f2 ++ g, by simp, h1, cellsOwn.append h2 k⟩
theorem cellsOk.drop {w : World} : ∀ (n : Nat) {Ts : List Ty} {vs : List Value}, cellsOk w Ts vs → cellsOk w (Ts.drop n) (vs.drop n)
  | 0, _, _, h => h
  | n + 1, [], [], _ => trivial
  | n + 1, T :: Ts, v :: vs, h => cellsOk.drop n h.2
theorem cellsOk.take {w : World} : ∀ (n : Nat) {Ts : List Ty} {vs : List Value}, cellsOk w Ts vs → cellsOk w (Ts.take n) (vs.take n)
  | 0, _, _, _ => trivial
  | n + 1, [], [], _ => trivial
  | n + 1, T :: Ts, v :: vs, h => ⟨h.1, cellsOk.take n h.2⟩
theorem cellsOk.get {w : World} : ∀ {Ts : List Ty} {vs : List Value}, cellsOk w Ts vs → ∀ {j : Nat} {T : Ty}, Ts[j]? = some T → ∃ v, vs[j]? = some v ∧ T.ok w v
  | T :: Ts, v :: vs, h, 0, T', hj => by simp at hj; subst hj; exact ⟨v, rfl, h.1⟩
  | T :: Ts, v :: vs, h, j + 1, T', hj => by simpa using cellsOk.get h.2 (by simpa using hj)
  | [], _, _, _, _, hj => by simp at hj
def Ty.agg (Ts : List Ty) : Ty :=
  ⟨fun w v => ∃ vs, v = .agg vs.toArray ∧ cellsOk w Ts vs, fun w v fp => ∃ vs, v = .agg vs.toArray ∧ cellsOwn w Ts vs fp,
   fun h x => by obtain ⟨vs, e, h⟩ := h; exact ⟨vs, e, h.mono x⟩, fun h x => by obtain ⟨vs, e, h⟩ := h; exact ⟨vs, e, h.loc x⟩, fun h => by obtain ⟨vs, e, h⟩ := h; exact ⟨vs, e, h.ok⟩⟩
def Ty.tup (Ts : List Ty) : Ty :=
  ⟨fun w v => ∃ vs, v = .tuple vs.toArray ∧ cellsOk w Ts vs, fun w v fp => ∃ vs, v = .tuple vs.toArray ∧ cellsOwn w Ts vs fp,
   fun h x => by obtain ⟨vs, e, h⟩ := h; exact ⟨vs, e, h.mono x⟩, fun h x => by obtain ⟨vs, e, h⟩ := h; exact ⟨vs, e, h.loc x⟩, fun h => by obtain ⟨vs, e, h⟩ := h; exact ⟨vs, e, h.ok⟩⟩
def RowAt (w : World) (b o : Nat) (vs : List Value) : Prop := ∀ j x, vs[j]? = some x → Cell w b (o + j) x
theorem RowAt.vis {u w : World} {b o : Nat} {vs : List Value} (h : RowAt u b o vs) (x : Vis u w) : RowAt w b o vs := fun j v hj => (h j v hj).vis x
theorem RowAt.cons {w : World} {b o : Nat} {v : Value} {vs : List Value} : RowAt w b o (v :: vs) ↔ Cell w b o v ∧ RowAt w b (o + 1) vs := by
  constructor
  · intro h
    exact ⟨h 0 v rfl, fun j x hj => by have := h (j + 1) x (by simpa using hj); rwa [show o + 1 + j = o + (j + 1) by omega]⟩
  · rintro ⟨h1, h2⟩ j x hj
    cases j with
    | zero => simp at hj; subst hj; exact h1
    | succ j => have := h2 j x (by simpa using hj); rwa [show o + (j + 1) = o + 1 + j by omega]
theorem RowAt.nil {w : World} {b o : Nat} : RowAt w b o [] := fun j x hj => by simp at hj
theorem RowAt.sub {w : World} {b o : Nat} {vs : List Value} (h : RowAt w b o vs) (i n : Nat) : RowAt w b (o + i) ((vs.drop i).take n) := fun j x hj => by
  rw [List.getElem?_take] at hj
  split at hj
  · rw [List.getElem?_drop] at hj
    have := h (i + j) x hj
    rwa [← Nat.add_assoc] at this
  · simp at hj
def Ty.ref (Ts : List Ty) : Ty :=
  ⟨fun w v => ∃ b o vs, v = .pointer (some ⟨b, o, none⟩) ∧ cellsOk w Ts vs ∧ RowAt w b o vs, fun _ _ _ => False,
   fun ⟨b, o, vs, e, h, r⟩ x => ⟨b, o, vs, e, h.mono x, r.vis x⟩, fun h _ => h, fun h => h.elim⟩
def Ty.box (T : TypeId) (Ts : List Ty) : Ty :=
  ⟨fun w v => ∃ b o vs, v = .pointer (some ⟨b, o, none⟩) ∧ cellsOk w Ts vs ∧ RowAt w b o vs,
   fun w v fp => ∃ b vs f, v = .pointer (some ⟨b, 0, none⟩) ∧ fp = b :: f ∧ w.heap[b]? = some (.cells vs.toArray T (0, 0)) ∧ cellsOwn w Ts vs f,
   fun ⟨b, o, vs, e, h, r⟩ x => ⟨b, o, vs, e, h.mono x, r.vis x⟩,
   fun ⟨b, vs, f, e, e2, hb, h⟩ x => ⟨b, vs, f, e, e2, by rw [x b (by simp [e2])]; exact hb, h.loc (fun k hk => x k (by simp [e2, hk]))⟩,
   fun ⟨b, vs, f, e, e2, hb, h⟩ => ⟨b, 0, vs, e, h.ok, fun j x hj => ⟨vs.toArray, T, (0, 0), hb, by simpa using hj⟩⟩⟩
def Ty.sl (e : TypeId) (sz n : Nat) (Ts : List Ty) : Ty :=
  ⟨fun w v => Ts.length = n * sz ∧ ∃ A cap vs, v = .slice A n cap ∧ n ≤ cap ∧ cap ≤ maxLen ∧ cellsOk w Ts vs ∧ (0 < Ts.length → ∃ b o, A = some ⟨b, o, none⟩ ∧ RowAt w b o vs),
   fun w v fp => Ts.length = n * sz ∧ ∃ vs f, w.ownsRow 0 e sz v n vs ∧ fp = v.ownBlock.toList ++ f ∧ cellsOwn w Ts vs f,
   fun ⟨hl, A, cap, vs, h1, h2, h3, h4, h5⟩ x => ⟨hl, A, cap, vs, h1, h2, h3, h4.mono x, fun hp => let ⟨b, o, ha, hr⟩ := h5 hp; ⟨b, o, ha, hr.vis x⟩⟩,
   fun ⟨hl, vs, f, h1, h2, h3⟩ x => ⟨hl, vs, f, by
      refine ⟨h1.1, ?_⟩
      rcases h1.2 with hn | ⟨g, cap, cur, rfl, hb, hg, r⟩
      · exact .inl hn
      · exact .inr ⟨g, cap, cur, rfl, hb, by rw [x g (by simp [h2, Value.ownBlock])]; exact hg, r⟩, h2, h3.loc (fun k hk => x k (by simp [h2, hk]))⟩,
   fun {w v fp} ⟨hl, vs, f, h1, h2, h3⟩ => ⟨hl, by
      rcases h1.2 with ⟨rfl, rfl⟩ | ⟨g, cap, cur, rfl, hb, hg, hn, hc, hs, ht⟩
      · exact ⟨none, 0, vs, rfl, Nat.le_refl _, by unfold maxLen; omega, h3.ok, fun hp => by simp [hl] at hp⟩
      · refine ⟨some ⟨g, 0, none⟩, cap, vs, rfl, hn, hc, h3.ok, fun _ => ⟨g, 0, rfl, fun j x hj => ⟨cur, e, (0, 0), hg, ?_⟩⟩⟩
        rw [← ht, List.getElem?_take] at hj
        split at hj
        · rw [Nat.zero_add]; simpa using hj
        · simp at hj⟩⟩
def Ty.ints (e : TypeId) (xs : List Int) : Ty := Ty.sl e 1 xs.length (xs.map Ty.int)
def RO (w : World) (T : Ty) (e : Ending) (w' : World) : Prop := ∃ v fp, e = .returned v ∧ T.own w' v fp ∧ fp.Nodup ∧ (∀ k ∈ fp, w.heap.size ≤ k ∧ k < w'.heap.size) ∧ Ext w w'
def RV (w : World) (v : Value) (e : Ending) (w' : World) : Prop := e = .returned v ∧ Ext w w'
def Ret (P : Program) (f : FuncId) (args : List Value) (w : World) (T : Ty) : Prop := Calls P f args.toArray w (RO w T)
def RetV (P : Program) (f : FuncId) (args : List Value) (w : World) (v : Value) : Prop := Calls P f args.toArray w (RV w v)
theorem St.pubRet {lo : Nat} {B : List Nat} {u w w' : World} {os : List Own} (h : St lo B u w os) (x : Ext w w') {T : Ty} {v : Value} {fp : List Nat} (ho : T.own w' v fp) (hf : ∀ k ∈ fp, w.heap.size ≤ k ∧ k < w'.heap.size) :
    ∃ u', Up lo u u' ∧ St lo B u' w' os ∧ T.ok u' v := by
  obtain ⟨h1, h2⟩ := (h.call x).pubw
  refine ⟨_, h2.up h.lo_, h1, T.ownok (T.loc ho fun k hk => ?_)⟩
  rw [offW_get, if_neg]
  intro hm
  obtain ⟨o, hom, hk'⟩ := List.mem_flatMap.1 hm
  have := (h.hid o hom k hk').1
  have := (hf k hk).1
  omega
theorem St.release {lo : Nat} {B : List Nat} {u w : World} {os : List Own} (h : St lo B u w os) {i : Nat} {o : Own} (hi : os[i]? = some o) (hB : B = []) :
    ∃ u', Up lo u u' ∧ St lo B u' w (os.eraseIdx i) ∧ u'.heap.size = w.heap.size ∧ (∀ k ∈ o.fp, u'.heap[k]? = w.heap[k]?) := by
  subst hB
  have hlt : i < os.length := (List.getElem?_eq_some_iff.1 hi).1
  have hpart : ∃ pre post, os = pre ++ o :: post ∧ os.eraseIdx i = pre ++ post := by
    refine ⟨os.take i, os.drop (i + 1), ?_, List.eraseIdx_eq_take_drop_succ ..⟩
    have := (List.getElem?_eq_some_iff.1 hi).2
    rw [← this, ← List.drop_eq_getElem_cons hlt, List.take_append_drop]
  obtain ⟨pre, post, e1, e2⟩ := hpart
  have hd := h.dis
  rw [e1] at hd
  simp only [List.flatMap_append, List.flatMap_cons] at hd
  rw [List.nodup_append] at hd
  obtain ⟨d1, d2, d3⟩ := hd
  rw [List.nodup_append] at d2
  obtain ⟨d4, d5, d6⟩ := d2
  have hs : (offW w ((pre ++ post).flatMap (·.fp))).heap.size = w.heap.size := by simp [offW]
  have hsz := h.size
  have hlo := h.lo_
  have mem : ∀ x, x ∈ pre ++ post → x ∈ os := fun x hx => by rw [e1]; simp only [List.mem_append, List.mem_cons] at hx ⊢; rcases hx with hx | hx <;> simp [hx]
  have apart : ∀ k ∈ o.fp, k ∉ (pre ++ post).flatMap (·.fp) := fun k hk hm => by
    rw [List.flatMap_append, List.mem_append] at hm
    rcases hm with hm | hm
    · exact d3 k hm k (List.mem_append_left _ hk) rfl
    · exact d6 k hk k hm rfl
  rw [e2]
  refine ⟨offW w ((pre ++ post).flatMap (·.fp)), ⟨⟨by omega, fun k c t f hk => ?_⟩, fun k hk => ?_, h.os_, h.tape, h.output⟩, ⟨rfl, rfl, rfl, by omega, by omega, fun k hk hn => ?_, fun x hx k hk => ⟨(h.hid x (mem x hx) k hk).1, (h.hid x (mem x hx) k hk).2.1, fun hlt' => ?_⟩, fun x hx => h.prs x (mem x hx), ?_, fun _ h => by simp at h⟩, hs, fun k hk => ?_⟩
  · rw [offW_get, if_neg]
    · exact h.vis.vis k c t f hk
    · intro hm
      obtain ⟨x, hx, hm⟩ := List.mem_flatMap.1 hm
      have := (h.hid x (mem x hx) k hm).2.2 (Array.getElem?_eq_some_iff.1 hk).1
      rw [this] at hk
      simp [hidO] at hk
  · have nh : ∀ x ∈ os, k ∉ x.fp := fun x hx hm => by
      have := (h.hid x hx k hm).2.1
      simp at this; omega
    rw [offW_get, if_neg fun hm => by obtain ⟨x, hx, hm⟩ := List.mem_flatMap.1 hm; exact nh x (mem x hx) hm]
    exact h.pub k (by omega) nh
  · rw [offW_get, if_neg]
    intro hm
    obtain ⟨x, hx, hm⟩ := List.mem_flatMap.1 hm
    exact hn x hx hm
  · rw [offW_get, if_pos (List.mem_flatMap.2 ⟨x, hx, hk⟩), if_pos (by have := (h.hid x (mem x hx) k hk).1; omega)]
  · rw [List.flatMap_append, List.nodup_append]
    exact ⟨d1, d5, fun a ha b hb e => d3 a ha b (List.mem_append_right _ hb) e⟩
  · rw [offW_get, if_neg (apart k hk)]
def ownO (T : Ty) (v : Value) (fp : List Nat) : Own := ⟨fp, fun w => T.own w v fp, fun h k => T.loc k h⟩
def boxO (b : Nat) (c : List Value) (T : TypeId) : Own := ⟨[b], fun w => w.heap[b]? = some (.cells c.toArray T (0, 0)), fun h k => by rw [h b (by simp)]; exact k⟩
end Go.Proofs.Ytejnmechnhgmfaa

/- The contract of strconv.FormatInt at base 10, laid at this dump. -/
import Derived.Shelf.Strconv.Itoa0
import Derived.Shelf.Strconv.Itoa1
import Derived.Shelf.LaysM
import Derived.Shelf.Strconv.Itoa2
import Derived.Shelf.Strconv.Itoa3
import Derived.Shelf.Strconv.Itoa4
import Derived.Test.YtjklnidbndopiaaGreatDoorProg
import Derived.WalkKit
import Derived.WalkSpells
import Derived.WalkLawsBesides
import Derived.OrdersHeld
import Derived.Deep.AppendSrc
import Derived.Lib.Hide
import Derived.Deep.QuietTactic
import Derived.BigQuiet
import Derived.Deep.RegionHeld3
import Derived.Deep.AppendLies
import Derived.Deep.LoopGhost
import Derived.Deep.DeepCutAuto
set_option linter.unusedSimpArgs false
set_option linter.unusedVariables false
namespace Go.Proofs.YtjklnidbndopiaaGreatDoor
open Go.Shelf
def laysM173_ren : Go.Shelf.Ren := ⟨fun | 173 => 88 | 246 => 136 | 283 => 160 | 284 => 161 | 285 => 162 | 286 => 163 | 129 => 184 | 317 => 183 | 318 => 185 | 319 => 186 | 320 => 187 | 337 => 195 | 338 => 196 | n => n, fun | 2 => 2 | 3 => 3 | 9 => 9 | 4 => 4 | 171 => 220 | 0 => 0 | 53 => 142 | 37 => 40 | 5 => 5 | 173 => 223 | 212 => 242 | 51 => 243 | 20 => 20 | 213 => 244 | 46 => 199 | 232 => 252 | 233 => 253 | n => n, fun | 17 => 0 | 18 => 1 | 19 => 2 | n => n⟩
theorem laysM173 : Go.Proofs.LaysM.n173 Tryz.prog laysM173_ren := {
  mixed := by kernel_rfl
  f129 := Tryz.func184.trans (congrArg some (by kernel_rfl))
  f173 := Tryz.func88.trans (congrArg some (by kernel_rfl))
  f246 := Tryz.func136.trans (congrArg some (by kernel_rfl))
  f283 := Tryz.func160.trans (congrArg some (by kernel_rfl))
  f284 := Tryz.func161.trans (congrArg some (by kernel_rfl))
  f285 := Tryz.func162.trans (congrArg some (by kernel_rfl))
  f286 := Tryz.func163.trans (congrArg some (by kernel_rfl))
  f317 := Tryz.func183.trans (congrArg some (by kernel_rfl))
  f318 := Tryz.func185.trans (congrArg some (by kernel_rfl))
  f319 := Tryz.func186.trans (congrArg some (by kernel_rfl))
  f320 := Tryz.func187.trans (congrArg some (by kernel_rfl))
  f337 := Tryz.func195.trans (congrArg some (by kernel_rfl))
  f338 := Tryz.func196.trans (congrArg some (by kernel_rfl))
  t0 := Tryz.underlying0
  a0 := Tryz.isAgg0
  z0 := Tryz.sizeOf0
  v0 := Tryz.zeroValue0
  t2 := Tryz.underlying2
  a2 := Tryz.isAgg2
  z2 := Tryz.sizeOf2
  v2 := Tryz.zeroValue2
  t3 := Tryz.underlying3
  a3 := Tryz.isAgg3
  z3 := Tryz.sizeOf3
  v3 := Tryz.zeroValue3
  t4 := Tryz.underlying4
  a4 := Tryz.isAgg4
  z4 := Tryz.sizeOf4
  v4 := Tryz.zeroValue4
  t5 := Tryz.underlying5
  a5 := Tryz.isAgg5
  z5 := Tryz.sizeOf5
  v5 := Tryz.zeroValue5
  t9 := Tryz.underlying9
  a9 := Tryz.isAgg9
  z9 := Tryz.sizeOf9
  v9 := Tryz.zeroValue9
  t20 := Tryz.underlying20
  a20 := Tryz.isAgg20
  z20 := Tryz.sizeOf20
  v20 := Tryz.zeroValue20
  t37 := Tryz.underlying40
  a37 := Tryz.isAgg40
  z37 := Tryz.sizeOf40
  v37 := Tryz.zeroValue40
  t46 := Tryz.underlying199
  a46 := Tryz.isAgg199
  z46 := Tryz.sizeOf199
  v46 := Tryz.zeroValue199
  t51 := Tryz.underlying243
  a51 := Tryz.isAgg243
  z51 := Tryz.sizeOf243
  v51 := Tryz.zeroValue243
  t53 := Tryz.underlying142
  a53 := Tryz.isAgg142
  z53 := Tryz.sizeOf142
  v53 := Tryz.zeroValue142
  t171 := Tryz.underlying220
  a171 := Tryz.isAgg220
  z171 := Tryz.sizeOf220
  v171 := Tryz.zeroValue220
  t173 := Tryz.underlying223
  a173 := Tryz.isAgg223
  z173 := Tryz.sizeOf223
  v173 := Tryz.zeroValue223
  t212 := Tryz.underlying242
  a212 := Tryz.isAgg242
  z212 := Tryz.sizeOf242
  v212 := Tryz.zeroValue242
  t213 := Tryz.underlying244
  a213 := Tryz.isAgg244
  z213 := Tryz.sizeOf244
  t232 := Tryz.underlying252
  a232 := Tryz.isAgg252
  z232 := Tryz.sizeOf252
  v232 := Tryz.zeroValue252
  t233 := Tryz.underlying253
  a233 := Tryz.isAgg253
  z233 := Tryz.sizeOf253
  v233 := Tryz.zeroValue253
  g17 := by kernel_rfl
  g18 := by kernel_rfl
  g19 := by kernel_rfl
  i0 := by kernel_rfl
  i2 := by kernel_rfl
  i3 := by kernel_rfl
  i4 := by kernel_rfl
  i5 := by kernel_rfl
  i9 := by kernel_rfl
  i20 := by kernel_rfl
  i37 := by kernel_rfl
  i46 := by kernel_rfl
  i51 := by kernel_rfl
  i53 := by kernel_rfl
  i171 := by kernel_rfl
  i173 := by kernel_rfl
  i212 := by kernel_rfl
  i232 := by kernel_rfl
  i233 := by kernel_rfl
  m17 := by kernel_rfl
  m18 := by kernel_rfl
  m19 := by kernel_rfl }
open Go.RowKit
abbrev Fr := List (Nat × Value)
def look : Fr → Nat → Option Value
  | [], _ => none
  | (j, v) :: l, k => bif Nat.beq j k then some v else look l k
structure Has (n : Nat) (a : Act) (l : Fr) : Prop where
  dfr : a.defers = []
  size : a.tmps.size = n
  get : ∀ k v, look l k = some v → a.tmps.getD k undef = v
theorem Has.put {n : Nat} {a : Act} {l : Fr} (h : Has n a l) {d : Nat} (hd : Nat.blt d n = true) (v : Value) : Has n (a.put (some d) v) ((d, v) :: l) := by
  have hd : d < n := by simpa [Nat.blt_eq] using hd
  refine ⟨h.dfr, by simp [Act.put, h.size], fun k u hu => ?_⟩
  simp only [look] at hu
  by_cases e : d = k
  · subst e
    simp at hu
    subst hu
    simp [Act.put, h.size, hd]
  · have e' : Nat.beq d k = false := by cases h : Nat.beq d k <;> simp_all [Nat.beq_eq]
    rw [e'] at hu
    rw [← h.get k u hu]
    simp [Act.put, Array.getD_eq_getD_getElem?, Array.getElem?_setIfInBounds_ne e]
theorem Has.none {n : Nat} {a : Act} {l : Fr} (h : Has n a l) (v : Value) : Has n (a.put Option.none v) l := h
def subf (l : Fr) : Fr → Prop
  | [] => True
  | p :: r => look l p.1 = some p.2 ∧ subf l r
theorem subf.look {l : Fr} : ∀ {l' : Fr}, subf l l' → ∀ k v, look l' k = some v → Go.Proofs.YtjklnidbndopiaaGreatDoor.look l k = some v
  | [], _, k, v, h => by simp [Go.Proofs.YtjklnidbndopiaaGreatDoor.look] at h
  | (j, x) :: r, ⟨h1, h2⟩, k, v, h => by
    simp only [Go.Proofs.YtjklnidbndopiaaGreatDoor.look] at h
    by_cases e : j = k
    · subst e; simp at h; subst h; exact h1
    · have e' : Nat.beq j k = false := by cases h : Nat.beq j k <;> simp_all [Nat.beq_eq]
      rw [e'] at h
      exact h2.look k v h
theorem Has.sub {n : Nat} {a : Act} {l l' : Fr} (h : Has n a l) (hs : subf l l') : Has n a l' := ⟨h.dfr, h.size, fun k v hk => h.get k v (hs.look k v hk)⟩
def opd (l : Fr) : Operand → Option Value
  | .tmp t => look l t
  | .const v => some v
  | .func f => some (.func (.func f) #[] #[])
  | .global _ => none
theorem Has.eval {n : Nat} {a : Act} {l : Fr} (h : Has n a l) {x : Operand} {v : Value} (ho : opd l x = some v) : a.eval x = v := by
  cases x with
  | tmp t => exact h.get t v ho
  | const u => simpa [opd, Act.eval] using ho
  | func f => simpa [opd, Act.eval] using ho
  | global g => simp [opd] at ho
def gv (c : Bool) (v : Value) : Value := bif c then v else undef
theorem gvt {l : Fr} {x : Operand} {c : Bool} {v : Value} (h : opd l x = some (gv c v)) (hc : c = true) : opd l x = some v := by subst hc; exact h
def opds (l : Fr) : List Operand → Option (List Value)
  | [] => some []
  | x :: r => match opd l x, opds l r with
    | some v, some vs => some (v :: vs)
    | _, _ => none
theorem Has.evals {n : Nat} {a : Act} {l : Fr} (h : Has n a l) : ∀ {xs : List Operand} {vs : List Value}, opds l xs = some vs → xs.map a.eval = vs
  | [], vs, ho => by simp [opds] at ho; subst ho; rfl
  | x :: r, vs, ho => by
    simp only [opds] at ho
    cases h1 : opd l x with
    | none => simp [h1] at ho
    | some v =>
      cases h2 : opds l r with
      | none => simp [h1, h2] at ho
      | some us =>
        simp [h1, h2] at ho
        subst ho
        simp [h.eval h1, h.evals h2]
def Ext (w w' : World) : Prop := Below w.heap.size w w'
theorem Ext.size {w w' : World} (h : Ext w w') : w.heap.size ≤ w'.heap.size := Below.size h
theorem Ext.refl (w : World) : Ext w w := Below.refl _ _
theorem Ext.trans {a b c : World} (h : Ext a b) (k : Ext b c) : Ext a c := Below.trans h (Below.mono k (Below.size h))
theorem Ext.alloc {a w : World} (h : Ext a w) (o : Obj) : Ext a (w.alloc o) := Below.alloc h (Below.size h) o
theorem Ext.drew {a w : World} (h : Ext a w) : Ext a w.drew := Below.drew h
def hidO : Obj := .coro none
structure Vis (u w : World) : Prop where
  size : u.heap.size ≤ w.heap.size
  vis : ∀ (k : Nat) (c : Array Value) (t : TypeId) (f : Nat × Nat), u.heap[k]? = some (Obj.cells c t f) → w.heap[k]? = some (Obj.cells c t f)
theorem Vis.refl (u : World) : Vis u u := ⟨Nat.le_refl _, fun _ _ _ _ h => h⟩
theorem Vis.trans {a b c : World} (h : Vis a b) (k : Vis b c) : Vis a c := ⟨Nat.le_trans h.size k.size, fun i _ _ _ hi => k.vis i _ _ _ (h.vis i _ _ _ hi)⟩
theorem Ext.vis {a b : World} (h : Ext a b) : Vis a b :=
  ⟨h.size, fun k _ _ _ hk => (Below.block h k (Array.getElem?_eq_some_iff.1 hk).1).trans hk⟩
def Cell (u : World) (b o : Nat) (x : Value) : Prop := ∃ c t f, u.heap[b]? = some (.cells c t f) ∧ c[o]? = some x
theorem Cell.vis {u w : World} {b o : Nat} {x : Value} (h : Cell u b o x) (k : Vis u w) : Cell w b o x := by
  obtain ⟨c, t, f, h1, h2⟩ := h
  exact ⟨c, t, f, k.vis _ _ _ _ h1, h2⟩
theorem Cell.get {u : World} {b o : Nat} {x : Value} (h : Cell u b o x) : u.cell? ⟨b, o, none⟩ = some x := by
  obtain ⟨c, t, f, h1, h2⟩ := h
  simp [World.cell?, h1, h2]
theorem Cell.uniq {u : World} {b o : Nat} {x y : Value} (h : Cell u b o x) (k : Cell u b o y) : x = y := by
  have := h.get.symm.trans k.get
  injection this
structure Own where
  fp : List Nat
  pr : World → Prop
  loc : ∀ {w w' : World}, (∀ k, k ∈ fp → w'.heap[k]? = w.heap[k]?) → pr w → pr w'
structure St (lo : Nat) (B : List Nat) (u w : World) (os : List Own) : Prop where
  os_ : w.os = u.os
  tape : w.tape = u.tape
  output : w.output = u.output
  lo_ : lo ≤ u.heap.size
  size : u.heap.size ≤ w.heap.size
  pub : ∀ k, k < u.heap.size → (∀ o ∈ os, k ∉ o.fp) → w.heap[k]? = u.heap[k]?
  hid : ∀ o ∈ os, ∀ k ∈ o.fp, k < w.heap.size ∧ (lo ≤ k ∨ k ∈ B) ∧ (k < u.heap.size → u.heap[k]? = some hidO)
  prs : ∀ o ∈ os, o.pr w
  dis : (os.flatMap (·.fp)).Nodup
  keep : ∀ k ∈ B, k ∈ os.flatMap (·.fp)
theorem St.start (w : World) : St w.heap.size [] w w [] :=
  ⟨rfl, rfl, rfl, Nat.le_refl _, Nat.le_refl _, fun _ _ _ => rfl, fun _ h => by simp at h, fun _ h => by simp at h, by simp, fun _ h => by simp at h⟩
section
variable {lo : Nat} {B : List Nat} {u w w' : World} {os : List Own}
theorem St.vis (h : St lo B u w os) : Vis u w := by
  refine ⟨h.size, fun k c t f hk => ?_⟩
  have hlt := (Array.getElem?_eq_some_iff.1 hk).1
  by_cases hx : ∀ o ∈ os, k ∉ o.fp
  · rw [h.pub k hlt hx]; exact hk
  · exfalso
    simp only [Classical.not_forall, Classical.not_not] at hx
    obtain ⟨o, ho, hm⟩ := hx
    have := (h.hid o ho k hm).2.2 hlt
    rw [this] at hk
    simp [hidO] at hk
theorem St.call (h : St lo B u w os) (x : Ext w w') : St lo B u w' os := by
  have hb : ∀ k, k < w.heap.size → w'.heap[k]? = w.heap[k]? := Below.block x
  refine ⟨x.os.trans h.os_, x.tape.trans h.tape, x.output.trans h.output, h.lo_, Nat.le_trans h.size x.size, fun k hk hn => ?_, fun o ho k hk => ?_, fun o ho => ?_, h.dis, h.keep⟩
  · rw [hb k (Nat.lt_of_lt_of_le hk h.size)]; exact h.pub k hk hn
  · obtain ⟨a, b, c⟩ := h.hid o ho k hk
    exact ⟨Nat.lt_of_lt_of_le a x.size, b, c⟩
  · exact o.loc (fun k hk => hb k (h.hid o ho k hk).1) (h.prs o ho)
theorem St.drew (h : St lo B u w os) : St lo B u w.drew os := h.call (Ext.refl w).drew
theorem St.upd (h : St lo B u w os) {i : Nat} {o o' : Own} (hi : os[i]? = some o) (h1 : w'.os = w.os) (h2 : w'.tape = w.tape) (h3 : w'.output = w.output) (hs : w.heap.size ≤ w'.heap.size)
    (hb : ∀ k, k < w.heap.size → k ∉ o.fp → w'.heap[k]? = w.heap[k]?) (hf : ∀ k ∈ o'.fp, k ∈ o.fp ∨ (w.heap.size ≤ k ∧ k < w'.heap.size)) (hn : o'.fp.Nodup) (hp : o'.pr w')
    (hgone : ∀ k, k ∈ o.fp → (k < u.heap.size ∨ k ∈ B) → k ∈ o'.fp) : St lo B u w' (os.set i o') := by
  have hlt : i < os.length := (List.getElem?_eq_some_iff.1 hi).1
  have hom : o ∈ os := List.mem_of_getElem? hi
  have hsz := h.size
  -- the others
  have hpart : ∃ pre post, os = pre ++ o :: post ∧ os.set i o' = pre ++ o' :: post := by
    refine ⟨os.take i, os.drop (i + 1), ?_, by rw [List.set_eq_take_append_cons_drop, if_pos hlt]⟩
    have := (List.getElem?_eq_some_iff.1 hi).2
    rw [← this, ← List.drop_eq_getElem_cons hlt, List.take_append_drop]
  obtain ⟨pre, post, e1, e2⟩ := hpart
  have hd := h.dis
  rw [e1] at hd
  simp only [List.flatMap_append, List.flatMap_cons] at hd
  have other : ∀ x, (x ∈ pre ∨ x ∈ post) → x ∈ os ∧ ∀ k ∈ x.fp, k ∉ o.fp := by
    intro x hx
    refine ⟨by rw [e1]; rcases hx with hx | hx <;> simp [hx], fun k hk hk' => ?_⟩
    rw [List.nodup_append] at hd
    obtain ⟨_, d2, d3⟩ := hd
    rw [List.nodup_append] at d2
    rcases hx with hx | hx
    · exact d3 k (List.mem_flatMap.2 ⟨x, hx, hk⟩) k (List.mem_append_left _ hk') rfl
    · exact d2.2.2 k hk' k (List.mem_flatMap.2 ⟨x, hx, hk⟩) rfl
  refine ⟨h1.trans h.os_, h2.trans h.tape, h3.trans h.output, h.lo_, Nat.le_trans hsz hs, fun k hk hn' => ?_, fun x hx k hk => ?_, fun x hx => ?_, ?_, fun k hk => ?_⟩
  · rw [e2] at hn'
    have hk0 : k ∉ o.fp := fun hm => hn' o' (by simp) (hgone k hm (.inl hk))
    rw [hb k (by omega) hk0]
    refine h.pub k hk fun x hx hm => ?_
    rw [e1] at hx
    simp only [List.mem_append, List.mem_cons] at hx
    rcases hx with hx | rfl | hx
    · exact hn' x (by simp [hx]) hm
    · exact hk0 hm
    · exact hn' x (by simp [hx]) hm
  · rw [e2] at hx
    simp only [List.mem_append, List.mem_cons] at hx
    have old : ∀ x, (x ∈ pre ∨ x ∈ post) → k ∈ x.fp → k < w'.heap.size ∧ (lo ≤ k ∨ k ∈ B) ∧ (k < u.heap.size → u.heap[k]? = some hidO) := fun x hx hk => by
      obtain ⟨a, b, c⟩ := h.hid x (other x hx).1 k hk
      exact ⟨by omega, b, c⟩
    rcases hx with hx | rfl | hx
    · exact old x (.inl hx) hk
    · rcases hf k hk with hm | ⟨hm, hm'⟩
      · obtain ⟨a, b, c⟩ := h.hid o hom k hm
        exact ⟨by omega, b, c⟩
      · exact ⟨hm', .inl (by have := h.lo_; omega), fun hlt => by omega⟩
    · exact old x (.inr hx) hk
  · rw [e2] at hx
    simp only [List.mem_append, List.mem_cons] at hx
    have old : ∀ x, (x ∈ pre ∨ x ∈ post) → x.pr w' := fun x hx => by
      obtain ⟨hxo, hne⟩ := other x hx
      exact x.loc (fun k hk => hb k (h.hid x hxo k hk).1 (hne k hk)) (h.prs x hxo)
    rcases hx with hx | rfl | hx
    · exact old x (.inl hx)
    · exact hp
    · exact old x (.inr hx)
  · rw [e2]
    simp only [List.flatMap_append, List.flatMap_cons]
    rw [List.nodup_append] at hd ⊢
    obtain ⟨d1, d2, d3⟩ := hd
    rw [List.nodup_append] at d2 ⊢
    have fresh : ∀ k ∈ o'.fp, ∀ x, (x ∈ pre ∨ x ∈ post) → k ∉ x.fp := fun k hk x hx hm => by
      rcases hf k hk with hk' | ⟨hk', _⟩
      · exact (other x hx).2 k hm hk'
      · have := (h.hid x (other x hx).1 k hm).1; omega
    refine ⟨d1, ⟨hn, d2.2.1, fun a ha b hb e => ?_⟩, fun a ha b hb e => ?_⟩
    · subst e
      obtain ⟨x, hx, hm⟩ := List.mem_flatMap.1 hb
      exact fresh a ha x (.inr hx) hm
    · subst e
      simp only [List.mem_append] at hb
      obtain ⟨x, hx, hm⟩ := List.mem_flatMap.1 ha
      rcases hb with hb | hb
      · exact fresh a hb x (.inl hx) hm
      · exact d3 a ha a (List.mem_append_right _ hb) rfl
  · have := h.keep k hk
    rw [e2]
    rw [e1] at this
    simp only [List.flatMap_append, List.flatMap_cons, List.mem_append] at this ⊢
    rcases this with h1 | h1 | h1
    · exact .inl h1
    · exact .inr (.inl (hgone k h1 (.inr hk)))
    · exact .inr (.inr h1)
theorem St.new (h : St lo B u w os) (x : Ext w w') {o : Own} (hf : ∀ k ∈ o.fp, w.heap.size ≤ k ∧ k < w'.heap.size) (hn : o.fp.Nodup) (hp : o.pr w') : St lo B u w' (o :: os) := by
  have h' := h.call x
  have hsz := h.size
  refine ⟨h'.os_, h'.tape, h'.output, h'.lo_, h'.size, fun k hk hn' => h'.pub k hk fun y hy => hn' y (by simp [hy]), fun y hy k hk => ?_, fun y hy => ?_, ?_, fun k hk => by simp only [List.flatMap_cons, List.mem_append]; exact .inr (h.keep k hk)⟩
  · simp only [List.mem_cons] at hy
    rcases hy with rfl | hy
    · exact ⟨(hf k hk).2, .inl (by have := h.lo_; have := (hf k hk).1; omega), fun hlt => by have := (hf k hk).1; omega⟩
    · exact h'.hid y hy k hk
  · simp only [List.mem_cons] at hy
    rcases hy with rfl | hy
    · exact hp
    · exact h'.prs y hy
  · simp only [List.flatMap_cons]
    rw [List.nodup_append]
    refine ⟨hn, h.dis, fun a ha b hb e => ?_⟩
    subst e
    obtain ⟨y, hy, hm⟩ := List.mem_flatMap.1 hb
    have := (h.hid y hy a hm).1
    have := (hf a ha).1
    omega
theorem St.conv (h : St lo B u w os) {os' : List Own} (hp : ∀ o ∈ os', o.pr w) (hs : (os'.flatMap (·.fp)).Perm (os.flatMap (·.fp))) : St lo B u w os' := by
  have hm : ∀ k, (∃ o ∈ os', k ∈ o.fp) ↔ ∃ o ∈ os, k ∈ o.fp := fun k => by
    have := hs.mem_iff (a := k)
    simpa [List.mem_flatMap] using this
  refine ⟨h.os_, h.tape, h.output, h.lo_, h.size, fun k hk hn => h.pub k hk fun o ho hk' => ?_, fun o ho k hk => ?_, hp, (hs.nodup_iff).2 h.dis, fun k hk => hs.mem_iff.2 (h.keep k hk)⟩
  · obtain ⟨o', ho', hm'⟩ := (hm k).2 ⟨o, ho, hk'⟩
    exact hn o' ho' hm'
  · obtain ⟨o', ho', hm'⟩ := (hm k).1 ⟨o, ho, hk⟩
    exact h.hid o' ho' k hm'
structure Up (lo : Nat) (u u' : World) : Prop where
  vis : Vis u u'
  low : ∀ k, k < lo → u'.heap[k]? = u.heap[k]?
  os_ : u'.os = u.os
  tape : u'.tape = u.tape
  output : u'.output = u.output
theorem Up.refl (lo : Nat) (u : World) : Up lo u u := ⟨Vis.refl u, fun _ _ => rfl, rfl, rfl, rfl⟩
theorem Up.trans {lo : Nat} {a b c : World} (h : Up lo a b) (k : Up lo b c) : Up lo a c :=
  ⟨h.vis.trans k.vis, fun i hi => (k.low i hi).trans (h.low i hi), k.os_.trans h.os_, k.tape.trans h.tape, k.output.trans h.output⟩
theorem Ext.up {lo : Nat} {u u' : World} (h : Ext u u') (hl : lo ≤ u.heap.size) : Up lo u u' :=
  ⟨h.vis, fun k hk => Below.block h k (by omega), h.os, h.tape, h.output⟩
theorem St.ext {u₀ u w : World} {os : List Own} (h : St u₀.heap.size [] u w os) (x : Up u₀.heap.size u₀ u) : Ext u₀ w := by
  refine ⟨h.os_.trans x.os_, h.tape.trans x.tape, h.output.trans x.output, Nat.le_trans h.lo_ h.size, fun k hk => ?_⟩
  rw [← x.low k hk]
  refine h.pub k (Nat.lt_of_lt_of_le hk h.lo_) fun o ho hm => ?_
  have := (h.hid o ho k hm).2.1
  simp at this
  omega
def offW (w : World) (bs : List Nat) : World := { w with heap := w.heap.mapIdx fun k o => if k ∈ bs then hidO else o }
theorem offW_get (w : World) (bs : List Nat) (k : Nat) : (offW w bs).heap[k]? = if k ∈ bs then (if k < w.heap.size then some hidO else none) else w.heap[k]? := by
  simp only [offW, Array.getElem?_mapIdx]
  by_cases h : k < w.heap.size
  · by_cases hm : k ∈ bs <;> simp [h, hm]
  · rw [Array.getElem?_eq_none (by omega)]; by_cases hm : k ∈ bs <;> simp [h, hm]
theorem St.pubw (h : St lo B u w os) : St lo B (offW w (os.flatMap (·.fp))) w os ∧ Ext u (offW w (os.flatMap (·.fp))) := by
  have hsz := h.size
  have hs : (offW w (os.flatMap (·.fp))).heap.size = w.heap.size := by simp [offW]
  refine ⟨⟨rfl, rfl, rfl, by have := h.lo_; omega, by omega, fun k hk hn => ?_, fun o ho k hk => ⟨(h.hid o ho k hk).1, (h.hid o ho k hk).2.1, fun hlt => ?_⟩, h.prs, h.dis, h.keep⟩, ⟨h.os_, h.tape, h.output, by omega, fun k hk => ?_⟩⟩
  · rw [offW_get, if_neg]
    intro hm
    obtain ⟨o, ho, hm⟩ := List.mem_flatMap.1 hm
    exact hn o ho hm
  · rw [offW_get, if_pos (List.mem_flatMap.2 ⟨o, ho, hk⟩), if_pos (by omega)]
  · rw [offW_get]
    by_cases hm : k ∈ os.flatMap (·.fp)
    · rw [if_pos hm, if_pos (by omega)]
      obtain ⟨o, ho, hm⟩ := List.mem_flatMap.1 hm
      exact ((h.hid o ho k hm).2.2 hk).symm
    · rw [if_neg hm]
      exact h.pub k hk fun o ho hk' => hm (List.mem_flatMap.2 ⟨o, ho, hk'⟩)
end
structure Ty where
  ok : World → Value → Prop
  own : World → Value → List Nat → Prop
  mono : ∀ {u w : World} {v : Value}, ok u v → Vis u w → ok w v
  loc : ∀ {w w' : World} {v : Value} {fp : List Nat}, own w v fp → (∀ k, k ∈ fp → w'.heap[k]? = w.heap[k]?) → own w' v fp
  ownok : ∀ {w : World} {v : Value} {fp : List Nat}, own w v fp → ok w v
def Ty.val (x : Value) : Ty := ⟨fun _ v => v = x, fun _ v fp => v = x ∧ fp = [], fun h _ => h, fun h _ => h, fun h => h.1⟩
def Ty.int (n : Int) : Ty := Ty.val (.int .i64 n)
def Ty.bool (b : Bool) : Ty := Ty.val (.bool b)
@[reducible] def sB (l : List UInt8) : ByteArray := ⟨l.toArray⟩
theorem sB_eta (b : ByteArray) : sB b.data.toList = b := by cases b; simp [sB]
def Ty.str (s : List UInt8) : Ty := Ty.val (.string (sB s))
def Ty.any : Ty := ⟨fun _ v => v.oneCell' = true, fun _ v fp => fp = [] ∧ v.oneCell' = true, fun h _ => h, fun h _ => h, fun h => h.2⟩
def cellsOk (w : World) : List Ty → List Value → Prop
  | [], [] => True
  | T :: Ts, v :: vs => T.ok w v ∧ cellsOk w Ts vs
  | _, _ => False
def cellsOwn (w : World) : List Ty → List Value → List Nat → Prop
  | [], [], fp => fp = []
  | T :: Ts, v :: vs, fp => ∃ f1 f2, fp = f1 ++ f2 ∧ T.own w v f1 ∧ cellsOwn w Ts vs f2
  | _, _, _ => False
theorem cellsOk.mono {u w : World} (x : Vis u w) : ∀ {Ts : List Ty} {vs : List Value}, cellsOk u Ts vs → cellsOk w Ts vs
  | [], [], _ => trivial
  | T :: Ts, v :: vs, h => ⟨T.mono h.1 x, cellsOk.mono x h.2⟩
theorem cellsOwn.loc {w w' : World} : ∀ {Ts : List Ty} {vs : List Value} {fp : List Nat}, cellsOwn w Ts vs fp → (∀ k, k ∈ fp → w'.heap[k]? = w.heap[k]?) → cellsOwn w' Ts vs fp
  | [], [], _, h, _ => h
  | T :: Ts, v :: vs, fp, h, hk => by
    obtain ⟨f1, f2, rfl, h1, h2⟩ := h
    exact ⟨f1, f2, rfl, T.loc h1 (fun k hm => hk k (by simp [hm])), cellsOwn.loc h2 (fun k hm => hk k (by simp [hm]))⟩
theorem cellsOwn.ok {w : World} : ∀ {Ts : List Ty} {vs : List Value} {fp : List Nat}, cellsOwn w Ts vs fp → cellsOk w Ts vs
  | [], [], _, _ => trivial
  | T :: Ts, v :: vs, fp, h => by
    obtain ⟨f1, f2, rfl, h1, h2⟩ := h
    exact ⟨T.ownok h1, cellsOwn.ok h2⟩
theorem cellsOk.length {w : World} : ∀ {Ts : List Ty} {vs : List Value}, cellsOk w Ts vs → vs.length = Ts.length
  | [], [], _ => rfl
  | T :: Ts, v :: vs, h => by simp [cellsOk.length h.2]
theorem cellsOwn.length {w : World} {Ts : List Ty} {vs : List Value} {fp : List Nat} (h : cellsOwn w Ts vs fp) : vs.length = Ts.length := (cellsOwn.ok h).length
theorem cellsOk.append {w : World} : ∀ {Ts Us : List Ty} {vs us : List Value}, cellsOk w Ts vs → cellsOk w Us us → cellsOk w (Ts ++ Us) (vs ++ us)
  | [], _, [], _, _, k => k
  | T :: Ts, _, v :: vs, _, h, k => ⟨h.1, cellsOk.append h.2 k⟩
theorem cellsOwn.append {w : World} : ∀ {Ts Us : List Ty} {vs us : List Value} {f g : List Nat}, cellsOwn w Ts vs f → cellsOwn w Us us g → cellsOwn w (Ts ++ Us) (vs ++ us) (f ++ g)
  | [], _, [], _, _, _, h, k => by simp only [cellsOwn] at h; subst h; exact k
  | T :: Ts, _, v :: vs, _, f, g, h, k => by
    obtain ⟨f1, f2, rfl, h1, h2⟩ := h
    exact ⟨f1, f2 ++ g, by simp, h1, cellsOwn.append h2 k⟩
theorem cellsOk.drop {w : World} : ∀ (n : Nat) {Ts : List Ty} {vs : List Value}, cellsOk w Ts vs → cellsOk w (Ts.drop n) (vs.drop n)
  | 0, _, _, h => h
  | n + 1, [], [], _ => trivial
  | n + 1, T :: Ts, v :: vs, h => cellsOk.drop n h.2
theorem cellsOk.take {w : World} : ∀ (n : Nat) {Ts : List Ty} {vs : List Value}, cellsOk w Ts vs → cellsOk w (Ts.take n) (vs.take n)
  | 0, _, _, _ => trivial
  | n + 1, [], [], _ => trivial
  | n + 1, T :: Ts, v :: vs, h => ⟨h.1, cellsOk.take n h.2⟩
theorem cellsOk.get {w : World} : ∀ {Ts : List Ty} {vs : List Value}, cellsOk w Ts vs → ∀ {j : Nat} {T : Ty}, Ts[j]? = some T → ∃ v, vs[j]? = some v ∧ T.ok w v
  | T :: Ts, v :: vs, h, 0, T', hj => by simp at hj; subst hj; exact ⟨v, rfl, h.1⟩
  | T :: Ts, v :: vs, h, j + 1, T', hj => by simpa using cellsOk.get h.2 (by simpa using hj)
  | [], _, _, _, _, hj => by simp at hj
def Ty.agg (Ts : List Ty) : Ty :=
  ⟨fun w v => ∃ vs, v = .agg vs.toArray ∧ cellsOk w Ts vs, fun w v fp => ∃ vs, v = .agg vs.toArray ∧ cellsOwn w Ts vs fp,
   fun h x => by obtain ⟨vs, e, h⟩ := h; exact ⟨vs, e, h.mono x⟩, fun h x => by obtain ⟨vs, e, h⟩ := h; exact ⟨vs, e, h.loc x⟩, fun h => by obtain ⟨vs, e, h⟩ := h; exact ⟨vs, e, h.ok⟩⟩
def Ty.tup (Ts : List Ty) : Ty :=
  ⟨fun w v => ∃ vs, v = .tuple vs.toArray ∧ cellsOk w Ts vs, fun w v fp => ∃ vs, v = .tuple vs.toArray ∧ cellsOwn w Ts vs fp,
   fun h x => by obtain ⟨vs, e, h⟩ := h; exact ⟨vs, e, h.mono x⟩, fun h x => by obtain ⟨vs, e, h⟩ := h; exact ⟨vs, e, h.loc x⟩, fun h => by obtain ⟨vs, e, h⟩ := h; exact ⟨vs, e, h.ok⟩⟩
def RowAt (w : World) (b o : Nat) (vs : List Value) : Prop := ∀ j x, vs[j]? = some x → Cell w b (o + j) x
theorem RowAt.vis {u w : World} {b o : Nat} {vs : List Value} (h : RowAt u b o vs) (x : Vis u w) : RowAt w b o vs := fun j v hj => (h j v hj).vis x
theorem RowAt.cons {w : World} {b o : Nat} {v : Value} {vs : List Value} : RowAt w b o (v :: vs) ↔ Cell w b o v ∧ RowAt w b (o + 1) vs := by
  constructor
  · intro h
    exact ⟨h 0 v rfl, fun j x hj => by have := h (j + 1) x (by simpa using hj); rwa [show o + 1 + j = o + (j + 1) by omega]⟩
  · rintro ⟨h1, h2⟩ j x hj
    cases j with
    | zero => simp at hj; subst hj; exact h1
    | succ j => have := h2 j x (by simpa using hj); rwa [show o + (j + 1) = o + 1 + j by omega]
theorem RowAt.nil {w : World} {b o : Nat} : RowAt w b o [] := fun j x hj => by simp at hj
theorem RowAt.sub {w : World} {b o : Nat} {vs : List Value} (h : RowAt w b o vs) (i n : Nat) : RowAt w b (o + i) ((vs.drop i).take n) := fun j x hj => by
  rw [List.getElem?_take] at hj
  split at hj
  · rw [List.getElem?_drop] at hj
    have := h (i + j) x hj
    rwa [← Nat.add_assoc] at this
  · simp at hj
def Ty.ref (Ts : List Ty) : Ty :=
  ⟨fun w v => ∃ b o vs, v = .pointer (some ⟨b, o, none⟩) ∧ cellsOk w Ts vs ∧ RowAt w b o vs, fun _ _ _ => False,
   fun ⟨b, o, vs, e, h, r⟩ x => ⟨b, o, vs, e, h.mono x, r.vis x⟩, fun h _ => h, fun h => h.elim⟩
def Ty.box (T : TypeId) (Ts : List Ty) : Ty :=
  ⟨fun w v => ∃ b o vs, v = .pointer (some ⟨b, o, none⟩) ∧ cellsOk w Ts vs ∧ RowAt w b o vs,
   fun w v fp => ∃ b vs f, v = .pointer (some ⟨b, 0, none⟩) ∧ fp = b :: f ∧ w.heap[b]? = some (.cells vs.toArray T (0, 0)) ∧ cellsOwn w Ts vs f,
   fun ⟨b, o, vs, e, h, r⟩ x => ⟨b, o, vs, e, h.mono x, r.vis x⟩,
   fun ⟨b, vs, f, e, e2, hb, h⟩ x => ⟨b, vs, f, e, e2, by rw [x b (by simp [e2])]; exact hb, h.loc (fun k hk => x k (by simp [e2, hk]))⟩,
   fun ⟨b, vs, f, e, e2, hb, h⟩ => ⟨b, 0, vs, e, h.ok, fun j x hj => ⟨vs.toArray, T, (0, 0), hb, by simpa using hj⟩⟩⟩
def Ty.sl (e : TypeId) (sz n : Nat) (Ts : List Ty) : Ty :=
  ⟨fun w v => Ts.length = n * sz ∧ ∃ A cap vs, v = .slice A n cap ∧ n ≤ cap ∧ cap ≤ maxLen ∧ cellsOk w Ts vs ∧ (0 < Ts.length → ∃ b o, A = some ⟨b, o, none⟩ ∧ RowAt w b o vs),
   fun w v fp => Ts.length = n * sz ∧ ∃ vs f, w.ownsRow 0 e sz v n vs ∧ fp = v.ownBlock.toList ++ f ∧ cellsOwn w Ts vs f,
   fun ⟨hl, A, cap, vs, h1, h2, h3, h4, h5⟩ x => ⟨hl, A, cap, vs, h1, h2, h3, h4.mono x, fun hp => let ⟨b, o, ha, hr⟩ := h5 hp; ⟨b, o, ha, hr.vis x⟩⟩,
   fun ⟨hl, vs, f, h1, h2, h3⟩ x => ⟨hl, vs, f, by
      refine ⟨h1.1, ?_⟩
      rcases h1.2 with hn | ⟨g, cap, cur, rfl, hb, hg, r⟩
      · exact .inl hn
      · exact .inr ⟨g, cap, cur, rfl, hb, by rw [x g (by simp [h2, Value.ownBlock])]; exact hg, r⟩, h2, h3.loc (fun k hk => x k (by simp [h2, hk]))⟩,
   fun {w v fp} ⟨hl, vs, f, h1, h2, h3⟩ => ⟨hl, by
      rcases h1.2 with ⟨rfl, rfl⟩ | ⟨g, cap, cur, rfl, hb, hg, hn, hc, hs, ht⟩
      · exact ⟨none, 0, vs, rfl, Nat.le_refl _, by unfold maxLen; omega, h3.ok, fun hp => by simp [hl] at hp⟩
      · refine ⟨some ⟨g, 0, none⟩, cap, vs, rfl, hn, hc, h3.ok, fun _ => ⟨g, 0, rfl, fun j x hj => ⟨cur, e, (0, 0), hg, ?_⟩⟩⟩
        rw [← ht, List.getElem?_take] at hj
        split at hj
        · rw [Nat.zero_add]; simpa using hj
        · simp at hj⟩⟩
def Ty.ints (e : TypeId) (xs : List Int) : Ty := Ty.sl e 1 xs.length (xs.map Ty.int)
def RO (w : World) (T : Ty) (e : Ending) (w' : World) : Prop := ∃ v fp, e = .returned v ∧ T.own w' v fp ∧ fp.Nodup ∧ (∀ k ∈ fp, w.heap.size ≤ k ∧ k < w'.heap.size) ∧ Ext w w'
def RV (w : World) (v : Value) (e : Ending) (w' : World) : Prop := e = .returned v ∧ Ext w w'
def Ret (P : Program) (f : FuncId) (args : List Value) (w : World) (T : Ty) : Prop := Calls P f args.toArray w (RO w T)
def RetV (P : Program) (f : FuncId) (args : List Value) (w : World) (v : Value) : Prop := Calls P f args.toArray w (RV w v)
theorem St.pubRet {lo : Nat} {B : List Nat} {u w w' : World} {os : List Own} (h : St lo B u w os) (x : Ext w w') {T : Ty} {v : Value} {fp : List Nat} (ho : T.own w' v fp) (hf : ∀ k ∈ fp, w.heap.size ≤ k ∧ k < w'.heap.size) :
    ∃ u', Up lo u u' ∧ St lo B u' w' os ∧ T.ok u' v := by
  obtain ⟨h1, h2⟩ := (h.call x).pubw
  refine ⟨_, h2.up h.lo_, h1, T.ownok (T.loc ho fun k hk => ?_)⟩
  rw [offW_get, if_neg]
  intro hm
  obtain ⟨o, hom, hk'⟩ := List.mem_flatMap.1 hm
  have := (h.hid o hom k hk').1
  have := (hf k hk).1
  omega
theorem St.release {lo : Nat} {B : List Nat} {u w : World} {os : List Own} (h : St lo B u w os) {i : Nat} {o : Own} (hi : os[i]? = some o) (hB : B = []) :
    ∃ u', Up lo u u' ∧ St lo B u' w (os.eraseIdx i) ∧ u'.heap.size = w.heap.size ∧ (∀ k ∈ o.fp, u'.heap[k]? = w.heap[k]?) := by
  subst hB
  have hlt : i < os.length := (List.getElem?_eq_some_iff.1 hi).1
  have hpart : ∃ pre post, os = pre ++ o :: post ∧ os.eraseIdx i = pre ++ post := by
    refine ⟨os.take i, os.drop (i + 1), ?_, List.eraseIdx_eq_take_drop_succ ..⟩
    have := (List.getElem?_eq_some_iff.1 hi).2
    rw [← this, ← List.drop_eq_getElem_cons hlt, List.take_append_drop]
  obtain ⟨pre, post, e1, e2⟩ := hpart
  have hd := h.dis
  rw [e1] at hd
  simp only [List.flatMap_append, List.flatMap_cons] at hd
  rw [List.nodup_append] at hd
  obtain ⟨d1, d2, d3⟩ := hd
  rw [List.nodup_append] at d2
  obtain ⟨d4, d5, d6⟩ := d2
  have hs : (offW w ((pre ++ post).flatMap (·.fp))).heap.size = w.heap.size := by simp [offW]
  have hsz := h.size
  have hlo := h.lo_
  have mem : ∀ x, x ∈ pre ++ post → x ∈ os := fun x hx => by rw [e1]; simp only [List.mem_append, List.mem_cons] at hx ⊢; rcases hx with hx | hx <;> simp [hx]
  have apart : ∀ k ∈ o.fp, k ∉ (pre ++ post).flatMap (·.fp) := fun k hk hm => by
    rw [List.flatMap_append, List.mem_append] at hm
    rcases hm with hm | hm
    · exact d3 k hm k (List.mem_append_left _ hk) rfl
    · exact d6 k hk k hm rfl
  rw [e2]
  refine ⟨offW w ((pre ++ post).flatMap (·.fp)), ⟨⟨by omega, fun k c t f hk => ?_⟩, fun k hk => ?_, h.os_, h.tape, h.output⟩, ⟨rfl, rfl, rfl, by omega, by omega, fun k hk hn => ?_, fun x hx k hk => ⟨(h.hid x (mem x hx) k hk).1, (h.hid x (mem x hx) k hk).2.1, fun hlt' => ?_⟩, fun x hx => h.prs x (mem x hx), ?_, fun _ h => by simp at h⟩, hs, fun k hk => ?_⟩
  · rw [offW_get, if_neg]
    · exact h.vis.vis k c t f hk
    · intro hm
      obtain ⟨x, hx, hm⟩ := List.mem_flatMap.1 hm
      have := (h.hid x (mem x hx) k hm).2.2 (Array.getElem?_eq_some_iff.1 hk).1
      rw [this] at hk
      simp [hidO] at hk
  · have nh : ∀ x ∈ os, k ∉ x.fp := fun x hx hm => by
      have := (h.hid x hx k hm).2.1
      simp at this; omega
    rw [offW_get, if_neg fun hm => by obtain ⟨x, hx, hm⟩ := List.mem_flatMap.1 hm; exact nh x (mem x hx) hm]
    exact h.pub k (by omega) nh
  · rw [offW_get, if_neg]
    intro hm
    obtain ⟨x, hx, hm⟩ := List.mem_flatMap.1 hm
    exact hn x hx hm
  · rw [offW_get, if_pos (List.mem_flatMap.2 ⟨x, hx, hk⟩), if_pos (by have := (h.hid x (mem x hx) k hk).1; omega)]
  · rw [List.flatMap_append, List.nodup_append]
    exact ⟨d1, d5, fun a ha b hb e => d3 a ha b (List.mem_append_right _ hb) e⟩
  · rw [offW_get, if_neg (apart k hk)]
def ownO (T : Ty) (v : Value) (fp : List Nat) : Own := ⟨fp, fun w => T.own w v fp, fun h k => T.loc k h⟩
def boxO (b : Nat) (c : List Value) (T : TypeId) : Own := ⟨[b], fun w => w.heap[b]? = some (.cells c.toArray T (0, 0)), fun h k => by rw [h b (by simp)]; exact k⟩
theorem least (p : Nat → Prop) (h : ∃ m, p m) : ∃ m, p m ∧ ∀ k, p k → m ≤ k := by
  obtain ⟨m, hm⟩ := h
  induction m using Nat.strongRecOn with
  | _ m ih =>
    by_cases hx : ∃ k, k < m ∧ p k
    · obtain ⟨k, hk, hp⟩ := hx; exact ih k hk hp
    · exact ⟨m, hm, fun k hk => Nat.le_of_not_lt fun hlt => hx ⟨k, hlt, hk⟩⟩
def NQ (K : Act → World → Prop) : Exit → Act → World → Prop
  | .normal, a, w => K a w
  | _, _, _ => False
theorem NQ.imp {K : Act → World → Prop} {Q : Exit → Act → World → Prop} (h : ∀ a w, K a w → Q .normal a w) : ∀ e a w, NQ K e a w → Q e a w := fun e a w k => by
  cases e <;> first | exact h _ _ k | exact (k : False).elim
def seqs (P : Program) (Q : Exit → Act → World → Prop) : List Code → Act → World → Prop
  | [], a, w => Q .normal a w
  | c :: cs, a, w => c.wp P (Exit.then (seqs P Q cs) Q) a w
def Js (P : Program) (n lo : Nat) (B : List Nat) (Q : Exit → Act → World → Prop) (cs : List Code) (l : Fr) (os : List Own) (u : World) : Prop :=
  ∀ a w, Has n a l → St lo B u w os → seqs P Q cs a w
def JL (P : Program) (n lo : Nat) (B : List Nat) (K : Act → World → Prop) (ops : Array Oper) (rest : List Oper) (l : Fr) (os : List Own) (u : World) : Prop :=
  ∀ a w, Has n a l → St lo B u w os → wpList P ops (NQ K) rest a w
section
variable {P : Program} {n lo : Nat} {B : List Nat} {Q : Exit → Act → World → Prop} {cs : List Code} {l : Fr} {os : List Own} {u : World}
theorem Js.seq {x y : Code} (h : Js P n lo B Q (x :: y :: cs) l os u) : Js P n lo B Q (.seq x y :: cs) l os u := fun a w ha hw =>
  wp_seq (wp_mono (h a w ha hw) fun e a w k => by cases e <;> exact k)
theorem Js.skip (h : Js P n lo B Q cs l os u) : Js P n lo B Q (.skip :: cs) l os u := fun a w ha hw => wp_skip (h a w ha hw)
theorem Js.ret_ (h : ∀ a w, Has n a l → St lo B u w os → Q .ret a w) : Js P n lo B Q (.ret :: cs) l os u := fun a w ha hw => wp_ret (h a w ha hw)
theorem Js.end_ (h : ∀ a w, Has n a l → St lo B u w os → Q .normal a w) : Js P n lo B Q [] l os u := fun a w ha hw => h a w ha hw
theorem Js.exit {i : Nat} {cs' : List Code} {Q' : Exit → Act → World → Prop} (hQ : ∀ a w, Q (.exit i) a w = seqs P Q' cs' a w) (h : Js P n lo B Q' cs' l os u) : Js P n lo B Q (.exit i :: cs) l os u := fun a w ha hw =>
  wp_exit (by show Q (.exit i) a w; rw [hQ]; exact h a w ha hw)
theorem Js.conv {os' : List Own} (ho : ∀ w, St lo B u w os → St lo B u w os') (h : Js P n lo B Q cs l os' u) : Js P n lo B Q cs l os u := fun a w ha hw => h a w ha (ho w hw)
theorem Js.cond {c : Operand} {b : Bool} {x y : Code} (hc : opd l c = some (.bool b)) (ht : b = true → Js P n lo B Q (x :: cs) l os u) (hf : b = false → Js P n lo B Q (y :: cs) l os u) :
    Js P n lo B Q (.cond c x y :: cs) l os u := fun a w ha hw => by
  refine wp_cond_split (ha.eval hc) (fun e => ht e a w ha hw) (fun e => hf e a w ha hw)
theorem Js.region {id : Nat} {ops : List Oper} (h : JL P n lo B (seqs P Q cs) ops.toArray ops l os u) : Js P n lo B Q (.region id ops.toArray false :: cs) l os u := fun a w ha hw =>
  wp_mono (wp_region_lit (h a w ha hw)) (NQ.imp fun _ _ k => k)
def BQ (i : Nat) (K : Act → World → Prop) (Q : Exit → Act → World → Prop) : Exit → Act → World → Prop
  | .normal, a, w => K a w
  | .exit j, a, w => bif Nat.beq j i then K a w else Q (.exit j) a w
  | e, a, w => Q e a w
theorem Js.block {i : Nat} {c : Code} (h : Js P n lo B (BQ i (seqs P Q cs) Q) [c] l os u) : Js P n lo B Q (.block i c :: cs) l os u := fun a w ha hw => by
  refine wp_block (wp_mono (h a w ha hw) fun e a w k => ?_)
  cases e with
  | exit j =>
    simp only [Exit.then, BQ] at k
    simp only [Exit.inBlock]
    by_cases e : j = i
    · subst e; simpa [Exit.then] using k
    · have e' : Nat.beq j i = false := by cases h : Nat.beq j i <;> simp_all [Nat.beq_eq]
      rw [e'] at k
      rw [if_neg e]; exact k
  | _ => exact k
def LQ (n lo : Nat) (B : List Nat) (I : Fr → List Own → World → Nat → Prop) (m : Nat) (Q : Exit → Act → World → Prop) : Exit → Act → World → Prop
  | .normal, a, w => ∃ l os u m', m' < m ∧ I l os u m' ∧ Has n a l ∧ St lo B u w os
  | e, a, w => Q e a w
open Classical in
theorem Js.loop (I : Fr → List Own → World → Nat → Prop) {body : Code} {l₀ : Fr} {m₀ : Nat} (h0 : I l₀ os u m₀) (hl : subf l l₀)
    (round : ∀ l os u m, I l os u m → Js P n lo B (LQ n lo B I m Q) [body] l os u) : Js P n lo B Q (.loop body :: cs) l os u := fun a w ha hw => by
  have D : ∀ (a : Act) (w : World), (∃ m, ∃ l os u, I l os u m ∧ Has n a l ∧ St lo B u w os) → ∃ m, (∃ l os u, I l os u m ∧ Has n a l ∧ St lo B u w os) ∧ ∀ k, (∃ l os u, I l os u k ∧ Has n a l ∧ St lo B u w os) → m ≤ k := fun a w h =>
    least (fun m => ∃ l os u, I l os u m ∧ Has n a l ∧ St lo B u w os) h
  refine wp_loop (fun a w => ∃ m, ∃ l os u, I l os u m ∧ Has n a l ∧ St lo B u w os) (fun a w => if h : ∃ m, ∃ l os u, I l os u m ∧ Has n a l ∧ St lo B u w os then Classical.choose (D a w h) else 0) ⟨m₀, l₀, os, u, h0, ha.sub hl, hw⟩ fun a w h => ?_
  have hs := Classical.choose_spec (D a w h)
  simp only [dif_pos h]
  generalize Classical.choose (D a w h) = m at hs
  obtain ⟨⟨l, os, u, hI, hA, hW⟩, _⟩ := hs
  refine wp_mono (round l os u m hI a w hA hW) fun e a' w' k => ?_
  cases e with
  | normal =>
    obtain ⟨l', os', u', m', hm, hI', hA', hW'⟩ := k
    have h' : ∃ m, ∃ l os u, I l os u m ∧ Has n a' l ∧ St lo B u w' os := ⟨m', l', os', u', hI', hA', hW'⟩
    refine ⟨h', ?_⟩
    have hs' := Classical.choose_spec (D a' w' h')
    rw [dif_pos h']
    exact Nat.lt_of_le_of_lt (hs'.2 m' ⟨l', os', u', hI', hA', hW'⟩) hm
  | _ => exact k
theorem Js.again {I : Fr → List Own → World → Nat → Prop} {m m' : Nat} {l' : Fr} (hI : I l' os u m') (hm : m' < m) (hl : subf l l') : Js P n lo B (LQ n lo B I m Q) [] l os u := fun a w ha hw =>
  ⟨l', os, u, m', hm, hI, ha.sub hl, hw⟩
def CQ (n lo : Nat) (B : List Nat) (I : Fr → List Own → World → Prop) (Q : Exit → Act → World → Prop) : Exit → Act → World → Prop
  | .normal, a, w => ∃ l os u, I l os u ∧ Has n a l ∧ St lo B u w os
  | e, a, w => Q e a w
theorem Js.cut (I : Fr → List Own → World → Prop) {c : Code} (h1 : Js P n lo B (CQ n lo B I Q) [c] l os u) (h2 : ∀ l os u, I l os u → Js P n lo B Q cs l os u) : Js P n lo B Q (c :: cs) l os u := fun a w ha hw =>
  wp_mono (h1 a w ha hw) fun e a w k => by
    cases e with
    | normal => obtain ⟨l, os, u, hI, hA, hW⟩ := k; exact h2 l os u hI a w hA hW
    | _ => exact k
theorem Js.meet {I : Fr → List Own → World → Prop} {l' : Fr} (hI : I l' os u) (hl : subf l l') : Js P n lo B (CQ n lo B I Q) [] l os u := fun a w ha hw =>
  ⟨l', os, u, hI, ha.sub hl, hw⟩
end
def entryFr : Nat → List Value → Fr
  | _, [] => []
  | i, v :: vs => (i, v) :: entryFr (i + 1) vs
theorem entryFr_look : ∀ (vs : List Value) (i k : Nat) (v : Value), look (entryFr i vs) k = some v → i ≤ k ∧ vs[k - i]? = some v
  | [], i, k, v, h => by simp [entryFr, look] at h
  | x :: vs, i, k, v, h => by
    simp only [entryFr, look] at h
    by_cases e : i = k
    · subst e; simp at h; subst h; simp
    · have e' : Nat.beq i k = false := by cases h : Nat.beq i k <;> simp_all [Nat.beq_eq]
      rw [e'] at h
      obtain ⟨h1, h2⟩ := entryFr_look vs (i + 1) k v h
      refine ⟨by omega, ?_⟩
      rw [show k - i = (k - (i + 1)) + 1 by omega]
      simpa using h2
theorem enter {P : Program} {f : FuncId} {fn : Func} {c : Code} {n : Nat} {vs : List Value} {w : World} {R : Ending → World → Prop} (hf : P.funcs[f]? = some fn) (hn : fn.ntmps = n) (hb : fn.body = some c)
    (hs : Nat.ble vs.length n = true) (h : Js P n w.heap.size [] (bodyPost P fn R) [c] (entryFr 0 vs) [] w) : Calls P f vs.toArray w R := by
  have hs : vs.length ≤ n := by simpa [Nat.ble_eq] using hs
  refine calls_of_wp hf hb ?_
  refine wp_mono (h _ w ⟨rfl, by simp [hn]; omega, fun k v hk => ?_⟩ (St.start w)) fun e a w k => by cases e <;> exact k
  obtain ⟨_, h2⟩ := entryFr_look vs 0 k v hk
  simp only [Nat.sub_zero] at h2
  have hlt : k < vs.length := (List.getElem?_eq_some_iff.1 h2).1
  have h3 := (List.getElem?_eq_some_iff.1 h2).2
  simp [Array.getD_eq_getD_getElem?, Array.getElem?_append, hlt, h3]
def OpQ (P : Program) (n lo : Nat) (B : List Nat) (l : Fr) (os : List Own) (u : World) (o : Oper) (v : Value) : Prop :=
  ∀ a w, Has n a l → St lo B u w os → (execOp a.eval o).run P w = .ok (.value v) w
def OpE (P : Program) (n lo : Nat) (B : List Nat) (l : Fr) (os : List Own) (u : World) (o : Oper) (x : Bool) (E : Value → List Own → World → Prop) : Prop :=
  ∀ a w, Has n a l → St lo B u w os → ∀ (K : Act → World → Prop) (Q : Exit → Act → World → Prop),
    (∀ v os' u' w', E v os' u' → Up lo u u' → St lo B u' w' os' → (x = true → Ext w w') → K (a.put o.dst v) w') → o.wp P a w K Q
def Gd (ops : Array Oper) (l : Fr) (o : Oper) (c : Bool) : Prop := ∀ n a, Has n a l → Region.wanted o (yielded ops a.tmps) = c
theorem Gd.none {ops : Array Oper} {l : Fr} {o : Oper} (h : o.guard = none) : Gd ops l o true := fun n a _ => by simp [Region.wanted, h]
theorem Gd.some {ops : Array Oper} {l : Fr} {o : Oper} {j t : Nat} {want b c : Bool} (h : o.guard = some (j, want)) (hj : (ops[j]?).bind (·.dst) = some t) (hl : look l t = some (gv c (.bool b))) (c' : Bool) (hc : (c && (b == want)) = c') : Gd ops l o c' := fun n a ha => by
  have e := ha.get t _ hl
  have e2 : a.tmps[t]?.getD undef = gv c (.bool b) := by rw [← Array.getD_eq_getD_getElem?]; exact e
  subst hc
  unfold Region.wanted yielded
  rw [h]
  simp only [hj, Option.bind_some]
  cases ht : a.tmps[t]? with
  | none =>
    rw [ht] at e2
    simp at e2
    cases c with
    | false => simp
    | true => simp [gv, undef] at e2
  | some x =>
    rw [ht] at e2
    simp at e2
    subst e2
    cases c with
    | false => simp [gv, undef]
    | true => cases b <;> cases want <;> simp [gv]
theorem Gd.some' {ops : Array Oper} {l : Fr} {o : Oper} {j t : Nat} {want b : Bool} (h : o.guard = Option.some (j, want)) (hj : (ops[j]?).bind (·.dst) = Option.some t) (hl : look l t = Option.some (.bool b)) (c' : Bool) (hc : (b == want) = c') : Gd ops l o c' :=
  Gd.some (c := true) h hj hl c' (by simpa using hc)
section
variable {P : Program} {n lo : Nat} {B : List Nat} {K : Act → World → Prop} {ops : Array Oper} {rest : List Oper} {l : Fr} {os : List Own} {u : World} {o : Oper} {v : Value} {d : Nat} {c : Bool}
theorem JL.nil {Q : Exit → Act → World → Prop} {cs : List Code} (h : Js P n lo B Q cs l os u) : JL P n lo B (seqs P Q cs) ops [] l os u := fun a w ha hw => wpList_nil (h a w ha hw)
theorem JL.conv {os' : List Own} (ho : ∀ w, St lo B u w os → St lo B u w os') (h : JL P n lo B K ops rest l os' u) : JL P n lo B K ops rest l os u := fun a w ha hw => h a w ha (ho w hw)
theorem wp_of_quiet {a : Act} {w : World} {K : Act → World → Prop} {Q : Exit → Act → World → Prop} (h : (execOp a.eval o).run P w = .ok (.value v) w) (k : K (a.put o.dst v) w) : o.wp P a w K Q := by
  unfold Oper.wp; rw [h]; exact k
theorem JL.q (h : OpQ P n lo B l os u o v) (k : JL P n lo B K ops rest ((d, v) :: l) os u) (hg : o.guard = none := by rfl) (hd : o.dst = some d := by rfl) (hn : Nat.blt d n = true := by rfl) : JL P n lo B K ops (o :: rest) l os u := fun a w ha hw =>
  wpList_plain hg fun _ hK => wp_of_quiet (h a w ha hw) (hK _ _ (by rw [hd]; exact k _ w (ha.put hn v) hw))
theorem JL.g (hg : Gd ops l o c) (h : c = true → OpQ P n lo B l os u o v) (k : JL P n lo B K ops rest ((d, gv c v) :: l) os u) (hd : o.dst = some d := by rfl) (hn : Nat.blt d n = true := by rfl) : JL P n lo B K ops (o :: rest) l os u := fun a w ha hw => by
  refine wpList_step fun K' hK => ?_
  rw [hg n a ha]
  cases c with
  | true => rw [if_pos rfl]; exact wp_of_quiet (h rfl a w ha hw) (hK _ _ (by rw [hd]; exact k _ w (ha.put hn v) hw))
  | false => rw [if_neg (by simp)]; exact hK _ _ (by rw [hd]; exact k _ w (ha.put hn undef) hw)
theorem JL.e {x : Bool} {E : Value → List Own → World → Prop} (h : OpE P n lo B l os u o x E) (k : ∀ v os' u', E v os' u' → Up lo u u' → JL P n lo B K ops rest ((d, v) :: l) os' u') (hg : o.guard = none := by rfl) (hd : o.dst = some d := by rfl) (hn : Nat.blt d n = true := by rfl) : JL P n lo B K ops (o :: rest) l os u := fun a w ha hw =>
  wpList_plain hg fun _ hK => h a w ha hw _ _ fun v os' u' w' hE hx hw' _ => hK _ _ (by rw [hd]; exact k v os' u' hE hx _ w' (ha.put hn v) hw')
theorem JL.s {x : Bool} {E : Value → List Own → World → Prop} (h : OpE P n lo B l os u o x E) (k : ∀ v os' u', E v os' u' → Up lo u u' → JL P n lo B K ops rest l os' u') (hg : o.guard = none := by rfl) (hd : o.dst = none := by rfl) : JL P n lo B K ops (o :: rest) l os u := fun a w ha hw =>
  wpList_plain hg fun _ hK => h a w ha hw _ _ fun v os' u' w' hE hx hw' _ => hK _ _ (by rw [hd]; exact k v os' u' hE hx _ w' (ha.none v) hw')
theorem JL.eT {x : Bool} {E : Value → List Own → World → Prop} (hg : Gd ops l o c) (hc : c = true) (h : OpE P n lo B l os u o x E) (k : ∀ v os' u', E v os' u' → Up lo u u' → JL P n lo B K ops rest ((d, v) :: l) os' u') (hd : o.dst = some d := by rfl) (hn : Nat.blt d n = true := by rfl) : JL P n lo B K ops (o :: rest) l os u := fun a w ha hw => by
  refine wpList_step fun K' hK => ?_
  rw [hg n a ha, hc, if_pos rfl]
  exact h a w ha hw _ _ fun v os' u' w' hE hx hw' _ => hK _ _ (by rw [hd]; exact k v os' u' hE hx _ w' (ha.put hn v) hw')
theorem JL.ge (hg : Gd ops l o c) (h : c = true → OpE P n lo B l os u o true (fun v' os' u' => v' = v ∧ os' = os ∧ u = u')) (k : JL P n lo B K ops rest ((d, gv c v) :: l) os u) (hd : o.dst = some d := by rfl) (hn : Nat.blt d n = true := by rfl) : JL P n lo B K ops (o :: rest) l os u := fun a w ha hw => by
  refine wpList_step fun K' hK => ?_
  rw [hg n a ha]
  cases c with
  | true =>
    rw [if_pos rfl]
    refine h rfl a w ha hw _ _ fun v' os' u' w' hE hx hw' _ => hK _ _ ?_
    obtain ⟨rfl, rfl, rfl⟩ := hE
    rw [hd]; exact k _ w' (ha.put hn v') hw'
  | false => rw [if_neg (by simp)]; exact hK _ _ (by rw [hd]; exact k _ w (ha.put hn undef) hw)
end
section
variable {P : Program} {ops : Array Oper} {Q : Exit → Act → World → Prop} {md : Region.Mode}
def wpAnyS (P : Program) (md : Region.Mode) (ops : Array Oper) (Q : Exit → Act → World → Prop) (S : Nat → World → World → Prop) : Nat → Array Bool → Act → World → Prop
  | 0, listed, a, w => Region.ready md ops listed = [] ∧ Q .normal a w
  | fuel + 1, listed, a, w =>
    (Region.ready md ops listed = [] → Q .normal a w) ∧
    ∀ i ∈ Region.ready md ops listed, wpOp P ops Q i (fun a' w' => S i w w' ∧ wpAnyS P md ops Q S fuel (listed.setIfInBounds i true) a' w') a w
theorem wpAnyS.any {S : Nat → World → World → Prop} : ∀ (fuel : Nat) (listed : Array Bool) (a : Act) (w : World), wpAnyS P md ops Q S fuel listed a w → wpAny P md ops Q fuel listed a w
  | 0, _, _, _, h => h
  | fuel + 1, _, _, _, h => ⟨h.1, fun i hi => wpOp_mono (fun a' w' h' => wpAnyS.any fuel _ a' w' h'.2) (h.2 i hi)⟩
theorem wpAnyS.first {C : Array Bool → Prop} {S : Nat → World → World → Prop} {S0 : World → Prop} {i : Nat} {oi : Oper} {v : Value} (hi : ops[i]? = some oi) (hsel : ∀ (j : Nat) (o : Oper) cs b, ops[j]? = some o → o.op ≠ .select cs b)
    (hQ : ∀ c a w, Q (.panic c) (a.put oi.dst v) w → Q (.panic c) a w)
    (hC : ∀ j listed, C listed → j ∈ Region.ready md ops listed → C (listed.setIfInBounds j true)) (hS : ∀ j w w' listed, C listed → j ≠ i → listed.getD i false = false → j ∈ Region.ready md ops listed → S j w w' → S0 w → S0 w') (hSi : ∀ w, S i w w)
    (hfree : ∀ j oj, ops[j]? = some oj → j ≠ i → ∀ listed : Array Bool, i ∈ Region.ready md ops listed → listed.getD i false = false → j ∈ Region.ready md ops listed → oi.apart ops oj = true) :
    ∀ (fuel : Nat) (listed : Array Bool) (a : Act) (w : World), C listed → i ∈ Region.ready md ops listed → YieldsIf P ops S0 oi v a → S0 w →
      wpAnyS P md ops Q S fuel (listed.setIfInBounds i true) (a.put oi.dst v) w → wpAnyS P md ops Q S (fuel + 1) listed a w := by
  intro fuel
  have unl : ∀ {listed : Array Bool}, i ∈ Region.ready md ops listed → listed.getD i false = false := fun {listed} hr => by
    have h0 := (mem_ready.1 hr).1
    rcases Nat.lt_or_ge i listed.size with h' | h'
    · simp [h'] at h0 ⊢; exact h0
    · simp [Array.getElem?_eq_none h']
  induction fuel with
  | zero =>
    intro listed a w hcl hr hy hw H
    refine ⟨fun h => (by rw [h] at hr; cases hr), fun j hj => ?_⟩
    by_cases hji : j = i
    · subst hji; exact hy.wpOp hi hw ⟨hSi w, H⟩
    · have := ready_mono hj hji
      rw [H.1] at this
      cases this
  | succ fuel ih =>
    intro listed a w hcl hr hy hw H
    refine ⟨fun h => (by rw [h] at hr; cases hr), fun j hj => ?_⟩
    by_cases hji : j = i
    · subst hji; exact hy.wpOp hi hw ⟨hSi w, H⟩
    · have h1 := H.2 j (ready_mono hj hji)
      obtain ⟨hjun, oj, hoj, hall⟩ := mem_ready.1 hj
      have h2 := wpOp_putIf hoj (hfree j oj hoj hji listed hr (unl hr) hj) (fun cs b => hsel i oi cs b hi) (fun cs b => hsel j oj cs b hoj) hQ hy h1
      refine wpOp_mono (fun a' w' h3 => ⟨h3.2.1, ih (listed.setIfInBounds j true) a' w' (hC j listed hcl hj) (ready_mono hr (Ne.symm hji)) h3.1 (hS j w w' listed hcl hji (unl hr) hj h3.2.1 hw) ?_⟩) h2
      rw [Array.setIfInBounds_comm _ _ hji]
      exact h3.2.2
end
def freeB (ops : Array Oper) (i : Nat) : Bool :=
  match ops[i]? with
  | none => false
  | some oi => (List.range ops.size).all fun j => j == i || match ops[j]? with
      | some oj => oj.after.any (fun e => Region.binds .any e && e.on == i) || oi.after.any (fun e => Region.binds .any e && e.on == j) || oi.apart ops oj
      | none => true
def Clo (ops : Array Oper) (listed : Array Bool) : Prop := ∀ x o, ops[x]? = some o → listed.getD x false = true → ∀ e ∈ o.after, Region.binds .any e = true → listed.getD e.on false = true
def cloB (ops : Array Oper) (listed : Array Bool) : Bool := (List.range ops.size).all fun x => !listed.getD x false || match ops[x]? with
  | some o => o.after.all (fun e => !Region.binds .any e || listed.getD e.on false)
  | none => true
theorem cloB_spec {ops : Array Oper} {listed : Array Bool} (h : cloB ops listed = true) : Clo ops listed := fun x o ho hl e he hb => by
  simp only [cloB, List.all_eq_true, List.mem_range] at h
  have h1 := h x (Array.getElem?_eq_some_iff.1 ho).1
  rw [hl, ho] at h1
  simp only [Bool.not_true, Bool.false_or] at h1
  have h2 := Array.all_eq_true'.1 h1 e he
  rw [hb] at h2
  simpa using h2
theorem Clo.step {ops : Array Oper} {listed : Array Bool} {j : Nat} (h : Clo ops listed) (hj : j ∈ Region.ready .any ops listed) : Clo ops (listed.setIfInBounds j true) := fun x o ho hl e he hb => by
  have up : ∀ k, listed.getD k false = true → (listed.setIfInBounds j true).getD k false = true := fun k hk => by
    rcases Nat.lt_or_ge k listed.size with h' | h'
    · simp [h'] at hk ⊢
      rw [Array.getElem_setIfInBounds (by simpa using h')]
      split
      · rfl
      · exact hk
    · simp [Array.getElem?_eq_none h'] at hk
  by_cases hx : x = j
  · subst hx
    obtain ⟨_, o', ho', hall⟩ := mem_ready.1 hj
    rw [ho] at ho'
    injection ho' with ho'
    subst ho'
    exact up _ (hall e he hb)
  · refine up _ (h x o ho ?_ e he hb)
    rcases Nat.lt_or_ge x listed.size with h' | h'
    · simp [h'] at hl ⊢
      rw [Array.getElem_setIfInBounds (by simpa using h'), if_neg (fun e => hx e.symm)] at hl
      exact hl
    · have h2 : (listed.setIfInBounds j true)[x]? = none := Array.getElem?_eq_none (by simpa using h')
      rw [Array.getD_eq_getD_getElem?, h2] at hl
      simp at hl
def marks (i : Nat) : List Oper → Nat → List Nat → List Nat
  | [], _, s => s
  | o :: r, k, s => marks i r (k + 1) (if Nat.beq k i || o.after.any (fun e => Region.binds .any e && s.any (Nat.beq e.on)) then k :: s else s)
def MInv (ops : Array Oper) (i : Nat) (s : List Nat) : Prop := ∀ x ∈ s, x = i ∨ ∃ o, ops[x]? = some o ∧ ∃ e ∈ o.after, Region.binds .any e = true ∧ ∀ listed, Clo ops listed → listed.getD e.on false = true → listed.getD i false = true
theorem marks_inv {ops : Array Oper} {i : Nat} : ∀ (r : List Oper) (k : Nat) (s : List Nat), (∀ n o, r[n]? = some o → ops[k + n]? = some o) → MInv ops i s → MInv ops i (marks i r k s)
  | [], _, _, _, h => h
  | o :: r, k, s, hr, h => by
    refine marks_inv r (k + 1) _ (fun n o' hn => by have := hr (n + 1) o' (by simpa using hn); rwa [show k + 1 + n = k + (n + 1) by omega]) ?_
    split
    · rename_i hc
      intro x hx
      rcases List.mem_cons.1 hx with rfl | hx
      · simp only [Bool.or_eq_true, Nat.beq_eq] at hc
        rcases hc with rfl | hc
        · exact .inl rfl
        · refine .inr ⟨o, hr 0 o rfl, ?_⟩
          obtain ⟨e, he, hb⟩ := Array.any_eq_true'.1 hc
          simp only [Bool.and_eq_true] at hb
          obtain ⟨y, hy, hye⟩ := List.any_eq_true.1 hb.2
          have hye : e.on = y := by simpa [Nat.beq_eq] using hye
          refine ⟨e, he, hb.1, fun listed hcl hl => ?_⟩
          rcases h y hy with rfl | ⟨o', ho', e', he', hb', k'⟩
          · rw [← hye]; exact hl
          · exact k' listed hcl (hcl y o' ho' (hye ▸ hl) e' he' hb')
      · exact h x hx
    · exact h
def waitB (ops : Array Oper) (i : Nat) (nm : List Nat) (listed : Array Bool) : Bool := cloB ops listed && nm.all fun j => !Nat.beq j i && (marks i ops.toList 0 []).any (Nat.beq j)
theorem not_ready {ops : Array Oper} {i j : Nat} {oj : Oper} {listed : Array Bool} (hj : ops[j]? = some oj) (h : oj.after.any (fun e => Region.binds .any e && e.on == i) = true) (hl : listed.getD i false = false)
    (hr : j ∈ Region.ready .any ops listed) : False := by
  obtain ⟨_, o, ho, hall⟩ := mem_ready.1 hr
  rw [hj] at ho
  injection ho with ho
  subst ho
  obtain ⟨e, he, hb⟩ := Array.any_eq_true'.1 h
  simp only [Bool.and_eq_true, beq_iff_eq] at hb
  have := hall e he hb.1
  rw [hb.2, hl] at this
  cases this
theorem freeB_spec {ops : Array Oper} {i : Nat} {oi : Oper} (hi : ops[i]? = some oi) (h : freeB ops i = true) (j : Nat) (oj : Oper) (hj : ops[j]? = some oj) (hne : j ≠ i) (listed : Array Bool) (hir : i ∈ Region.ready .any ops listed) (hl : listed.getD i false = false)
    (hr : j ∈ Region.ready .any ops listed) : oi.apart ops oj = true := by
  simp only [freeB, hi, List.all_eq_true, List.mem_range] at h
  have h1 := h j (Array.getElem?_eq_some_iff.1 hj).1
  simp only [hj, Bool.or_eq_true, beq_iff_eq, hne, false_or] at h1
  rcases h1 with (h1 | h1) | h1
  · exact (not_ready hj h1 hl hr).elim
  · have hj0 := (mem_ready.1 hr).1
    refine (not_ready hi h1 ?_ hir).elim
    rcases Nat.lt_or_ge j listed.size with h' | h'
    · simp [h'] at hj0 ⊢; exact hj0
    · simp [Array.getElem?_eq_none h']
  · exact h1
theorem waitB_spec {ops : Array Oper} {i : Nat} {nm : List Nat} {listed₀ : Array Bool} (h : waitB ops i nm listed₀ = true) {j : Nat} (hj : nm.contains j = true) {listed : Array Bool} (hc : Clo ops listed) (hl : listed.getD i false = false) (hr : j ∈ Region.ready .any ops listed) : False := by
  simp only [waitB, Bool.and_eq_true, List.all_eq_true] at h
  have h1 := h.2 j (by simpa using hj)
  obtain ⟨y, hy, hye⟩ := List.any_eq_true.1 h1.2
  have hye : j = y := by simpa [Nat.beq_eq] using hye
  subst hye
  rcases marks_inv (ops := ops) (i := i) ops.toList 0 [] (fun n o hn => by simpa using hn) (fun x hx => by simp at hx) j hy with e | ⟨o, ho, e, he, hb, k⟩
  · subst e; have := h1.1; simp at this
  · obtain ⟨_, o', ho', hall⟩ := mem_ready.1 hr
    rw [ho] at ho'
    injection ho' with ho'
    subst ho'
    rw [k listed hc (hall e he hb)] at hl
    cases hl
def SH (lo : Nat) (B : List Nat) (u₀ : World) (os₀ : List Own) (nm : List Nat) (j : Nat) (w w' : World) : Prop := (nm.contains j = false → St lo B u₀ w os₀ → St lo B u₀ w' os₀) ∧ ((∃ os u, St lo B u w os ∧ Vis u₀ u) → ∃ os u, St lo B u w' os ∧ Vis u₀ u)
def JH (P : Program) (n lo : Nat) (B : List Nat) (K : Act → World → Prop) (ops : Array Oper) (u₀ : World) (os₀ : List Own) (nm : List Nat) (fuel : Nat) (listed : Array Bool) (z : Bool) (l : Fr) (os : List Own) (u : World) : Prop :=
  ∀ a w, Has n a l → St lo B u w os → (z = true → St lo B u₀ w os₀) → Vis u₀ u → wpAnyS P .any ops (NQ K) (SH lo B u₀ os₀ nm) fuel listed a w
def JHo (P : Program) (n lo : Nat) (B : List Nat) (K : Act → World → Prop) (ops : Array Oper) (u₀ : World) (os₀ : List Own) (nm : List Nat) (fuel : Nat) (listed : Array Bool) (z : Bool) (l : Fr) (os : List Own) (u : World) (i : Nat) : Prop :=
  ∀ a w, Has n a l → St lo B u w os → (z = true → St lo B u₀ w os₀) → Vis u₀ u → wpOp P ops (NQ K) i (fun a' w' => SH lo B u₀ os₀ nm i w w' ∧ wpAnyS P .any ops (NQ K) (SH lo B u₀ os₀ nm) fuel (listed.setIfInBounds i true) a' w') a w
def allR (p : Nat → Prop) : List Nat → Prop
  | [] => True
  | i :: r => p i ∧ allR p r
theorem allR.mem {p : Nat → Prop} : ∀ {l : List Nat}, allR p l → ∀ i ∈ l, p i
  | i :: r, h, j, hj => by
    simp only [List.mem_cons] at hj
    rcases hj with rfl | hj
    · exact h.1
    · exact allR.mem h.2 j hj
def OpP (P : Program) (n : Nat) (l : Fr) (o : Oper) (v : Value) : Prop := ∀ a w, Has n a l → (execOp a.eval o).run P w = .ok (.value v) w
theorem OpP.q {P : Program} {n lo : Nat} {B : List Nat} {l : Fr} {os : List Own} {u : World} {o : Oper} {v : Value} (h : OpP P n l o v) : OpQ P n lo B l os u o v := fun a w ha _ => h a w ha
section
variable {P : Program} {n lo : Nat} {B : List Nat} {Q : Exit → Act → World → Prop} {cs : List Code} {K : Act → World → Prop} {ops : Array Oper} {u₀ : World} {os₀ : List Own} {nm : List Nat} {fuel : Nat} {listed : Array Bool} {z : Bool} {l : Fr} {os : List Own} {u : World}
  {i d : Nat} {o : Oper} {v : Value} {c : Bool}
theorem Js.drawn {id : Nat} {ops : List Oper} (os₀ : List Own) (nm : List Nat) (hm : P.follows .mixedOrders = true) (hos : ∀ w, St lo B u w os → St lo B u w os₀)
    (h : JH P n lo B (seqs P Q cs) ops.toArray u os₀ nm ops.length (Array.replicate ops.length false) true l os u) : Js P n lo B Q (.region id ops.toArray true :: cs) l os u := fun a w ha hw => by
  refine wp_mono (wp_region_any (Q := NQ (seqs P Q cs)) hm ?_) (NQ.imp fun _ _ k => k)
  have := h a w.drew ha hw.drew (fun _ => hos _ hw.drew) (Vis.refl _)
  simpa using wpAnyS.any _ _ _ _ this
theorem JH.done (hr : Region.ready .any ops listed = []) (h : Js P n lo B Q cs l os u) : JH P n lo B (seqs P Q cs) ops u₀ os₀ nm fuel listed z l os u := fun a w ha hw _ _ => by
  cases fuel with
  | zero => exact ⟨hr, h a w ha hw⟩
  | succ f => exact ⟨fun _ => h a w ha hw, by rw [hr]; simp⟩
theorem JH.q (i : Nat) (hi : ops[i]? = some o) (h : OpQ P n lo B l os₀ u₀ o v) (k : JH P n lo B K ops u₀ os₀ nm fuel (listed.setIfInBounds i true) true ((d, v) :: l) os u) (hs : Region.noSelect ops = true := by kernel_rfl) (hf : freeB ops i = true := by kernel_rfl) (hwt : waitB ops i nm listed = true := by kernel_rfl) (hr : (Region.ready .any ops listed).contains i = true := by kernel_rfl) (hg : o.guard = none := by rfl) (hd : o.dst = some d := by rfl) (hn : Nat.blt d n = true := by rfl) : JH P n lo B K ops u₀ os₀ nm (fuel + 1) listed true l os u := fun a w ha hw hz hv => by
  refine wpAnyS.first (S0 := fun w => St lo B u₀ w os₀) hi (Region.noSelect_spec hs) (fun _ _ _ h => h) (C := Clo ops) (fun _ _ h hj => h.step hj) (fun j w' w'' listed' hcl hne hl hj hS hw' => ?_) (fun w' => ⟨fun _ h' => h', fun h' => h'⟩) (freeB_spec hi hf) fuel listed a w (cloB_spec (by simp only [waitB, Bool.and_eq_true] at hwt; exact hwt.1)) (by simpa using hr) (.inl ⟨by simp [Region.wanted, hg], fun w' hw' => h a w' ha hw'⟩) (hz rfl) ?_
  · cases hc : nm.contains j with
    | false => exact hS.1 hc hw'
    | true => exact (waitB_spec hwt hc hcl hl hj).elim
  · rw [hd]; exact k _ w (ha.put hn v) hw hz hv
theorem JH.qg (i : Nat) (hi : ops[i]? = some o) (hg : Gd ops l o c) (h : c = true → OpQ P n lo B l os₀ u₀ o v) (k : JH P n lo B K ops u₀ os₀ nm fuel (listed.setIfInBounds i true) true ((d, gv c v) :: l) os u) (hs : Region.noSelect ops = true := by kernel_rfl) (hf : freeB ops i = true := by kernel_rfl) (hwt : waitB ops i nm listed = true := by kernel_rfl) (hr : (Region.ready .any ops listed).contains i = true := by kernel_rfl) (hd : o.dst = some d := by rfl) (hn : Nat.blt d n = true := by rfl) : JH P n lo B K ops u₀ os₀ nm (fuel + 1) listed true l os u := fun a w ha hw hz hv => by
  refine wpAnyS.first (S0 := fun w => St lo B u₀ w os₀) (v := gv c v) hi (Region.noSelect_spec hs) (fun _ _ _ h => h) (C := Clo ops) (fun _ _ h hj => h.step hj) (fun j w' w'' listed' hcl hne hl hj hS hw' => ?_) (fun w' => ⟨fun _ h' => h', fun h' => h'⟩) (freeB_spec hi hf) fuel listed a w (cloB_spec (by simp only [waitB, Bool.and_eq_true] at hwt; exact hwt.1)) (by simpa using hr) ?_ (hz rfl) ?_
  · cases hc : nm.contains j with
    | false => exact hS.1 hc hw'
    | true => exact (waitB_spec hwt hc hcl hl hj).elim
  · cases c with
    | true => exact .inl ⟨hg n a ha, fun w' hw' => h rfl a w' ha hw'⟩
    | false => exact .inr ⟨hg n a ha, rfl⟩
  · rw [hd]; exact k _ w (ha.put hn _) hw hz hv
theorem JH.p (i : Nat) (hi : ops[i]? = some o) (h : OpP P n l o v) (k : JH P n lo B K ops u₀ os₀ nm fuel (listed.setIfInBounds i true) z ((d, v) :: l) os u) (hs : Region.noSelect ops = true := by kernel_rfl) (hf : freeB ops i = true := by kernel_rfl) (hr : (Region.ready .any ops listed).contains i = true := by kernel_rfl) (hg : o.guard = none := by rfl) (hd : o.dst = some d := by rfl) (hn : Nat.blt d n = true := by rfl) : JH P n lo B K ops u₀ os₀ nm (fuel + 1) listed z l os u := fun a w ha hw hz hv => by
  refine wpAnyS.first (S0 := fun _ => True) hi (Region.noSelect_spec hs) (fun _ _ _ h => h) (C := fun _ => True) (fun _ _ _ _ => trivial) (fun _ _ _ _ _ _ _ _ _ _ => trivial) (fun w' => ⟨fun _ h' => h', fun h' => h'⟩) (freeB_spec hi hf) fuel listed a w trivial (by simpa using hr) (.inl ⟨by simp [Region.wanted, hg], fun w' _ => h a w' ha⟩) trivial ?_
  rw [hd]; exact k _ w (ha.put hn v) hw hz hv
theorem JH.pg (i : Nat) (hi : ops[i]? = some o) (hg : Gd ops l o c) (h : c = true → OpP P n l o v) (k : JH P n lo B K ops u₀ os₀ nm fuel (listed.setIfInBounds i true) z ((d, gv c v) :: l) os u) (hs : Region.noSelect ops = true := by kernel_rfl) (hf : freeB ops i = true := by kernel_rfl) (hr : (Region.ready .any ops listed).contains i = true := by kernel_rfl) (hd : o.dst = some d := by rfl) (hn : Nat.blt d n = true := by rfl) : JH P n lo B K ops u₀ os₀ nm (fuel + 1) listed z l os u := fun a w ha hw hz hv => by
  refine wpAnyS.first (S0 := fun _ => True) (v := gv c v) hi (Region.noSelect_spec hs) (fun _ _ _ h => h) (C := fun _ => True) (fun _ _ _ _ => trivial) (fun _ _ _ _ _ _ _ _ _ _ => trivial) (fun w' => ⟨fun _ h' => h', fun h' => h'⟩) (freeB_spec hi hf) fuel listed a w trivial (by simpa using hr) ?_ trivial ?_
  · cases c with
    | true => exact .inl ⟨hg n a ha, fun w' _ => h rfl a w' ha⟩
    | false => exact .inr ⟨hg n a ha, rfl⟩
  · rw [hd]; exact k _ w (ha.put hn _) hw hz hv
theorem JH.w (i : Nat) (hi : ops[i]? = some o) (h : ∀ os' u', Vis u₀ u' → OpQ P n lo B l os' u' o v) (k : JH P n lo B K ops u₀ os₀ nm fuel (listed.setIfInBounds i true) z ((d, v) :: l) os u) (hs : Region.noSelect ops = true := by kernel_rfl) (hf : freeB ops i = true := by kernel_rfl) (hr : (Region.ready .any ops listed).contains i = true := by kernel_rfl) (hg : o.guard = none := by rfl) (hd : o.dst = some d := by rfl) (hn : Nat.blt d n = true := by rfl) : JH P n lo B K ops u₀ os₀ nm (fuel + 1) listed z l os u := fun a w ha hw hz hv => by
  refine wpAnyS.first (S0 := fun w => ∃ os' u', St lo B u' w os' ∧ Vis u₀ u') hi (Region.noSelect_spec hs) (fun _ _ _ h => h) (C := fun _ => True) (fun _ _ _ _ => trivial) (fun _ _ _ _ _ _ _ _ hS hw' => hS.2 hw') (fun w' => ⟨fun _ h' => h', fun h' => h'⟩) (freeB_spec hi hf) fuel listed a w trivial (by simpa using hr) (.inl ⟨by simp [Region.wanted, hg], fun w' ⟨os', u', hw', hv'⟩ => h os' u' hv' a w' ha hw'⟩) ⟨os, u, hw, hv⟩ ?_
  rw [hd]; exact k _ w (ha.put hn v) hw hz hv
theorem JH.wg (i : Nat) (hi : ops[i]? = some o) (hg : Gd ops l o c) (h : c = true → ∀ os' u', Vis u₀ u' → OpQ P n lo B l os' u' o v) (k : JH P n lo B K ops u₀ os₀ nm fuel (listed.setIfInBounds i true) z ((d, gv c v) :: l) os u) (hs : Region.noSelect ops = true := by kernel_rfl) (hf : freeB ops i = true := by kernel_rfl) (hr : (Region.ready .any ops listed).contains i = true := by kernel_rfl) (hd : o.dst = some d := by rfl) (hn : Nat.blt d n = true := by rfl) : JH P n lo B K ops u₀ os₀ nm (fuel + 1) listed z l os u := fun a w ha hw hz hv => by
  refine wpAnyS.first (S0 := fun w => ∃ os' u', St lo B u' w os' ∧ Vis u₀ u') (v := gv c v) hi (Region.noSelect_spec hs) (fun _ _ _ h => h) (C := fun _ => True) (fun _ _ _ _ => trivial) (fun _ _ _ _ _ _ _ _ hS hw' => hS.2 hw') (fun w' => ⟨fun _ h' => h', fun h' => h'⟩) (freeB_spec hi hf) fuel listed a w trivial (by simpa using hr) ?_ ⟨os, u, hw, hv⟩ ?_
  · cases c with
    | true => exact .inl ⟨hg n a ha, fun w' ⟨os', u', hw', hv'⟩ => h rfl os' u' hv' a w' ha hw'⟩
    | false => exact .inr ⟨hg n a ha, rfl⟩
  · rw [hd]; exact k _ w (ha.put hn _) hw hz hv
theorem JH.all {rs : List Nat} (hr : Region.ready .any ops listed = rs) (hne : rs.isEmpty = false) (h : allR (JHo P n lo B K ops u₀ os₀ nm fuel listed z l os u) rs) : JH P n lo B K ops u₀ os₀ nm (fuel + 1) listed z l os u := fun a w ha hw hz hv =>
  ⟨fun h0 => by rw [hr] at h0; subst h0; simp at hne, fun i hi => (allR.mem h i (hr ▸ hi)) a w ha hw hz hv⟩
theorem JH.one (hr : Region.ready .any ops listed = [i]) (h : JHo P n lo B K ops u₀ os₀ nm fuel listed z l os u i) : JH P n lo B K ops u₀ os₀ nm (fuel + 1) listed z l os u := JH.all hr rfl ⟨h, trivial⟩
theorem JHo.e {x : Bool} {E : Value → List Own → World → Prop} (hi : ops[i]? = some o) (h : OpE P n lo B l os u o x E) (hx : x = true ∨ nm.contains i = true) (k : ∀ v os' u', E v os' u' → Up lo u u' → JH P n lo B K ops u₀ os₀ nm fuel (listed.setIfInBounds i true) (z && x) ((d, v) :: l) os' u') (hg : o.guard = none := by rfl) (hd : o.dst = some d := by rfl) (hn : Nat.blt d n = true := by rfl) : JHo P n lo B K ops u₀ os₀ nm fuel listed z l os u i := fun a w ha hw hz hv => by
  unfold wpOp
  simp only [hi]
  rw [if_pos (by simp [Region.wanted, hg])]
  refine .inl (h a w ha hw _ _ fun v os' u' w' hE hxu hw' hxt => ⟨⟨fun hc hw0 => ?_, fun _ => ⟨os', u', hw', hv.trans hxu.vis⟩⟩, ?_⟩)
  · rcases hx with hx | hx
    · exact hw0.call (hxt hx)
    · rw [hx] at hc; cases hc
  · rw [hd]
    refine k v os' u' hE hxu _ w' (ha.put hn v) hw' (fun hzx => ?_) (hv.trans hxu.vis)
    simp only [Bool.and_eq_true] at hzx
    exact (hz hzx.1).call (hxt hzx.2)
theorem JHo.s {x : Bool} {E : Value → List Own → World → Prop} (hi : ops[i]? = some o) (h : OpE P n lo B l os u o x E) (hx : x = true ∨ nm.contains i = true) (k : ∀ v os' u', E v os' u' → Up lo u u' → JH P n lo B K ops u₀ os₀ nm fuel (listed.setIfInBounds i true) (z && x) l os' u') (hg : o.guard = none := by rfl) (hd : o.dst = none := by rfl) : JHo P n lo B K ops u₀ os₀ nm fuel listed z l os u i := fun a w ha hw hz hv => by
  unfold wpOp
  simp only [hi]
  rw [if_pos (by simp [Region.wanted, hg])]
  refine .inl (h a w ha hw _ _ fun v os' u' w' hE hxu hw' hxt => ⟨⟨fun hc hw0 => ?_, fun _ => ⟨os', u', hw', hv.trans hxu.vis⟩⟩, ?_⟩)
  · rcases hx with hx | hx
    · exact hw0.call (hxt hx)
    · rw [hx] at hc; cases hc
  · rw [hd]
    refine k v os' u' hE hxu _ w' (ha.none v) hw' (fun hzx => ?_) (hv.trans hxu.vis)
    simp only [Bool.and_eq_true] at hzx
    exact (hz hzx.1).call (hxt hzx.2)
theorem JHo.ge (hi : ops[i]? = some o) (hg : Gd ops l o c) (h : c = true → OpE P n lo B l os u o true (fun v' os' u' => v' = v ∧ os' = os ∧ u = u')) (k : JH P n lo B K ops u₀ os₀ nm fuel (listed.setIfInBounds i true) z ((d, gv c v) :: l) os u) (hd : o.dst = some d := by rfl) (hn : Nat.blt d n = true := by rfl) : JHo P n lo B K ops u₀ os₀ nm fuel listed z l os u i := fun a w ha hw hz hv => by
  unfold wpOp
  simp only [hi]
  rw [hg n a ha]
  cases c with
  | true =>
    rw [if_pos rfl]
    refine .inl (h rfl a w ha hw _ _ fun v' os' u' w' hE hxu hw' hxt => ⟨⟨fun _ hw0 => hw0.call (hxt rfl), fun _ => ⟨os', u', hw', hv.trans hxu.vis⟩⟩, ?_⟩)
    obtain ⟨rfl, rfl, rfl⟩ := hE
    rw [hd]
    exact k _ w' (ha.put hn v') hw' (fun hzx => (hz hzx).call (hxt rfl)) hv
  | false =>
    rw [if_neg (by simp)]
    exact ⟨⟨fun _ h => h, fun h => h⟩, by rw [hd]; exact k _ w (ha.put hn undef) hw hz hv⟩
theorem JHo.eT {x : Bool} {E : Value → List Own → World → Prop} (hi : ops[i]? = some o) (hg : Gd ops l o c) (hc : c = true) (h : OpE P n lo B l os u o x E) (hx : x = true ∨ nm.contains i = true) (k : ∀ v os' u', E v os' u' → Up lo u u' → JH P n lo B K ops u₀ os₀ nm fuel (listed.setIfInBounds i true) (z && x) ((d, v) :: l) os' u') (hd : o.dst = some d := by rfl) (hn : Nat.blt d n = true := by rfl) : JHo P n lo B K ops u₀ os₀ nm fuel listed z l os u i := fun a w ha hw hz hv => by
  unfold wpOp
  simp only [hi]
  rw [hg n a ha, hc, if_pos rfl]
  refine .inl (h a w ha hw _ _ fun v os' u' w' hE hxu hw' hxt => ⟨⟨fun hc hw0 => ?_, fun _ => ⟨os', u', hw', hv.trans hxu.vis⟩⟩, ?_⟩)
  · rcases hx with hx | hx
    · exact hw0.call (hxt hx)
    · rw [hx] at hc; cases hc
  · rw [hd]
    refine k v os' u' hE hxu _ w' (ha.put hn v) hw' (fun hzx => ?_) (hv.trans hxu.vis)
    simp only [Bool.and_eq_true] at hzx
    exact (hz hzx.1).call (hxt hzx.2)
theorem JHo.q (hi : ops[i]? = some o) (h : OpQ P n lo B l os u o v) (k : JH P n lo B K ops u₀ os₀ nm fuel (listed.setIfInBounds i true) z ((d, v) :: l) os u) (hg : o.guard = none := by rfl) (hd : o.dst = some d := by rfl) (hn : Nat.blt d n = true := by rfl) : JHo P n lo B K ops u₀ os₀ nm fuel listed z l os u i := fun a w ha hw hz hv => by
  unfold wpOp
  simp only [hi]
  rw [if_pos (by simp [Region.wanted, hg])]
  exact .inl (wp_of_quiet (h a w ha hw) ⟨⟨fun _ h => h, fun h => h⟩, by rw [hd]; exact k _ w (ha.put hn v) hw hz hv⟩)
theorem JHo.qg (hi : ops[i]? = some o) (hg : Gd ops l o c) (h : c = true → OpQ P n lo B l os u o v) (k : JH P n lo B K ops u₀ os₀ nm fuel (listed.setIfInBounds i true) z ((d, gv c v) :: l) os u) (hd : o.dst = some d := by rfl) (hn : Nat.blt d n = true := by rfl) : JHo P n lo B K ops u₀ os₀ nm fuel listed z l os u i := fun a w ha hw hz hv => by
  unfold wpOp
  simp only [hi]
  rw [hg n a ha]
  cases c with
  | true =>
    rw [if_pos rfl]
    exact .inl (wp_of_quiet (h rfl a w ha hw) ⟨⟨fun _ h => h, fun h => h⟩, by rw [hd]; exact k _ w (ha.put hn v) hw hz hv⟩)
  | false =>
    rw [if_neg (by simp)]
    exact ⟨⟨fun _ h => h, fun h => h⟩, by rw [hd]; exact k _ w (ha.put hn undef) hw hz hv⟩
end
def aggD : TypeDesc → Bool
  | .struct _ | .array _ _ => true
  | _ => false
def tyOf (P : Program) (t : TypeId) : Option (Bool × Nat) := match P.underlying t, P.info? t with
  | some d, some i => some (aggD d, i.size)
  | _, _ => none
def fldOf (P : Program) (t : TypeId) (k : Nat) : Option (Nat × TypeId × Bool × Nat) := match P.underlying t with
  | some (.struct fs) => match fs[k]? with
    | some f => match tyOf P f.type with
      | some (b, s) => some (f.offset, f.type, b, s)
      | none => none
    | none => none
  | _ => none
def elOf (P : Program) (t : TypeId) : Option (TypeId × Nat × Nat × List Value) := match P.underlying t with
  | some (.slice e) => match P.info? e with
    | some i => match i.zero with
      | some z => some (e, i.size, i.bytes, z.cells.toList)
      | none => none
    | none => none
  | _ => none
def zeroOf (P : Program) (t : TypeId) : Option (List Value) := match P.info? t with
  | some i => match i.zero with
    | some z => some z.cells.toList
    | none => none
  | none => none
section
variable {P : Program} (w : World)
theorem run_isAgg {t : TypeId} {b : Bool} {s : Nat} (h : tyOf P t = some (b, s)) : (isAgg t).run P w = .ok b w ∧ (sizeOf t).run P w = .ok s w := by
  unfold tyOf at h
  cases hu : P.underlying t with
  | none => simp [hu] at h
  | some d =>
    cases hi : P.info? t with
    | none => simp [hu, hi] at h
    | some i =>
      simp [hu, hi] at h
      obtain ⟨rfl, rfl⟩ := h
      constructor
      · cases d <;> simp [isAgg, run_underlying hu, aggD]
      · simp [sizeOf, typeInfo, hi]
theorem addr_add (b o k : Nat) : (⟨b, o, none⟩ : Addr).add k = ⟨b, o + k, none⟩ := by unfold Addr.add; split <;> simp_all
theorem run_loadVar_agg {t : TypeId} {vs : List Value} (ht : tyOf P t = some (true, vs.length)) {b o : Nat} (h : RowAt w b o vs) : (loadVar t ⟨b, o, none⟩).run P w = .ok (.agg vs.toArray) w := by
  obtain ⟨h1, h2⟩ := run_isAgg w ht
  have h3 := run_loadCells_list (P := P) w ⟨b, o, none⟩ vs (fun j v hj => by rw [addr_add]; exact (h j v hj).get)
  simp [loadVar, h1, h2, h3]
theorem run_loadVar_one {t : TypeId} {s : Nat} {v : Value} (ht : tyOf P t = some (false, s)) {b o : Nat} (h : Cell w b o v) : (loadVar t ⟨b, o, none⟩).run P w = .ok v w := by
  obtain ⟨h1, _⟩ := run_isAgg w ht
  simp [loadVar, h1, h.get]
end
section
variable {P : Program} {n lo : Nat} {B : List Nat} {l : Fr} {os : List Own} {u : World} {dst : Option Tmp} {ty : TypeId} {pos : String} {af : Array Edge} {gd : Option (Nat × Bool)}
theorem p_move {x : Operand} {v : Value} (h : opd l x = some v) : OpP P n l ⟨dst, .move x, ty, pos, af, gd⟩ v := fun a w ha => by simp [execOp, ha.eval h]
theorem p_assign {x : Operand} {v : Value} (h : opd l x = some v) : OpP P n l ⟨dst, .assign x, ty, pos, af, gd⟩ v := fun a w ha => by simp [execOp, ha.eval h]
theorem p_nilCheck {x : Operand} {p : Addr} (h : opd l x = some (.pointer (some p))) : OpP P n l ⟨dst, .nilCheck x, ty, pos, af, gd⟩ (.pointer (some p)) := fun a w ha => by simp [execOp, ha.eval h]
theorem p_pick {c x y : Operand} {b : Bool} {v v1 v2 : Value} (hc : opd l c = some (.bool b)) (h1 : opd l x = some v1) (h2 : opd l y = some v2) (hv : (bif b then v1 else v2) = v) : OpP P n l ⟨dst, .pick c x y, ty, pos, af, gd⟩ v := fun a w ha => by
  subst hv
  cases b <;> simp [execOp, ha.eval hc, ha.eval h1, ha.eval h2, asBool]
theorem p_extract {x : Operand} {vs : List Value} {i : Nat} {v : Value} (h : opd l x = some (.tuple vs.toArray)) (hv : vs[i]? = some v) : OpP P n l ⟨dst, .extract x i, ty, pos, af, gd⟩ v := fun a w ha => by
  simp [execOp, ha.eval h, Instr.extract, hv]
theorem p_not {x : Operand} {b : Bool} {t : TypeId} (h : opd l x = some (.bool b)) : OpP P n l ⟨dst, .unOp .not t x, ty, pos, af, gd⟩ (.bool (!b)) := fun a w ha => by simp [execOp, ha.eval h, Op.unary]
theorem p_neg {x : Operand} {k : IntKind} {i r : Int} {t : TypeId} (h : opd l x = some (.int k i)) (hr : k.wrap (0 - i) = r) : OpP P n l ⟨dst, .unOp .neg t x, ty, pos, af, gd⟩ (.int k r) := fun a w ha => by
  subst hr; simp [execOp, ha.eval h, Op.unary, Op.intArith]
theorem p_add {x y : Operand} {k : IntKind} {i j r : Int} {t t' : TypeId} (h1 : opd l x = some (.int k i)) (h2 : opd l y = some (.int k j)) (hr : k.wrap (i + j) = r) : OpP P n l ⟨dst, .binOp .add t x y t', ty, pos, af, gd⟩ (.int k r) := fun a w ha => by
  subst hr; simp [execOp, eqGuard, binOp, ha.eval h1, ha.eval h2, Op.intArith]
theorem p_sub {x y : Operand} {k : IntKind} {i j r : Int} {t t' : TypeId} (h1 : opd l x = some (.int k i)) (h2 : opd l y = some (.int k j)) (hr : k.wrap (i - j) = r) : OpP P n l ⟨dst, .binOp .sub t x y t', ty, pos, af, gd⟩ (.int k r) := fun a w ha => by
  subst hr; simp [execOp, eqGuard, binOp, ha.eval h1, ha.eval h2, Op.intArith]
theorem p_mul {x y : Operand} {k : IntKind} {i j r : Int} {t t' : TypeId} (h1 : opd l x = some (.int k i)) (h2 : opd l y = some (.int k j)) (hr : k.wrap (i * j) = r) : OpP P n l ⟨dst, .binOp .mul t x y t', ty, pos, af, gd⟩ (.int k r) := fun a w ha => by
  subst hr; simp [execOp, eqGuard, binOp, ha.eval h1, ha.eval h2, Op.intArith]
theorem p_quo {x y : Operand} {k : IntKind} {i j r : Int} {t t' : TypeId} (h1 : opd l x = some (.int k i)) (h2 : opd l y = some (.int k j)) (h0 : j ≠ 0) (hr : k.wrap (i.tdiv j) = r) : OpP P n l ⟨dst, .binOp .quo t x y t', ty, pos, af, gd⟩ (.int k r) := fun a w ha => by
  subst hr; simp [execOp, eqGuard, binOp, ha.eval h1, ha.eval h2, Op.intDiv, h0]
theorem p_rem {x y : Operand} {k : IntKind} {i j r : Int} {t t' : TypeId} (h1 : opd l x = some (.int k i)) (h2 : opd l y = some (.int k j)) (h0 : j ≠ 0) (hr : i.tmod j = r) : OpP P n l ⟨dst, .binOp .rem t x y t', ty, pos, af, gd⟩ (.int k r) := fun a w ha => by
  subst hr; simp [execOp, eqGuard, binOp, ha.eval h1, ha.eval h2, Op.intDiv, h0]
theorem p_lss {x y : Operand} {k : IntKind} {i j : Int} {t t' : TypeId} (h1 : opd l x = some (.int k i)) (h2 : opd l y = some (.int k j)) : OpP P n l ⟨dst, .binOp .lss t x y t', ty, pos, af, gd⟩ (.bool (decide (i < j))) := fun a w ha => by
  simp [execOp, eqGuard, binOp, ha.eval h1, ha.eval h2, Op.intCmp]
theorem p_leq {x y : Operand} {k : IntKind} {i j : Int} {t t' : TypeId} (h1 : opd l x = some (.int k i)) (h2 : opd l y = some (.int k j)) : OpP P n l ⟨dst, .binOp .leq t x y t', ty, pos, af, gd⟩ (.bool (decide (i ≤ j))) := fun a w ha => by
  simp [execOp, eqGuard, binOp, ha.eval h1, ha.eval h2, Op.intCmp]
theorem p_gtr {x y : Operand} {k : IntKind} {i j : Int} {t t' : TypeId} (h1 : opd l x = some (.int k i)) (h2 : opd l y = some (.int k j)) : OpP P n l ⟨dst, .binOp .gtr t x y t', ty, pos, af, gd⟩ (.bool (decide (j < i))) := fun a w ha => by
  simp [execOp, eqGuard, binOp, ha.eval h1, ha.eval h2, Op.intCmp]
theorem p_geq {x y : Operand} {k : IntKind} {i j : Int} {t t' : TypeId} (h1 : opd l x = some (.int k i)) (h2 : opd l y = some (.int k j)) : OpP P n l ⟨dst, .binOp .geq t x y t', ty, pos, af, gd⟩ (.bool (decide (j ≤ i))) := fun a w ha => by
  simp [execOp, eqGuard, binOp, ha.eval h1, ha.eval h2, Op.intCmp]
theorem p_eql {x y : Operand} {k : IntKind} {i j : Int} {t t' : TypeId} (h1 : opd l x = some (.int k i)) (h2 : opd l y = some (.int k j)) : OpP P n l ⟨dst, .binOp .eql t x y t', ty, pos, af, gd⟩ (.bool (decide (i = j))) := fun a w ha => by
  simp [execOp, eqGuard, binOp, ha.eval h1, ha.eval h2, Op.intCmp]; rw [Bool.eq_iff_iff]; simp
theorem p_neq {x y : Operand} {k : IntKind} {i j : Int} {t t' : TypeId} (h1 : opd l x = some (.int k i)) (h2 : opd l y = some (.int k j)) : OpP P n l ⟨dst, .binOp .neq t x y t', ty, pos, af, gd⟩ (.bool (!decide (i = j))) := fun a w ha => by
  simp [execOp, eqGuard, binOp, ha.eval h1, ha.eval h2, Op.intCmp]; rw [Bool.eq_iff_iff]; simp
theorem run_equalIn_bool (d : Nat) {t : TypeId} (hu : P.underlying t = some .bool) (a b : Bool) (w : World) : (Op.equalIn (d + 1) t (.bool a) (.bool b)).run P w = .ok (a == b) w := by
  simp [Op.equalIn, run_underlying hu]
theorem p_eqlB {x y : Operand} {i j : Bool} {t t' : TypeId} (hu : P.underlying t = some .bool) (h1 : opd l x = some (.bool i)) (h2 : opd l y = some (.bool j)) : OpP P n l ⟨dst, .binOp .eql t x y t', ty, pos, af, gd⟩ (.bool (i == j)) := fun a w ha => by
  simp [execOp, eqGuard, binOp, ha.eval h1, ha.eval h2, Op.equal, Op.maxDepth, run_equalIn_bool 9999 hu]
theorem p_neqB {x y : Operand} {i j : Bool} {t t' : TypeId} (hu : P.underlying t = some .bool) (h1 : opd l x = some (.bool i)) (h2 : opd l y = some (.bool j)) : OpP P n l ⟨dst, .binOp .neq t x y t', ty, pos, af, gd⟩ (.bool (!(i == j))) := fun a w ha => by
  simp [execOp, eqGuard, binOp, ha.eval h1, ha.eval h2, Op.equal, Op.maxDepth, run_equalIn_bool 9999 hu]
theorem p_fieldAddr {x : Operand} {b o k off : Nat} {t ft : TypeId} {g : Bool} {s : Nat} (hf : fldOf P t k = some (off, ft, g, s + 1)) (h : opd l x = some (.pointer (some ⟨b, o, none⟩))) : OpP P n l ⟨dst, .fieldAddr t x k, ty, pos, af, gd⟩ (.pointer (some ⟨b, o + off, none⟩)) := fun a w ha => by
  unfold fldOf at hf
  split at hf
  · rename_i fs hu
    split at hf
    · rename_i f hk
      split at hf
      · rename_i b' s' ht
        simp at hf
        obtain ⟨rfl, rfl, rfl, rfl⟩ := hf
        have h2 := (run_isAgg (P := P) w ht).2
        simp [execOp, ha.eval h, Instr.fieldAt, run_underlying hu, hk, Instr.sureAddr, fieldPlace, h2, addr_add]
      · simp at hf
    · simp at hf
  · simp at hf
def elemA (sz : Nat) (v : Value) (i : Nat) : Option Addr := match v with
  | .slice (some ⟨b, o, none⟩) _ _ => some ⟨b, o + i * sz, none⟩
  | _ => none
theorem p_indexAddr {x y : Operand} {t e : TypeId} {sz by' : Nat} {z : List Value} {A : Option Addr} {m c b o : Nat} {k : IntKind} {i : Int} (ht : elOf P t = some (e, sz, by', z)) (h1 : opd l x = some (.slice A m c)) (h2 : opd l y = some (.int k i))
    (h0 : 0 ≤ i) (hm : i < m) (he : elemA sz (.slice A m c) i.toNat = some ⟨b, o, none⟩) : OpP P n l ⟨dst, .indexAddr t x y, ty, pos, af, gd⟩ (.pointer (some ⟨b, o, none⟩)) := fun a w ha => by
  unfold elOf at ht
  split at ht
  · rename_i e' hu
    split at ht
    · rename_i i' hi
      split at ht
      · simp at ht
        obtain ⟨rfl, rfl, rfl, rfl⟩ := ht
        unfold elemA at he
        split at he
        · rename_i b' o' _ _ hv
          injection hv with hv1 hv2 hv3
          subst hv1
          simp only [Option.some.injEq, Addr.mk.injEq, and_true] at he
          obtain ⟨rfl, rfl⟩ := he
          simp [execOp, ha.eval h1, ha.eval h2, Instr.indexAt, asIntOf, run_underlying hu, h0, hm, sizeOf, typeInfo, hi, addr_add]
        · simp at he
      · simp at ht
    · simp at ht
  · simp at ht
theorem run_builtin_len {t : TypeId} {e : TypeId} {sz by' : Nat} {z : List Value} (ht : elOf P t = some (e, sz, by', z)) (A : Option Addr) (m c : Nat) (ts : TypeId) (cs : Array Bool) (w : World) :
    (builtin .len #[t] ts cs #[.slice A m c]).run P w = .ok (.value (.int .i64 m)) w := by
  unfold elOf at ht
  split at ht
  · rename_i e' hu
    simp [builtin, Builtin.len_, run_underlying hu, goInt]
  · simp at ht
end
section
variable {P : Program} (w : World)
theorem run_append_room_own_src (t tx ty e : TypeId) (i : TypeInfo) (ht : P.underlying t = some (.slice e)) (hi : P.info? e = some i)
    (g sLen sCap : Nat) (cur : Array Value) (hg : w.heap[g]? = some (.cells cur e (0, 0)))
    (x : Value) (m : Nat) (news : List Value) (hs : Src P i.size tx x m news w)
    (hroom : sLen + m ≤ sCap) (hfit : sLen * i.size + news.length ≤ cur.size) :
    (Builtin.append_ #[t, tx] ty #[.slice (some ⟨g, 0, none⟩) sLen sCap, x]).run P w =
      .ok (.slice (some ⟨g, 0, none⟩) (sLen + m) sCap) (w.setRow g (cur.toList.take (sLen * i.size) ++ news ++ cur.toList.drop (sLen * i.size + news.length)).toArray) := by
  have hst := run_storeCells_at P g (sLen * i.size) e news 0 cur w hg (by simpa using hfit) hs.one
  simp only [Nat.add_zero] at hst
  rcases hs.kind with ⟨e', hk⟩ | hk <;> simp [Builtin.append_, run_underlying ht, run_underlying hk, sizeOf, typeInfo, hi, hs.len, hroom, hs.cells, Addr.add_lit, hst]
theorem run_append_own_src (base : Nat) (t tx ty e : TypeId) (i : TypeInfo) (z : Value) (size bytes : Nat) (ht : P.underlying t = some (.slice e)) (hi : P.info? e = some i) (hz : i.zero = some z)
    (hsize : i.size = size) (hby : i.bytes = bytes) (hzs : z.cells.size = size)
    (v : Value) (n : Nat) (xs : List Value) (hown : w.ownsRow base e size v n xs)
    (x : Value) (m : Nat) (news : List Value) (hs : Src P size tx x m news w)
    (h63 : n + m ≤ maxLen) (hbytes : (n + m) * bytes ≤ 140737488355328) (hbase : base ≤ w.heap.size) :
    ∃ v' w', (Builtin.append_ #[t, tx] ty #[v, x]).run P w = .ok v' w' ∧ w'.ownsRow base e size v' (n + m) (xs ++ news) ∧ w.grownBy w' v.ownBlock ∧
      (v'.ownBlock = v.ownBlock ∨ v'.ownBlock = some w.heap.size) := by
  subst hsize
  subst hby
  have hsmall : n + m ≤ 9223372036854775807 := by simp only [maxLen] at h63; omega
  have hlen : (xs ++ news).length = (n + m) * i.size := by rw [List.length_append, hown.1, hs.newsLen, Nat.add_mul]
  have grown : ∀ (old : Nat), old < n + m → ∀ (row : Option Nat),
      (w.drew.alloc (.cells ((xs ++ news).toArray ++ Builtin.zeroCells z.cells (grownCap w (n + m) old e - (n + m))) e)).ownsRow base e i.size
        (.slice (some ⟨w.heap.size, 0, none⟩) (n + m) (grownCap w (n + m) old e)) (n + m) (xs ++ news) ∧
      w.grownBy (w.drew.alloc (.cells ((xs ++ news).toArray ++ Builtin.zeroCells z.cells (grownCap w (n + m) old e - (n + m))) e)) row := by
    intro old ho row
    have hge := grownCap_ge w (n + m) old e
    have hcm : grownCap w (n + m) old e ≤ maxLen := grownCap_le_maxLen w (n + m) old e h63
    refine ⟨⟨hlen, .inr ⟨w.heap.size, _, _, rfl, hbase, heap_alloc_new w.drew _, hge, hcm, ?_, ?_⟩⟩, ⟨rfl, rfl, rfl, by simp, fun k hk _ => Below.heap_alloc w.drew _ k hk⟩⟩
    · simp only [Array.size_append, List.size_toArray, size_zeroCells, hzs, hlen, ← Nat.add_mul]
      congr 1
      omega
    · simp only [Array.toList_append]
      rw [← hlen]
      exact List.take_left
  rcases hown.2 with ⟨rfl, rfl⟩ | ⟨g, cap, cur, rfl, hbg, hg, hnc, hcm, hcs, htake⟩
  · have hx : xs = [] := List.eq_nil_of_length_eq_zero (by simpa using hown.1)
    subst hx
    by_cases hm : m = 0
    · subst hm
      have hn : news = [] := List.eq_nil_of_length_eq_zero (by simpa using hs.newsLen)
      subst hn
      refine ⟨.slice none 0 0, w, ?_, World.ownsRow_nil w base e i.size, ⟨rfl, rfl, rfl, Nat.le_refl _, fun _ _ _ => rfl⟩, .inl rfl⟩
      rcases hs.kind with ⟨e', hk⟩ | hk <;> simp [Builtin.append_, run_underlying ht, run_underlying hk, sizeOf, typeInfo, hi, hs.len, hs.cells]
    · have hr := run_append_grow_src (P := P) w t tx ty e i z ht hi hz none 0 0 [] (run_firstCells_none w.drew i.size 0 0 0) x m news hs (by omega) (by omega) (growslice_fits (by omega) (by simpa using hbytes))
      have hgr := grown 0 (by omega) (Value.ownBlock (.slice none 0 0))
      simp only [Nat.zero_add, List.nil_append] at hgr hr ⊢
      exact ⟨_, _, hr, hgr.1, hgr.2, .inr rfl⟩
  · by_cases hroom : n + m ≤ cap
    · have hfit : n * i.size + news.length ≤ cur.size := by rw [hs.newsLen, hcs, ← Nat.add_mul]; exact Nat.mul_le_mul_right _ hroom
      have hr := run_append_room_own_src (P := P) w t tx ty e i ht hi g n cap cur hg x m news hs hroom hfit
      refine ⟨_, _, hr, ⟨hlen, .inr ⟨g, cap, _, rfl, hbg, setRow_heap w g cur _ e _ hg, hroom, hcm, ?_, ?_⟩⟩, ⟨rfl, rfl, rfl, by simp, fun k _ hk => setRow_other w g k _ (fun e => hk (by simp [Value.ownBlock, e]))⟩, .inl rfl⟩
      · simp only [List.size_toArray, List.length_append, List.length_take, List.length_drop, Array.length_toList]
        omega
      · rw [htake, ← hlen]
        exact List.take_left
    · have holds : ∀ j u, xs[j]? = some u → w.drew.cell? ((⟨g, 0, none⟩ : Addr).add j) = some u := hown.cells (g := g) rfl
      have hr := run_append_grow_src (P := P) w t tx ty e i z ht hi hz (some ⟨g, 0, none⟩) n cap xs (run_firstCells_some w.drew i.size n _ n cap xs hown.1 holds) x m news hs (by omega) (by omega) (growslice_fits (by omega) hbytes)
      have hgr := grown cap (by omega) (Value.ownBlock (.slice (some ⟨g, 0, none⟩) n cap))
      exact ⟨_, _, hr, hgr.1, hgr.2, .inr rfl⟩
end
section
variable {P : Program} {w : World}
theorem wp_append_own_src {o : Oper} {a : Act} {K : Act → World → Prop} {Q : Exit → Act → World → Prop} (s x : Operand) (t tx : TypeId)
    (ho : o.op = .call { callee := .builtin .append, args := #[s, x], argTypes := #[t, tx] })
    (base : Nat) (e : TypeId) (i : TypeInfo) (z : Value) (size bytes : Nat) (ht : P.underlying t = some (.slice e)) (hi : P.info? e = some i) (hz : i.zero = some z)
    (hsize : i.size = size) (hby : i.bytes = bytes) (hzs : z.cells.size = size)
    (v : Value) (n : Nat) (xs : List Value) (hv : a.eval s = v) (hown : w.ownsRow base e size v n xs)
    (xv : Value) (m : Nat) (news : List Value) (hx : a.eval x = xv) (hs : Src P size tx xv m news w)
    (h63 : n + m ≤ maxLen) (hbytes : (n + m) * bytes ≤ 140737488355328) (hbase : base ≤ w.heap.size) (H : Nat) (hH : w.heap.size = H)
    (h : ∀ v' w', w'.ownsRow base e size v' (n + m) (xs ++ news) → w.grownBy w' v.ownBlock → (v'.ownBlock = v.ownBlock ∨ v'.ownBlock = some H) → K (a.put o.dst v') w') : o.wp P a w K Q := by
  obtain ⟨v', w', hr, h2, h3, h4⟩ := run_append_own_src (P := P) w base t tx o.type e i z size bytes ht hi hz hsize hby hzs v n xs hown xv m news hs h63 hbytes hbase
  unfold Oper.wp execOp
  simp only [ho, resolve, invoke, builtin, Sem.run_bind, Sem.run_pure, Result.andThen_ok, List.map_toArray, List.map_cons, List.map_nil, hv, hx, hr]
  exact h v' w' h2 h3 (by rw [← hH]; exact h4)
end
section
variable {P : Program} {n lo : Nat} {B : List Nat} {l : Fr} {os : List Own} {u : World} {dst : Option Tmp} {ty : TypeId} {pos : String} {af : Array Edge} {gd : Option (Nat × Bool)}
def Mem (lo : Nat) (B : List Nat) (u : World) (os : List Own) (p : World → Prop) : Prop := ∀ w, St lo B u w os → p w
theorem Mem.pub {b o : Nat} {x : Value} (h : Cell u b o x) : Mem lo B u os fun w => Cell w b o x := fun _ hw => h.vis hw.vis
theorem Mem.pubR {b o : Nat} {vs : List Value} (h : RowAt u b o vs) : Mem lo B u os fun w => RowAt w b o vs := fun _ hw => h.vis hw.vis
theorem Mem.box {i b o : Nat} {c : List Value} {T : TypeId} {x : Value} (hi : os[i]? = some (boxO b c T)) (hx : c[o]? = some x) : Mem lo B u os fun w => Cell w b o x := fun w hw =>
  ⟨c.toArray, T, (0, 0), hw.prs _ (List.mem_of_getElem? hi), by simpa using hx⟩
theorem Mem.boxR {i b : Nat} {c : List Value} {T : TypeId} (hi : os[i]? = some (boxO b c T)) (o s : Nat) : Mem lo B u os fun w => RowAt w b o ((c.drop o).take s) := fun w hw j x hj => by
  rw [List.getElem?_take] at hj
  split at hj
  · rw [List.getElem?_drop] at hj
    exact Mem.box hi hj w hw
  · simp at hj
theorem Mem.ok {T : Ty} {v : Value} (h : T.ok u v) : Mem lo B u os fun w => T.ok w v := fun _ hw => T.mono h hw.vis
theorem Mem.own {i : Nat} {T : Ty} {v : Value} {fp : List Nat} (hi : os[i]? = some (ownO T v fp)) : Mem lo B u os fun w => T.ok w v := fun _ hw => T.ownok (hw.prs _ (List.mem_of_getElem? hi))
theorem q_load1 {x : Operand} {t : TypeId} {s b o : Nat} {v : Value} (ht : tyOf P t = some (false, s)) (hx : opd l x = some (.pointer (some ⟨b, o, none⟩))) (h : Mem lo B u os fun w => Cell w b o v) :
    OpQ P n lo B l os u ⟨dst, .load t x, ty, pos, af, gd⟩ v := fun a w ha hw => by
  have := run_loadVar_one (P := P) w ht (h w hw)
  simp [execOp, ha.eval hx, Instr.loadAt, Instr.sureAddr, this]
theorem q_loadN {x : Operand} {t : TypeId} {s b o : Nat} {vs vs' : List Value} (ht : tyOf P t = some (true, s)) (hx : opd l x = some (.pointer (some ⟨b, o, none⟩))) (h : Mem lo B u os fun w => RowAt w b o vs') (hv : vs' = vs) (hs : vs.length = s) :
    OpQ P n lo B l os u ⟨dst, .load t x, ty, pos, af, gd⟩ (.agg vs.toArray) := fun a w ha hw => by
  subst hv; subst hs
  have := run_loadVar_agg (P := P) w ht (h w hw)
  simp [execOp, ha.eval hx, Instr.loadAt, Instr.sureAddr, this]
theorem p_len {x : Operand} {t e : TypeId} {sz by' : Nat} {z : List Value} {A : Option Addr} {m c : Nat} (ht : elOf P t = some (e, sz, by', z)) (hx : opd l x = some (.slice A m c)) :
    OpP P n l ⟨dst, .call { callee := .builtin .len, args := #[x], argTypes := #[t] }, ty, pos, af, gd⟩ (.int .i64 m) := fun a w ha => by
  have := run_builtin_len (P := P) ht A m c ty #[match x with | .const _ => true | _ => false] w
  simp only [execOp, resolve, invoke, Sem.run_bind, Sem.run_pure, Result.andThen_ok, List.map_toArray, List.map_cons, List.map_nil, ha.eval hx]
  exact this
def cutA (sz : Nat) (A : Option Addr) (lo m : Nat) : Option Addr := if m = lo then A else A.map (·.add (lo * sz))
theorem p_slice {x : Operand} {t e : TypeId} {sz by' : Nat} {z : List Value} {A : Option Addr} {m c lo' hi' mx' : Nat} {lo? hi? mx? : Option Operand} (ht : elOf P t = some (e, sz, by', z)) (hx : opd l x = some (.slice A m c))
    (hm : match mx? with | none => mx' = c | some y => ∃ k, opd l y = some (.int k mx') ∧ mx' ≤ c) (hh : match hi? with | none => hi' = m ∧ mx? = none | some y => ∃ k, opd l y = some (.int k hi') ∧ hi' ≤ mx')
    (hl : match lo? with | none => lo' = 0 | some y => ∃ k, opd l y = some (.int k lo') ∧ lo' ≤ hi') :
    OpP P n l ⟨dst, .slice t x lo? hi? mx?, ty, pos, af, gd⟩ (.slice (cutA sz A lo' mx') (hi' - lo') (mx' - lo')) := fun a w ha => by
  unfold elOf at ht
  split at ht
  · rename_i e' hu
    split at ht
    · rename_i i' hi
      split at ht
      · simp at ht
        obtain ⟨rfl, rfl, rfl, rfl⟩ := ht
        have key : (Instr.slice t (.slice A m c) (lo?.map a.eval) (hi?.map a.eval) (mx?.map a.eval)).run P w = .ok (.slice (cutA i'.size A lo' mx') (hi' - lo') (mx' - lo')) w := by
          cases mx? with
          | none =>
            simp only at hm
            subst hm
            cases hi? with
            | none =>
              simp only at hh
              obtain ⟨rfl, _⟩ := hh
              cases lo? with
              | none => simp only at hl; subst hl; simp [Instr.slice, run_underlying hu, Instr.sliceBounds, sizeOf, typeInfo, hi, cutA]
              | some y => obtain ⟨k, h1, h2⟩ := hl; simp [Instr.slice, run_underlying hu, Instr.sliceBounds, Instr.sliceBound, asIntOf, ha.eval h1, h2, sizeOf, typeInfo, hi, cutA]
            | some y =>
              obtain ⟨k, h1, h2⟩ := hh
              cases lo? with
              | none => simp only at hl; subst hl; simp [Instr.slice, run_underlying hu, Instr.sliceBounds, Instr.sliceBound, asIntOf, ha.eval h1, h2, sizeOf, typeInfo, hi, cutA]
              | some y => obtain ⟨k', h3, h4⟩ := hl; simp [Instr.slice, run_underlying hu, Instr.sliceBounds, Instr.sliceBound, asIntOf, ha.eval h1, h2, ha.eval h3, h4, sizeOf, typeInfo, hi, cutA]
          | some y =>
            obtain ⟨k0, h5, h6⟩ := hm
            cases hi? with
            | none => simp only at hh; simp at hh
            | some y =>
              obtain ⟨k, h1, h2⟩ := hh
              cases lo? with
              | none => simp only at hl; subst hl; simp [Instr.slice, run_underlying hu, Instr.sliceBounds, Instr.sliceBound, asIntOf, ha.eval h1, h2, ha.eval h5, h6, sizeOf, typeInfo, hi, cutA]
              | some y => obtain ⟨k', h3, h4⟩ := hl; simp [Instr.slice, run_underlying hu, Instr.sliceBounds, Instr.sliceBound, asIntOf, ha.eval h1, h2, ha.eval h3, h4, ha.eval h5, h6, sizeOf, typeInfo, hi, cutA]
        simp [execOp, ha.eval hx, Instr.sliceAt, run_underlying hu, key]
      · simp at ht
    · simp at ht
  · simp at ht
def cellsL : Value → List Value
  | .agg c => c.toList
  | v => [v]
theorem cellsL_eq (v : Value) : v.cells = (cellsL v).toArray := by cases v <;> simp [Value.cells, cellsL]
theorem St.newBox {w : World} (h : St lo B u w os) (c : List Value) (T : TypeId) : St lo B u (w.alloc (.cells c.toArray T)) (boxO w.heap.size c T :: os) := by
  refine h.new ((Ext.refl w).alloc _) (o := boxO w.heap.size c T) (fun k hk => ?_) (by simp [boxO]) (heap_alloc_new w _)
  simp only [boxO, List.mem_singleton] at hk
  subst hk
  simp
theorem e_box {x : Operand} {t : TypeId} {v : Value} {c : List Value} (hx : opd l x = some v) (hc : cellsL v = c) :
    OpE P n lo B l os u ⟨dst, .box t x, ty, pos, af, gd⟩ true (fun v os' u' => ∃ b, v = .pointer (some ⟨b, 0, none⟩) ∧ os' = boxO b c t :: os ∧ u = u') := fun a w ha hw K Q hk => by
  subst hc
  have hr : (execOp a.eval ⟨dst, .box t x, ty, pos, af, gd⟩).run P w = .ok (.value (.pointer (some ⟨w.heap.size, 0, none⟩))) (w.alloc (.cells (cellsL v).toArray t)) := by
    simp [execOp, ha.eval hx, Instr.box, newVar, newRow, cellsL_eq]
  unfold Oper.wp
  rw [hr]
  exact hk _ _ u _ ⟨_, rfl, rfl, rfl⟩ (Up.refl lo u) (hw.newBox _ _) (fun _ => (Ext.refl w).alloc _)
theorem e_alloc {t : TypeId} {c : List Value} (hz : zeroOf P t = some c) :
    OpE P n lo B l os u ⟨dst, .alloc t, ty, pos, af, gd⟩ true (fun v os' u' => ∃ b, v = .pointer (some ⟨b, 0, none⟩) ∧ os' = boxO b c t :: os ∧ u = u') := fun a w ha hw K Q hk => by
  unfold zeroOf at hz
  split at hz
  · rename_i i hi
    split at hz
    · rename_i z hzz
      simp at hz
      subst hz
      have hr : (execOp a.eval ⟨dst, .alloc t, ty, pos, af, gd⟩).run P w = .ok (.value (.pointer (some ⟨w.heap.size, 0, none⟩))) (w.alloc (.cells z.cells.toList.toArray t)) := by
        simp [execOp, Instr.alloc, zeroValue, typeInfo, hi, hzz, newVar, newRow]
      unfold Oper.wp
      rw [hr]
      exact hk _ _ u _ ⟨_, rfl, rfl, rfl⟩ (Up.refl lo u) (hw.newBox _ _) (fun _ => (Ext.refl w).alloc _)
    · simp at hz
  · simp at hz
def setL (c : List Value) (o : Nat) (vs : List Value) : List Value := c.take o ++ vs ++ c.drop (o + vs.length)
theorem run_storeCells_box (P : Program) (b : Nat) (T : TypeId) : ∀ (vs : List Value) (i o : Nat) (c : List Value) (w : World), w.heap[b]? = some (.cells c.toArray T (0, 0)) → o + i + vs.length ≤ c.length → vs.all (·.oneCell') = true →
    ∃ w', (storeCells ⟨b, o, none⟩ vs i).run P w = .ok () w' ∧ w'.heap[b]? = some (.cells (setL c (o + i) vs).toArray T (0, 0)) ∧ (∀ k, k ≠ b → w'.heap[k]? = w.heap[k]?) ∧ w'.heap.size = w.heap.size ∧ w'.os = w.os ∧ w'.tape = w.tape ∧ w'.output = w.output := by
  intro vs
  induction vs with
  | nil => intro i o c w hb hl _; exact ⟨w, by simp [storeCells], by simpa [setL] using hb, fun _ _ => rfl, rfl, rfl, rfl, rfl⟩
  | cons v r ih =>
    intro i o c w hb hl h1
    simp only [List.all_cons, Bool.and_eq_true] at h1
    simp only [List.length_cons] at hl
    have hc : w.cell? ⟨b, o + i, none⟩ = some (c[o + i]'(by omega)) := by
      simp [World.cell?, hb]
    have hf : w.frozen? ⟨b, o + i, none⟩ = false := by simp [World.frozen?, hb]
    have hs := run_store P w ⟨b, o + i, none⟩ v .plain h1.1
    rw [hc] at hs
    simp only [hf] at hs
    have hb2 : (w.setCell ⟨b, o + i, none⟩ v).heap[b]? = some (.cells (c.set (o + i) v).toArray T (0, 0)) := by
      simp [World.setCell, Array.getElem?_modify, hb]
    obtain ⟨w', r1, r2, r3, r4, r5, r6, r7⟩ := ih (i + 1) o (c.set (o + i) v) (w.setCell ⟨b, o + i, none⟩ v) hb2 (by rw [List.length_set]; omega) h1.2
    refine ⟨w', ?_, ?_, fun k hk => (r3 k hk).trans (Below.heap_setCell _ _ _ _ (by simpa using hk)), by rw [r4]; simp [World.setCell], r5, r6, r7⟩
    · simp only [storeCells, Sem.run_bind, addr_add]
      rw [hs]
      simpa using r1
    · rw [r2]
      congr 2
      simp only [setL, List.length_cons]
      congr 1
      have e1 : (c.set (o + i) v).take (o + (i + 1)) = c.take (o + i) ++ [v] := by
        rw [show o + (i + 1) = (o + i) + 1 by omega, List.take_succ_eq_append_getElem (by rw [List.length_set]; omega), List.take_set_of_le (by omega)]
        simp
      have e2 : (c.set (o + i) v).drop (o + (i + 1) + r.length) = c.drop (o + i + (r.length + 1)) := by
        rw [List.drop_set_of_lt (by omega)]
        congr 1
        omega
      rw [e1, e2]
      simp
theorem e_store {x y : Operand} {t T : TypeId} {g : Bool} {s i b o : Nat} {c c' vs : List Value} {v : Value} (ht : tyOf P t = some (g, s)) (hx : opd l x = some (.pointer (some ⟨b, o, none⟩))) (hi : os[i]? = some (boxO b c T)) (hy : opd l y = some v)
    (hv : cellsL v = vs) (hs : vs.length = s) (h1 : vs.all (·.oneCell') = true) (hl : Nat.ble (o + s) c.length = true) (hc : setL c o vs = c') :
    OpE P n lo B l os u ⟨dst, .store t x y, ty, pos, af, gd⟩ false (fun _ os' u' => os' = os.set i (boxO b c' T) ∧ u = u') := fun a w ha hw K Q hk => by
  have hl : o + s ≤ c.length := by simpa [Nat.ble_eq] using hl
  subst hs; subst hc
  have hb : w.heap[b]? = some (.cells c.toArray T (0, 0)) := hw.prs _ (List.mem_of_getElem? hi)
  obtain ⟨w', r1, r2, r3, r4, r5, r6, r7⟩ := run_storeCells_box P b T vs 0 o c w hb (by omega) h1
  have hsz := (run_isAgg (P := P) w ht).2
  have hr : (execOp a.eval ⟨dst, .store t x y, ty, pos, af, gd⟩).run P w = .ok .skip w' := by
    simp [execOp, ha.eval hx, ha.eval hy, Instr.storeAt, Instr.sureAddr, storeVar, hsz, cellsL_eq, hv, r1]
  unfold Oper.wp
  rw [hr]
  refine hk _ _ u _ ⟨rfl, rfl⟩ (Up.refl lo u) (hw.upd hi r5 r6 r7 (by omega) (fun k _ hk => r3 k (by simpa [boxO] using hk)) (fun k hk => .inl (by simpa [boxO] using hk)) (by simp [boxO]) (by simpa [boxO] using r2) (fun k hk _ => by simpa [boxO] using hk)) (fun h => by cases h)
def goodF (P : Program) (f : FuncId) : Bool := match P.funcs[f]? with
  | some fn => !(fn.name == "runtime.NumGoroutine") && fn.body.isSome
  | none => false
theorem run_call {f : FuncId} {xs : List Operand} {ts : Array TypeId} {vs : List Value} {a : Act} {w : World} (hf : goodF P f = true) (ha : Has n a l) (hx : opds l xs = some vs) :
    (execOp a.eval ⟨dst, .call { callee := .value (.func f), args := xs.toArray, argTypes := ts }, ty, pos, af, gd⟩).run P w = .ok (.enter f vs.toArray) w := by
  have h1 : execOp a.eval ⟨dst, .call { callee := .value (.func f), args := xs.toArray, argTypes := ts }, ty, pos, af, gd⟩ = callFunc f vs.toArray := by
    have h2 : execOp a.eval ⟨dst, .call { callee := .value (.func f), args := xs.toArray, argTypes := ts }, ty, pos, af, gd⟩ = callFunc f (#[] ++ xs.toArray.map a.eval ++ #[]) := rfl
    rw [h2, ← ha.evals hx]; simp
  unfold goodF at hf
  split at hf
  · rename_i fn hfn
    simp only [Bool.and_eq_true, Bool.not_eq_true', Option.isSome_iff_ne_none] at hf
    rw [h1]
    have hn : ¬ fn.name = "runtime.NumGoroutine" := by simpa using hf.1
    simp [callFunc, hfn, hn, hf.2]
  · simp at hf
theorem e_callV {f : FuncId} {xs : List Operand} {ts : Array TypeId} {vs : List Value} {v : Value} (hf : goodF P f = true) (hx : opds l xs = some vs) (hc : ∀ w, St lo B u w os → RetV P f vs w v) :
    OpE P n lo B l os u ⟨dst, .call { callee := .value (.func f), args := xs.toArray, argTypes := ts }, ty, pos, af, gd⟩ true (fun v' os' u' => v' = v ∧ os' = os ∧ u = u') := fun a w ha hw K Q hk => by
  unfold Oper.wp
  rw [run_call hf ha hx, Oper.upon_enter]
  refine Calls.mono (hc w hw) fun e w' h => ?_
  obtain ⟨rfl, hx'⟩ := h
  exact hk _ _ u _ ⟨rfl, rfl, rfl⟩ (Up.refl lo u) (hw.call hx') (fun _ => hx')
theorem e_callP {f : FuncId} {xs : List Operand} {ts : Array TypeId} {vs : List Value} {T : Ty} (hf : goodF P f = true) (hx : opds l xs = some vs) (hc : ∀ w, St lo B u w os → Ret P f vs w T) :
    OpE P n lo B l os u ⟨dst, .call { callee := .value (.func f), args := xs.toArray, argTypes := ts }, ty, pos, af, gd⟩ true (fun v' os' u' => T.ok u' v' ∧ os' = os) := fun a w ha hw K Q hk => by
  unfold Oper.wp
  rw [run_call hf ha hx, Oper.upon_enter]
  refine Calls.mono (hc w hw) fun e w' h => ?_
  obtain ⟨v, fp, rfl, ho, _, hfp, hx'⟩ := h
  obtain ⟨u', hup, hst, hok⟩ := hw.pubRet hx' ho hfp
  exact hk _ _ u' _ ⟨hok, rfl⟩ hup hst (fun _ => hx')
def Spl (T : Ty) (R : Value → List Own → Prop) : Prop := ∀ w v fp, T.own w v fp → ∃ ow, R v ow ∧ fp = ow.flatMap (·.fp) ∧ ∀ o ∈ ow, o.pr w
end
end Go.Proofs.YtjklnidbndopiaaGreatDoor
namespace Go.Proofs.YtjklnidbndopiaaGreatDoor.M
structure Rul where
  pits : Int
  seeds : Int
  stores : Bool
  skip : Bool
  relay : Bool
  feed : Bool
  again : Bool
  capture : Int
  slam : Int
  deriving DecidableEq
structure Pos where
  pits : List Int
  stores : List Int
  player : Int
  deriving DecidableEq
structure Sw where
  pits : List Int
  stores : List Int
  last : Int
  laps : Int
  deriving DecidableEq
structure Res where
  move : Int
  gain : Int
  again : Bool
  next : Pos
  deriving DecidableEq
structure Gam where
  rules : Rul
  start : Pos
  moves : List Int
  now : Pos
  resigned : Int
  deriving DecidableEq
structure Sow where
  rules : Rul
  player : Int
  sown : Sw
  path : List Int
  deriving DecidableEq
def Rul.zero : Rul := ⟨0, 0, false, false, false, false, false, 0, 0⟩
def Pos.zero : Pos := ⟨[], [], 0⟩
def Sw.zero : Sw := ⟨[], [], 0, 0⟩
def Res.zero : Res := ⟨0, 0, false, Pos.zero⟩
def Gam.zero : Gam := ⟨Rul.zero, Pos.zero, [], Pos.zero, 0⟩
def betw (n lo hi : Int) : Bool := decide (lo ≤ n) && decide (n ≤ hi)
theorem betw_iff {n lo hi : Int} : betw n lo hi = true ↔ lo ≤ n ∧ n ≤ hi := by simp [betw]
def isPl (n : Int) : Bool := decide (n = 0) || decide (n = 1)
def okR (r : Rul) : Bool := betw r.pits 2 8 && betw r.seeds 1 6 && betw r.capture 0 3 && betw r.slam 0 2 && (r.stores || !r.again)
theorem okR_bd {r : Rul} (h : okR r = true) : 2 ≤ r.pits ∧ r.pits ≤ 8 ∧ 1 ≤ r.seeds ∧ r.seeds ≤ 6 := by
  simp only [okR, Bool.and_eq_true, betw_iff] at h; omega
def nth (l : List Int) (k : Nat) : Int := l.getD k 0
theorem drop_nth {l : List Int} {k : Nat} (h : k < l.length) : l.drop k = nth l k :: l.drop (k + 1) := by
  rw [List.drop_eq_getElem_cons h]; simp [nth, List.getD, h]
theorem nth_eq {l : List Int} {k : Nat} (h : k < l.length) : nth l k = l[k] := by simp [nth, List.getD, h]
theorem nth_mem {l : List Int} {k : Nat} (h : k < l.length) : nth l k ∈ l := by rw [nth_eq h]; exact List.getElem_mem h
theorem take_nth {l : List Int} {k : Nat} (h : k < l.length) : l.take (k + 1) = l.take k ++ [nth l k] := by
  rw [List.take_succ_eq_append_getElem h, nth_eq h]
def Upto (a b : List Int) (k : Nat) : Prop := a.take k = b.take k
theorem Upto.zero (a b : List Int) : Upto a b 0 := rfl
theorem Upto.step {a b : List Int} {k : Nat} (h : Upto a b k) (ha : k < a.length) (hb : k < b.length) (e : nth a k = nth b k) : Upto a b (k + 1) := by
  unfold Upto at *; rw [take_nth ha, take_nth hb, h, e]
theorem Upto.done {a b : List Int} {k : Nat} (h : Upto a b k) (ha : a.length ≤ k) (hb : b.length ≤ k) : a = b := by
  unfold Upto at h; rwa [List.take_of_length_le ha, List.take_of_length_le hb] at h
theorem ne_of_nth {a b : List Int} {k : Nat} (e : nth a k ≠ nth b k) : a ≠ b := by rintro rfl; exact e rfl
def isum : List Int → Int
  | [] => 0
  | x :: r => x + isum r
@[simp] theorem isum_nil : isum [] = 0 := rfl
@[simp] theorem isum_cons (x : Int) (r : List Int) : isum (x :: r) = x + isum r := rfl
@[simp] theorem isum_append (a b : List Int) : isum (a ++ b) = isum a + isum b := by
  induction a with
  | nil => simp
  | cons x r ih => simp [ih]; omega
def sumFrom (s : Int) : List Int → Option Int
  | [] => some s
  | x :: r => if betw x 0 96 then sumFrom (s + x) r else none
theorem sumFrom_eq (s : Int) (l : List Int) : sumFrom s l = if l.all (betw · 0 96) then some (s + isum l) else none := by
  induction l generalizing s with
  | nil => simp [sumFrom]
  | cons x r ih =>
    simp only [sumFrom, ih, List.all_cons, isum_cons]
    by_cases h : betw x 0 96 = true <;> simp [h, Int.add_assoc]
theorem sumFrom_step {s : Int} {l : List Int} {k : Nat} (h : k < l.length) : sumFrom s (l.drop k) = if betw (nth l k) 0 96 then sumFrom (s + nth l k) (l.drop (k + 1)) else none := by
  rw [drop_nth h, sumFrom]
theorem sumFrom_end {s : Int} {l : List Int} {k : Nat} (h : ¬ k < l.length) : sumFrom s (l.drop k) = some s := by
  rw [List.drop_of_length_le (by omega), sumFrom]
def allOk (l : List Int) : Bool := l.all (betw · 0 96)
theorem sumFrom_some {l : List Int} {t : Int} (h : sumFrom 0 l = some t) : allOk l = true ∧ isum l = t := by
  rw [sumFrom_eq] at h; unfold allOk; split at h <;> simp_all
theorem sumFrom_none {l : List Int} (h : sumFrom 0 l = none) : allOk l = false := by
  rw [sumFrom_eq] at h; unfold allOk; split at h <;> simp_all
def okP (r : Rul) (p : Pos) : Bool :=
  okR r && decide ((p.pits.length : Int) = 2 * r.pits) && decide (p.stores.length = 2) && (decide (p.player = 0) || decide (p.player = 1)) &&
  allOk p.pits && allOk p.stores && decide (isum p.pits + isum p.stores ≤ 96)
theorem mul_bd {a n : Int} (hp : a = 0 ∨ a = 1) (h2 : 2 ≤ n) (h8 : n ≤ 8) : 0 ≤ a ∧ a ≤ 1 ∧ 0 ≤ a * n ∧ a * n ≤ n ∧ n ≤ (a + 1) * n ∧ (a + 1) * n ≤ 2 * n ∧ (a + 1) * n = a * n + n := by
  rcases hp with rfl | rfl <;> simp <;> omega
def sameP (a b : Pos) : Bool := decide (a.player = b.player) && decide (a.pits = b.pits) && decide (a.stores = b.stores)
def getI (l : List Int) (i : Int) : Int := nth l i.toNat
def setI (l : List Int) (i v : Int) : List Int := l.set i.toNat v
@[simp] theorem setI_length (l : List Int) (i v : Int) : (setI l i v).length = l.length := by simp [setI]
def after (r : Rul) (player place : Int) : Int :=
  if place = (player + 1) * r.pits - 1 ∧ r.stores = true then -1
  else if place = -1 then ((player + 1) * r.pits) % (2 * r.pits)
  else (place + 1) % (2 * r.pits)
def nxt (r : Rul) (player frm place : Int) : Int :=
  if r.skip = true ∧ after r player place = frm then after r player frm else after r player place
def sow (r : Rul) (player frm : Int) : Nat → Int → List Int → List Int → List Int → Int × List Int × List Int × List Int
  | 0, place, ps, ss, path => (place, ps, ss, path)
  | n + 1, place, ps, ss, path =>
    if nxt r player frm place < 0 then sow r player frm n (nxt r player frm place) ps (setI ss player (getI ss player + 1)) (path ++ [nxt r player frm place])
    else sow r player frm n (nxt r player frm place) (setI ps (nxt r player frm place) (getI ps (nxt r player frm place) + 1)) ss (path ++ [nxt r player frm place])
def lap (r : Rul) (player frm : Int) (s : Sw) (path : List Int) : Sw × List Int :=
  (⟨(sow r player frm (getI s.pits frm).toNat frm (setI s.pits frm 0) s.stores path).2.1,
    (sow r player frm (getI s.pits frm).toNat frm (setI s.pits frm 0) s.stores path).2.2.1,
    (sow r player frm (getI s.pits frm).toNat frm (setI s.pits frm 0) s.stores path).1, s.laps + 1⟩,
   (sow r player frm (getI s.pits frm).toNat frm (setI s.pits frm 0) s.stores path).2.2.2)
def more (r : Rul) (s : Sw) : Bool := r.relay && decide (0 ≤ s.last) && decide (1 < getI s.pits s.last)
def mv (r : Rul) (player : Int) : Nat → Int → Sw → List Int → Option (Sw × List Int)
  | 0, _, _, _ => none
  | n + 1, frm, s, path =>
    if more r (lap r player frm s path).1 = true then mv r player n (lap r player frm s path).1.last (lap r player frm s path).1 (lap r player frm s path).2
    else some (lap r player frm s path)
def sowCode (r : Rul) (p : Pos) (move : Int) : Int :=
  if okP r p = false then 1 else if betw move 0 (r.pits - 1) = false then 2 else if getI p.pits (p.player * r.pits + move) = 0 then 6 else 0
def sowMove (r : Rul) (p : Pos) (move : Int) : Int × Sw × List Int :=
  if sowCode r p move ≠ 0 then (sowCode r p move, Sw.zero, [])
  else match mv r p.player 100 (p.player * r.pits + move) ⟨p.pits, p.stores, 0, 0⟩ [] with
    | none => (10, Sw.zero, [])
    | some x => (0, x.1, x.2)
def side (r : Rul) (pits : List Int) (player : Int) : Int := isum ((pits.drop (player * r.pits).toNat).take r.pits.toNat)
def owner (r : Rul) (pit : Int) : Int := pit / r.pits
def opp (r : Rul) (pit : Int) : Int := 2 * r.pits - 1 - pit
def ttOk (r : Rul) (player : Int) (ps : List Int) (k : Nat) : Bool := !decide (owner r k = player) && betw (getI ps k) 2 3
def tt (r : Rul) (player : Int) (ps : List Int) : Nat → List Int
  | 0 => if ttOk r player ps 0 then [0] else []
  | k + 1 => if ttOk r player ps (k + 1) then ((k + 1 : Nat) : Int) :: tt r player ps k else []
def taken (r : Rul) (s : Sw) (player : Int) : List Int :=
  if s.last < 0 then []
  else if r.capture = 1 then tt r player s.pits s.last.toNat
  else if r.capture = 2 then (if owner r s.last = player ∧ getI s.pits s.last = 1 ∧ 0 < getI s.pits (opp r s.last) then [s.last, opp r s.last] else [])
  else if r.capture = 3 then (if owner r s.last ≠ player ∧ getI s.pits s.last % 2 = 0 then [s.last] else [])
  else []
def gone (r : Rul) (s : Sw) (player : Int) (l : List Int) : Int := isum ((l.filter fun k => !decide (owner r k = player)).map (getI s.pits))
def slams (r : Rul) (s : Sw) (player : Int) : Bool :=
  decide (0 < gone r s player (taken r s player)) && decide (side r s.pits (1 - player) = gone r s player (taken r s player))
def captured (r : Rul) (s : Sw) (player : Int) : List Int := if r.slam = 2 ∧ slams r s player = true then [] else taken r s player
def zeros (l : List Int) (ps : List Int) : List Int := l.foldl (fun ps k => setI ps k 0) ps
def take (r : Rul) (s : Sw) (player : Int) : Sw :=
  ⟨zeros (captured r s player) s.pits, setI s.stores player (getI s.stores player + isum ((captured r s player).map (getI s.pits))), s.last, s.laps⟩
def mustFeed (r : Rul) (p : Pos) : Bool := r.feed && decide (side r p.pits (1 - p.player) = 0)
def done (r : Rul) (p : Pos) (move : Int) : Sw × Int :=
  if (sowMove r p move).1 ≠ 0 then (Sw.zero, (sowMove r p move).1)
  else if (decide (r.slam = 1) && slams r (sowMove r p move).2.1 p.player) || (mustFeed r p && decide (side r (take r (sowMove r p move).2.1 p.player).pits (1 - p.player) = 0)) then (Sw.zero, 9)
  else (take r (sowMove r p move).2.1 p.player, 0)
def resOf (r : Rul) (p : Pos) (move : Int) (t : Sw) : Res :=
  ⟨move, getI t.stores p.player - getI p.stores p.player, r.again && decide (t.last = -1),
    ⟨t.pits, t.stores, if (r.again && decide (t.last = -1)) = true then p.player else 1 - p.player⟩⟩
def make (r : Rul) (p : Pos) (move : Int) : Res × Int :=
  if (done r p move).2 ≠ 0 then (Res.zero, (done r p move).2) else (resOf r p move (done r p move).1, 0)
def resultsTo (r : Rul) (p : Pos) : Nat → List Res
  | 0 => []
  | n + 1 => resultsTo r p n ++ (if (make r p n).2 = 0 then [(make r p n).1] else [])
def results (r : Rul) (p : Pos) : List Res := resultsTo r p r.pits.toNat
def runs (r : Rul) : Pos → List Int → List Res
  | _, [] => []
  | p, m :: ms => if (make r p m).2 = 0 then (make r p m).1 :: runs r (make r p m).1.next ms else []
def hist (p : Pos) (l : List Res) : List Pos := p :: l.map (·.next)
def lastPos (p : Pos) : List Res → Pos
  | [] => p
  | x :: l => lastPos x.next l
def okG (g : Gam) : Bool :=
  okP g.rules g.start && decide (g.moves.length ≤ 120) && betw g.resigned (-1) 1 &&
  decide ((runs g.rules g.start g.moves).length = g.moves.length) && decide (lastPos g.start (runs g.rules g.start g.moves) = g.now)
def play (g : Gam) (move : Int) : Gam × Int :=
  if 0 ≤ g.resigned then (Gam.zero, 6)
  else if g.moves.length = 120 then (Gam.zero, 5)
  else if (make g.rules g.now move).2 ≠ 0 then (Gam.zero, (make g.rules g.now move).2)
  else (⟨g.rules, g.start, g.moves ++ [move], (make g.rules g.now move).1.next, g.resigned⟩, 0)
theorem allOk_drop {l : List Int} (n : Nat) (h : allOk l = true) : allOk (l.drop n) = true := by
  unfold allOk at *; rw [List.all_eq_true] at *; exact fun x hx => h x (List.mem_of_mem_drop hx)
theorem allOk_take {l : List Int} (n : Nat) (h : allOk l = true) : allOk (l.take n) = true := by
  unfold allOk at *; rw [List.all_eq_true] at *; exact fun x hx => h x (List.mem_of_mem_take hx)
theorem allOk_nth {l : List Int} (h : allOk l = true) (k : Nat) : 0 ≤ nth l k ∧ nth l k ≤ 96 := by
  unfold allOk at h; rw [List.all_eq_true] at h
  by_cases hk : k < l.length
  · exact betw_iff.1 (h _ (nth_mem hk))
  · simp [nth, List.getD, List.getElem?_eq_none (Nat.le_of_not_lt hk)]
theorem isum_bd {l : List Int} (h : allOk l = true) : 0 ≤ isum l ∧ isum l ≤ 96 * l.length := by
  induction l with
  | nil => simp
  | cons x r ih =>
    unfold allOk at h ih
    rw [List.all_cons, Bool.and_eq_true, betw_iff] at h
    have := ih h.2
    simp; omega
def sumV (l : List Int) : Int := if allOk l then isum l else 0
theorem sumV_ok {l : List Int} (h : allOk l = true) : sumV l = isum l := by simp [sumV, h]
theorem sumV_bd (l : List Int) : 0 ≤ sumV l ∧ sumV l ≤ 96 * l.length := by
  unfold sumV; split
  · exact isum_bd ‹_›
  · omega
def sum4 (l : List Int) : Int := if allOk l = true ∧ isum l ≤ 96 then isum l else -1
theorem sum4_bd (l : List Int) : -1 ≤ sum4 l ∧ sum4 l ≤ 96 := by
  unfold sum4; split
  · rename_i h; have := isum_bd h.1; omega
  · omega
theorem okP_sum4 {r : Rul} {p : Pos} (h1 : okR r = true) (h2 : (p.pits.length : Int) = 2 * r.pits) (h3 : p.stores.length = 2) (h4 : p.player = 0 ∨ p.player = 1) :
    okP r p = (decide (0 ≤ sum4 p.pits) && decide (0 ≤ sum4 p.stores) && decide (sum4 p.pits + sum4 p.stores ≤ 96)) := by
  have h5 : (decide (p.player = 0) || decide (p.player = 1)) = true := by simpa using h4
  unfold okP sum4
  rw [h1, h5]
  cases o1 : allOk p.pits <;> cases o2 : allOk p.stores <;> simp [h2, h3]
  · have b1 := isum_bd o1
    have b2 := isum_bd o2
    by_cases g1 : isum p.pits ≤ 96 <;> by_cases g2 : isum p.stores ≤ 96 <;> simp [g1, g2] <;> omega
theorem okP_bd {r : Rul} {p : Pos} (h : okP r p = true) : 2 ≤ r.pits ∧ r.pits ≤ 8 ∧ (p.pits.length : Int) = 2 * r.pits ∧ p.stores.length = 2 ∧ allOk p.pits = true ∧ allOk p.stores = true ∧ (p.player = 0 ∨ p.player = 1) := by
  unfold okP at h
  simp only [Bool.and_eq_true, decide_eq_true_eq, Bool.or_eq_true] at h
  have := okR_bd h.1.1.1.1.1.1
  exact ⟨by omega, by omega, h.1.1.1.1.1.2, h.1.1.1.1.2, h.1.1.2, h.1.2, h.1.1.1.2⟩
theorem okP_sum {r : Rul} {p : Pos} (h : okP r p = true) : isum p.pits + isum p.stores ≤ 96 := by
  unfold okP at h
  simp only [Bool.and_eq_true, decide_eq_true_eq, Bool.or_eq_true] at h
  exact h.2
theorem okP_okR {r : Rul} {p : Pos} (h : okP r p = true) : okR r = true := by
  unfold okP at h
  simp only [Bool.and_eq_true] at h
  exact h.1.1.1.1.1.1
theorem okP_sum_ {r : Rul} {p : Pos} (h : ((okR r = true ∧ (p.pits.length : Int) = 2 * r.pits) ∧ (p.stores.length : Int) = 2) ∧ isPl p.player = true) :
    (allOk p.pits && allOk p.stores && decide (sumV p.pits + sumV p.stores ≤ 96)) = okP r p := by
  obtain ⟨⟨⟨h1, h2⟩, h3⟩, h4⟩ := h
  have h5 : p.stores.length = 2 := by omega
  have h6 : (decide (p.player = 0) || decide (p.player = 1)) = true := h4
  unfold okP
  rw [h1, h6]
  cases o1 : allOk p.pits <;> cases o2 : allOk p.stores <;> simp [h2, h5, sumV, o1, o2]
def nn (l : List Int) : Prop := ∀ x ∈ l, 0 ≤ x
theorem nn_of_ok {l : List Int} (h : allOk l = true) : nn l := by
  unfold allOk at h; rw [List.all_eq_true] at h
  exact fun x hx => (betw_iff.1 (h x hx)).1
theorem nn_nth {l : List Int} (h : nn l) (k : Nat) : 0 ≤ nth l k := by
  by_cases hk : k < l.length
  · exact h _ (nth_mem hk)
  · simp [nth, List.getD, List.getElem?_eq_none (Nat.le_of_not_lt hk)]
theorem nn_isum {l : List Int} (h : nn l) : 0 ≤ isum l := by
  induction l with
  | nil => simp
  | cons x r ih =>
    have := h x (by simp)
    have := ih (fun y hy => h y (by simp [hy]))
    simp; omega
theorem nth_le_isum {l : List Int} (h : nn l) (k : Nat) : nth l k ≤ isum l := by
  by_cases hk : k < l.length
  · induction l generalizing k with
    | nil => simp at hk
    | cons x r ih =>
      have hr : nn r := fun y hy => h y (by simp [hy])
      cases k with
      | zero => have := nn_isum hr; simp [nth]; omega
      | succ k => have := ih hr k (by simpa using hk); have := h x (by simp); simp [nth] at *; omega
  · have := nn_isum h
    simp [nth, List.getD, List.getElem?_eq_none (Nat.le_of_not_lt hk)]; omega
theorem nn_set {l : List Int} (h : nn l) (k : Nat) {v : Int} (hv : 0 ≤ v) : nn (l.set k v) := fun x hx => by
  rcases List.mem_or_eq_of_mem_set hx with hx | rfl
  · exact h x hx
  · exact hv
theorem isum_set {l : List Int} {k : Nat} (hk : k < l.length) (v : Int) : isum (l.set k v) = isum l - nth l k + v := by
  induction l generalizing k with
  | nil => simp at hk
  | cons x r ih =>
    cases k with
    | zero => simp [nth]; omega
    | succ k => have := ih (k := k) (by simpa using hk); simp [nth] at *; omega
theorem nn_setI {l : List Int} (h : nn l) (k : Int) {v : Int} (hv : 0 ≤ v) : nn (setI l k v) := nn_set h _ hv
theorem isum_setI {l : List Int} {k : Int} (h0 : 0 ≤ k) (hk : k < l.length) (v : Int) : isum (setI l k v) = isum l - getI l k + v := isum_set (by omega) v
theorem getI_setI_same {l : List Int} {k : Int} (h0 : 0 ≤ k) (hk : k < l.length) (v : Int) : getI (setI l k v) k = v := by
  have : k.toNat < l.length := by omega
  simp [getI, setI, nth, List.getD, this]
structure Good (r : Rul) (ps ss : List Int) (n : Int) : Prop where
  lp : (ps.length : Int) = 2 * r.pits
  ls : ss.length = 2
  np : nn ps
  ns : nn ss
  n0 : 0 ≤ n
  all : isum ps + isum ss + n ≤ 96
theorem Good.of_ok {r : Rul} {p : Pos} (h : okP r p = true) : Good r p.pits p.stores 0 := by
  obtain ⟨_, _, a, b, c, d, _⟩ := okP_bd h
  exact ⟨a, b, nn_of_ok c, nn_of_ok d, by omega, by have := okP_sum h; omega⟩
theorem Good.pit {r : Rul} {ps ss : List Int} {n : Int} (h : Good r ps ss n) (k : Int) : 0 ≤ getI ps k ∧ getI ps k ≤ 96 := by
  have a := nn_nth h.np k.toNat
  have b := nth_le_isum h.np k.toNat
  have c := nn_isum h.ns
  have d := h.all
  have e := h.n0
  unfold getI; omega
theorem Good.store {r : Rul} {ps ss : List Int} {n : Int} (h : Good r ps ss n) (k : Int) : 0 ≤ getI ss k ∧ getI ss k ≤ 96 := by
  have a := nn_nth h.ns k.toNat
  have b := nth_le_isum h.ns k.toNat
  have c := nn_isum h.np
  have d := h.all
  have e := h.n0
  unfold getI; omega
theorem Good.takeUp {r : Rul} {ps ss : List Int} (h : Good r ps ss 0) {k : Int} (k0 : 0 ≤ k) (k1 : k < 2 * r.pits) : Good r (setI ps k 0) ss (getI ps k) := by
  have hl := h.lp
  exact ⟨by simpa using h.lp, h.ls, nn_setI h.np k (by omega), h.ns, (h.pit k).1, by rw [isum_setI k0 (by omega)]; have := h.all; omega⟩
theorem Good.putPit {r : Rul} {ps ss : List Int} {n : Int} (h : Good r ps ss n) (hn : 0 < n) {k : Int} (k0 : 0 ≤ k) (k1 : k < 2 * r.pits) : Good r (setI ps k (getI ps k + 1)) ss (n - 1) := by
  have hl := h.lp
  have := (h.pit k).1
  exact ⟨by simpa using h.lp, h.ls, nn_setI h.np k (by omega), h.ns, by omega, by rw [isum_setI k0 (by omega)]; have := h.all; omega⟩
theorem Good.putStore {r : Rul} {ps ss : List Int} {n : Int} (h : Good r ps ss n) (hn : 0 < n) {k : Int} (k0 : 0 ≤ k) (k1 : k < 2) : Good r ps (setI ss k (getI ss k + 1)) (n - 1) := by
  have hl := h.ls
  have := (h.store k).1
  exact ⟨h.lp, by simpa using h.ls, h.np, nn_setI h.ns k (by omega), by omega, by rw [isum_setI k0 (by omega)]; have := h.all; omega⟩
theorem after_bd (r : Rul) {player n : Int} (hb : r.pits ≤ 8) (hc : 2 ≤ r.pits) (hp : player = 0 ∨ player = 1) (m0 : -1 ≤ n) : -1 ≤ after r player n ∧ after r player n < 2 * r.pits := by
  have a : ∀ x : Int, 0 ≤ x % (2 * r.pits) ∧ x % (2 * r.pits) < 2 * r.pits := fun x => ⟨Int.emod_nonneg _ (by omega), Int.emod_lt_of_pos _ (by omega)⟩
  unfold after
  split
  · omega
  · split
    · have := a ((player + 1) * r.pits); omega
    · have := a (n + 1); omega
theorem after_ne (r : Rul) {player n : Int} (hb : r.pits ≤ 8) (hc : 2 ≤ r.pits) (m0 : 0 ≤ n) (m1 : n < 2 * r.pits) : after r player n ≠ n := by
  unfold after
  split
  · omega
  · split
    · omega
    · intro h
      rcases Int.lt_or_le (n + 1) (2 * r.pits) with h1 | h1
      · rw [Int.emod_eq_of_lt (by omega) h1] at h; omega
      · have : n + 1 = 2 * r.pits := by omega
        rw [this, Int.emod_self] at h; omega
theorem nxt_bd (r : Rul) {player frm n : Int} (hb : r.pits ≤ 8) (hc : 2 ≤ r.pits) (hp : player = 0 ∨ player = 1) (m0 : -1 ≤ n) (f0 : 0 ≤ frm) : -1 ≤ nxt r player frm n ∧ nxt r player frm n < 2 * r.pits := by
  unfold nxt
  split
  · exact after_bd r hb hc hp (by omega)
  · exact after_bd r hb hc hp m0
theorem nxt_no {r : Rul} {player frm place : Int} (h : ¬(r.skip = true ∧ after r player place = frm)) : nxt r player frm place = after r player place := by
  unfold nxt; rw [if_neg h]
theorem nxt_yes {r : Rul} {player frm place : Int} (h : r.skip = true ∧ after r player place = frm) : nxt r player frm place = after r player frm := by
  unfold nxt; rw [if_pos h]
theorem sow_succ {r : Rul} {player frm place q : Int} {n : Nat} {ps ss path : List Int} (h : nxt r player frm place = q) :
    sow r player frm (n + 1) place ps ss path = if q < 0 then sow r player frm n q ps (setI ss player (getI ss player + 1)) (path ++ [q]) else sow r player frm n q (setI ps q (getI ps q + 1)) ss (path ++ [q]) := by
  subst h; rfl
theorem sow_keeps (r : Rul) {player frm : Int} (hb : r.pits ≤ 8) (hc : 2 ≤ r.pits) (hp : player = 0 ∨ player = 1) (f0 : 0 ≤ frm) : ∀ (n : Nat) (place : Int) (ps ss path : List Int),
    -1 ≤ place → place < 2 * r.pits → Good r ps ss n →
    Good r (sow r player frm n place ps ss path).2.1 (sow r player frm n place ps ss path).2.2.1 0 ∧ -1 ≤ (sow r player frm n place ps ss path).1 ∧ (sow r player frm n place ps ss path).1 < 2 * r.pits ∧
      (sow r player frm n place ps ss path).2.2.2.length = path.length + n ∧ isum (sow r player frm n place ps ss path).2.1 + isum (sow r player frm n place ps ss path).2.2.1 = isum ps + isum ss + n := by
  intro n
  induction n with
  | zero => intro place ps ss path h0 h1 hG; exact ⟨hG, h0, h1, rfl, by simp [sow]⟩
  | succ n ih =>
    intro place ps ss path h0 h1 hG
    have hq := nxt_bd r (frm := frm) hb hc hp h0 f0
    rw [sow_succ rfl]
    generalize nxt r player frm place = q at *
    have e : (((n + 1 : Nat) : Int) - 1) = n := by omega
    split
    · have g := hG.putStore (k := player) (by omega) (by omega) (by omega)
      rw [e] at g
      obtain ⟨a, b, c, d, f⟩ := ih q ps _ (path ++ [q]) hq.1 hq.2 g
      have hl := hG.ls
      refine ⟨a, b, c, by rw [d]; simp; omega, ?_⟩
      rw [f, isum_setI (by omega) (by omega)]; omega
    · have g := hG.putPit (k := q) (by omega) (by omega) hq.2
      rw [e] at g
      obtain ⟨a, b, c, d, f⟩ := ih q _ ss (path ++ [q]) hq.1 hq.2 g
      have hl := hG.lp
      refine ⟨a, b, c, by rw [d]; simp; omega, ?_⟩
      rw [f, isum_setI (by omega) (by omega)]; omega
theorem lap_keeps (r : Rul) {player frm : Int} {s : Sw} (path : List Int) (hb : r.pits ≤ 8) (hc : 2 ≤ r.pits) (hp : player = 0 ∨ player = 1) (f0 : 0 ≤ frm) (f1 : frm < 2 * r.pits) (hG : Good r s.pits s.stores 0) :
    Good r (lap r player frm s path).1.pits (lap r player frm s path).1.stores 0 ∧ -1 ≤ (lap r player frm s path).1.last ∧ (lap r player frm s path).1.last < 2 * r.pits ∧
      (lap r player frm s path).2.length ≤ path.length + 96 ∧ isum (lap r player frm s path).1.pits + isum (lap r player frm s path).1.stores = isum s.pits + isum s.stores ∧ (lap r player frm s path).1.laps = s.laps + 1 := by
  have g := hG.takeUp f0 f1
  have hv := hG.pit frm
  have e : ((getI s.pits frm).toNat : Int) = getI s.pits frm := Int.toNat_of_nonneg hv.1
  rw [← e] at g
  obtain ⟨a, b, c, d, f⟩ := sow_keeps r hb hc hp f0 _ frm _ _ path (by omega) f1 g
  have hl := hG.lp
  refine ⟨a, b, c, ?_, ?_, rfl⟩
  · show (sow _ _ _ _ _ _ _ _).2.2.2.length ≤ _
    rw [d]; omega
  · show isum (sow _ _ _ _ _ _ _ _).2.1 + isum (sow _ _ _ _ _ _ _ _).2.2.1 = _
    rw [f, isum_setI f0 (by omega), e]; omega
theorem more_last {r : Rul} {s : Sw} (h : more r s = true) : 0 ≤ s.last := by
  unfold more at h; simp at h; omega
theorem mv_keeps (r : Rul) {player : Int} (hb : r.pits ≤ 8) (hc : 2 ≤ r.pits) (hp : player = 0 ∨ player = 1) : ∀ (n : Nat) (frm : Int) (s : Sw) (path : List Int) (x : Sw × List Int),
    0 ≤ frm → frm < 2 * r.pits → Good r s.pits s.stores 0 → mv r player n frm s path = some x →
    Good r x.1.pits x.1.stores 0 ∧ -1 ≤ x.1.last ∧ x.1.last < 2 * r.pits ∧ x.2.length ≤ path.length + 96 * n ∧ isum x.1.pits + isum x.1.stores = isum s.pits + isum s.stores := by
  intro n
  induction n with
  | zero => intro frm s path x _ _ _ h; simp [mv] at h
  | succ n ih =>
    intro frm s path x f0 f1 hG h
    obtain ⟨a, b, c, d, f, _⟩ := lap_keeps r path hb hc hp f0 f1 hG
    rw [mv] at h
    split at h
    · rename_i hm
      obtain ⟨a', b', c', d', f'⟩ := ih _ _ _ _ (more_last hm) c a h
      exact ⟨a', b', c', by omega, by omega⟩
    · injection h with h
      subst h
      exact ⟨a, b, c, by omega, f⟩
def ttI (r : Rul) (player : Int) (ps : List Int) (k : Int) : List Int := if k < 0 then [] else tt r player ps k.toNat
theorem ttI_neg {r : Rul} {player : Int} {ps : List Int} {k : Int} (h : k < 0) : ttI r player ps k = [] := by simp [ttI, h]
theorem ttI_yes {r : Rul} {player : Int} {ps : List Int} {k : Int} (h0 : 0 ≤ k) (h1 : owner r k ≠ player) (h2 : betw (getI ps k) 2 3 = true) : ttI r player ps k = k :: ttI r player ps (k - 1) := by
  obtain ⟨n, rfl⟩ := Int.eq_ofNat_of_zero_le h0
  have ho : ttOk r player ps n = true := by simp [ttOk, h1, h2]
  unfold ttI
  rw [if_neg (by omega), Int.toNat_natCast]
  cases n with
  | zero => simp [tt, ho]
  | succ n =>
    rw [tt, if_pos ho, if_neg (by omega)]
    have : ((n + 1 : Nat) : Int) - 1 = n := by omega
    rw [this, Int.toNat_natCast]
theorem ttI_no {r : Rul} {player : Int} {ps : List Int} {k : Int} (h : owner r k = player ∨ betw (getI ps k) 2 3 = false) : ttI r player ps k = [] := by
  unfold ttI
  split
  · rfl
  · rename_i hk
    obtain ⟨n, rfl⟩ := Int.eq_ofNat_of_zero_le (Int.not_lt.1 hk)
    have ho : ttOk r player ps n = false := by
      rcases h with h | h <;> simp [ttOk, h]
    rw [Int.toNat_natCast]
    cases n with
    | zero => simp [tt, ho]
    | succ n => rw [tt, if_neg (by rw [ho]; simp)]
theorem gone_nil (r : Rul) (s : Sw) (player : Int) : gone r s player [] = 0 := rfl
theorem gone_cons (r : Rul) (s : Sw) (player k : Int) (l : List Int) : gone r s player (k :: l) = (if owner r k = player then 0 else getI s.pits k) + gone r s player l := by
  unfold gone
  by_cases h : owner r k = player <;> simp [h]
theorem tt_mem {r : Rul} {player : Int} {ps : List Int} : ∀ (n : Nat) (x : Int), x ∈ tt r player ps n → 0 ≤ x ∧ x ≤ n
  | 0, x, h => by
    unfold tt at h
    split at h
    · simp at h; omega
    · simp at h
  | n + 1, x, h => by
    unfold tt at h
    split at h
    · rcases List.mem_cons.1 h with rfl | h
      · omega
      · have := tt_mem n x h; omega
    · simp at h
theorem tt_len {r : Rul} {player : Int} {ps : List Int} : ∀ n : Nat, (tt r player ps n).length ≤ n + 1
  | 0 => by unfold tt; split <;> simp
  | n + 1 => by
    unfold tt
    have := tt_len n (r := r) (player := player) (ps := ps)
    split
    · simp; omega
    · simp
theorem taken_mem {r : Rul} {s : Sw} {player : Int} (h1 : s.last < 2 * r.pits) {x : Int} (hx : x ∈ taken r s player) : 0 ≤ x ∧ x < 2 * r.pits := by
  unfold taken at hx
  split at hx
  · simp at hx
  · rename_i h0
    split at hx
    · have := tt_mem _ _ hx; omega
    · split at hx
      · split at hx
        · simp [opp] at hx; omega
        · simp at hx
      · split at hx
        · split at hx
          · simp at hx; omega
          · simp at hx
        · simp at hx
theorem taken_len {r : Rul} {s : Sw} {player : Int} (h1 : s.last < 2 * r.pits) (hb : r.pits ≤ 8) : (taken r s player).length ≤ 16 := by
  unfold taken
  split
  · simp
  · split
    · have := tt_len s.last.toNat (r := r) (player := player) (ps := s.pits); omega
    · split
      · split <;> simp
      · split
        · split <;> simp
        · simp
def takeL (player : Int) : List Int → List Int → List Int → List Int × List Int
  | [], ps, ss => (ps, ss)
  | x :: l, ps, ss => takeL player l (setI ps x 0) (setI ss player (getI ss player + getI ps x))
theorem Good.takeStep {r : Rul} {ps ss : List Int} (h : Good r ps ss 0) {x player : Int} (x0 : 0 ≤ x) (x1 : x < 2 * r.pits) (p0 : 0 ≤ player) (p1 : player < 2) :
    Good r (setI ps x 0) (setI ss player (getI ss player + getI ps x)) 0 := by
  have hl := h.lp
  have hs := h.ls
  have a := (h.pit x).1
  have b := (h.store player).1
  exact ⟨by simpa using h.lp, by simpa using h.ls, nn_setI h.np x (by omega), nn_setI h.ns player (by omega), by omega, by rw [isum_setI x0 (by omega), isum_setI p0 (by omega)]; have := h.all; omega⟩
theorem getI_setI_other {l : List Int} {k j : Int} (h0 : 0 ≤ k) (h1 : 0 ≤ j) (h : k ≠ j) (v : Int) : getI (setI l k v) j = getI l j := by
  have : k.toNat ≠ j.toNat := by omega
  simp [getI, setI, nth, List.getD, List.getElem?_set, this]
theorem setI_setI (l : List Int) (k v u : Int) : setI (setI l k v) k u = setI l k u := by simp [setI, List.set_set]
theorem takeL_eq {player : Int} (p0 : 0 ≤ player) : ∀ (l ps ss : List Int), l.Nodup → (∀ x ∈ l, 0 ≤ x) → player < ss.length →
    takeL player l ps ss = (zeros l ps, setI ss player (getI ss player + isum (l.map (getI ps))))
  | [], ps, ss, _, _, hs => by
    have : player.toNat < ss.length := by omega
    simp [takeL, zeros, setI, getI, nth, List.getD, this]
  | x :: l, ps, ss, hn, h0, hs => by
    have hx := h0 x (by simp)
    have hn' := List.nodup_cons.1 hn
    rw [takeL, takeL_eq p0 l _ _ hn'.2 (fun y hy => h0 y (by simp [hy])) (by simpa using hs), getI_setI_same p0 hs, setI_setI]
    have e : l.map (getI (setI ps x 0)) = l.map (getI ps) := List.map_congr_left fun y hy => getI_setI_other hx (h0 y (by simp [hy])) (fun e => hn'.1 (e ▸ hy)) 0
    rw [e]
    simp [zeros, Int.add_assoc]
theorem tt_nodup {r : Rul} {player : Int} {ps : List Int} : ∀ n : Nat, (tt r player ps n).Nodup
  | 0 => by unfold tt; split <;> simp
  | n + 1 => by
    unfold tt
    split
    · refine List.nodup_cons.2 ⟨fun h => ?_, tt_nodup n⟩
      have := tt_mem _ _ h; omega
    · simp
theorem taken_nodup (r : Rul) (s : Sw) (player : Int) : (taken r s player).Nodup := by
  unfold taken
  split
  · simp
  · split
    · exact tt_nodup _
    · split
      · split
        · simp [opp]; omega
        · simp
      · split
        · split <;> simp
        · simp
theorem captured_nodup (r : Rul) (s : Sw) (player : Int) : (captured r s player).Nodup := by
  unfold captured; split
  · simp
  · exact taken_nodup r s player
theorem captured_mem {r : Rul} {s : Sw} {player : Int} (h1 : s.last < 2 * r.pits) {x : Int} (hx : x ∈ captured r s player) : 0 ≤ x ∧ x < 2 * r.pits := by
  unfold captured at hx; split at hx
  · simp at hx
  · exact taken_mem h1 hx
theorem captured_len {r : Rul} {s : Sw} {player : Int} (h1 : s.last < 2 * r.pits) (hb : r.pits ≤ 8) : (captured r s player).length ≤ 16 := by
  unfold captured; split
  · simp
  · exact taken_len h1 hb
theorem take_eq {r : Rul} {s : Sw} {player : Int} (h1 : s.last < 2 * r.pits) (p0 : 0 ≤ player) (hs : player < s.stores.length) :
    takeL player (captured r s player) s.pits s.stores = ((take r s player).pits, (take r s player).stores) :=
  takeL_eq p0 _ _ _ (captured_nodup r s player) (fun x hx => (captured_mem h1 hx).1) hs
end Go.Proofs.YtjklnidbndopiaaGreatDoor.M

/- Lists of structs that own nothing, lists in structs in lists. -/
import Derived.Test.YtjklnidbndopiaaGreatDoorZbA2
import Derived.Test.YtjklnidbndopiaaGreatDoorZbA0
import Derived.MapKept
set_option linter.unusedSimpArgs false
set_option linter.unusedVariables false
namespace Go.Proofs.YtjklnidbndopiaaGreatDoor
open Go.RowKit
def fltV {α : Type} (C : α → List Value) (xs : List α) : List Value := xs.flatMap C
class FltL {α : Type} (F : List α → List Ty) (C : outParam (α → List Value)) (n : outParam Nat) : Prop where
  own : ∀ w xs, cellsOwn w (F xs) (fltV C xs) []
  uniq : ∀ w xs vs f, cellsOwn w (F xs) vs f → vs = fltV C xs ∧ f = []
  ok : ∀ w xs vs, cellsOk w (F xs) vs → vs = fltV C xs
  one : ∀ xs, (fltV C xs).all (·.oneCell') = true
  lenC : ∀ x, (C x).length = n
  lenF : ∀ xs, (F xs).length = xs.length * n
  pos : 0 < n
theorem flt_mk {α : Type} (T : α → List Ty) (C : α → List Value) (n : Nat) (h1 : ∀ w x, cellsOwn w (T x) (C x) []) (h2 : ∀ w x vs f, cellsOwn w (T x) vs f → vs = C x ∧ f = []) (h3 : ∀ w x vs, cellsOk w (T x) vs → vs = C x) (h4 : ∀ x, (C x).all (·.oneCell') = true) (h5 : ∀ x, (C x).length = n) (h6 : ∀ x, (T x).length = n) (h7 : 0 < n) :
    FltL (fun xs => xs.flatMap T) C n where
  own w xs := by
    induction xs with
    | nil => rfl
    | cons x xs ih => exact (h1 w x).append ih
  uniq w xs := by
    induction xs with
    | nil => intro vs f h; cases vs with
      | nil => exact ⟨rfl, h⟩
      | cons => exact h.elim
    | cons x xs ih =>
      intro vs f h
      have hl : vs.length = (T x).length + (xs.flatMap T).length := by have := cellsOwn.length h; simpa using this
      have key : ∀ (Ts Us : List Ty) (vs : List Value) (f : List Nat), cellsOwn w (Ts ++ Us) vs f → ∃ f1 f2, f = f1 ++ f2 ∧ cellsOwn w Ts (vs.take Ts.length) f1 ∧ cellsOwn w Us (vs.drop Ts.length) f2 := by
        intro Ts
        induction Ts with
        | nil => intro Us vs f h; exact ⟨[], f, rfl, by simp [cellsOwn], h⟩
        | cons T Ts ih =>
          intro Us vs f h
          cases vs with
          | nil => exact h.elim
          | cons v vs =>
            obtain ⟨g1, g2, rfl, a, b⟩ := h
            obtain ⟨k1, k2, rfl, c, d⟩ := ih Us vs g2 b
            exact ⟨g1 ++ k1, k2, by simp, ⟨g1, k1, rfl, a, c⟩, d⟩
      obtain ⟨f1, f2, rfl, a, b⟩ := key (T x) (xs.flatMap T) vs f h
      obtain ⟨e1, rfl⟩ := h2 w x _ _ a
      obtain ⟨e2, rfl⟩ := ih _ _ b
      refine ⟨?_, rfl⟩
      rw [← List.take_append_drop (T x).length vs, e1, e2]; rfl
  ok w xs := by
    induction xs with
    | nil => intro vs h; cases vs with
      | nil => rfl
      | cons => exact h.elim
    | cons x xs ih =>
      intro vs h
      have a := h3 w x _ (by have := cellsOk.take (T x).length h; simpa [List.flatMap_cons] using this)
      have b := ih _ (by have := cellsOk.drop (T x).length h; simpa [List.flatMap_cons] using this)
      rw [← List.take_append_drop (T x).length vs, a, b]; rfl
  one xs := by
    rw [List.all_eq_true]; intro v hv
    obtain ⟨x, _, hx⟩ := List.mem_flatMap.1 hv
    exact List.all_eq_true.1 (h4 x) v hx
  lenC := h5
  lenF xs := flat_len' T n h6 xs
  pos := h7
theorem fltV_len {α : Type} {C : α → List Value} {n : Nat} (h : ∀ x, (C x).length = n) (xs : List α) : (fltV C xs).length = xs.length * n := flat_len' C n h xs
theorem fltV_app {α : Type} (C : α → List Value) (xs ys : List α) : fltV C xs ++ fltV C ys = fltV C (xs ++ ys) := by simp [fltV]
theorem fltV_snoc {α : Type} (C : α → List Value) (xs : List α) (y : α) : fltV C xs ++ C y = fltV C (xs ++ [y]) := by simp [fltV]
theorem fltV_at {α : Type} {C : α → List Value} {m k : Nat} {xs : List α} {y : α} (h : ∀ x, (C x).length = m) (hy : xs[k]? = some y) : ((fltV C xs).drop (0 + k * m)).take m = C y := by
  have := flat_cut C m h xs k 1
  rw [Nat.one_mul] at this
  rw [Nat.zero_add, fltV, this]
  obtain ⟨hk, rfl⟩ := List.getElem?_eq_some_iff.1 hy
  rw [List.drop_eq_getElem_cons hk]
  simp only [List.take_succ_cons, List.take_zero, List.flatMap_cons, List.flatMap_nil, List.append_nil]
theorem fltV_set {α : Type} {C : α → List Value} {m k : Nat} {xs : List α} {y : α} (h : ∀ x, (C x).length = m) (hk : k < xs.length) : setL (fltV C xs) (0 + k * m) (C y) = fltV C (xs.set k y) := by
  have h1 := flat_cut C m h xs 0 k
  have h2 := flat_cut C m h xs (k + 1) (xs.length - (k + 1))
  have hl := fltV_len h xs
  have hb : (k + 1) * m ≤ xs.length * m := Nat.mul_le_mul_right m hk
  unfold setL
  rw [Nat.zero_add, h]
  have e1 : (fltV C xs).take (k * m) = (xs.take k).flatMap C := by simpa [fltV] using h1
  have e2 : (fltV C xs).drop (k * m + m) = (xs.drop (k + 1)).flatMap C := by
    have e : (xs.length - (k + 1)) * m = (fltV C xs).length - (k * m + m) := by rw [hl, Nat.sub_mul, Nat.succ_mul]
    rw [e, Nat.succ_mul] at h2
    rw [List.take_of_length_le (by simp [fltV]), List.take_of_length_le (by simp)] at h2
    exact h2
  rw [e1, e2, List.set_eq_take_append_cons_drop, if_pos hk]
  simp [fltV]
theorem fltV_cell {α : Type} {C : α → List Value} {m k j : Nat} {xs : List α} {y y' : α} {v : Value} (h : ∀ x, (C x).length = m) (hy : xs[k]? = some y) (hj : j < m) (hs : (C y).set j v = C y') : setL (fltV C xs) (0 + k * m + j) [v] = fltV C (xs.set k y') := by
  have hk := (List.getElem?_eq_some_iff.1 hy).1
  have hl := fltV_len h xs
  have hb : (k + 1) * m ≤ xs.length * m := Nat.mul_le_mul_right m hk
  rw [Nat.succ_mul] at hb
  rw [setL_at (fltV_at h hy) hj (by rw [hl]; omega) hs, fltV_set h hk]
theorem fltV_lt {α : Type} {C : α → List Value} {m k j s : Nat} {xs : List α} (h : ∀ x, (C x).length = m) (hk : k < xs.length) (hj : j + s ≤ m) : 0 + k * m + j + s ≤ (fltV C xs).length := by
  have hl := fltV_len h xs
  have hb : (k + 1) * m ≤ xs.length * m := Nat.mul_le_mul_right m hk
  rw [Nat.succ_mul] at hb; omega
theorem repL_flt {α : Type} {C : α → List Value} {z : List Value} {x : α} (h : C x = z) : ∀ m : Nat, repL z m = fltV C (List.replicate m x)
  | 0 => rfl
  | m + 1 => by rw [repL, repL_flt h m, List.replicate_succ', ← fltV_snoc, h]
instance (priority := high) {α : Type} (F : List α → List Ty) (C : α → List Value) (e sz : Nat) (xs : List α) [h : FltL F C sz] : Elm (Ty.sl e sz xs.length (F xs)) (fun K os => ∀ A c, xs.length ≤ c → c ≤ 9223372036854775807 → K (.slice A xs.length c) (rowO e sz (.slice A xs.length c) xs.length (fltV C xs) [] :: os)) :=
  ⟨fun K os k w v fp ho => by
    obtain ⟨ow, ⟨A, c, vs, f, rfl, rfl, h1, h2⟩, he, hp⟩ := Spl.sl e sz xs.length (F xs) w v fp ho
    have h3 : cellsOwn w (F xs) vs f := hp (ownC (F xs) vs f) (by simp)
    obtain ⟨rfl, rfl⟩ := h.uniq w xs vs f h3
    exact ⟨[rowO e sz (.slice A xs.length c) xs.length (fltV C xs) []], k A c h1 h2, by rw [he]; simp [ownC], fun o ho' => hp o (by simp at ho'; simp [ho'])⟩⟩
section
variable {P : Program} {n lo : Nat} {B : List Nat} {Q : Exit → Act → World → Prop} {cs : List Code} {K : Act → World → Prop} {ops : Array Oper} {rest : List Oper} {l : Fr} {os os' os1 : List Own} {u : World} {ty : TypeId} {pos : String} {af : Array Edge} {gd : Option (Nat × Bool)} {dst : Option Tmp} {v : Value} {d : Nat} {x y : Operand} {c : Bool} {o : Oper}
  {u₀ : World} {os₀ : List Own} {nm : List Nat} {fuel i : Nat} {listed : Array Bool} {z : Bool}
theorem gv_flat {α : Type} (F : List α → List Ty) {C : α → List Value} {e sz m : Nat} {vs : List Value} {xs ys : List α} {g : List Nat} [h : FltL F C sz] (hp : PickO os (rowO e sz v m vs g) os') (hv : vs = fltV C xs) (hx : xs = ys) : Gv os (Ty.sl e sz ys.length (F ys)) v os' := by
  subst hx; subst hv
  refine gv_of hp fun w hr => ⟨v.ownBlock.toList ++ [], g, ?_, by simp [rowO]⟩
  have hr : w.ownsRow 0 e sz v m (fltV C xs) := hr
  have hm : m = xs.length := Nat.eq_of_mul_eq_mul_right h.pos (by rw [← hr.1, fltV_len h.lenC])
  subst hm
  exact ⟨h.lenF xs, _, _, hr, rfl, h.own w xs⟩
class UnpV (T : Ty) (v : Value) (E : outParam ((List Own → Prop) → List Own → Prop)) : Prop where
  h : ∀ K os, E K os → ∀ w fp, T.own w v fp → ∃ ow, K (ow ++ os) ∧ fp.Perm (ow.flatMap (·.fp)) ∧ ∀ o ∈ ow, o.pr w
class UnpL (Ts : List Ty) (vs : List Value) (E : outParam ((List Own → Prop) → List Own → Prop)) : Prop where
  h : ∀ K os, E K os → ∀ w fp, cellsOwn w Ts vs fp → ∃ ow, K (ow ++ os) ∧ fp.Perm (ow.flatMap (·.fp)) ∧ ∀ o ∈ ow, o.pr w
instance (x v : Value) : UnpV (Ty.val x) v (fun K os => K os) := ⟨fun K os h w fp ⟨_, e2⟩ => ⟨[], h, by rw [e2]; exact List.Perm.refl _, by simp⟩⟩
instance (x : Int) (v : Value) : UnpV (Ty.int x) v (fun K os => K os) := inferInstanceAs (UnpV (Ty.val _) _ _)
instance (x : Bool) (v : Value) : UnpV (Ty.bool x) v (fun K os => K os) := inferInstanceAs (UnpV (Ty.val _) _ _)
instance (x : List UInt8) (v : Value) : UnpV (Ty.str x) v (fun K os => K os) := inferInstanceAs (UnpV (Ty.val _) _ _)
instance (e : TypeId) (xs : List Int) (A : Option Addr) (m c : Nat) : UnpV (Ty.ints e xs) (.slice A m c) (fun K os => K (rowO e 1 (.slice A m c) m (ints_ xs) [] :: os)) :=
  ⟨fun K os k w fp ho => by
    obtain ⟨h1, h2⟩ := ints_open ho
    exact ⟨[_], k, by rw [h2]; simp, fun o ho' => by simp at ho'; subst ho'; exact h1⟩⟩
instance (e sz n : Nat) (Ts : List Ty) (A : Option Addr) (m c : Nat) : UnpV (Ty.sl e sz n Ts) (.slice A m c) (fun K os => ∀ vs f, K (rowO e sz (.slice A m c) m vs [] :: ownC Ts vs f :: os)) :=
  ⟨fun K os k w fp ho => by
    obtain ⟨A', c', he, _, _⟩ := sl_form ((Ty.sl e sz n Ts).ownok ho)
    injection he with _ he _
    subst he
    obtain ⟨_, vs, f, h3, h4, h5⟩ := ho
    refine ⟨[rowO e sz (.slice A m c) m vs [], ownC Ts vs f], k vs f, by rw [h4]; simp [rowO, ownC], fun o ho' => ?_⟩
    simp only [List.mem_cons, List.not_mem_nil, or_false] at ho'
    rcases ho' with rfl | rfl
    · exact h3
    · exact h5⟩
instance (priority := high) {α : Type} (F : List α → List Ty) (C : α → List Value) (e sz : Nat) (xs : List α) (A : Option Addr) (m c : Nat) [hf : FltL F C sz] : UnpV (Ty.sl e sz xs.length (F xs)) (.slice A m c) (fun K os => K (rowO e sz (.slice A m c) m (fltV C xs) [] :: os)) :=
  ⟨fun K os k w fp ho => by
    obtain ⟨A', c', he, _, _⟩ := sl_form ((Ty.sl e sz xs.length (F xs)).ownok ho)
    injection he with _ he _
    subst he
    obtain ⟨_, vs, f, h3, h4, h5⟩ := ho
    obtain ⟨rfl, rfl⟩ := hf.uniq w xs vs f h5
    exact ⟨[rowO e sz (.slice A xs.length c) xs.length (fltV C xs) []], k, by rw [h4]; simp [rowO], fun o ho' => by simp at ho'; subst ho'; exact h3⟩⟩
instance : UnpL [] [] (fun K os => K os) := ⟨fun K os k w fp ho => ⟨[], k, by rw [show fp = [] from ho]; exact List.Perm.refl _, by simp⟩⟩
instance (T : Ty) (Ts : List Ty) (v : Value) (vs : List Value) (E1 E2 : (List Own → Prop) → List Own → Prop) [h1 : UnpV T v E1] [h2 : UnpL Ts vs E2] : UnpL (T :: Ts) (v :: vs) (fun K os => E1 (fun os1 => E2 K os1) os) :=
  ⟨fun K os k w fp ho => by
    obtain ⟨f1, f2, rfl, ho1, ho2⟩ := ho
    obtain ⟨w1, k1, p1, q1⟩ := h1.h _ _ k w f1 ho1
    obtain ⟨w2, k2, p2, q2⟩ := h2.h _ _ k1 w f2 ho2
    refine ⟨w2 ++ w1, by rw [List.append_assoc]; exact k2, ?_, fun o ho => (List.mem_append.1 ho).elim (q2 o) (q1 o)⟩
    rw [List.flatMap_append]
    exact (p1.append p2).trans List.perm_append_comm⟩
theorem unpS {i : Nat} {Ts : List Ty} {vs : List Value} {f : List Nat} {E : (List Own → Prop) → List Own → Prop} (hp : PickI os i (ownC Ts vs f) os1) [h : UnpL Ts vs E] {K : List Own → Prop} (k : E K os1) {w : World} (hw : St lo B u w os) : ∃ os', K os' ∧ St lo B u w os' := by
  have h1 : St lo B u w (ownC Ts vs f :: os1) := hw.swap hp.perm.symm
  obtain ⟨ow, hk, hperm, hpr⟩ := h.h K os1 k w f (h1.prs (ownC Ts vs f) (by simp))
  refine ⟨_, hk, h1.conv (fun o ho => ?_) ?_⟩
  · rcases List.mem_append.1 ho with ho | ho
    · exact hpr o ho
    · exact h1.prs o (by simp [ho])
  · simp only [List.flatMap_append, List.flatMap_cons, ownC]
    exact List.Perm.append_right _ hperm.symm
theorem Js.unp (i : Nat) {Ts : List Ty} {vs : List Value} {f : List Nat} {E : (List Own → Prop) → List Own → Prop} [h : UnpL Ts vs E] (k : E (fun os' => Js P n lo B Q cs l os' u) os1) (hp : PickI os i (ownC Ts vs f) os1 := by exact pi_) : Js P n lo B Q cs l os u := fun a w ha hw =>
  let ⟨_, h1, h2⟩ := unpS hp k hw; h1 a w ha h2
theorem JL.unp (i : Nat) {Ts : List Ty} {vs : List Value} {f : List Nat} {E : (List Own → Prop) → List Own → Prop} [h : UnpL Ts vs E] (k : E (fun os' => JL P n lo B K ops rest l os' u) os1) (hp : PickI os i (ownC Ts vs f) os1 := by exact pi_) : JL P n lo B K ops rest l os u := fun a w ha hw =>
  let ⟨_, h1, h2⟩ := unpS hp k hw; h1 a w ha h2
theorem pkS {Ts : List Ty} {vs : List Value} (h : Gv os (Ty.agg Ts) (.agg vs.toArray) os1) {w : World} (hw : St lo B u w os) : ∃ f G, St lo B u w (ownC Ts vs f :: anyO G :: os1) := by
  obtain ⟨fp, g, ⟨vs', e, hc⟩, hperm, hpr⟩ := h w hw.prs
  have e : vs = vs' := by injection e with e; simpa using e
  subst e
  refine ⟨fp, g, hw.conv (fun o ho => ?_) ?_⟩
  · simp only [List.mem_cons] at ho
    rcases ho with rfl | rfl | ho
    · exact hc
    · trivial
    · exact hpr o ho
  · simpa [ownC, anyO] using hperm
theorem Js.pk (Ts : List Ty) (vs : List Value) (k : ∀ f G, Js P n lo B Q cs l (ownC Ts vs f :: anyO G :: os1) u) (h : Gv os (Ty.agg Ts) (.agg vs.toArray) os1 := by exact gv_) : Js P n lo B Q cs l os u := fun a w ha hw =>
  let ⟨f, G, h2⟩ := pkS h hw; k f G a w ha h2
theorem JL.pk (Ts : List Ty) (vs : List Value) (k : ∀ f G, JL P n lo B K ops rest l (ownC Ts vs f :: anyO G :: os1) u) (h : Gv os (Ty.agg Ts) (.agg vs.toArray) os1 := by exact gv_) : JL P n lo B K ops rest l os u := fun a w ha hw =>
  let ⟨f, G, h2⟩ := pkS h hw; k f G a w ha h2
theorem St.nilRowS {w : World} (e sz : TypeId) (h : St lo B u w os) : St lo B u w (rowO e sz (.slice none 0 0) 0 [] [] :: os) :=
  h.conv (fun o ho => by
    rcases List.mem_cons.1 ho with rfl | ho
    · exact World.ownsRow_nil w 0 e sz
    · exact h.prs o ho) (by simp [rowO, Value.ownBlock])
theorem e_mk {t e sz by' m : Nat} {zz : List Value} {a0 : Int} (ht : elOf P t = some (e, sz, by', zz)) (hb : Nat.ble by' 64 = true) (hzl : Nat.beq zz.length sz = true) (hx : opd l x = some (.int .i64 a0)) (hy : opd l y = some (.int .i64 a0)) (ha0 : a0 = (m : Int)) (hm : m * sz ≤ 16777216) (hs : Nat.blt 0 sz = true) :
    OpE P n lo B l os u ⟨dst, .makeSlice t x y, ty, pos, af, gd⟩ true (fun v' os' u' => ∃ b, v' = .slice (some ⟨b, 0, none⟩) m m ∧ os' = rowO e sz (.slice (some ⟨b, 0, none⟩) m m) m (repL zz m) [] :: os ∧ u = u') := fun a w ha hw K Q hk => by
  subst ha0
  have hb : by' ≤ 64 := by simpa [Nat.ble_eq] using hb
  have hzl : zz.length = sz := by simpa [Nat.beq_eq] using hzl
  have hs : 0 < sz := by simpa [Nat.blt_eq] using hs
  have hm2 : m ≤ 16777216 := by
    have : m * 1 ≤ m * sz := Nat.mul_le_mul_left m hs
    omega
  unfold elOf at ht
  split at ht
  · rename_i e' hu
    split at ht
    · rename_i i' hi'
      split at ht
      · rename_i zv hzz
        simp only [Option.some.injEq, Prod.mk.injEq] at ht
        obtain ⟨rfl, rfl, rfl, hz⟩ := ht
        have hz' : zv.cells = zz.toArray := by
          have := congrArg List.toArray hz
          simpa using this
        have hbm : i'.bytes * m ≤ 281474976710656 := by
          have : i'.bytes * m ≤ 64 * m := Nat.mul_le_mul_right m hb
          omega
        have hb63 : (i'.bytes : Int) * (m : Int) ≤ 281474976710656 := by
          have h9 : ((i'.bytes * m : Nat) : Int) ≤ 281474976710656 := by omega
          rwa [Int.natCast_mul] at h9
        have hr := run_makeSlice (P := P) w t e' i' zv hu hi' hzz .i64 .i64 (m : Int) (m : Int) (by omega) (by omega) (by rw [Int.toNat_natCast]; exact hm) hb63 (by omega)
        have hcells : madeCells zv.cells ((m : Int).toNat * i'.size) = (repL zz m).toArray := by
          rw [hz', Int.toNat_natCast, ← hzl]
          exact zeros_eq zz (by omega) m
        rw [hcells] at hr
        have hr' : (execOp a.eval ⟨dst, .makeSlice t x y, ty, pos, af, gd⟩).run P w = .ok (.value (.slice (some ⟨w.heap.size, 0, none⟩) m m)) (w.alloc (.cells (repL zz m).toArray e')) := by
          simp [execOp, ha.eval hx, ha.eval hy, hr]
        unfold Oper.wp
        rw [hr']
        refine hk _ _ u _ ⟨_, rfl, rfl, rfl⟩ (Up.refl lo u) (hw.newRow e' i'.size m _ (by rw [repL_length, hzl]) (by unfold maxLen; omega)) (fun _ => (Ext.refl w).alloc _)
      · simp at ht
    · simp at ht
  · simp at ht
theorem zmkF {α : Type} (C : α → List Value) (x0 : α) {t e sz by' m : Nat} {zz : List Value} {a0 : Int} [ht : ElI P t e sz by' zz] (ha0 : a0 = (m : Int)) (hm : m * sz ≤ 16777216) (k : ∀ b, JL P n lo B K ops rest ((d, .slice (some ⟨b, 0, none⟩) m m) :: l) (rowO e sz (.slice (some ⟨b, 0, none⟩) m m) m (fltV C (List.replicate m x0)) [] :: os) u)
    (hz : C x0 = zz := by rfl) (hb : Nat.ble by' 64 = true := by rfl) (hzl : Nat.beq zz.length sz = true := by rfl) (hs : Nat.blt 0 sz = true := by rfl) (hx : opd l x = some (.int .i64 a0) := by rfl) (hy : opd l y = some (.int .i64 a0) := by rfl) (hn : Nat.blt d n = true := by rfl) :
    JL P n lo B K ops (⟨some d, .makeSlice t x y, ty, pos, af, none⟩ :: rest) l os u := JL.e (e_mk ht.h hb hzl hx hy ha0 hm hs) (by rintro _ _ _ ⟨b, rfl, rfl, rfl⟩ _; rw [repL_flt hz]; exact k b) rfl rfl hn
theorem JH.pgT (i : Nat) {o : Oper} (hi : ops[i]? = some o) (hg : Gd ops l o c) (hc : c = true) (h : OpP P n l o v) (k : JH P n lo B K ops u₀ os₀ nm fuel (listed.setIfInBounds i true) z ((d, v) :: l) os u) (hs : Region.noSelect ops = true := by kernel_rfl) (hf : freeB ops i = true := by kernel_rfl) (hr : (Region.ready .any ops listed).contains i = true := by kernel_rfl) (hd : o.dst = some d := by rfl) (hn : Nat.blt d n = true := by rfl) : JH P n lo B K ops u₀ os₀ nm (fuel + 1) listed z l os u :=
  JH.pg i hi hg (fun _ => h) (by subst hc; exact k) hs hf hr hd hn
theorem JH.qgT (i : Nat) {o : Oper} (hi : ops[i]? = some o) (hg : Gd ops l o c) (hc : c = true) (h : OpQ P n lo B l os₀ u₀ o v) (k : JH P n lo B K ops u₀ os₀ nm fuel (listed.setIfInBounds i true) true ((d, v) :: l) os u) (hs : Region.noSelect ops = true := by kernel_rfl) (hf : freeB ops i = true := by kernel_rfl) (hwt : waitB ops i nm listed = true := by kernel_rfl) (hr : (Region.ready .any ops listed).contains i = true := by kernel_rfl) (hd : o.dst = some d := by rfl) (hn : Nat.blt d n = true := by rfl) : JH P n lo B K ops u₀ os₀ nm (fuel + 1) listed true l os u :=
  JH.qg i hi hg (fun _ => h) (by subst hc; exact k) hs hf hwt hr hd hn
theorem JHo.qgT {o : Oper} (hi : ops[i]? = some o) (hg : Gd ops l o c) (hc : c = true) (h : OpQ P n lo B l os u o v) (k : JH P n lo B K ops u₀ os₀ nm fuel (listed.setIfInBounds i true) z ((d, v) :: l) os u) (hd : o.dst = some d := by rfl) (hn : Nat.blt d n = true := by rfl) : JHo P n lo B K ops u₀ os₀ nm fuel listed z l os u i :=
  JHo.qg hi hg (fun _ => h) (by subst hc; exact k) hd hn
theorem yvT {f : FuncId} {xs : List Operand} {ts : Array TypeId} {vs : List Value} [hf : FnI P f] (hi : ops[i]? = some ⟨some d, .call { callee := .value (.func f), args := xs.toArray, argTypes := ts }, ty, pos, af, gd⟩) (hg : Gd ops l ⟨some d, .call { callee := .value (.func f), args := xs.toArray, argTypes := ts }, ty, pos, af, gd⟩ c) (h0 : c = true) (hx : opds l xs = some vs) (hc : ∀ w, St lo B u w os → RetV P f vs w v) (k : JH P n lo B K ops u₀ os₀ nm fuel (listed.setIfInBounds i true) (z && true) ((d, v) :: l) os u) (hn : Nat.blt d n = true := by rfl) :
    JHo P n lo B K ops u₀ os₀ nm fuel listed z l os u i := JHo.eT hi hg h0 (e_callV hf.h hx hc) (.inl rfl) (by rintro _ _ _ ⟨rfl, rfl, rfl⟩ _; exact k) rfl hn
theorem ycT {f : FuncId} {xs : List Operand} {ts : Array TypeId} {vs : List Value} {T : Ty} {E : (Value → List Own → Prop) → List Own → Prop} [hf : FnI P f] (hi : ops[i]? = some ⟨some d, .call { callee := .value (.func f), args := xs.toArray, argTypes := ts }, ty, pos, af, gd⟩) (hg : Gd ops l ⟨some d, .call { callee := .value (.func f), args := xs.toArray, argTypes := ts }, ty, pos, af, gd⟩ c) (h0 : c = true) (hx : opds l xs = some vs) (hc : ∀ w, St lo B u w os → Ret P f vs w T) [he : Elm T E] (k : E (fun v os' => JH P n lo B K ops u₀ os₀ nm fuel (listed.setIfInBounds i true) (z && true) ((d, v) :: l) os' u) os) (hn : Nat.blt d n = true := by rfl) :
    JHo P n lo B K ops u₀ os₀ nm fuel listed z l os u i := JHo.eT hi hg h0 (e_callE hf.h hx hc k) (.inl rfl) (by rintro _ _ _ ⟨h, rfl⟩ _; exact h) rfl hn
end
end Go.Proofs.YtjklnidbndopiaaGreatDoor
namespace Go.Proofs.YtjklnidbndopiaaGreatDoor.M
structure Cho where
  move : Int
  games : Int
  score : Int
  deriving DecidableEq
structure Ent where
  pits : List Int
  choices : List Cho
  deriving DecidableEq
structure Boo where
  rules : Rul
  entries : List Ent
  deriving DecidableEq
def Cho.zero : Cho := ⟨0, 0, 0⟩
def Ent.zero : Ent := ⟨[], []⟩
def Boo.zero : Boo := ⟨Rul.zero, []⟩
def cho (cs : List Cho) (k : Nat) : Cho := cs.getD k Cho.zero
def ent (es : List Ent) (k : Nat) : Ent := es.getD k Ent.zero
theorem cho_get {cs : List Cho} {k : Nat} (h : k < cs.length) : cs[k]? = some (cho cs k) := by simp [cho, List.getD, h]
theorem ent_get {es : List Ent} {k : Nat} (h : k < es.length) : es[k]? = some (ent es k) := by simp [ent, List.getD, h]
theorem ent_mem {es : List Ent} {k : Nat} (h : k < es.length) : ent es k ∈ es := List.mem_of_getElem? (ent_get h)
structure Prb where
  kind : Int
  at1 : Int
  word : List UInt8
deriving DecidableEq
def Prb.zero : Prb := ⟨0, 0, []⟩
structure Fct where
  kind : Int
  place : Int
  count : Int
deriving DecidableEq
def Fct.zero : Fct := ⟨0, 0, 0⟩
def fct (l : List Fct) (k : Nat) : Fct := l.getD k Fct.zero
theorem fct_get {l : List Fct} {k : Nat} (h : k < l.length) : l[k]? = some (fct l k) := by simp [fct, List.getD, h]
def blt (l : List Bool) (k : Nat) : Bool := l.getD k false
theorem blt_get {l : List Bool} {k : Nat} (h : k < l.length) : l[k]? = some (blt l k) := by simp [blt, List.getD, h]
end Go.Proofs.YtjklnidbndopiaaGreatDoor.M
namespace Go.Proofs.YtjklnidbndopiaaGreatDoor
open Go.RowKit
end Go.Proofs.YtjklnidbndopiaaGreatDoor
namespace Go.Proofs.YtjklnidbndopiaaGreatDoor.M
def joinN (l : List Int) : Nat → List UInt8
  | 0 => []
  | k + 1 => (if 0 < k then joinN l k ++ [44] else joinN l k) ++ dec (nth l k)
def joinT (l : List Int) : List UInt8 := joinN l l.length
theorem joinN_len (l : List Int) : ∀ k : Nat, (joinN l k).length ≤ 22 * k
  | 0 => by simp [joinN]
  | k + 1 => by
    have h1 := joinN_len l k; have h2 := dec_len (nth l k)
    rw [joinN]; split <;> simp only [List.length_append, List.length_cons, List.length_nil] <;> omega
theorem joinN_p {l : List Int} {o : List UInt8} {k : Nat} (h : o = joinN l k) (hk : 0 < k) : (o ++ [44]) ++ dec (nth l k) = joinN l (k + 1) := by rw [joinN, if_pos hk, h]
theorem joinN_z {l : List Int} {o : List UInt8} {k : Nat} (h : o = joinN l k) (hk : ¬ 0 < k) : o ++ dec (nth l k) = joinN l (k + 1) := by rw [joinN, if_neg hk, h]
theorem joinN_big {l : List Int} {o : List UInt8} {k : Nat} (h : o = joinN l k) (hk : k ≤ 4194304) : o.length ≤ 92274688 := by rw [h]; have := joinN_len l k; omega
theorem joinN_e {l : List Int} {o : List UInt8} {k : Nat} (h : o = joinN l k) (hk : l.length ≤ k) (hk2 : k ≤ l.length) : o = joinT l := by rw [h, joinT, Nat.le_antisymm hk hk2]
theorem joinT_len (l : List Int) : (joinT l).length ≤ 22 * l.length := joinN_len l _
def Rng (l : List Int) : Prop := ∀ a ∈ l, -9223372036854775808 ≤ a ∧ a ≤ 9223372036854775807
theorem Rng.nth {l : List Int} (h : Rng l) (k : Nat) : -9223372036854775808 ≤ nth l k ∧ M.nth l k ≤ 9223372036854775807 := by
  by_cases hk : k < l.length
  · exact h _ (nth_mem hk)
  · simp [M.nth, List.getD, List.getElem?_eq_none (Nat.le_of_not_lt hk)]
theorem Rng.ok {l : List Int} (h : allOk l = true) : Rng l := fun a ha => by
  unfold allOk at h; rw [List.all_eq_true] at h
  have := betw_iff.1 (h _ ha); omega
theorem Rng.take {l : List Int} (h : Rng l) (k : Nat) : Rng (l.take k) := fun a ha => h a (List.mem_of_mem_take ha)
theorem Rng.drop {l : List Int} (h : Rng l) (k : Nat) : Rng (l.drop k) := fun a ha => h a (List.mem_of_mem_drop ha)
def capNames : List (List UInt8) := [[110, 111, 110, 101], [116, 119, 111, 45, 116, 104, 114, 101, 101], [99, 114, 111, 115, 115], [101, 118, 101, 110]]
def slamNames : List (List UInt8) := [[116, 97, 107, 101], [102, 111, 114, 98, 105, 100], [110, 111, 116, 104, 105, 110, 103]]
def fNames : List (List UInt8) := [[115, 116, 111, 114, 101, 115], [115, 107, 105, 112], [114, 101, 108, 97, 121], [102, 101, 101, 100], [97, 103, 97, 105, 110]]
def fieldNames : List (List UInt8) := [[112, 105, 116, 115], [115, 101, 101, 100, 115], [115, 116, 111, 114, 101, 115], [115, 107, 105, 112], [114, 101, 108, 97, 121], [102, 101, 101, 100], [97, 103, 97, 105, 110], [99, 97, 112, 116, 117, 114, 101], [115, 108, 97, 109]]
def capName (k : Int) : List UInt8 := if k = 0 then [110, 111, 110, 101] else if k = 1 then [116, 119, 111, 45, 116, 104, 114, 101, 101] else if k = 2 then [99, 114, 111, 115, 115] else if k = 3 then [101, 118, 101, 110] else []
def slamName (k : Int) : List UInt8 := if k = 0 then [116, 97, 107, 101] else if k = 1 then [102, 111, 114, 98, 105, 100] else if k = 2 then [110, 111, 116, 104, 105, 110, 103] else []
theorem okR_all {r : Rul} (h : okR r = true) : 2 ≤ r.pits ∧ r.pits ≤ 8 ∧ 1 ≤ r.seeds ∧ r.seeds ≤ 6 ∧ 0 ≤ r.capture ∧ r.capture ≤ 3 ∧ 0 ≤ r.slam ∧ r.slam ≤ 2 := by
  simp only [okR, Bool.and_eq_true, betw_iff] at h; omega
theorem capName_len (k : Int) : (capName k).length ≤ 9 := by unfold capName; (repeat' split) <;> simp
theorem slamName_len (k : Int) : (slamName k).length ≤ 7 := by unfold slamName; (repeat' split) <;> simp
theorem capName_get {k : Int} {y : List UInt8} (h0 : 0 ≤ k) (h : capNames[k.toNat]? = some y) : y = capName k := by
  have hl : k.toNat < 4 := (List.getElem?_eq_some_iff.1 h).1
  have : k = 0 ∨ k = 1 ∨ k = 2 ∨ k = 3 := by omega
  rcases this with rfl | rfl | rfl | rfl <;> exact (Option.some.inj h).symm
theorem slamName_get {k : Int} {y : List UInt8} (h0 : 0 ≤ k) (h : slamNames[k.toNat]? = some y) : y = slamName k := by
  have hl : k.toNat < 3 := (List.getElem?_eq_some_iff.1 h).1
  have : k = 0 ∨ k = 1 ∨ k = 2 := by omega
  rcases this with rfl | rfl | rfl <;> exact (Option.some.inj h).symm
def flagIx (y : List UInt8) : Nat := if y = [115, 116, 111, 114, 101, 115] then 2 else if y = [115, 107, 105, 112] then 3 else if y = [114, 101, 108, 97, 121] then 4 else if y = [102, 101, 101, 100] then 5 else if y = [97, 103, 97, 105, 110] then 6 else 99
def flagB (r : Rul) (y : List UInt8) : Bool := if y = [115, 116, 111, 114, 101, 115] then r.stores else if y = [115, 107, 105, 112] then r.skip else if y = [114, 101, 108, 97, 121] then r.relay else if y = [102, 101, 101, 100] then r.feed else if y = [97, 103, 97, 105, 110] then r.again else false
theorem fNames_len {y : List UInt8} (h : y ∈ fNames) : y.length ≤ 6 := by
  have : ∀ x ∈ fNames, x.length ≤ 6 := by decide
  exact this y h
def rulesN (r : Rul) : Nat → List UInt8
  | 0 => [112, 105, 116, 115, 61] ++ dec r.pits ++ [32, 115, 101, 101, 100, 115, 61] ++ dec r.seeds ++ [32, 99, 97, 112, 116, 117, 114, 101, 61] ++ capName r.capture ++ [32, 115, 108, 97, 109, 61] ++ slamName r.slam
  | k + 1 => if flagB r (fNames.getD k []) = true then rulesN r k ++ ([32] ++ fNames.getD k []) else rulesN r k
def rulesT (r : Rul) : List UInt8 := rulesN r 5
def rulesTR (r : Rul) : List UInt8 := if okR r = true then rulesT r else []
theorem rulesTR_yes {r : Rul} (h : okR r = true) : rulesTR r = rulesT r := by unfold rulesTR; rw [if_pos h]
theorem rulesTR_no {r : Rul} (h : okR r = false) : rulesTR r = [] := by unfold rulesTR; rw [if_neg (by simp [h])]
theorem rulesN_len (r : Rul) : ∀ k : Nat, k ≤ 5 → (rulesN r k).length ≤ 120 + 7 * k
  | 0, _ => by
    have a := dec_len r.pits; have c := dec_len r.seeds; have d := capName_len r.capture; have e := slamName_len r.slam
    rw [rulesN]; simp only [List.length_append, List.length_cons, List.length_nil]; omega
  | k + 1, hk => by
    have h1 := rulesN_len r k (by omega)
    have h2 : (fNames.getD k []).length ≤ 6 := by
      have : k = 0 ∨ k = 1 ∨ k = 2 ∨ k = 3 ∨ k = 4 := by omega
      rcases this with rfl | rfl | rfl | rfl | rfl <;> decide
    rw [rulesN]; split <;> first | omega | (simp only [List.length_append, List.length_cons, List.length_nil]; omega)
theorem rulesN_t {r : Rul} {out y : List UInt8} {k : Nat} (h : out = rulesN r k) (hy : fNames[k]? = some y) (hb : flagB r y = true) : out ++ ([32] ++ y) = rulesN r (k + 1) := by
  have e : fNames.getD k [] = y := by rw [List.getD_eq_getElem?_getD, hy]; rfl
  rw [rulesN, e, if_pos hb, h]
theorem rulesN_f {r : Rul} {out y : List UInt8} {k : Nat} (h : out = rulesN r k) (hy : fNames[k]? = some y) (hb : flagB r y = false) : out = rulesN r (k + 1) := by
  have e : fNames.getD k [] = y := by rw [List.getD_eq_getElem?_getD, hy]; rfl
  rw [rulesN, e, if_neg (by simp [hb]), h]
theorem rulesN_e {r : Rul} {out : List UInt8} {k : Nat} (h : out = rulesN r k) (h1 : 5 ≤ k) (h2 : k ≤ 5) : out = rulesT r := by rw [h, rulesT, Nat.le_antisymm h2 h1]
theorem rulesT_len (r : Rul) : (rulesT r).length ≤ 155 := rulesN_len r 5 (Nat.le_refl _)
def bit (x : Bool) : Int := if x = true then 1 else 0
def fieldsL (r : Rul) : List Int := [r.pits, r.seeds, bit r.stores, bit r.skip, bit r.relay, bit r.feed, bit r.again, r.capture, r.slam]
theorem fields_at {r : Rul} {k : Nat} {y : List UInt8} (h1 : 2 ≤ k) (h2 : k ≤ 6) (hy : fieldNames[k]? = some y) : fNames[k - 2]? = some y ∧ nth (fieldsL r) k = bit (flagB r y) := by
  have : k = 2 ∨ k = 3 ∨ k = 4 ∨ k = 5 ∨ k = 6 := by omega
  rcases this with rfl | rfl | rfl | rfl | rfl <;> (obtain rfl := Option.some.inj hy; exact ⟨rfl, rfl⟩)
theorem bit_1 {x : Bool} (h : bit x = 1) : x = true := by cases x <;> simp_all [bit]
theorem bit_0 {x : Bool} (h : ¬ bit x = 1) : x = false := by cases x <;> simp_all [bit]
theorem rulesN_s {r : Rul} {out y : List UInt8} {k : Nat} (h : out = rulesN r (k - 2)) (h1 : 2 ≤ k) (h2 : k ≤ 6) (hy : fieldNames[k]? = some y) (hb : nth (fieldsL r) k = 1) : out ++ ([32] ++ y) = rulesN r (k + 1 - 2) := by
  obtain ⟨a, c⟩ := fields_at (r := r) h1 h2 hy
  have := rulesN_t h a (bit_1 (c ▸ hb))
  rwa [show k - 2 + 1 = k + 1 - 2 by omega] at this
theorem rulesN_n {r : Rul} {out : List UInt8} {k : Nat} (h : out = rulesN r (k - 2)) (h1 : 2 ≤ k) (h2 : k ≤ 6) (hb : ¬ nth (fieldsL r) k = 1) : out = rulesN r (k + 1 - 2) := by
  obtain ⟨y, hy⟩ : ∃ y, fieldNames[k]? = some y := ⟨_, List.getElem?_eq_getElem (by show k < 9; omega)⟩
  obtain ⟨a, c⟩ := fields_at (r := r) h1 h2 hy
  have := rulesN_f h a (bit_0 (c ▸ hb))
  rwa [show k - 2 + 1 = k + 1 - 2 by omega] at this
def recLine (n m g : Int) : List UInt8 := dec n ++ [46, 32] ++ dec m ++ [43] ++ dec g
theorem recLine_len (n m g : Int) : (recLine n m g).length ≤ 66 := by
  have a := dec_len n; have c := dec_len m; have d := dec_len g
  unfold recLine; simp only [List.length_append, List.length_cons, List.length_nil]; omega
def noteT (pl mv gn : Int) (ag : Bool) : List UInt8 :=
  if ag = true then (if 0 < gn then ([112, 108, 97, 121, 101, 114, 32] ++ dec pl ++ [32, 112, 108, 97, 121, 115, 32] ++ dec mv) ++ ([44, 32, 103, 97, 105, 110, 115, 32] ++ dec gn) else ([112, 108, 97, 121, 101, 114, 32] ++ dec pl ++ [32, 112, 108, 97, 121, 115, 32] ++ dec mv)) ++ [44, 32, 109, 111, 118, 101, 115, 32, 97, 103, 97, 105, 110]
  else (if 0 < gn then ([112, 108, 97, 121, 101, 114, 32] ++ dec pl ++ [32, 112, 108, 97, 121, 115, 32] ++ dec mv) ++ ([44, 32, 103, 97, 105, 110, 115, 32] ++ dec gn) else ([112, 108, 97, 121, 101, 114, 32] ++ dec pl ++ [32, 112, 108, 97, 121, 115, 32] ++ dec mv))
def notes (l : List (Pos × Res)) : List (List UInt8) := l.map fun x => noteT x.1.player x.2.move x.2.gain x.2.again
@[simp] theorem notes_length (l : List (Pos × Res)) : (notes l).length = l.length := by simp [notes]
def markT (k : Int) : List UInt8 := if k ≤ 0 then [109, 48] else [109] ++ dec k
def upT (k : Int) (n : Nat) : List (List UInt8) := (List.range n).map fun (i : Nat) => markT (k + (i : Int))
@[simp] theorem upT_length (k : Int) (n : Nat) : (upT k n).length = n := by simp [upT]
def bat (a : List UInt8) (i : Nat) : Int := ((a.getD i 0).toNat : Int)
theorem bat_bd (a : List UInt8) (i : Nat) : 0 ≤ bat a i ∧ bat a i ≤ 255 := by
  have := (a.getD i 0).toNat_lt
  unfold bat; omega
def split (by_ : UInt8) : List UInt8 → List (List UInt8)
  | [] => [[]]
  | b :: l => if b = by_ then [] :: split by_ l else match split by_ l with
    | [] => [[b]]
    | w :: ws => (b :: w) :: ws
theorem split_ne (by_ : UInt8) (l : List UInt8) : split by_ l ≠ [] := by
  cases l with
  | nil => simp [split]
  | cons b l =>
    rw [split]; split
    · simp
    · split <;> simp
theorem split_app (by_ : UInt8) : ∀ (p q : List UInt8), by_ ∉ p → split by_ (p ++ by_ :: q) = p :: split by_ q
  | [], q, _ => by rw [List.nil_append, split, if_pos rfl]
  | b :: p, q, h => by
    have hb : b ≠ by_ := fun e => h (by simp [e])
    have := split_app by_ p q (fun hm => h (by simp [hm]))
    rw [List.cons_append, split, if_neg hb, this]
theorem split_last (by_ : UInt8) : ∀ (p : List UInt8), by_ ∉ p → split by_ p = [p]
  | [], _ => rfl
  | b :: p, h => by
    have hb : b ≠ by_ := fun e => h (by simp [e])
    have := split_last by_ p (fun hm => h (by simp [hm]))
    rw [split, if_neg hb, this]
structure SplI (b : UInt8) (s : List UInt8) (f k : Nat) (out : List (List UInt8)) : Prop where
  h : out ++ split b (s.drop f) = split b s
  n : b ∉ (s.drop f).take (k - f)
  l : f ≤ k
theorem SplI.zero (b : UInt8) (s : List UInt8) : SplI b s 0 0 [] := ⟨rfl, by simp, Nat.le_refl _⟩
theorem bat_get {s : List UInt8} {k : Nat} (h : k < s.length) : bat s k = (s[k].toNat : Int) := by simp [bat, List.getD, h]
theorem drop_cut {s : List UInt8} {f k : Nat} (h : k < s.length) (hl : f ≤ k) : s.drop f = (s.drop f).take (k - f) ++ s[k] :: s.drop (k + 1) := by
  have e : (s.drop f).drop (k - f) = s[k] :: s.drop (k + 1) := by rw [List.drop_drop, show f + (k - f) = k by omega]; exact List.drop_eq_getElem_cons h
  rw [← e, List.take_append_drop]
theorem u8_of {b : Int} {x : UInt8} (h : (x.toNat : Int) = b) : x = u8 b := by
  subst h; unfold u8; simp
theorem SplI.hit {b : Int} {s : List UInt8} {f k : Nat} {out : List (List UInt8)} (h : SplI (u8 b) s f k out) (hk : k < s.length) (hb : bat s k = b) : SplI (u8 b) s (k + 1) (k + 1) (out ++ [(s.drop f).take (k - f)]) := by
  have hx : s[k] = u8 b := u8_of (by rw [← hb, bat_get hk])
  refine ⟨?_, by simp, Nat.le_refl _⟩
  have e := drop_cut hk h.l
  rw [hx] at e
  rw [← h.h, e, split_app _ _ _ h.n, ← e]
  simp
theorem SplI.miss {b : Int} {s : List UInt8} {f k : Nat} {out : List (List UInt8)} (h : SplI (u8 b) s f k out) (hk : k < s.length) (h0 : 0 ≤ b) (h1 : b ≤ 255) (hb : bat s k ≠ b) : SplI (u8 b) s f (k + 1) out := by
  refine ⟨h.h, fun hm => ?_, by have := h.l; omega⟩
  have hl := h.l
  have e : (s.drop f).take (k + 1 - f) = (s.drop f).take (k - f) ++ [s[k]] := by
    rw [show k + 1 - f = (k - f) + 1 by omega, List.take_add_one, List.getElem?_drop, show f + (k - f) = k by omega, List.getElem?_eq_getElem hk]; rfl
  rw [e] at hm
  rcases List.mem_append.1 hm with hm | hm
  · exact h.n hm
  · simp only [List.mem_singleton] at hm
    apply hb
    rw [bat_get hk, ← hm]; exact u8_val h0 h1
theorem SplI.done {b : UInt8} {s : List UInt8} {f k : Nat} {out : List (List UInt8)} (h : SplI b s f k out) (hk : s.length ≤ k) : out ++ [s.drop f] = split b s := by
  have hn := h.n
  rw [List.take_of_length_le (by rw [List.length_drop]; omega)] at hn
  rw [← h.h, split_last _ _ hn]
theorem SplI.len {b : UInt8} {s : List UInt8} {f k : Nat} {out : List (List UInt8)} (h : SplI b s f k out) : out.length ≤ (split b s).length := by rw [← h.h, List.length_append]; omega
theorem split_len (b : UInt8) : ∀ s : List UInt8, (split b s).length ≤ s.length + 1
  | [] => by simp [split]
  | x :: s => by
    have := split_len b s
    rw [split]; split
    · simp; omega
    · split
      · simp
      · rename_i h; rw [h] at this; simp at this ⊢; omega
def isDig (c : Int) : Bool := decide (48 ≤ c) && decide (c ≤ 57)
def numT (s : List UInt8) : List UInt8 := if s ≠ [] ∧ bat s 0 = 45 then s.drop 1 else s
theorem numT_y {s : List UInt8} (h0 : s ≠ []) (h : bat s 0 = 45) : numT s = s.drop 1 := by unfold numT; rw [if_pos ⟨h0, h⟩]
theorem numT_n {s : List UInt8} (h : ¬ (s ≠ [] ∧ bat s 0 = 45)) : numT s = s := by unfold numT; rw [if_neg h]
def numN (t : List UInt8) : Nat → Int
  | 0 => 0
  | k + 1 => 10 * numN t k + (bat t k - 48)
def Digs (t : List UInt8) (k : Nat) : Prop := ∀ i : Nat, i < k → isDig (bat t i) = true
theorem Digs.zero (t : List UInt8) : Digs t 0 := fun i h => absurd h (by omega)
theorem Digs.step {t : List UInt8} {k : Nat} (h : Digs t k) (hk : isDig (bat t k) = true) : Digs t (k + 1) := fun i hi => by
  by_cases e : i = k
  · rw [e]; exact hk
  · exact h i (by omega)
theorem dig_bd {c : Int} (h : isDig c = true) : 48 ≤ c ∧ c ≤ 57 := by unfold isDig at h; simp at h; exact h
theorem numN_bd {t : List UInt8} : ∀ k : Nat, Digs t k → 0 ≤ numN t k ∧ numN t k + 1 ≤ (10 : Int) ^ k
  | 0, _ => by simp [numN]
  | k + 1, h => by
    obtain ⟨a, b⟩ := numN_bd k (fun i hi => h i (by omega))
    obtain ⟨c, d⟩ := dig_bd (h k (by omega))
    rw [numN, Int.pow_succ]
    constructor <;> omega
theorem pow10_le {k m : Nat} (h : k ≤ m) : (10 : Int) ^ k ≤ (10 : Int) ^ m := by
  have : (10 : Nat) ^ k ≤ 10 ^ m := Nat.pow_le_pow_right (by decide) h
  have e : ∀ n : Nat, ((10 ^ n : Nat) : Int) = (10 : Int) ^ n := fun n => by simp
  rw [← e, ← e]; omega
theorem numN_17 {t : List UInt8} {k : Nat} (h : Digs t k) (hk : k ≤ 17) : 0 ≤ numN t k ∧ numN t k ≤ 99999999999999999 := by
  have a := numN_bd k h; have b := pow10_le hk
  have e : (10 : Int) ^ 17 = 100000000000000000 := by decide
  omega
theorem numN_18 {t : List UInt8} {k : Nat} (h : Digs t k) (hk : k ≤ 18) : 0 ≤ numN t k ∧ numN t k ≤ 999999999999999999 := by
  have a := numN_bd k h; have b := pow10_le hk
  have e : (10 : Int) ^ 18 = 1000000000000000000 := by decide
  omega
def numS (s : List UInt8) : Int := if (numT s).length < s.length then -numN (numT s) (numT s).length else numN (numT s) (numT s).length
def digs (t : List UInt8) : Bool := (List.range t.length).all fun i => isDig (bat t i)
theorem digs_yes {t : List UInt8} {k : Nat} (h : Digs t k) (hk : t.length ≤ k) : digs t = true := by
  unfold digs; rw [List.all_eq_true]; intro i hi
  exact h i (by have := List.mem_range.1 hi; omega)
theorem digs_no {t : List UInt8} {k : Nat} (hk : k < t.length) (h : isDig (bat t k) = false) : digs t = false := by
  cases e : digs t
  · rfl
  · unfold digs at e; rw [List.all_eq_true] at e
    have := e k (List.mem_range.2 hk); rw [h] at this; exact absurd this (by simp)
def num (s : List UInt8) : Int × Bool :=
  if (numT s).length < 1 ∨ 18 < (numT s).length then (0, false) else if digs (numT s) = false then (0, false) else if dec (numS s) = s then (numS s, true) else (0, false)
theorem num_len {s : List UInt8} (h : (numT s).length < 1 ∨ 18 < (numT s).length) : num s = (0, false) := by unfold num; rw [if_pos h]
theorem num_dig {s : List UInt8} (h : digs (numT s) = false) : num s = (0, false) := by unfold num; rw [if_pos h]; split <;> rfl
theorem num_no {s : List UInt8} (h : dec (numS s) ≠ s) : num s = (0, false) := by unfold num; rw [if_neg h]; split <;> (try split) <;> rfl
theorem num_yes {s : List UInt8} (h1 : ¬ ((numT s).length < 1 ∨ 18 < (numT s).length)) (h2 : digs (numT s) = true) (h : dec (numS s) = s) : num s = (numS s, true) := by
  unfold num; rw [if_neg h1, if_neg (by simp [h2]), if_pos h]
theorem numS_neg {s : List UInt8} (h : (numT s).length < s.length) : numS s = -numN (numT s) (numT s).length := by unfold numS; rw [if_pos h]
theorem numS_pos {s : List UInt8} (h : ¬ (numT s).length < s.length) : numS s = numN (numT s) (numT s).length := by unfold numS; rw [if_neg h]
theorem num_bd (s : List UInt8) : -999999999999999999 ≤ (num s).1 ∧ (num s).1 ≤ 999999999999999999 := by
  unfold num
  split
  · simp
  · rename_i h1; split
    · simp
    · rename_i h2; split
      · have hd : Digs (numT s) (numT s).length := fun i hi => by
          have e : digs (numT s) = true := by simpa using h2
          unfold digs at e; rw [List.all_eq_true] at e
          exact e i (List.mem_range.2 hi)
        have := numN_18 hd (by omega)
        show -999999999999999999 ≤ numS s ∧ numS s ≤ 999999999999999999
        unfold numS; split <;> omega
      · simp
def hit (s sep : List UInt8) (k : Nat) : Bool := decide (k + sep.length ≤ s.length) && decide ((s.drop k).take sep.length = sep)
def cutS (s sep : List UInt8) : List UInt8 × List UInt8 × Bool :=
  match (List.range (s.length + 1)).find? (hit s sep) with
  | some k => (s.take k, s.drop (k + sep.length), true)
  | none => (s, [], false)
theorem find_first {p : Nat → Bool} : ∀ {n k : Nat}, k < n → p k = true → (∀ i, i < k → p i = false) → (List.range n).find? p = some k := by
  intro n k hk hp hn
  rw [List.find?_range_eq_some]
  exact ⟨hp, by simpa using hk, fun j hj => by simpa using hn j hj⟩
theorem cutS_yes {s sep : List UInt8} {k : Nat} (hk : k + sep.length ≤ s.length) (h : (s.drop k).take sep.length = sep) (hn : ∀ i, i < k → (s.drop i).take sep.length ≠ sep) : cutS s sep = (s.take k, s.drop (k + sep.length), true) := by
  unfold cutS
  rw [find_first (k := k) (by omega) (by simp [hit, hk, h]) (fun i hi => by simp [hit, hn i hi])]
theorem cutS_no {s sep : List UInt8} {k : Nat} (hk : s.length < k + sep.length) (hn : ∀ i, i < k → (s.drop i).take sep.length ≠ sep) : cutS s sep = (s, [], false) := by
  unfold cutS
  have : (List.range (s.length + 1)).find? (hit s sep) = none := by
    rw [List.find?_eq_none]
    intro i hi
    by_cases h : i < k
    · simp [hit, hn i h]
    · simp [hit]; omega
  rw [this]
theorem miss_step {s sep : List UInt8} {k : Nat} (hn : ∀ i, i < k → (s.drop i).take sep.length ≠ sep) (h : (s.drop k).take sep.length ≠ sep) : ∀ i, i < k + 1 → (s.drop i).take sep.length ≠ sep := fun i hi => by
  by_cases e : i = k
  · rw [e]; exact h
  · exact hn i (by omega)
theorem cutS_len (s sep : List UInt8) : (cutS s sep).1.length ≤ s.length ∧ (cutS s sep).2.1.length ≤ s.length := by
  unfold cutS; split
  · simp only [List.length_take, List.length_drop]; omega
  · simp
theorem hit_one {s : List UInt8} {b : UInt8} {k : Nat} : hit s [b] k = true ↔ s[k]? = some b := by
  unfold hit
  simp only [List.length_cons, List.length_nil, Nat.zero_add, Bool.and_eq_true, decide_eq_true_eq]
  constructor
  · rintro ⟨h1, h2⟩
    have : k < s.length := by omega
    rw [List.drop_eq_getElem_cons this] at h2
    simp only [List.take_succ_cons, List.take_zero, List.cons.injEq, and_true] at h2
    rw [List.getElem?_eq_getElem this, h2]
  · intro h
    obtain ⟨hk, h⟩ := List.getElem?_eq_some_iff.1 h
    refine ⟨by omega, ?_⟩
    rw [List.drop_eq_getElem_cons hk]
    simp [h]
theorem cutS_one (b : UInt8) (s : List UInt8) : ((cutS s [b]).2.2 = true ∧ split b s = (cutS s [b]).1 :: split b (cutS s [b]).2.1 ∧ (cutS s [b]).2.1.length < s.length) ∨ ((cutS s [b]).2.2 = false ∧ split b s = [(cutS s [b]).1]) := by
  unfold cutS
  cases hf : (List.range (s.length + 1)).find? (hit s [b]) with
  | some k =>
    left
    rw [List.find?_range_eq_some] at hf
    obtain ⟨h1, _, h3⟩ := hf
    rw [hit_one] at h1
    obtain ⟨hk, h⟩ := List.getElem?_eq_some_iff.1 h1
    refine ⟨rfl, ?_, by simp; omega⟩
    have e : s = s.take k ++ b :: s.drop (k + 1) := by
      rw [← h, ← List.drop_eq_getElem_cons hk, List.take_append_drop]
    have hm : b ∉ s.take k := fun hm => by
      obtain ⟨i, hi, he⟩ := List.mem_iff_getElem.1 hm
      have hik : i < k := by rw [List.length_take] at hi; omega
      have := h3 i hik
      rw [Bool.not_eq_true', ← Bool.not_eq_true, hit_one] at this
      apply this
      rw [List.getElem_take] at he
      rw [List.getElem?_eq_getElem (by omega), he]
    show split b s = s.take k :: split b (s.drop (k + 1))
    conv => lhs; rw [e]
    exact split_app b _ _ hm
  | none =>
    right
    rw [List.find?_eq_none] at hf
    refine ⟨rfl, split_last b s fun hm => ?_⟩
    obtain ⟨i, hi, he⟩ := List.mem_iff_getElem.1 hm
    have := hf i (by simp; omega)
    apply this
    rw [hit_one, List.getElem?_eq_getElem hi, he]
theorem parts_more {b : UInt8} {s cur : List UInt8} {out : List (List UInt8)} (h : out ++ split b cur = split b s) (hc : (cutS cur [b]).2.2 = true) : (out ++ [(cutS cur [b]).1]) ++ split b (cutS cur [b]).2.1 = split b s ∧ (cutS cur [b]).2.1.length < cur.length := by
  rcases cutS_one b cur with ⟨_, h2, h3⟩ | ⟨h2, _⟩
  · rw [← h, h2]; simp; exact h3
  · rw [hc] at h2; simp at h2
theorem parts_last {b : UInt8} {s cur : List UInt8} {out : List (List UInt8)} (h : out ++ split b cur = split b s) (hc : (cutS cur [b]).2.2 = false) : out ++ [(cutS cur [b]).1] = split b s := by
  rcases cutS_one b cur with ⟨h2, _, _⟩ | ⟨_, h2⟩
  · rw [hc] at h2; simp at h2
  · rw [← h, h2]
theorem parts_len {b : UInt8} {s cur : List UInt8} {out : List (List UInt8)} (h : out ++ split b cur = split b s) : out.length ≤ s.length + 1 := by
  have := split_len b s; rw [← h, List.length_append] at this; omega
theorem split_mem (b : UInt8) : ∀ (s w : List UInt8), w ∈ split b s → w.length ≤ s.length
  | [], w, h => by simp [split] at h; simp [h]
  | x :: s, w, h => by
    rw [split] at h
    split at h
    · rcases List.mem_cons.1 h with rfl | h
      · simp
      · have := split_mem b s w h; simp; omega
    · split at h
      · simp at h; simp [h]
      · rename_i v vs e
        rcases List.mem_cons.1 h with rfl | h
        · have := split_mem b s v (by rw [e]; simp); simp; omega
        · have := split_mem b s w (by rw [e]; simp [h]); simp; omega
def numsOk (l : List (List UInt8)) : Bool := l.all fun w => (num w).2
def numsV (l : List (List UInt8)) : List Int := l.map fun w => (num w).1
def nums (s : List UInt8) : List Int × Bool := if numsOk (split 44 s) = true then (numsV (split 44 s), true) else ([], false)
theorem nums_yes {s : List UInt8} (h : numsOk (split 44 s) = true) : nums s = (numsV (split 44 s), true) := by unfold nums; rw [if_pos h]
theorem nums_no {s : List UInt8} (h : numsOk (split 44 s) = false) : nums s = ([], false) := by unfold nums; rw [if_neg (by simp [h])]
theorem nums_step {l : List (List UInt8)} {out : List Int} {k : Nat} {y : List UInt8} (h : out = numsV (l.take k)) (hy : l[k]? = some y) : out ++ [(num y).1] = numsV (l.take (k + 1)) := by
  rw [List.take_add_one, hy, h]; simp [numsV]
theorem numsOk_step {l : List (List UInt8)} {k : Nat} {y : List UInt8} (h : numsOk (l.take k) = true) (hy : l[k]? = some y) (hn : (num y).2 = true) : numsOk (l.take (k + 1)) = true := by
  rw [List.take_add_one, hy]; unfold numsOk at *; rw [List.all_append, h]; simp [hn]
theorem numsOk_no {l : List (List UInt8)} {k : Nat} {y : List UInt8} (hy : l[k]? = some y) (hn : (num y).2 = false) : numsOk l = false := by
  cases e : numsOk l
  · rfl
  · unfold numsOk at e; rw [List.all_eq_true] at e
    have := e y (List.mem_of_getElem? hy); rw [hn] at this; exact absurd this (by simp)
structure NumsI (s cur : List UInt8) (out : List Int) : Prop where
  ok : numsOk (split 44 cur) = numsOk (split 44 s)
  v : out ++ numsV (split 44 cur) = numsV (split 44 s)
theorem NumsI.zero (s : List UInt8) : NumsI s s [] := ⟨rfl, rfl⟩
theorem NumsI.bad {s cur : List UInt8} {out : List Int} (h : NumsI s cur out) (hn : (num (cutS cur [44]).1).2 = false) : numsOk (split 44 s) = false := by
  rw [← h.ok]
  rcases cutS_one 44 cur with ⟨_, h2, _⟩ | ⟨_, h2⟩ <;> (rw [h2]; simp [numsOk, hn])
theorem NumsI.more {s cur : List UInt8} {out : List Int} (h : NumsI s cur out) (hn : (num (cutS cur [44]).1).2 = true) (hc : (cutS cur [44]).2.2 = true) : NumsI s (cutS cur [44]).2.1 (out ++ [(num (cutS cur [44]).1).1]) ∧ (cutS cur [44]).2.1.length < cur.length := by
  rcases cutS_one 44 cur with ⟨_, h2, h3⟩ | ⟨h2, _⟩
  · refine ⟨⟨?_, ?_⟩, h3⟩
    · rw [← h.ok, h2]; simp [numsOk, hn]
    · rw [← h.v, h2]; simp [numsV]
  · rw [hc] at h2; simp at h2
theorem NumsI.last {s cur : List UInt8} {out : List Int} (h : NumsI s cur out) (hn : (num (cutS cur [44]).1).2 = true) (hc : (cutS cur [44]).2.2 = false) : nums s = (out ++ [(num (cutS cur [44]).1).1], true) := by
  rcases cutS_one 44 cur with ⟨h2, _, _⟩ | ⟨_, h2⟩
  · rw [hc] at h2; simp at h2
  · rw [nums_yes (by rw [← h.ok, h2]; simp [numsOk, hn]), ← h.v, h2]; simp [numsV]
theorem NumsI.len {s cur : List UInt8} {out : List Int} (h : NumsI s cur out) : out.length ≤ s.length + 1 := by
  have a := split_len 44 s
  have := congrArg List.length h.v
  rw [List.length_append] at this
  simp only [numsV, List.length_map] at this; omega
theorem nums_end {s : List UInt8} {out : List Int} {k : Nat} (h1 : numsOk ((split 44 s).take k) = true) (h : out = numsV ((split 44 s).take k)) (hk : (split 44 s).length ≤ k) : nums s = (out, true) := by
  rw [List.take_of_length_le hk] at h1 h
  rw [nums_yes h1, h]
theorem nums_len (s : List UInt8) : (nums s).1.length ≤ s.length + 1 := by
  have := split_len 44 s
  unfold nums; split
  · simpa [numsV] using this
  · simp
def decB (b : UInt8) : Prop := b = 45 ∨ (48 ≤ b.toNat ∧ b.toNat ≤ 57)
theorem decB_dig (d : Nat) (h : d < 10) : decB (UInt8.ofNat (48 + d)) := by
  right
  rw [UInt8.toNat_ofNat', Nat.mod_eq_of_lt (by omega)]
  omega
theorem decDigits_B : ∀ (u : Nat) (b : UInt8), b ∈ Lib.decDigits u → decB b := by
  intro u
  induction u using Nat.strongRecOn with
  | ind u ih =>
    intro b hb
    rw [Lib.decDigits] at hb
    by_cases hs : u < 10
    · rw [dif_pos hs] at hb
      simp only [List.mem_singleton] at hb
      rw [hb]; exact decB_dig u hs
    · rw [dif_neg hs] at hb
      rcases List.mem_append.1 hb with hb | hb
      · exact ih (u / 10) (by omega) b hb
      · simp only [List.mem_singleton] at hb
        rw [hb]; exact decB_dig _ (by omega)
theorem dec_B {n : Int} {b : UInt8} (h : b ∈ dec n) : decB b := by
  unfold dec at h
  split at h
  · unfold Lib.itoa at h
    split at h
    · rcases List.mem_cons.1 h with rfl | h
      · exact .inl rfl
      · exact decDigits_B _ _ h
    · exact decDigits_B _ _ h
  · simp at h
theorem decB_no {b c : UInt8} (h : decB b) (hc : c = 32 ∨ c = 44 ∨ c = 47) : b ≠ c := by
  rintro rfl
  rcases hc with rfl | rfl | rfl <;> (rcases h with h | ⟨h1, h2⟩ <;> first | exact absurd h (by decide) | exact absurd h1 (by decide))
theorem num_dec {s : List UInt8} (h : (num s).2 = true) : dec (num s).1 = s := by
  unfold num at *
  split at h
  · simp at h
  · split at h
    · simp at h
    · split at h
      · rename_i h1 h2 h3; rw [if_neg h1, if_neg h2, if_pos h3]; exact h3
      · simp at h
def joinW (b : UInt8) : List (List UInt8) → List UInt8
  | [] => []
  | [w] => w
  | w :: v :: ws => w ++ b :: joinW b (v :: ws)
theorem joinW_cons (b : UInt8) (w : List UInt8) {ws : List (List UInt8)} (h : ws ≠ []) : joinW b (w :: ws) = w ++ b :: joinW b ws := by
  cases ws with
  | nil => exact absurd rfl h
  | cons v ws => rfl
theorem joinW_split (b : UInt8) : ∀ s : List UInt8, joinW b (split b s) = s
  | [] => rfl
  | x :: s => by
    have ih := joinW_split b s
    rw [split]
    split
    · rename_i e
      rw [joinW_cons b _ (split_ne b s), ih, e]; rfl
    · split
      · rename_i e; exact absurd e (split_ne b s)
      · rename_i w ws e
        rw [e] at ih
        cases ws with
        | nil => show x :: w = x :: s; rw [show w = s from ih]
        | cons v ws =>
          show x :: (w ++ b :: joinW b (v :: ws)) = x :: s
          rw [show w ++ b :: joinW b (v :: ws) = s from ih]
theorem joinW_snoc (b : UInt8) (w : List UInt8) : ∀ {ws : List (List UInt8)}, ws ≠ [] → joinW b (ws ++ [w]) = joinW b ws ++ b :: w
  | [v], _ => rfl
  | v :: u :: ws, _ => by
    show v ++ b :: joinW b (u :: ws ++ [w]) = (v ++ b :: joinW b (u :: ws)) ++ b :: w
    rw [joinW_snoc b w (ws := u :: ws) (by simp)]; simp
theorem joinN_W (l : List Int) : ∀ k : Nat, k ≤ l.length → joinN l k = joinW 44 ((l.take k).map dec)
  | 0, _ => rfl
  | k + 1, h => by
    have ih := joinN_W l k (by omega)
    rw [take_nth (by omega), List.map_append, joinN]
    by_cases hk : 0 < k
    · rw [if_pos hk, ih, List.map_cons, List.map_nil, joinW_snoc]
      · simp
      · intro e
        have := congrArg List.length e
        rw [List.length_map, List.length_take, List.length_nil] at this; omega
    · have : k = 0 := by omega
      subst this
      rw [if_neg hk, ih]; rfl
theorem joinT_W (l : List Int) : joinT l = joinW 44 (l.map dec) := by
  unfold joinT; rw [joinN_W l _ (Nat.le_refl _), List.take_length]
theorem nums_ok {s : List UInt8} (h : (nums s).2 = true) : numsOk (split 44 s) = true := by
  cases e : numsOk (split 44 s)
  · rw [nums_no e] at h; simp at h
  · rfl
theorem nums_dec {s : List UInt8} (h : (nums s).2 = true) : joinT (nums s).1 = s := by
  have ho := nums_ok h
  rw [nums_yes ho, joinT_W]
  have : (numsV (split 44 s)).map dec = split 44 s := by
    unfold numsV numsOk at *
    rw [List.map_map]
    rw [List.all_eq_true] at ho
    conv => rhs; rw [← List.map_id (split 44 s)]
    exact List.map_congr_left fun w hw => num_dec (ho w hw)
  show joinW 44 ((numsV (split 44 s)).map dec) = s
  rw [this, joinW_split]
theorem dec_no {n : Int} {c : UInt8} (hc : c = 32 ∨ c = 44 ∨ c = 47) : c ∉ dec n := fun h => decB_no (dec_B h) hc rfl
def idx : List (List UInt8) → List UInt8 → Int
  | [], _ => -1
  | x :: l, s => if x = s then 0 else if idx l s = -1 then -1 else idx l s + 1
theorem idx_bd : ∀ (l : List (List UInt8)) (s : List UInt8), idx l s = -1 ∨ 0 ≤ idx l s ∧ idx l s < l.length
  | [], _ => .inl rfl
  | x :: l, s => by
    have := idx_bd l s
    rw [idx, List.length_cons]
    split
    · exact .inr ⟨by omega, by omega⟩
    · split
      · exact .inl rfl
      · refine .inr ⟨?_, ?_⟩ <;> omega
def Nix (l : List (List UInt8)) (s : List UInt8) (k : Nat) : Prop := ∀ i : Nat, i < k → l[i]? ≠ some s
theorem Nix.zero (l : List (List UInt8)) (s : List UInt8) : Nix l s 0 := fun i h => absurd h (by omega)
theorem Nix.step {l : List (List UInt8)} {s y : List UInt8} {k : Nat} (h : Nix l s k) (hy : l[k]? = some y) (hs : ¬ y = s) : Nix l s (k + 1) := fun i hi => by
  rcases Nat.lt_succ_iff_lt_or_eq.1 hi with h9 | h9
  · exact h i h9
  · subst h9; rw [hy]; intro h8; exact hs (Option.some.inj h8)
theorem Nix.hit : ∀ {l : List (List UInt8)} {s y : List UInt8} {k : Nat}, Nix l s k → l[k]? = some y → y = s → idx l s = (k : Int)
  | [], _, _, _, _, hy, _ => by simp at hy
  | x :: l, s, y, 0, _, hy, hs => by
    simp at hy; rw [idx, if_pos (by rw [hy]; exact hs)]; rfl
  | x :: l, s, y, k + 1, h, hy, hs => by
    have h0 : x ≠ s := fun e => h 0 (by omega) (by simp [e])
    have h1 : idx l s = (k : Int) := Nix.hit (l := l) (fun i hi => by have := h (i + 1) (by omega); simpa using this) (by simpa using hy) hs
    rw [idx, if_neg h0, if_neg (by omega), h1]; omega
theorem Nix.miss : ∀ {l : List (List UInt8)} {s : List UInt8} {k : Nat}, Nix l s k → l.length ≤ k → idx l s = -1
  | [], _, _, _, _ => rfl
  | x :: l, s, 0, _, hk => by simp at hk
  | x :: l, s, k + 1, h, hk => by
    have h0 : x ≠ s := fun e => h 0 (by omega) (by simp [e])
    rw [idx, if_neg h0, if_pos (Nix.miss (l := l) (k := k) (fun i hi => by have := h (i + 1) (by omega); simpa using this) (by simp at hk; omega))]
def wds (s : List UInt8) : List (List UInt8) := (split 32 s).filter (fun w => decide (w ≠ []))
def plsW : Int → List (List UInt8) → List Int
  | _, [] => []
  | a, w :: ws => if w = [] then plsW (a + 1) ws else a :: plsW (a + (w.length : Int) + 1) ws
def pls (s : List UInt8) : List Int := plsW 0 (split 32 s)
theorem plsW_len : ∀ (ws : List (List UInt8)) (a : Int), (plsW a ws).length = (ws.filter (fun w => decide (w ≠ []))).length
  | [], _ => rfl
  | w :: ws, a => by
    rw [plsW]
    by_cases h : w = []
    · rw [if_pos h, plsW_len ws, List.filter_cons_of_neg (by simp [h])]
    · rw [if_neg h, List.length_cons, plsW_len ws, List.filter_cons_of_pos (by simp [h]), List.length_cons]
theorem pls_len (s : List UInt8) : (pls s).length = (wds s).length := plsW_len _ _
theorem wds_len (s : List UInt8) : (wds s).length ≤ s.length + 1 := Nat.le_trans (List.length_filter_le _ _) (split_len 32 s)
structure PrtI (s : List UInt8) (i : Nat) (ws : List (List UInt8)) (ps : List Int) : Prop where
  w : ws ++ wds (s.drop i) = wds s
  p : ps ++ plsW (i : Int) (split 32 (s.drop i)) = pls s
theorem PrtI.zero (s : List UInt8) : PrtI s 0 [] [] := ⟨rfl, rfl⟩
theorem PrtI.len {s : List UInt8} {i : Nat} {ws : List (List UInt8)} {ps : List Int} (h : PrtI s i ws ps) : ws.length ≤ s.length + 1 ∧ ps.length ≤ s.length + 1 := by
  have h1 := congrArg List.length h.w; have h2 := congrArg List.length h.p
  rw [List.length_append] at h1 h2
  have := wds_len s; have := pls_len s
  constructor <;> omega
theorem bat_32 {s : List UInt8} {k : Nat} (hk : k < s.length) : bat s k = 32 ↔ s[k] = 32 := by
  rw [bat_get hk]
  constructor
  · intro h; exact u8_of h
  · intro h; rw [h]; rfl
theorem PrtI.blank {s : List UInt8} {i : Nat} {ws : List (List UInt8)} {ps : List Int} (h : PrtI s i ws ps) (hi : i < s.length) (hb : bat s i = 32) : PrtI s (i + 1) ws ps := by
  have e : s.drop i = 32 :: s.drop (i + 1) := by rw [List.drop_eq_getElem_cons hi, (bat_32 hi).1 hb]
  have e2 : split 32 (s.drop i) = [] :: split 32 (s.drop (i + 1)) := by rw [e, split, if_pos rfl]
  constructor
  · rw [← h.w]; unfold wds; rw [e2, List.filter_cons_of_neg (by simp)]
  · rw [← h.p, e2, plsW, if_pos rfl]; rfl
structure WrdI (s : List UInt8) (i k : Nat) : Prop where
  n : (32 : UInt8) ∉ (s.drop i).take (k - i)
  l : i ≤ k
  u : k ≤ s.length
theorem WrdI.zero {s : List UInt8} {i : Nat} (h : i ≤ s.length) : WrdI s i i := ⟨by simp, Nat.le_refl _, h⟩
theorem WrdI.step {s : List UInt8} {i k : Nat} (h : WrdI s i k) (hk : k < s.length) (hb : ¬ bat s k = 32) : WrdI s i (k + 1) := by
  refine ⟨fun hm => ?_, by have := h.l; omega, hk⟩
  have hl := h.l
  have e : (s.drop i).take (k + 1 - i) = (s.drop i).take (k - i) ++ [s[k]] := by
    rw [show k + 1 - i = (k - i) + 1 by omega, List.take_add_one, List.getElem?_drop, show i + (k - i) = k by omega, List.getElem?_eq_getElem hk]; rfl
  rw [e] at hm
  rcases List.mem_append.1 hm with hm | hm
  · exact h.n hm
  · simp only [List.mem_singleton] at hm
    exact hb ((bat_32 hk).2 hm.symm)
theorem split_take {s : List UInt8} {i k : Nat} (h : WrdI s i k) (hk : k = s.length ∨ k < s.length ∧ bat s k = 32) (hik : i < k) :
    wds (s.drop i) = (s.drop i).take (k - i) :: wds (s.drop k) ∧ plsW (i : Int) (split 32 (s.drop i)) = (i : Int) :: plsW (k : Int) (split 32 (s.drop k)) := by
  have hl := h.l; have hu := h.u
  have hlen : ((s.drop i).take (k - i)).length = k - i := by rw [List.length_take, List.length_drop]; omega
  have hne : (s.drop i).take (k - i) ≠ [] := fun e => by rw [e] at hlen; simp at hlen; omega
  rcases hk with hk | ⟨hk, hb⟩
  · have e : (s.drop i).take (k - i) = s.drop i := List.take_of_length_le (by rw [List.length_drop]; omega)
    have hn := h.n
    rw [e] at hn hne
    have e2 : split 32 (s.drop i) = [s.drop i] := split_last 32 _ hn
    have e3 : s.drop k = [] := List.drop_eq_nil_of_le (by omega)
    rw [e]
    constructor
    · unfold wds; rw [e2, e3, List.filter_cons_of_pos (by simpa using hne)]; rfl
    · rw [e2, e3, plsW, if_neg hne]; rfl
  · have e := drop_cut hk hl
    rw [(bat_32 hk).1 hb] at e
    have e2 : split 32 (s.drop i) = (s.drop i).take (k - i) :: split 32 (s.drop (k + 1)) := by
      conv => lhs; rw [e]
      exact split_app 32 _ _ h.n
    have e3 : split 32 (s.drop k) = [] :: split 32 (s.drop (k + 1)) := by rw [List.drop_eq_getElem_cons hk, (bat_32 hk).1 hb, split, if_pos rfl]
    constructor
    · unfold wds; rw [e2, e3, List.filter_cons_of_pos (by simpa using hne), List.filter_cons_of_neg (by simp)]
    · rw [e2, e3, plsW, if_neg hne, plsW, if_pos rfl, hlen, show (i : Int) + ((k - i : Nat) : Int) + 1 = (k : Int) + 1 by omega]
theorem PrtI.word {s : List UInt8} {i k : Nat} {ws : List (List UInt8)} {ps : List Int} (h : PrtI s i ws ps) (hw : WrdI s i k) (hik : i < k) (hk : k = s.length ∨ k < s.length ∧ bat s k = 32) : PrtI s k (ws ++ [(s.drop i).take (k - i)]) (ps ++ [(i : Int)]) := by
  obtain ⟨a, b⟩ := split_take hw hk hik
  exact ⟨by rw [← h.w, a, List.append_assoc]; rfl, by rw [← h.p, b, List.append_assoc]; rfl⟩
theorem PrtI.done {s : List UInt8} {i : Nat} {ws : List (List UInt8)} {ps : List Int} (h : PrtI s i ws ps) (hi : s.length ≤ i) : ws = wds s ∧ ps = pls s := by
  have e : s.drop i = [] := List.drop_eq_nil_of_le hi
  have h1 := h.w; have h2 := h.p
  rw [e] at h1 h2
  exact ⟨by rw [← h1, show wds [] = [] from rfl, List.append_nil], by rw [← h2, show plsW (i : Int) (split 32 []) = [] from rfl, List.append_nil]⟩
def wrd (w : List UInt8) : Int × Int × Int :=
  if idx fieldNames (cutS w [61]).1 < 0 ∨ (cutS w [61]).2.2 = betw (idx fieldNames (cutS w [61]).1) 2 6 then (0, 0, 1) else
  if idx fieldNames (cutS w [61]).1 = 0 ∨ idx fieldNames (cutS w [61]).1 = 1 then
    if (num (cutS w [61]).2.1).2 = false then (idx fieldNames (cutS w [61]).1, 0, 3) else
    if idx fieldNames (cutS w [61]).1 = 0 ∧ betw (num (cutS w [61]).2.1).1 2 8 = false ∨ idx fieldNames (cutS w [61]).1 = 1 ∧ betw (num (cutS w [61]).2.1).1 1 6 = false then (idx fieldNames (cutS w [61]).1, 0, 4) else
    (idx fieldNames (cutS w [61]).1, (num (cutS w [61]).2.1).1, 0)
  else if idx fieldNames (cutS w [61]).1 = 7 ∨ idx fieldNames (cutS w [61]).1 = 8 then
    if idx (if idx fieldNames (cutS w [61]).1 = 8 then slamNames else capNames) (cutS w [61]).2.1 < 0 then (idx fieldNames (cutS w [61]).1, 0, 4) else
    (idx fieldNames (cutS w [61]).1, idx (if idx fieldNames (cutS w [61]).1 = 8 then slamNames else capNames) (cutS w [61]).2.1, 0)
  else (idx fieldNames (cutS w [61]).1, 1, 0)
theorem wrd_bd (w : List UInt8) : 0 ≤ (wrd w).1 ∧ (wrd w).1 ≤ 8 ∧ -999999999999999999 ≤ (wrd w).2.1 ∧ (wrd w).2.1 ≤ 999999999999999999 ∧ 0 ≤ (wrd w).2.2 ∧ (wrd w).2.2 ≤ 4 := by
  have h1 := idx_bd fieldNames (cutS w [61]).1
  have h2 := num_bd (cutS w [61]).2.1
  have h3 := idx_bd slamNames (cutS w [61]).2.1
  have h4 := idx_bd capNames (cutS w [61]).2.1
  rw [show (fieldNames.length : Int) = 9 from rfl] at h1
  rw [show (slamNames.length : Int) = 3 from rfl] at h3
  rw [show (capNames.length : Int) = 4 from rfl] at h4
  unfold wrd
  split
  · exact ⟨by decide, by decide, by decide, by decide, by decide, by decide⟩
  · split
    · split
      · dsimp only; omega
      · split
        · dsimp only; omega
        · dsimp only; omega
    · split
      · by_cases h8 : idx fieldNames (cutS w [61]).1 = 8
        · simp only [if_pos h8]; split
          · dsimp only; omega
          · dsimp only; omega
        · simp only [if_neg h8]; split
          · dsimp only; omega
          · dsimp only; omega
      · dsimp only; omega
structure Chk where
  v : List Int
  seen : List Bool
  again : Int
  out : List Prb
def Chk.zero : Chk := ⟨List.replicate 9 0, List.replicate 9 false, 0, []⟩
def chkK (c : Chk) (w : List UInt8) : Int := if (wrd w).2.2 ≠ 1 ∧ blt c.seen (wrd w).1.toNat = true then 2 else (wrd w).2.2
def chkS (c : Chk) (w : List UInt8) (a : Int) : Chk :=
  if chkK c w = 1 ∨ chkK c w = 2 then ⟨c.v, c.seen, c.again, c.out ++ [⟨chkK c w, a, w⟩]⟩ else
  ⟨setI c.v (wrd w).1 (wrd w).2.1, c.seen.set (wrd w).1.toNat true, if (wrd w).1 = 6 then a else c.again, if chkK c w = 0 then c.out else c.out ++ [⟨chkK c w, a, w⟩]⟩
def wdn (l : List (List UInt8)) (k : Nat) : List UInt8 := l.getD k []
def chkN (s : List UInt8) : Nat → Chk
  | 0 => Chk.zero
  | k + 1 => chkS (chkN s k) (wdn (wds s) k) (nth (pls s) k)
def chkA (s : List UInt8) : Chk := chkN s (wds s).length
def chkM (s : List UInt8) : Nat → List Prb
  | 0 => (chkA s).out
  | k + 1 => chkM s k ++ (if blt (chkA s).seen k = true then [] else [⟨5, (s.length : Int), wdn fieldNames k⟩])
def chkO (s : List UInt8) : List Prb := chkM s 2 ++ (if nth (chkA s).v 6 = 1 ∧ nth (chkA s).v 2 = 0 then [⟨6, (chkA s).again, [97, 103, 97, 105, 110]⟩] else [])
def rulV (v : List Int) : Rul := ⟨nth v 0, nth v 1, decide (nth v 2 = 1), decide (nth v 3 = 1), decide (nth v 4 = 1), decide (nth v 5 = 1), decide (nth v 6 = 1), nth v 7, nth v 8⟩
def chkR (s : List UInt8) : Rul := rulV (chkA s).v
theorem chkS_len {c : Chk} {w : List UInt8} {a : Int} : (chkS c w a).v.length = c.v.length ∧ (chkS c w a).seen.length = c.seen.length ∧ (chkS c w a).out.length ≤ c.out.length + 1 := by
  unfold chkS
  split
  · simp
  · refine ⟨by rw [setI_length], by simp, ?_⟩
    dsimp only
    split <;> simp
theorem chkN_len (s : List UInt8) : ∀ k : Nat, (chkN s k).v.length = 9 ∧ (chkN s k).seen.length = 9 ∧ (chkN s k).out.length ≤ k
  | 0 => ⟨rfl, rfl, Nat.le_refl _⟩
  | k + 1 => by
    obtain ⟨a, b, d⟩ := chkN_len s k
    obtain ⟨e, f, g⟩ := @chkS_len (chkN s k) (wdn (wds s) k) (nth (pls s) k)
    rw [chkN]
    exact ⟨by omega, by omega, by omega⟩
theorem wrd_ne2 (w : List UInt8) : (wrd w).2.2 ≠ 2 := by
  unfold wrd
  split
  · decide
  · split
    · split
      · show (3 : Int) ≠ 2; decide
      · split
        · show (4 : Int) ≠ 2; decide
        · show (0 : Int) ≠ 2; decide
    · split
      · by_cases h8 : idx fieldNames (cutS w [61]).1 = 8
        · simp only [if_pos h8]; split
          · show (4 : Int) ≠ 2; decide
          · show (0 : Int) ≠ 2; decide
        · simp only [if_neg h8]; split
          · show (4 : Int) ≠ 2; decide
          · show (0 : Int) ≠ 2; decide
      · show (0 : Int) ≠ 2; decide
theorem wrd_1 {w : List UInt8} (h : idx fieldNames (cutS w [61]).1 < 0 ∨ (cutS w [61]).2.2 = betw (idx fieldNames (cutS w [61]).1) 2 6) : wrd w = (0, 0, 1) := by unfold wrd; rw [if_pos h]
theorem wrd_3 {w : List UInt8} (h : ¬ (idx fieldNames (cutS w [61]).1 < 0 ∨ (cutS w [61]).2.2 = betw (idx fieldNames (cutS w [61]).1) 2 6)) (hk : idx fieldNames (cutS w [61]).1 = 0 ∨ idx fieldNames (cutS w [61]).1 = 1) (hn : (num (cutS w [61]).2.1).2 = false) : wrd w = (idx fieldNames (cutS w [61]).1, 0, 3) := by unfold wrd; rw [if_neg h, if_pos hk, if_pos hn]
theorem wrd_4 {w : List UInt8} (h : ¬ (idx fieldNames (cutS w [61]).1 < 0 ∨ (cutS w [61]).2.2 = betw (idx fieldNames (cutS w [61]).1) 2 6)) (hk : idx fieldNames (cutS w [61]).1 = 0 ∨ idx fieldNames (cutS w [61]).1 = 1) (hn : (num (cutS w [61]).2.1).2 = true)
    (hr : idx fieldNames (cutS w [61]).1 = 0 ∧ betw (num (cutS w [61]).2.1).1 2 8 = false ∨ idx fieldNames (cutS w [61]).1 = 1 ∧ betw (num (cutS w [61]).2.1).1 1 6 = false) : wrd w = (idx fieldNames (cutS w [61]).1, 0, 4) := by unfold wrd; rw [if_neg h, if_pos hk, if_neg (by simp [hn]), if_pos hr]
theorem wrd_0 {w : List UInt8} (h : ¬ (idx fieldNames (cutS w [61]).1 < 0 ∨ (cutS w [61]).2.2 = betw (idx fieldNames (cutS w [61]).1) 2 6)) (hk : idx fieldNames (cutS w [61]).1 = 0 ∨ idx fieldNames (cutS w [61]).1 = 1) (hn : (num (cutS w [61]).2.1).2 = true)
    (hr : ¬ (idx fieldNames (cutS w [61]).1 = 0 ∧ betw (num (cutS w [61]).2.1).1 2 8 = false ∨ idx fieldNames (cutS w [61]).1 = 1 ∧ betw (num (cutS w [61]).2.1).1 1 6 = false)) : wrd w = (idx fieldNames (cutS w [61]).1, (num (cutS w [61]).2.1).1, 0) := by unfold wrd; rw [if_neg h, if_pos hk, if_neg (by simp [hn]), if_neg hr]
theorem wrd_5 {w : List UInt8} {l : List (List UInt8)} (h : ¬ (idx fieldNames (cutS w [61]).1 < 0 ∨ (cutS w [61]).2.2 = betw (idx fieldNames (cutS w [61]).1) 2 6)) (hk : ¬ (idx fieldNames (cutS w [61]).1 = 0 ∨ idx fieldNames (cutS w [61]).1 = 1)) (hk2 : idx fieldNames (cutS w [61]).1 = 7 ∨ idx fieldNames (cutS w [61]).1 = 8)
    (hl : (if idx fieldNames (cutS w [61]).1 = 8 then slamNames else capNames) = l) (hn : idx l (cutS w [61]).2.1 < 0) : wrd w = (idx fieldNames (cutS w [61]).1, 0, 4) := by unfold wrd; rw [if_neg h, if_neg hk, if_pos hk2, hl, if_pos hn]
theorem wrd_6 {w : List UInt8} {l : List (List UInt8)} (h : ¬ (idx fieldNames (cutS w [61]).1 < 0 ∨ (cutS w [61]).2.2 = betw (idx fieldNames (cutS w [61]).1) 2 6)) (hk : ¬ (idx fieldNames (cutS w [61]).1 = 0 ∨ idx fieldNames (cutS w [61]).1 = 1)) (hk2 : idx fieldNames (cutS w [61]).1 = 7 ∨ idx fieldNames (cutS w [61]).1 = 8)
    (hl : (if idx fieldNames (cutS w [61]).1 = 8 then slamNames else capNames) = l) (hn : ¬ idx l (cutS w [61]).2.1 < 0) : wrd w = (idx fieldNames (cutS w [61]).1, idx l (cutS w [61]).2.1, 0) := by unfold wrd; rw [if_neg h, if_neg hk, if_pos hk2, hl, if_neg hn]
theorem wrd_7 {w : List UInt8} (h : ¬ (idx fieldNames (cutS w [61]).1 < 0 ∨ (cutS w [61]).2.2 = betw (idx fieldNames (cutS w [61]).1) 2 6)) (hk : ¬ (idx fieldNames (cutS w [61]).1 = 0 ∨ idx fieldNames (cutS w [61]).1 = 1)) (hk2 : ¬ (idx fieldNames (cutS w [61]).1 = 7 ∨ idx fieldNames (cutS w [61]).1 = 8)) : wrd w = (idx fieldNames (cutS w [61]).1, 1, 0) := by unfold wrd; rw [if_neg h, if_neg hk, if_neg hk2]
theorem wds_mem {s w : List UInt8} {k : Nat} (h : (wds s)[k]? = some w) : w.length ≤ s.length := split_mem 32 s w (List.mem_filter.1 (List.mem_of_getElem? h)).1
theorem wdn_get {l : List (List UInt8)} {y : List UInt8} {k : Nat} (h : l[k]? = some y) : wdn l k = y := by simp [wdn, List.getD, h]
section
variable {s y : List UInt8} {k : Nat} {v : List Int} {seen : List Bool} {again : Int} {out : List Prb}
theorem chk_t (hC : chkN s k = ⟨v, seen, again, out⟩) (hY : (wds s)[k]? = some y) (h1 : ¬ (wrd y).2.2 = 1) (h2 : blt seen (wrd y).1.toNat = true) : chkN s (k + 1) = ⟨v, seen, again, out ++ [⟨2, nth (pls s) k, y⟩]⟩ := by
  have hK : chkK ⟨v, seen, again, out⟩ y = 2 := by unfold chkK; rw [if_pos ⟨h1, h2⟩]
  rw [chkN, hC, wdn_get hY, chkS, hK, if_pos (.inr rfl)]
theorem chk_u (hC : chkN s k = ⟨v, seen, again, out⟩) (hY : (wds s)[k]? = some y) (h1 : (wrd y).2.2 = 1) : chkN s (k + 1) = ⟨v, seen, again, out ++ [⟨(wrd y).2.2, nth (pls s) k, y⟩]⟩ := by
  have hK : chkK ⟨v, seen, again, out⟩ y = (wrd y).2.2 := by unfold chkK; rw [if_neg (by simp [h1])]
  rw [chkN, hC, wdn_get hY, chkS, hK, if_pos (.inl h1)]
theorem chk_o (hC : chkN s k = ⟨v, seen, again, out⟩) (hY : (wds s)[k]? = some y) (h1 : ¬ (wrd y).2.2 = 1) (h2 : ¬ blt seen (wrd y).1.toNat = true) (h0 : ¬ (wrd y).2.2 = 0) :
    chkN s (k + 1) = ⟨setI v (wrd y).1 (wrd y).2.1, seen.set (wrd y).1.toNat true, if (wrd y).1 = 6 then nth (pls s) k else again, out ++ [⟨(wrd y).2.2, nth (pls s) k, y⟩]⟩ := by
  have hK : chkK ⟨v, seen, again, out⟩ y = (wrd y).2.2 := by unfold chkK; rw [if_neg (by simp [h2])]
  rw [chkN, hC, wdn_get hY, chkS, hK, if_neg (by rintro (h | h); exact h1 h; exact wrd_ne2 y h), if_neg h0]
theorem chk_z (hC : chkN s k = ⟨v, seen, again, out⟩) (hY : (wds s)[k]? = some y) (h2 : ¬ blt seen (wrd y).1.toNat = true) (h0 : (wrd y).2.2 = 0) :
    chkN s (k + 1) = ⟨setI v (wrd y).1 (wrd y).2.1, seen.set (wrd y).1.toNat true, if (wrd y).1 = 6 then nth (pls s) k else again, out⟩ := by
  have hK : chkK ⟨v, seen, again, out⟩ y = (wrd y).2.2 := by unfold chkK; rw [if_neg (by simp [h2])]
  rw [chkN, hC, wdn_get hY, chkS, hK, if_neg (by omega), if_pos h0]
theorem chk_e (hC : chkN s k = ⟨v, seen, again, out⟩) (h1 : (wds s).length ≤ k) (h2 : k ≤ (wds s).length) : chkA s = ⟨v, seen, again, out⟩ := by rw [chkA, ← Nat.le_antisymm h2 h1, hC]
theorem chkM_t (hA : chkA s = ⟨v, seen, again, out⟩) {o2 : List Prb} (hM : o2 = chkM s k) (hb : blt seen k = true) : o2 = chkM s (k + 1) := by rw [chkM, hA, if_pos hb, List.append_nil, hM]
theorem chkM_f (hA : chkA s = ⟨v, seen, again, out⟩) {o2 : List Prb} (hM : o2 = chkM s k) (hb : ¬ blt seen k = true) (hY : fieldNames[k]? = some y) : o2 ++ [⟨5, (s.length : Int), y⟩] = chkM s (k + 1) := by rw [chkM, hA, if_neg hb, wdn_get hY, hM]
theorem chkO_t (hA : chkA s = ⟨v, seen, again, out⟩) {o2 : List Prb} (hM : o2 = chkM s k) (hk : k = 2) (h1 : nth v 6 = 1) (h2 : nth v 2 = 0) : o2 ++ [⟨6, again, [97, 103, 97, 105, 110]⟩] = chkO s := by subst hk; rw [chkO, hA, if_pos ⟨h1, h2⟩, hM]
theorem chkO_f (hA : chkA s = ⟨v, seen, again, out⟩) {o2 : List Prb} (hM : o2 = chkM s k) (hk : k = 2) (h : ¬ (nth v 6 = 1 ∧ nth v 2 = 0)) : o2 = chkO s := by subst hk; rw [chkO, hA, if_neg h, List.append_nil, hM]
theorem chkR_e (hA : chkA s = ⟨v, seen, again, out⟩) : rulV v = chkR s := by rw [chkR, hA]
theorem chkM_len (s : List UInt8) (k : Nat) : (chkM s k).length ≤ (wds s).length + k := by
  induction k with
  | zero => exact (chkN_len s _).2.2
  | succ k ih =>
    rw [chkM, List.length_append]
    split <;> simp only [List.length_cons, List.length_nil] <;> omega
theorem chkO_len (s : List UInt8) : (chkO s).length ≤ s.length + 4 := by
  have h1 := chkM_len s 2; have h2 := wds_len s
  rw [chkO, List.length_append]
  split <;> simp only [List.length_cons, List.length_nil] <;> omega
end
theorem take1 {s : List UInt8} {k : Nat} (h : k + 1 ≤ s.length) (hb : bat s k = 61) : (s.drop k).take ([61] : List UInt8).length = [61] := by
  have hk : k < s.length := by omega
  rw [bat_get hk] at hb
  rw [List.drop_eq_getElem_cons hk, show s[k] = 61 from u8_of hb]; rfl
theorem take1n {s : List UInt8} {k : Nat} (h : k + 1 ≤ s.length) (hb : ¬ bat s k = 61) : (s.drop k).take ([61] : List UInt8).length ≠ [61] := by
  have hk : k < s.length := by omega
  intro h9
  rw [List.drop_eq_getElem_cons hk] at h9
  apply hb
  rw [bat_get hk]
  have h8 : s[k] = 61 := (List.cons.inj h9).1
  rw [h8]; rfl
def namedBy (l : List (List UInt8)) (y : List UInt8) : Int × Int := if idx l y < 0 then (0, 3) else (idx l y, 0)
theorem named_y {l : List (List UInt8)} {y : List UInt8} (h : ¬ idx l y < 0) : namedBy l y = (idx l y, 0) := if_neg h
theorem named_n {l : List (List UInt8)} {y : List UInt8} (h : idx l y < 0) : namedBy l y = (0, 3) := if_pos h
theorem named_hit {l : List (List UInt8)} {y z : List UInt8} {k : Nat} (h : Nix l y k) (hz : l[k]? = some z) (e : z = y) : namedBy l y = ((k : Int), 0) := by
  have := h.hit hz e
  rw [named_y (by omega), this]
theorem named_miss {l : List (List UInt8)} {y : List UInt8} {k : Nat} (h : Nix l y k) (hk : l.length ≤ k) : namedBy l y = (0, 3) := named_n (by rw [h.miss hk]; decide)
theorem slam_at {k : Nat} (h : k < 3) : slamNames[k]? = some (slamName (k : Int)) := by
  have : k = 0 ∨ k = 1 ∨ k = 2 := by omega
  rcases this with rfl | rfl | rfl <;> rfl
theorem cap_at {k : Nat} (h : k < 4) : capNames[k]? = some (capName (k : Int)) := by
  have : k = 0 ∨ k = 1 ∨ k = 2 ∨ k = 3 := by omega
  rcases this with rfl | rfl | rfl | rfl <;> rfl
def nNames : List (List UInt8) := [[112, 105, 116, 115], [115, 101, 101, 100, 115], [99, 97, 112, 116, 117, 114, 101], [115, 108, 97, 109]]
def isNum (y : List UInt8) : Bool := decide (y ∈ nNames)
def isFlg (y : List UInt8) : Bool := decide (y ∈ fNames)
def numIx (y : List UInt8) : Nat := if y = [112, 105, 116, 115] then 0 else if y = [115, 101, 101, 100, 115] then 1 else if y = [99, 97, 112, 116, 117, 114, 101] then 7 else 8
theorem isNum_iff {y : List UInt8} (h : isNum y = true) : y = [112, 105, 116, 115] ∨ y = [115, 101, 101, 100, 115] ∨ y = [99, 97, 112, 116, 117, 114, 101] ∨ y = [115, 108, 97, 109] := by
  have h9 := of_decide_eq_true h
  simpa [nNames] using h9
theorem isFlg_iff {y : List UInt8} (h : isFlg y = true) : y ∈ fNames := of_decide_eq_true h
theorem isNum_no {y : List UInt8} (h : isNum y = false) : y ≠ [112, 105, 116, 115] ∧ y ≠ [115, 101, 101, 100, 115] ∧ y ≠ [99, 97, 112, 116, 117, 114, 101] ∧ y ≠ [115, 108, 97, 109] := by
  have h9 := of_decide_eq_false h
  simpa [nNames] using h9
theorem isFlg_no {y : List UInt8} (h : isFlg y = false) : y ≠ [115, 116, 111, 114, 101, 115] ∧ y ≠ [115, 107, 105, 112] ∧ y ≠ [114, 101, 108, 97, 121] ∧ y ≠ [102, 101, 101, 100] ∧ y ≠ [97, 103, 97, 105, 110] := by
  have h9 := of_decide_eq_false h
  simpa [fNames] using h9
theorem okR_mk {a b c d : Int} {st sk re fe ag : Bool} (h1 : 2 ≤ a ∧ a ≤ 8) (h2 : 1 ≤ b ∧ b ≤ 6) (h3 : 0 ≤ c ∧ c ≤ 3) (h4 : 0 ≤ d ∧ d ≤ 2) (h5 : (st || !ag) = true) : okR ⟨a, b, st, sk, re, fe, ag, c, d⟩ = true := by
  simp only [okR, Bool.and_eq_true]
  exact ⟨⟨⟨⟨betw_iff.2 h1, betw_iff.2 h2⟩, betw_iff.2 h3⟩, betw_iff.2 h4⟩, h5⟩
def mget {α : Type} [DecidableEq α] : List (α × Int) → α → Option Int
  | [], _ => none
  | p :: r, k => if p.1 = k then some p.2 else mget r k
def mput {α : Type} [DecidableEq α] : List (α × Int) → α → Int → List (α × Int)
  | [], k, v => [(k, v)]
  | p :: r, k, v => if p.1 = k then (k, v) :: r else p :: mput r k v
def mhas {α : Type} [DecidableEq α] (g : List (α × Int)) (k : α) : Bool := (mget g k).isSome
def mval {α : Type} [DecidableEq α] (g : List (α × Int)) (k : α) : Int := (mget g k).getD 0
theorem mget_put {α : Type} [DecidableEq α] (k : α) (v : Int) (j : α) : ∀ g : List (α × Int), mget (mput g k v) j = if k = j then some v else mget g j
  | [] => by simp [mput, mget]
  | p :: r => by
    rw [mput]
    by_cases h : p.1 = k
    · rw [if_pos h, mget, mget]
      by_cases h2 : k = j
      · rw [if_pos h2, if_pos h2]
      · rw [if_neg h2, if_neg h2, if_neg (by rw [h]; exact h2)]
    · rw [if_neg h, mget, mget_put k v j r, mget]
      by_cases h2 : k = j
      · rw [if_pos h2, if_pos h2, if_neg (by rw [← h2]; exact h)]
      · rw [if_neg h2, if_neg h2]
theorem mhas_put {α : Type} [DecidableEq α] (g : List (α × Int)) (k : α) (v : Int) (j : α) : mhas (mput g k v) j = (decide (k = j) || mhas g j) := by
  unfold mhas
  rw [mget_put]
  by_cases h : k = j <;> simp [h]
theorem idx_get : ∀ {l : List (List UInt8)} {s : List UInt8}, 0 ≤ idx l s → l[(idx l s).toNat]? = some s
  | [], _, h => by simp [idx] at h
  | x :: l, s, h => by
    rw [idx] at h ⊢
    by_cases h0 : x = s
    · rw [if_pos h0]; simp [h0]
    · rw [if_neg h0] at h ⊢
      have hb := idx_bd l s
      by_cases h1 : idx l s = -1
      · rw [if_pos h1] at h; exact absurd h (by decide)
      · rw [if_neg h1] at h ⊢
        rw [show (idx l s + 1).toNat = (idx l s).toNat + 1 by omega, List.getElem?_cons_succ]
        exact idx_get (by omega)
theorem idx_inj {l : List (List UInt8)} {s t : List UInt8} (h : 0 ≤ idx l s) (e : (idx l s).toNat = (idx l t).toNat) (h2 : 0 ≤ idx l t) : s = t := by
  have a := idx_get h
  rw [e, idx_get h2] at a
  exact (Option.some.inj a).symm
def setNum (r : Rul) (y : List UInt8) (n : Int) : Rul :=
  if y = [112, 105, 116, 115] then ⟨n, r.seeds, r.stores, r.skip, r.relay, r.feed, r.again, r.capture, r.slam⟩ else
  if y = [115, 101, 101, 100, 115] then ⟨r.pits, n, r.stores, r.skip, r.relay, r.feed, r.again, r.capture, r.slam⟩ else
  if y = [99, 97, 112, 116, 117, 114, 101] then ⟨r.pits, r.seeds, r.stores, r.skip, r.relay, r.feed, r.again, n, r.slam⟩ else
  ⟨r.pits, r.seeds, r.stores, r.skip, r.relay, r.feed, r.again, r.capture, n⟩
def setFlg (r : Rul) (y : List UInt8) : Rul :=
  if y = [115, 116, 111, 114, 101, 115] then ⟨r.pits, r.seeds, true, r.skip, r.relay, r.feed, r.again, r.capture, r.slam⟩ else
  if y = [115, 107, 105, 112] then ⟨r.pits, r.seeds, r.stores, true, r.relay, r.feed, r.again, r.capture, r.slam⟩ else
  if y = [114, 101, 108, 97, 121] then ⟨r.pits, r.seeds, r.stores, r.skip, true, r.feed, r.again, r.capture, r.slam⟩ else
  if y = [102, 101, 101, 100] then ⟨r.pits, r.seeds, r.stores, r.skip, r.relay, true, r.again, r.capture, r.slam⟩ else
  ⟨r.pits, r.seeds, r.stores, r.skip, r.relay, r.feed, true, r.capture, r.slam⟩
def pitsT : List UInt8 := [112, 105, 116, 115]
def seedsT : List UInt8 := [115, 101, 101, 100, 115]
def captT : List UInt8 := [99, 97, 112, 116, 117, 114, 101]
def slamT : List UInt8 := [115, 108, 97, 109]
def storT : List UInt8 := [115, 116, 111, 114, 101, 115]
def agaiT : List UInt8 := [97, 103, 97, 105, 110]
def valP (y t : List UInt8) : Int × Int :=
  if y = captT then (if idx capNames t < 0 then (0, 4) else (idx capNames t, 0)) else
  if y = slamT then (if idx slamNames t < 0 then (0, 4) else (idx slamNames t, 0)) else
  if (num t).2 = false then (0, 3) else
  if y = pitsT ∧ betw (num t).1 2 8 = false ∨ y = seedsT ∧ betw (num t).1 1 6 = false then (0, 4) else ((num t).1, 0)
def valR (r : Rul) (y t : List UInt8) : Rul := if (valP y t).2 = 0 then setNum r y (valP y t).1 else r
theorem valP_z {y t : List UInt8} (h : (valP y t).2 ≠ 0) : (valP y t).1 = 0 := by
  unfold valP at h ⊢
  split
  · split
    · rfl
    · rename_i a b; rw [if_pos a, if_neg b] at h; exact absurd rfl h
  · split
    · split
      · rfl
      · rename_i c a b; rw [if_neg c, if_pos a, if_neg b] at h; exact absurd rfl h
    · split
      · rfl
      · split
        · rfl
        · rename_i a b c d; rw [if_neg a, if_neg b, if_neg c, if_neg d] at h; exact absurd rfl h
theorem p34 {a : Int} : ((a, (0 : Int)) : Int × Int).2 ≠ 1 ∧ ((a, (0 : Int)) : Int × Int).2 ≠ 2 := ⟨fun h => absurd (show (0 : Int) = 1 from h) (show ¬ (0 : Int) = 1 by decide), fun h => absurd (show (0 : Int) = 2 from h) (show ¬ (0 : Int) = 2 by decide)⟩
theorem valP_ne (y t : List UInt8) : (valP y t).2 ≠ 1 ∧ (valP y t).2 ≠ 2 := by
  unfold valP
  split
  · split
    · exact ⟨by decide, by decide⟩
    · exact p34
  · split
    · split
      · exact ⟨by decide, by decide⟩
      · exact p34
    · split
      · exact ⟨by decide, by decide⟩
      · split
        · exact ⟨by decide, by decide⟩
        · exact p34
theorem valP_pits (t : List UInt8) : valP pitsT t = if (num t).2 = false then (0, 3) else if betw (num t).1 2 8 = false then (0, 4) else ((num t).1, 0) := by
  unfold valP
  rw [if_neg (show ¬ pitsT = captT by decide), if_neg (show ¬ pitsT = slamT by decide)]
  have h1 : ¬ pitsT = seedsT := by decide
  simp [h1]
theorem valP_seeds (t : List UInt8) : valP seedsT t = if (num t).2 = false then (0, 3) else if betw (num t).1 1 6 = false then (0, 4) else ((num t).1, 0) := by
  unfold valP
  rw [if_neg (show ¬ seedsT = captT by decide), if_neg (show ¬ seedsT = slamT by decide)]
  have h1 : ¬ seedsT = pitsT := by decide
  simp [h1]
theorem valP_capt (t : List UInt8) : valP captT t = if idx capNames t < 0 then (0, 4) else (idx capNames t, 0) := by
  unfold valP; rw [if_pos rfl]
theorem valP_slam (t : List UInt8) : valP slamT t = if idx slamNames t < 0 then (0, 4) else (idx slamNames t, 0) := by
  unfold valP; rw [if_neg (show ¬ slamT = captT by decide), if_pos rfl]
structure Rdr where
  rules : Rul
  problems : List Prb
  given : List (List UInt8 × Int)
def rdU (x : Rdr) (a : Int) (w : List UInt8) (y t : List UInt8) (e : Bool) : Rdr :=
  if e = true ∧ isNum y = false ∨ e = false ∧ isFlg y = false then ⟨x.rules, x.problems ++ [⟨1, a, w⟩], x.given⟩ else
  if mhas x.given y = true then ⟨x.rules, x.problems ++ [⟨2, a, w⟩], x.given⟩ else
  if e = true then ⟨valR x.rules y t, if (valP y t).2 = 0 then x.problems else x.problems ++ [⟨(valP y t).2, a, w⟩], mput x.given y a⟩ else
  ⟨setFlg x.rules y, x.problems, mput x.given y a⟩
def rdW (x : Rdr) (a : Int) (w : List UInt8) : Rdr := rdU x a w (cutS w [61]).1 (cutS w [61]).2.1 (cutS w [61]).2.2
def wrdP (y t : List UInt8) (e : Bool) : Int × Int × Int :=
  if idx fieldNames y < 0 ∨ e = betw (idx fieldNames y) 2 6 then (0, 0, 1) else
  if idx fieldNames y = 0 ∨ idx fieldNames y = 1 then
    if (num t).2 = false then (idx fieldNames y, 0, 3) else
    if idx fieldNames y = 0 ∧ betw (num t).1 2 8 = false ∨ idx fieldNames y = 1 ∧ betw (num t).1 1 6 = false then (idx fieldNames y, 0, 4) else
    (idx fieldNames y, (num t).1, 0)
  else if idx fieldNames y = 7 ∨ idx fieldNames y = 8 then
    if idx (if idx fieldNames y = 8 then slamNames else capNames) t < 0 then (idx fieldNames y, 0, 4) else
    (idx fieldNames y, idx (if idx fieldNames y = 8 then slamNames else capNames) t, 0)
  else (idx fieldNames y, 1, 0)
theorem wrd_P (w : List UInt8) : wrd w = wrdP (cutS w [61]).1 (cutS w [61]).2.1 (cutS w [61]).2.2 := rfl
theorem wrdP_num {y t : List UInt8} (h : isNum y = true) : wrdP y t true = ((numIx y : Int), (valP y t).1, (valP y t).2) ∧ idx fieldNames y = (numIx y : Int) ∧ wrdP y t false = (0, 0, 1) ∧ isFlg y = false := by
  rcases isNum_iff h with rfl | rfl | rfl | rfl
  · refine ⟨?_, rfl, rfl, rfl⟩
    show (if (num t).2 = false then ((0 : Int), (0 : Int), (3 : Int)) else if (0 : Int) = 0 ∧ betw (num t).1 2 8 = false ∨ (0 : Int) = 1 ∧ betw (num t).1 1 6 = false then (0, 0, 4) else (0, (num t).1, 0)) = ((0 : Int), (valP pitsT t).1, (valP pitsT t).2)
    rw [valP_pits]
    by_cases h1 : (num t).2 = false
    · rw [if_pos h1, if_pos h1]
    · rw [if_neg h1, if_neg h1]
      by_cases h2 : betw (num t).1 2 8 = false
      · rw [if_pos (.inl ⟨rfl, h2⟩), if_pos h2]
      · rw [if_neg (fun h => h.elim (fun b => h2 b.2) (fun b => absurd b.1 (by decide))), if_neg h2]
  · refine ⟨?_, rfl, rfl, rfl⟩
    show (if (num t).2 = false then ((1 : Int), (0 : Int), (3 : Int)) else if (1 : Int) = 0 ∧ betw (num t).1 2 8 = false ∨ (1 : Int) = 1 ∧ betw (num t).1 1 6 = false then (1, 0, 4) else (1, (num t).1, 0)) = ((1 : Int), (valP seedsT t).1, (valP seedsT t).2)
    rw [valP_seeds]
    by_cases h1 : (num t).2 = false
    · rw [if_pos h1, if_pos h1]
    · rw [if_neg h1, if_neg h1]
      by_cases h2 : betw (num t).1 1 6 = false
      · rw [if_pos (.inr ⟨rfl, h2⟩), if_pos h2]
      · rw [if_neg (fun h => h.elim (fun b => absurd b.1 (by decide)) (fun b => h2 b.2)), if_neg h2]
  · refine ⟨?_, rfl, rfl, rfl⟩
    show (if idx capNames t < 0 then ((7 : Int), (0 : Int), (4 : Int)) else (7, idx capNames t, 0)) = ((7 : Int), (valP captT t).1, (valP captT t).2)
    rw [valP_capt]
    by_cases h1 : idx capNames t < 0
    · rw [if_pos h1, if_pos h1]
    · rw [if_neg h1, if_neg h1]
  · refine ⟨?_, rfl, rfl, rfl⟩
    show (if idx slamNames t < 0 then ((8 : Int), (0 : Int), (4 : Int)) else (8, idx slamNames t, 0)) = ((8 : Int), (valP slamT t).1, (valP slamT t).2)
    rw [valP_slam]
    by_cases h1 : idx slamNames t < 0
    · rw [if_pos h1, if_pos h1]
    · rw [if_neg h1, if_neg h1]
theorem isFlg_iff5 {y : List UInt8} (h : isFlg y = true) : y = [115, 116, 111, 114, 101, 115] ∨ y = [115, 107, 105, 112] ∨ y = [114, 101, 108, 97, 121] ∨ y = [102, 101, 101, 100] ∨ y = [97, 103, 97, 105, 110] := by
  have h9 := isFlg_iff h
  simpa [fNames] using h9
theorem wrdP_flg {y t : List UInt8} (h : isFlg y = true) : wrdP y t false = ((flagIx y : Int), 1, 0) ∧ idx fieldNames y = (flagIx y : Int) ∧ wrdP y t true = (0, 0, 1) ∧ isNum y = false := by
  rcases isFlg_iff5 h with rfl | rfl | rfl | rfl | rfl <;> exact ⟨rfl, rfl, rfl, rfl⟩
theorem wrdP_no {y t : List UInt8} {e : Bool} (h : isNum y = false) (h2 : isFlg y = false) : wrdP y t e = (0, 0, 1) := by
  obtain ⟨a1, a2, a3, a4⟩ := isNum_no h
  obtain ⟨b1, b2, b3, b4, b5⟩ := isFlg_no h2
  have : idx fieldNames y < 0 := by
    have : Nix fieldNames y 9 := fun i _ e => by
      have := List.mem_of_getElem? e
      simp only [fieldNames, List.mem_cons, List.not_mem_nil, or_false] at this
      rcases this with rfl | rfl | rfl | rfl | rfl | rfl | rfl | rfl | rfl <;> contradiction
    rw [this.miss (Nat.le_refl _)]; decide
  unfold wrdP; rw [if_pos (.inl this)]
theorem rulV_num {v : List Int} (hv : v.length = 9) {y : List UInt8} (h : isNum y = true) (n : Int) : rulV (setI v (numIx y : Int) n) = setNum (rulV v) y n := by
  match v, hv with
  | [a0, a1, a2, a3, a4, a5, a6, a7, a8], _ => rcases isNum_iff h with rfl | rfl | rfl | rfl <;> rfl
theorem rulV_flg {v : List Int} (hv : v.length = 9) {y : List UInt8} (h : isFlg y = true) : rulV (setI v (flagIx y : Int) 1) = setFlg (rulV v) y := by
  match v, hv with
  | [a0, a1, a2, a3, a4, a5, a6, a7, a8], _ => rcases isFlg_iff5 h with rfl | rfl | rfl | rfl | rfl <;> rfl
theorem blt_set {l : List Bool} {k j : Nat} (hk : k < l.length) : blt (l.set k true) j = (decide (j = k) || blt l j) := by
  unfold blt
  by_cases h : j = k
  · subst h; simp [List.getD, hk]
  · simp [List.getD, List.getElem?_set, h, show ¬ k = j from fun e => h e.symm]
theorem nth_setI {l : List Int} {k : Int} {n : Int} {j : Nat} (h : ¬ (j : Int) = k) (h0 : 0 ≤ k) : nth (setI l k n) j = nth l j := by
  unfold nth setI
  have : ¬ k.toNat = j := by omega
  simp [List.getD, List.getElem?_set, this]
theorem setI_same {l : List Int} {k : Int} (h : nth l k.toNat = 0) : setI l k 0 = l := by
  unfold setI
  apply List.ext_getElem?
  intro i
  rw [List.getElem?_set]
  split
  · rename_i e
    subst e
    split
    · rename_i hlt
      rw [nth_eq hlt] at h
      rw [List.getElem?_eq_getElem hlt, h]
    · rename_i hlt
      rw [List.getElem?_eq_none (by omega)]
  · rfl
theorem nth_setI_eq {l : List Int} {k : Int} {n : Int} (h : k.toNat < l.length) : nth (setI l k n) k.toNat = n := by
  unfold nth setI; simp [List.getD, h]
structure RelC (x : Rdr) (c : Chk) : Prop where
  r : x.rules = rulV c.v
  p : x.problems = c.out
  g : ∀ y, mhas x.given y = (decide (0 ≤ idx fieldNames y) && blt c.seen (idx fieldNames y).toNat)
  lv : c.v.length = 9
  ls : c.seen.length = 9
  a : blt c.seen 6 = true → mget x.given agaiT = some c.again
  z : ∀ k, blt c.seen k = false → nth c.v k = 0
  f6 : blt c.seen 6 = true → nth c.v 6 = 1
  f2 : blt c.seen 2 = true → nth c.v 2 = 1
theorem rep_b (n k : Nat) : (List.replicate n false).getD k false = false := by
  rw [List.getD_eq_getElem?_getD, List.getElem?_replicate]; split <;> rfl
theorem rep_i (n k : Nat) : (List.replicate n (0 : Int)).getD k 0 = 0 := by
  rw [List.getD_eq_getElem?_getD, List.getElem?_replicate]; split <;> rfl
theorem RelC.zero : RelC ⟨⟨0, 0, false, false, false, false, false, 0, 0⟩, [], []⟩ Chk.zero := by
  refine ⟨rfl, rfl, fun y => ?_, rfl, rfl, fun h => absurd h (by decide), fun k _ => rep_i 9 k, fun h => absurd h (by decide), fun h => absurd h (by decide)⟩
  have : blt Chk.zero.seen (idx fieldNames y).toNat = false := rep_b 9 _
  rw [this]; simp [mhas, mget]
theorem RelC.put {x : Rdr} {c : Chk} (h : RelC x c) {y : List UInt8} {k : Nat} (a : Int) (hi : idx fieldNames y = (k : Int)) (hk : k < 9) (y' : List UInt8) :
    mhas (mput x.given y a) y' = (decide (0 ≤ idx fieldNames y') && blt (c.seen.set k true) (idx fieldNames y').toNat) := by
  rw [mhas_put, h.g, blt_set (by have := h.ls; omega)]
  by_cases e : y = y'
  · subst e; rw [hi]; simp
  · by_cases h0 : 0 ≤ idx fieldNames y'
    · have : ¬ (idx fieldNames y').toNat = k := fun e2 => e (idx_inj (l := fieldNames) (by rw [hi]; omega) (by rw [hi, e2]; simp) h0)
      simp [e, h0, this]
    · simp [e, h0]
theorem agai_idx : idx fieldNames agaiT = 6 := by decide
theorem stor_idx : idx fieldNames storT = 2 := by decide
section
variable {c : Chk} {w : List UInt8} {a i n q : Int}
theorem chkS_u (e : wrd w = (i, n, q)) (h : q = 1) : chkS c w a = ⟨c.v, c.seen, c.again, c.out ++ [⟨1, a, w⟩]⟩ := by
  have hK : chkK c w = 1 := by unfold chkK; rw [if_neg (by rw [e]; simp [h]), e]; exact h
  unfold chkS; rw [hK, if_pos (.inl rfl)]
theorem chkS_t (e : wrd w = (i, n, q)) (h : q ≠ 1) (hb : blt c.seen i.toNat = true) : chkS c w a = ⟨c.v, c.seen, c.again, c.out ++ [⟨2, a, w⟩]⟩ := by
  have hK : chkK c w = 2 := by unfold chkK; rw [if_pos (by rw [e]; exact ⟨h, hb⟩)]
  unfold chkS; rw [hK, if_pos (.inr rfl)]
theorem chkS_n (e : wrd w = (i, n, q)) (h : q ≠ 1) (h2 : q ≠ 2) (hb : blt c.seen i.toNat = false) : chkS c w a = ⟨setI c.v i n, c.seen.set i.toNat true, if i = 6 then a else c.again, if q = 0 then c.out else c.out ++ [⟨q, a, w⟩]⟩ := by
  have hK : chkK c w = q := by unfold chkK; rw [if_neg (by rw [e]; simp [hb]), e]
  unfold chkS; rw [hK, if_neg (by rintro (h9 | h9); exact h h9; exact h2 h9), e]
end
theorem RelC.step {x : Rdr} {c : Chk} (h : RelC x c) (a : Int) (w : List UInt8) : RelC (rdW x a w) (chkS c w a) := by
  have hw := wrd_P w
  unfold rdW
  generalize (cutS w [61]).1 = y at hw ⊢
  generalize (cutS w [61]).2.1 = t at hw ⊢
  generalize (cutS w [61]).2.2 = e at hw ⊢
  have unk : wrd w = (0, 0, 1) → RelC ⟨x.rules, x.problems ++ [⟨1, a, w⟩], x.given⟩ (chkS c w a) := fun e1 => by
    rw [chkS_u e1 rfl]
    exact ⟨h.r, by show x.problems ++ _ = c.out ++ _; rw [h.p], h.g, h.lv, h.ls, h.a, h.z, h.f6, h.f2⟩
  have twi : ∀ {k : Nat} {n q : Int}, wrd w = ((k : Int), n, q) → q ≠ 1 → blt c.seen k = true → RelC ⟨x.rules, x.problems ++ [⟨2, a, w⟩], x.given⟩ (chkS c w a) := fun {k n q} e1 hq hb => by
    rw [chkS_t e1 hq (by simpa using hb)]
    exact ⟨h.r, by show x.problems ++ _ = c.out ++ _; rw [h.p], h.g, h.lv, h.ls, h.a, h.z, h.f6, h.f2⟩
  have has : ∀ {k : Nat}, idx fieldNames y = (k : Int) → mhas x.given y = blt c.seen k := fun {k} hi => by rw [h.g, hi]; simp
  unfold rdU
  cases hn : isNum y with
  | true =>
    obtain ⟨q1, q2, q3, q4⟩ := wrdP_num (t := t) hn
    cases e with
    | false => rw [if_pos (.inr ⟨rfl, q4⟩)]; exact unk (hw.trans q3)
    | true =>
      rw [if_neg (by simp)]
      have hw' := hw.trans q1
      obtain ⟨v1, v2⟩ := valP_ne y t
      have hk9 : numIx y < 9 ∧ numIx y ≠ 6 ∧ numIx y ≠ 2 := by
        rcases isNum_iff hn with rfl | rfl | rfl | rfl <;> decide
      rw [has q2]
      cases hb : blt c.seen (numIx y) with
      | true => rw [if_pos rfl]; exact twi hw' v1 hb
      | false =>
        rw [if_neg (by decide), if_pos rfl]
        rw [chkS_n hw' v1 v2 (by rw [Int.toNat_natCast]; exact hb), Int.toNat_natCast]
        refine ⟨?_, ?_, h.put a q2 hk9.1, by rw [setI_length]; exact h.lv, by rw [List.length_set]; exact h.ls, fun hs => ?_, fun k hs => ?_, fun hs => ?_, fun hs => ?_⟩
        · dsimp only
          unfold valR
          by_cases h0 : (valP y t).2 = 0
          · rw [if_pos h0, rulV_num h.lv hn, h.r]
          · rw [if_neg h0, valP_z h0, setI_same (by rw [Int.toNat_natCast]; exact h.z _ hb), h.r]
        · dsimp only; rw [h.p]
        · have hs' : blt c.seen 6 = true := by
            have := hs
            dsimp only at this
            rw [blt_set (by have := h.ls; omega)] at this
            simpa [hk9.2.1.symm] using this
          dsimp only
          rw [if_neg (by have := hk9.2.1; omega), mget_put, if_neg (by intro e2; subst e2; exact absurd hn (by decide))]
          exact h.a hs'
        · dsimp only at hs ⊢
          rw [blt_set (by have := h.ls; omega)] at hs
          simp only [Bool.or_eq_false_iff, decide_eq_false_iff_not] at hs
          rw [nth_setI (by have := hs.1; omega) (by omega)]
          exact h.z k hs.2
        · dsimp only at hs ⊢
          rw [blt_set (by have := h.ls; omega)] at hs
          have hs' : blt c.seen 6 = true := by simpa [hk9.2.1.symm] using hs
          rw [nth_setI (by have := hk9.2.1; omega) (by omega)]
          exact h.f6 hs'
        · dsimp only at hs ⊢
          rw [blt_set (by have := h.ls; omega)] at hs
          have hs' : blt c.seen 2 = true := by simpa [hk9.2.2.symm] using hs
          rw [nth_setI (by have := hk9.2.2; omega) (by omega)]
          exact h.f2 hs'
  | false =>
    cases hf : isFlg y with
    | false => rw [if_pos (by cases e; exact .inr ⟨rfl, rfl⟩; exact .inl ⟨rfl, rfl⟩)]; exact unk (hw.trans (wrdP_no hn hf))
    | true =>
      obtain ⟨q1, q2, q3, q4⟩ := wrdP_flg (t := t) hf
      cases e with
      | true => rw [if_pos (.inl ⟨rfl, rfl⟩)]; exact unk (hw.trans q3)
      | false =>
        rw [if_neg (by simp)]
        have hw' := hw.trans q1
        have hk9 : flagIx y < 9 ∧ (flagIx y = 6 → y = agaiT) ∧ (flagIx y ≠ 6 → y ≠ agaiT) := by
          rcases isFlg_iff5 hf with rfl | rfl | rfl | rfl | rfl <;> decide
        rw [has q2]
        cases hb : blt c.seen (flagIx y) with
        | true => rw [if_pos rfl]; exact twi hw' (by decide) hb
        | false =>
          rw [if_neg (by decide), if_neg (by decide)]
          rw [chkS_n hw' (by decide) (by decide) (by rw [Int.toNat_natCast]; exact hb), Int.toNat_natCast, if_pos rfl]
          refine ⟨?_, h.p, h.put a q2 hk9.1, by rw [setI_length]; exact h.lv, by rw [List.length_set]; exact h.ls, fun hs => ?_, fun k hs => ?_, fun hs => ?_, fun hs => ?_⟩
          · dsimp only; rw [rulV_flg h.lv hf, h.r]
          · dsimp only at hs ⊢
            rw [blt_set (by have := h.ls; omega)] at hs
            by_cases h6 : flagIx y = 6
            · rw [if_pos (by omega), mget_put, if_pos (hk9.2.1 h6)]
            · rw [if_neg (by omega), mget_put, if_neg (hk9.2.2 h6)]
              exact h.a (by simpa [show ¬ 6 = flagIx y from fun e2 => h6 e2.symm] using hs)
          · dsimp only at hs ⊢
            rw [blt_set (by have := h.ls; omega)] at hs
            simp only [Bool.or_eq_false_iff, decide_eq_false_iff_not] at hs
            rw [nth_setI (by have := hs.1; omega) (by omega)]
            exact h.z k hs.2
          · dsimp only at hs ⊢
            rw [blt_set (by have := h.ls; omega)] at hs
            by_cases h6 : 6 = flagIx y
            · have := nth_setI_eq (l := c.v) (k := (flagIx y : Int)) (n := 1) (by have := h.lv; omega)
              rw [Int.toNat_natCast, ← h6] at this; rw [← h6]; exact this
            · rw [nth_setI (by omega) (by omega)]
              exact h.f6 (by simpa [h6] using hs)
          · dsimp only at hs ⊢
            rw [blt_set (by have := h.ls; omega)] at hs
            by_cases h6 : 2 = flagIx y
            · have := nth_setI_eq (l := c.v) (k := (flagIx y : Int)) (n := 1) (by have := h.lv; omega)
              rw [Int.toNat_natCast, ← h6] at this; rw [← h6]; exact this
            · rw [nth_setI (by omega) (by omega)]
              exact h.f2 (by simpa [h6] using hs)
def pNames : List (List UInt8) := [pitsT, seedsT]
def misN (g : List (List UInt8 × Int)) (m : Int) : Nat → List Prb
  | 0 => []
  | k + 1 => misN g m k ++ (if mhas g (wdn pNames k) = true then [] else [⟨5, m, wdn pNames k⟩])
def misE (g : List (List UInt8 × Int)) : List Prb := if mhas g agaiT = true ∧ mhas g storT = false then [⟨6, mval g agaiT, agaiT⟩] else []
def mis (g : List (List UInt8 × Int)) (m : Int) : List Prb := misN g m 2 ++ misE g
theorem misN_len (g : List (List UInt8 × Int)) (m : Int) : ∀ k, (misN g m k).length ≤ k
  | 0 => Nat.le_refl _
  | k + 1 => by
    have := misN_len g m k
    rw [misN, List.length_append]
    split <;> simp only [List.length_cons, List.length_nil] <;> omega
theorem RelC.missing {x : Rdr} {s : List UInt8} (h : RelC x (chkA s)) : x.problems ++ mis x.given (s.length : Int) = chkO s := by
  have hp : ∀ k : Nat, k ≤ 2 → x.problems ++ misN x.given (s.length : Int) k = chkM s k := by
    intro k hk
    induction k with
    | zero => rw [misN, List.append_nil]; exact h.p
    | succ k ih =>
      have hk' : k = 0 ∨ k = 1 := by omega
      have e : mhas x.given (wdn pNames k) = blt (chkA s).seen k ∧ wdn pNames k = wdn fieldNames k := by
        rcases hk' with rfl | rfl
        · exact ⟨by rw [show wdn pNames 0 = pitsT from rfl, h.g, show idx fieldNames pitsT = 0 from by decide]; simp, rfl⟩
        · exact ⟨by rw [show wdn pNames 1 = seedsT from rfl, h.g, show idx fieldNames seedsT = 1 from by decide]; simp, rfl⟩
      rw [misN, ← List.append_assoc, ih (by omega), chkM, e.1, e.2]
  unfold mis chkO
  rw [← List.append_assoc, hp 2 (Nat.le_refl _)]
  congr 1
  unfold misE
  have h6 : mhas x.given agaiT = blt (chkA s).seen 6 := by rw [h.g, agai_idx]; simp
  have h2 : mhas x.given storT = blt (chkA s).seen 2 := by rw [h.g, stor_idx]; simp
  by_cases a : blt (chkA s).seen 6 = true
  · by_cases b : blt (chkA s).seen 2 = true
    · rw [if_neg (by rw [h2, b]; simp), if_neg (by rw [h.f2 b]; simp)]
    · have b' : blt (chkA s).seen 2 = false := by simpa using b
      rw [if_pos ⟨by rw [h6]; exact a, by rw [h2]; exact b'⟩, if_pos ⟨h.f6 a, h.z 2 b'⟩]
      have : mval x.given agaiT = (chkA s).again := by unfold mval; rw [h.a a]; rfl
      rw [this]; rfl
  · have a' : blt (chkA s).seen 6 = false := by simpa using a
    rw [if_neg (by rw [h6, a']; simp), if_neg (by rw [h.z 6 a']; simp)]
structure PtI (s : List UInt8) (j : Nat) (a : Int) (k : Nat) : Prop where
  w : (wds s).drop k = ((split 32 s).drop j).filter (fun w => decide (w ≠ []))
  p : (pls s).drop k = plsW a ((split 32 s).drop j)
  a0 : 0 ≤ a ∧ a ≤ (s.length : Int) + 1
  l : (split 32 s).drop j ≠ [] → a + ((joinW 32 ((split 32 s).drop j)).length : Int) = (s.length : Int)
theorem PtI.zero (s : List UInt8) : PtI s 0 0 0 := ⟨rfl, rfl, by omega, fun _ => by rw [List.drop_zero, joinW_split]; omega⟩
theorem PtI.next {s y : List UInt8} {j : Nat} {a : Int} {k : Nat} (h : PtI s j a k) (hy : (split 32 s)[j]? = some y) : (0 ≤ a + (y.length : Int) + 1 ∧ a + (y.length : Int) + 1 ≤ (s.length : Int) + 1) ∧ ((split 32 s).drop (j + 1) ≠ [] → a + (y.length : Int) + 1 + ((joinW 32 ((split 32 s).drop (j + 1))).length : Int) = (s.length : Int)) := by
  obtain ⟨hj, hy'⟩ := List.getElem?_eq_some_iff.1 hy
  have e : (split 32 s).drop j = y :: (split 32 s).drop (j + 1) := by rw [List.drop_eq_getElem_cons hj, hy']
  have hl := h.l (by rw [e]; simp)
  have h0 := h.a0
  rw [e] at hl
  cases hr : (split 32 s).drop (j + 1) with
  | nil =>
    rw [hr] at hl
    have : joinW 32 [y] = y := rfl
    rw [this] at hl
    exact ⟨by omega, fun h => absurd rfl h⟩
  | cons v ws =>
    rw [hr] at hl
    rw [joinW_cons 32 y (by simp), List.length_append, List.length_cons] at hl
    refine ⟨by omega, fun _ => by omega⟩
theorem PtI.blank {s : List UInt8} {j : Nat} {a : Int} {k : Nat} (h : PtI s j a k) (hy : (split 32 s)[j]? = some []) : PtI s (j + 1) (a + (([] : List UInt8).length : Int) + 1) k := by
  obtain ⟨h1, h2⟩ := h.next hy
  obtain ⟨hj, hy'⟩ := List.getElem?_eq_some_iff.1 hy
  have e : (split 32 s).drop j = [] :: (split 32 s).drop (j + 1) := by rw [List.drop_eq_getElem_cons hj, hy']
  refine ⟨?_, ?_, h1, h2⟩
  · rw [h.w, e, List.filter_cons_of_neg (by simp)]
  · rw [h.p, e, plsW, if_pos rfl]; simp
theorem PtI.word {s y : List UInt8} {j : Nat} {a : Int} {k : Nat} (h : PtI s j a k) (hy : (split 32 s)[j]? = some y) (hne : y ≠ []) : PtI s (j + 1) (a + (y.length : Int) + 1) (k + 1) ∧ (wds s)[k]? = some y ∧ nth (pls s) k = a := by
  obtain ⟨h1, h2⟩ := h.next hy
  obtain ⟨hj, hy'⟩ := List.getElem?_eq_some_iff.1 hy
  have e : (split 32 s).drop j = y :: (split 32 s).drop (j + 1) := by rw [List.drop_eq_getElem_cons hj, hy']
  have hw : (wds s).drop k = y :: ((split 32 s).drop (j + 1)).filter (fun w => decide (w ≠ [])) := by rw [h.w, e, List.filter_cons_of_pos (by simpa using hne)]
  have hp : (pls s).drop k = a :: plsW (a + (y.length : Int) + 1) ((split 32 s).drop (j + 1)) := by rw [h.p, e, plsW, if_neg hne]
  have hd : ∀ {α : Type} {l : List α} {x : α} {r : List α} {k : Nat}, l.drop k = x :: r → l[k]? = some x ∧ l.drop (k + 1) = r := fun {α l x r k} he => by
    constructor
    · have := congrArg (·[0]?) he; simpa using this
    · rw [← List.drop_drop, he]; rfl
  refine ⟨⟨(hd hw).2, (hd hp).2, h1, h2⟩, (hd hw).1, ?_⟩
  have := (hd hp).1
  unfold nth; simp [List.getD, this]
theorem PtI.done {s : List UInt8} {j : Nat} {a : Int} {k : Nat} (h : PtI s j a k) (hj : (split 32 s).length ≤ j) (hk : k ≤ (wds s).length) : k = (wds s).length := by
  have := h.w
  rw [List.drop_eq_nil_of_le hj] at this
  have h2 : (wds s).drop k = [] := this
  rw [List.drop_eq_nil_iff] at h2
  omega
theorem rel_word {s y : List UInt8} {x : Rdr} {k : Nat} {a : Int} (h : RelC x (chkN s k)) (hy : (wds s)[k]? = some y) (ha : nth (pls s) k = a) : RelC (rdW x a y) (chkN s (k + 1)) := by
  rw [chkN, wdn_get hy, ha]; exact h.step a y
def chkT (s : List UInt8) : Rul × List Prb × Int :=
  if 200 < s.length then (Rul.zero, [], 5) else if chkO s = [] then (chkR s, [], 0) else (Rul.zero, chkO s, 0)
end Go.Proofs.YtjklnidbndopiaaGreatDoor.M
namespace Go.Proofs.YtjklnidbndopiaaGreatDoor
open Go.RowKit
open Go.MapKept (IsKey sameNow_of_keys heap_set)
class KeyV (α : Type) [DecidableEq α] where
  kv : α → Value
  kd : TypeDesc
  is : ∀ a, IsKey kd (kv a)
  inj : ∀ a b, kv a = kv b → a = b
instance keyS : KeyV (List UInt8) := ⟨fun k => .string (sB k), .string, fun _ => trivial, fun a b h => by
  have h1 : sB a = sB b := by injection h
  have h2 := congrArg (fun x : ByteArray => x.data.toList) h1
  simpa [sB] using h2⟩
instance keyI : KeyV Int := ⟨fun k => .int .i64 k, .int .i64, fun _ => rfl, fun a b h => by injection h⟩
def zvOf (P : Program) (t : TypeId) : Option Value := match P.info? t with
  | some i => i.zero
  | none => none
structure MapF (P : Program) (t kt et : TypeId) (d : TypeDesc) : Prop where
  a : P.underlying t = some (.map kt et)
  b : P.underlying kt = some d
  z : zvOf P et = some (.int .i64 0)
def ents {α : Type} [DecidableEq α] [KeyV α] (g : List (α × Int)) : List (Value × Value) := g.map fun p => (KeyV.kv p.1, .int .i64 p.2)
def mapO {α : Type} [DecidableEq α] [KeyV α] (b : Nat) (g : List (α × Int)) : Own :=
  ⟨[b], fun w => ∃ es clock, w.heap[b]? = some (.map es clock) ∧ es.toList.map (fun e => (e.key, e.val)) = ents g, fun h k => by rw [h b (by simp)]; exact k⟩
@[reducible] def mapS (b : Nat) (g : List (List UInt8 × Int)) : Own := mapO b g
section
variable {α : Type} [DecidableEq α] [KeyV α]
theorem find_map (k : α) : ∀ (es : List MapEntry) (g : List (α × Int)) (i : Nat), es.map (fun e => (e.key, e.val)) = ents g →
    M.mget g k = none ∧ Instr.findNow (KeyV.kd α) (KeyV.kv k) es i = some none ∨ ∃ v j, M.mget g k = some v ∧ Instr.findNow (KeyV.kd α) (KeyV.kv k) es i = some (some (j, .int .i64 v))
  | [], [], _, _ => .inl ⟨rfl, rfl⟩
  | [], p :: g, _, h => by simp [ents] at h
  | e :: es, [], _, h => by simp [ents] at h
  | e :: es, p :: g, i, h => by
    simp only [ents, List.map_cons, List.cons.injEq, Prod.mk.injEq] at h
    obtain ⟨⟨h1, h2⟩, h3⟩ := h
    obtain ⟨r, hr, hiff⟩ := sameNow_of_keys (KeyV.is k) (by rw [h1]; exact KeyV.is p.1 : IsKey (KeyV.kd α) e.key)
    cases r with
    | true =>
      have e1 : p.1 = k := (KeyV.inj _ _ ((hiff.1 rfl).trans h1)).symm
      exact .inr ⟨p.2, i, by rw [M.mget, if_pos e1], by simp [Instr.findNow, hr, h2]⟩
    | false =>
      have e1 : ¬ p.1 = k := fun q => by have := hiff.2 (by rw [h1, q]); cases this
      rw [M.mget, if_neg e1]
      have e2 : Instr.findNow (KeyV.kd α) (KeyV.kv k) (e :: es) i = Instr.findNow (KeyV.kd α) (KeyV.kv k) es (i + 1) := by simp [Instr.findNow, hr]
      rw [e2]
      exact find_map k es g (i + 1) h3
omit [KeyV α] in
theorem mput_new {k : α} {v : Int} : ∀ {g : List (α × Int)}, M.mget g k = none → M.mput g k v = g ++ [(k, v)]
  | [], _ => rfl
  | p :: r, h => by
    rw [M.mget] at h
    by_cases e : p.1 = k
    · rw [if_pos e] at h; cases h
    · rw [if_neg e] at h
      rw [M.mput, if_neg e, mput_new h]; rfl
variable {P : Program} {n lo : Nat} {B : List Nat} {l : Fr} {os : List Own} {u : World} {dst : Option Tmp} {ty : TypeId} {pos : String} {af : Array Edge} {gd : Option (Nat × Bool)}
theorem run_zeroV {t : TypeId} {z : Value} (w : World) (h : zvOf P t = some z) : (zeroValue t).run P w = .ok z w := by
  unfold zvOf at h
  split at h
  · rename_i i hi
    simp [zeroValue, typeInfo, hi, h]
  · cases h
theorem run_look {t kt et : TypeId} {w : World} {b : Nat} {g : List (α × Int)} {k : α} (ht : MapF P t kt et (KeyV.kd α)) (h : (mapO b g).pr w) (ok : Bool) :
    (Instr.lookup t (.map (some b)) (KeyV.kv k) ok).run P w = .ok (if ok then .tuple #[.int .i64 (M.mval g k), .bool (M.mhas g k)] else .int .i64 (M.mval g k)) w := by
  obtain ⟨es, clock, hb, he⟩ := h
  have hc := Go.MapKept.run_checkKey (P := P) (w := w) ht.b (KeyV.is k) es.isEmpty 9999
  rcases find_map k es.toList g 0 he with ⟨h1, h2⟩ | ⟨v, j, h1, h2⟩
  · have hf := Go.MapKept.run_findKey (P := P) (w := w) ht.b h2
    unfold M.mval M.mhas
    rw [h1]
    simp [Instr.lookup, run_underlying ht.a, Go.MapKept.run_getObj_map hb, hc, hf, run_zeroV w ht.z, Result.andThen]
  · have hf := Go.MapKept.run_findKey (P := P) (w := w) ht.b h2
    unfold M.mval M.mhas
    rw [h1]
    simp [Instr.lookup, run_underlying ht.a, Go.MapKept.run_getObj_map hb, hc, hf, Result.andThen]
theorem q_look_ {x y : Operand} {t kt et : TypeId} {i b : Nat} {g : List (α × Int)} {k : α} {ok : Bool} (ht : MapF P t kt et (KeyV.kd α)) (hx : opd l x = some (.map (some b))) (hy : opd l y = some (KeyV.kv k)) (hi : os[i]? = some (mapO b g)) :
    OpQ P n lo B l os u ⟨dst, .lookup t x y ok, ty, pos, af, gd⟩ (if ok then .tuple #[.int .i64 (M.mval g k), .bool (M.mhas g k)] else .int .i64 (M.mval g k)) := fun a w ha hw => by
  have := run_look (k := k) ht (hw.prs _ (List.mem_of_getElem? hi)) ok
  simp [execOp, ha.eval hx, ha.eval hy, this]
theorem e_mapNew_ {t : TypeId} : OpE P n lo B l os u ⟨dst, .makeMap t none, ty, pos, af, gd⟩ true (fun v os' u' => ∃ b, v = .map (some b) ∧ os' = (mapO b ([] : List (α × Int))) :: os ∧ u = u') := fun a w ha hw K Q hk => by
  have hr : (execOp a.eval ⟨dst, .makeMap t none, ty, pos, af, gd⟩).run P w = .ok (.value (.map (some w.heap.size))) (w.alloc (.map #[] 0)) := by
    simp [execOp, Instr.makeMap]
  unfold Oper.wp
  rw [hr]
  refine hk _ _ u _ ⟨w.heap.size, rfl, rfl, rfl⟩ (Up.refl lo u) ?_ (fun _ => (Ext.refl w).alloc _)
  refine hw.new ((Ext.refl w).alloc _) (o := mapO w.heap.size ([] : List (α × Int))) (fun k hk => ?_) (by simp [mapO]) ⟨#[], 0, heap_alloc_new w _, rfl⟩
  simp only [mapO, List.mem_singleton] at hk
  subst hk
  simp
theorem e_mapUpd_ {x y z : Operand} {t kt et : TypeId} {i b : Nat} {g : List (α × Int)} {k : α} {v : Int} (ht : MapF P t kt et (KeyV.kd α)) (hx : opd l x = some (.map (some b))) (hy : opd l y = some (KeyV.kv k)) (hz : opd l z = some (.int .i64 v)) (hi : os[i]? = some (mapO b g)) (hn : M.mget g k = none) :
    OpE P n lo B l os u ⟨dst, .mapUpdate t x y z, ty, pos, af, gd⟩ false (fun _ os' u' => os' = os.set i (mapO b (M.mput g k v)) ∧ u = u') := fun a w ha hw K Q hk => by
  obtain ⟨es, clock, hb, he⟩ := hw.prs _ (List.mem_of_getElem? hi)
  have hc := Go.MapKept.run_checkKey (P := P) (w := w) ht.b (KeyV.is k) false 9999
  have hf : (Instr.findKey kt (KeyV.kv k) es.toList).run P w = .ok none w := by
    rcases find_map k es.toList g 0 he with ⟨h1, h2⟩ | ⟨v, j, h1, h2⟩
    · exact Go.MapKept.run_findKey ht.b h2
    · rw [hn] at h1; cases h1
  have hr : (execOp a.eval ⟨dst, .mapUpdate t x y z, ty, pos, af, gd⟩).run P w = .ok .skip { w with heap := w.heap.setIfInBounds b (.map (es.push { key := KeyV.kv k, val := .int .i64 v, born := clock }) (clock + 1)) } := by
    simp [execOp, ha.eval hx, ha.eval hy, ha.eval hz, Instr.mapUpdate, run_underlying ht.a, Go.MapKept.run_getObj_map hb, hc, hf, Go.MapKept.run_setObj_map _ hb, Result.andThen]
  unfold Oper.wp
  rw [hr]
  refine hk _ _ u _ ⟨rfl, rfl⟩ (Up.refl lo u) (hw.upd hi rfl rfl rfl (by simp) (fun k' _ hk' => (heap_set hb).2 k' (by simpa [mapO] using hk')) (fun k' hk' => .inl (by simpa [mapO] using hk')) (by simp [mapO]) ?_ (fun k' hk' _ => by simpa [mapO] using hk')) (fun h => by cases h)
  refine ⟨_, _, (heap_set hb).1, ?_⟩
  rw [mput_new hn, Array.toList_push, List.map_append, he]
  simp [ents]
end
section
variable {P : Program} {n lo : Nat} {B : List Nat} {l : Fr} {os : List Own} {u : World} {dst : Option Tmp} {ty : TypeId} {pos : String} {af : Array Edge} {gd : Option (Nat × Bool)}
theorem q_lookS {x y : Operand} {t kt et : TypeId} {i b : Nat} {g : List (List UInt8 × Int)} {k : List UInt8} (ht : MapF P t kt et .string) (hx : opd l x = some (.map (some b))) (hy : opd l y = some (.string (sB k))) (hi : os[i]? = some (mapS b g)) :
    OpQ P n lo B l os u ⟨dst, .lookup t x y true, ty, pos, af, gd⟩ (.tuple #[.int .i64 (M.mval g k), .bool (M.mhas g k)]) := q_look_ (k := k) (ok := true) ht hx hy hi
theorem e_mapNewS {t : TypeId} : OpE P n lo B l os u ⟨dst, .makeMap t none, ty, pos, af, gd⟩ true (fun v os' u' => ∃ b, v = .map (some b) ∧ os' = mapS b [] :: os ∧ u = u') := e_mapNew_
theorem e_mapUpdS {x y z : Operand} {t kt et : TypeId} {i b : Nat} {g : List (List UInt8 × Int)} {k : List UInt8} {v : Int} (ht : MapF P t kt et .string) (hx : opd l x = some (.map (some b))) (hy : opd l y = some (.string (sB k))) (hz : opd l z = some (.int .i64 v)) (hi : os[i]? = some (mapS b g)) (hn : M.mhas g k = false) :
    OpE P n lo B l os u ⟨dst, .mapUpdate t x y z, ty, pos, af, gd⟩ false (fun _ os' u' => os' = os.set i (mapS b (M.mput g k v)) ∧ u = u') := e_mapUpd_ (k := k) ht hx hy hz hi (by unfold M.mhas at hn; simpa using hn)
end
theorem num_set {r : M.Rul} {y : List UInt8} {v : Int} {rest : List Value} (h : M.isNum y = true) :
    setL (Value.int .i64 r.pits :: .int .i64 r.seeds :: .bool r.stores :: .bool r.skip :: .bool r.relay :: .bool r.feed :: .bool r.again :: .int .i64 r.capture :: .int .i64 r.slam :: rest) (0 + M.numIx y) [.int .i64 v]
      = Value.int .i64 (M.setNum r y v).pits :: .int .i64 (M.setNum r y v).seeds :: .bool (M.setNum r y v).stores :: .bool (M.setNum r y v).skip :: .bool (M.setNum r y v).relay :: .bool (M.setNum r y v).feed :: .bool (M.setNum r y v).again :: .int .i64 (M.setNum r y v).capture :: .int .i64 (M.setNum r y v).slam :: rest := by
  rcases M.isNum_iff h with rfl | rfl | rfl | rfl <;> rfl
theorem flg_set {r : M.Rul} {y : List UInt8} {rest : List Value} (h : M.isFlg y = true) :
    setL (Value.int .i64 r.pits :: .int .i64 r.seeds :: .bool r.stores :: .bool r.skip :: .bool r.relay :: .bool r.feed :: .bool r.again :: .int .i64 r.capture :: .int .i64 r.slam :: rest) (0 + M.flagIx y) [.bool true]
      = Value.int .i64 (M.setFlg r y).pits :: .int .i64 (M.setFlg r y).seeds :: .bool (M.setFlg r y).stores :: .bool (M.setFlg r y).skip :: .bool (M.setFlg r y).relay :: .bool (M.setFlg r y).feed :: .bool (M.setFlg r y).again :: .int .i64 (M.setFlg r y).capture :: .int .i64 (M.setFlg r y).slam :: rest := by
  rcases M.isFlg_iff5 h with rfl | rfl | rfl | rfl | rfl <;> rfl
theorem e_storeB {P : Program} {n lo : Nat} {B : List Nat} {l : Fr} {os : List Own} {u : World} {dst : Option Tmp} {ty : TypeId} {pos : String} {af : Array Edge} {gd : Option (Nat × Bool)} {x y : Operand} {t T : TypeId} {i b o : Nat} {c c' : List Value} {v : Value} (ht : tyOf P t = some (false, 1)) (hx : opd l x = some (.pointer (some ⟨b, o, none⟩))) (hi : os[i]? = some (boxO b c T)) (hy : opd l y = some v)
    (hv : cellsL v = [v]) (h1 : v.oneCell' = true) (hl : o + 1 ≤ c.length) (hc : setL c o [v] = c') :
    OpE P n lo B l os u ⟨dst, .store t x y, ty, pos, af, gd⟩ false (fun _ os' u' => os' = os.set i (boxO b c' T) ∧ u = u') :=
  e_store (vs := [v]) ht hx hi hy hv rfl (by simp [h1]) (by simpa [Nat.ble_eq] using hl) hc
theorem numIx_le (y : List UInt8) : M.numIx y ≤ 8 := by
  unfold M.numIx
  repeat' split
  all_goals decide
theorem flagIx_le {y : List UInt8} (h : M.isFlg y = true) : M.flagIx y ≤ 8 := by rcases M.isFlg_iff5 h with rfl | rfl | rfl | rfl | rfl <;> decide
end Go.Proofs.YtjklnidbndopiaaGreatDoor

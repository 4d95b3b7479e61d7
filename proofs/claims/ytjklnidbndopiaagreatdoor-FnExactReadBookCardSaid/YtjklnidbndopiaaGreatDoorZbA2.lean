/- Short rules: tables by instances, operations that take themselves. -/
import Derived.Test.YtjklnidbndopiaaGreatDoorZbA1
import Derived.Lib.ItoaLen
import Derived.Laws.IdiomStrings
import Derived.Lib.LaidTab
import Derived.Sort.Grow
import Derived.Test.YtjklnidbndopiaaGreatDoorRows
import Derived.Test.YtjklnidbndopiaaGreatDoorZbA0
set_option linter.unusedSimpArgs false
set_option linter.unusedVariables false
namespace Go.Proofs.YtjklnidbndopiaaGreatDoor
open Go.RowKit
class TyI (P : Program) (t : TypeId) (g : outParam Bool) (s : outParam Nat) : Prop where h : tyOf P t = some (g, s)
class FldI (P : Program) (t : TypeId) (k : Nat) (off : outParam Nat) (ft : outParam TypeId) (g : outParam Bool) (s : outParam Nat) : Prop where h : fldOf P t k = some (off, ft, g, s)
class ElI (P : Program) (t : TypeId) (e : outParam TypeId) (sz by' : outParam Nat) (z : outParam (List Value)) : Prop where h : elOf P t = some (e, sz, by', z)
class ZeroI (P : Program) (t : TypeId) (c : outParam (List Value)) : Prop where h : zeroOf P t = some c
class FldsI (P : Program) (t : TypeId) (c : outParam (List (Nat × Nat))) : Prop where h : fldsOf P t = some c
class FnI (P : Program) (f : FuncId) : Prop where h : goodF P f = true
class UndI (P : Program) (t : TypeId) (d : outParam TypeDesc) : Prop where h : P.underlying t = some d
class MixI (P : Program) : Prop where h : P.follows .mixedOrders = true
inductive NL {α : Type} : List α → List α → Prop
  | nil : NL [] []
  | cons {a : α} {r s : List α} (h : NL r s) : NL (a :: r) (a :: s)
theorem NL.eq {α : Type} {a b : List α} (h : NL a b) : a = b := by induction h with | nil => rfl | cons _ ih => rw [ih]
theorem nl {α : Type} {a b : List α} (h : NL a b := by repeat (first | exact NL.nil | apply NL.cons)) : NL a b := h
def setV : List Value → Nat → List Value → List Value
  | x :: r, k + 1, vs => x :: setV r k vs
  | _ :: r, 0, v :: vs => v :: setV r 0 vs
  | r, 0, [] => r
  | [], _, _ => []
theorem setV_eq : ∀ (c : List Value) (o : Nat) (vs : List Value), o + vs.length ≤ c.length → setV c o vs = setL c o vs
  | x :: r, k + 1, vs, h => by
    rw [setV, setV_eq r k vs (by simp at h; omega)]
    simp [setL, Nat.add_right_comm]
  | x :: r, 0, v :: vs, h => by
    rw [setV, setV_eq r 0 vs (by simp at h; omega)]
    simp [setL]
  | [], 0, [], _ => by simp [setV, setL]
  | x :: r, 0, [], _ => by simp [setV, setL]
  | [], k + 1, vs, h => by simp at h
  | [], 0, v :: vs, h => by simp at h
def takV : List Value → Nat → Nat → List Value
  | _ :: r, k + 1, s => takV r k s
  | x :: r, 0, s + 1 => x :: takV r 0 s
  | _, _, _ => []
theorem takV_eq : ∀ (c : List Value) (o s : Nat), takV c o s = (c.drop o).take s
  | x :: r, k + 1, s => by simp [takV, takV_eq r k s]
  | x :: r, 0, s + 1 => by simp [takV, takV_eq r 0 s]
  | x :: r, 0, 0 => by simp [takV]
  | [], _, _ => by simp [takV]
section
variable {P : Program} {n lo : Nat} {B : List Nat} {Q : Exit → Act → World → Prop} {cs : List Code} {K : Act → World → Prop} {ops : Array Oper} {rest : List Oper} {l : Fr} {os os' : List Own} {u : World} {ty : TypeId} {pos : String} {af : Array Edge} {gd : Option (Nat × Bool)} {dst : Option Tmp} {v : Value} {d : Nat} {x y : Operand} {c : Bool} {o : Oper}
inductive Ld : List Own → Nat → Nat → Value → Prop
  | here {b o : Nat} {c : List Value} {T : TypeId} {r : List Own} {x : Value} (h : c[o]? = some x) : Ld (boxO b c T :: r) b o x
  | there {b o : Nat} {q : Own} {r : List Own} {x : Value} (h : Ld r b o x) : Ld (q :: r) b o x
theorem Ld.get {b o : Nat} {x : Value} {w : World} (h : Ld os b o x) : (∀ q ∈ os, q.pr w) → Cell w b o x := by
  induction h with
  | @here b o c T r x h => intro hp; exact ⟨_, _, _, hp (boxO b c T) (by simp), by simpa using h⟩
  | there _ ih => intro hp; exact ih fun q hq => hp q (by simp [hq])
theorem ld_ {b o : Nat} {x : Value} (h : Ld os b o x := by repeat (first | ((with_reducible apply Ld.here); rfl) | with_reducible apply Ld.there)) : Ld os b o x := h
inductive LdR : List Own → Nat → Nat → Nat → List Value → Prop
  | here {b o s : Nat} {c vs : List Value} {T : TypeId} {r : List Own} (h : NL (takV c o s) vs) : LdR (boxO b c T :: r) b o s vs
  | there {b o s : Nat} {q : Own} {r : List Own} {vs : List Value} (h : LdR r b o s vs) : LdR (q :: r) b o s vs
theorem LdR.get {b o s : Nat} {vs : List Value} {w : World} (h : LdR os b o s vs) : (∀ q ∈ os, q.pr w) → RowAt w b o vs := by
  induction h with
  | @here b o s c vs T r h =>
    intro hp j x hj
    rw [← h.eq, takV_eq, List.getElem?_take] at hj
    split at hj
    · rw [List.getElem?_drop] at hj
      exact ⟨_, _, _, hp (boxO b c T) (by simp), by simpa using hj⟩
    · cases hj
  | there _ ih => intro hp; exact ih fun q hq => hp q (by simp [hq])
theorem ldr_ {b o s : Nat} {vs : List Value} (h : LdR os b o s vs := by repeat (first | ((with_reducible apply LdR.here); (repeat (first | exact NL.nil | apply NL.cons))) | with_reducible apply LdR.there)) : LdR os b o s vs := h
inductive St1 : List Own → Nat → Nat → List Value → List Own → Prop
  | here {b o : Nat} {c c' vs : List Value} {T : TypeId} {r : List Own} (h : NL (setV c o vs) c') (h1 : vs.all (·.oneCell') = true) (hl : Nat.ble (o + vs.length) c.length = true) : St1 (boxO b c T :: r) b o vs (boxO b c' T :: r)
  | there {b o : Nat} {q : Own} {r r' : List Own} {vs : List Value} (h : St1 r b o vs r') : St1 (q :: r) b o vs (q :: r')
theorem St1.get {b o : Nat} {vs : List Value} (h : St1 os b o vs os') : ∃ i c T, os[i]? = some (boxO b c T) ∧ vs.all (·.oneCell') = true ∧ Nat.ble (o + vs.length) c.length = true ∧ os' = os.set i (boxO b (setL c o vs) T) := by
  induction h with
  | here h h1 hl => exact ⟨0, _, _, rfl, h1, hl, by rw [← h.eq, setV_eq _ _ _ (by simpa [Nat.ble_eq] using hl)]; rfl⟩
  | there _ ih => obtain ⟨i, c, T, a, b, d, e⟩ := ih; exact ⟨i + 1, c, T, by simpa using a, b, d, by rw [e]; rfl⟩
theorem st1_ {b o : Nat} {vs : List Value} (h : St1 os b o vs os' := by repeat (first | ((with_reducible apply St1.here); (repeat (first | exact NL.nil | apply NL.cons)); (first | rfl | (simp [cellsL, *]; done) | (simp [cellsL, *]; repeat' (first | exact rfl | apply And.intro))); rfl) | with_reducible apply St1.there)) : St1 os b o vs os' := h
theorem L9 (i : Nat) {t T : TypeId} {s b o : Nat} {c vs : List Value} [ht : TyI P t true s] (hx : opd l x = some (.pointer (some ⟨b, o, none⟩))) (hi : os[i]? = some (boxO b c T)) (hv : NL (takV c o s) vs := by exact nl) (hs : vs.length = s := by rfl) : OpQ P n lo B l os u ⟨dst, .load t x, ty, pos, af, gd⟩ (.agg vs.toArray) :=
  q_loadN ht.h hx (Mem.boxR hi o s) (by rw [← hv.eq, takV_eq]) hs
theorem LS (j : Nat) {t : TypeId} {s b o : Nat} {vs us : List Value} [ht : TyI P t true s] (h : RowAt u b o vs) (hx : opd l x = some (.pointer (some ⟨b, o + j, none⟩))) (hv : NL (takV vs j s) us := by exact nl) (hs : us.length = s := by rfl) : OpQ P n lo B l os u ⟨dst, .load t x, ty, pos, af, gd⟩ (.agg us.toArray) :=
  q_loadN ht.h hx (Mem.pubR (h.sub j s)) (by rw [← hv.eq, takV_eq]) hs
theorem q_bld {t : TypeId} {parts : List (Nat × Operand)} {pv : List (Nat × Value)} {pl : List (Nat × Nat)} {z us vs : List Value} [hz : ZeroI P t z] [hp : FldsI P t pl] (hv : opdP l parts = some pv := by rfl) (hf : fillL pl z pv = some us := by rfl) (hn : NL us vs := by exact nl) :
    OpP P n l ⟨dst, .build t parts.toArray, ty, pos, af, gd⟩ (.agg vs.toArray) := hn.eq ▸ p_build hz.h hp.h hv hf
theorem vis_ {u0 w : World} (h : Vis u0 w := by repeat (first | exact Vis.refl _ | exact St.vis (by assumption) | (refine Vis.trans (Up.vis (by assumption)) ?_))) : Vis u0 w := h
inductive Off : Nat → Nat → Nat → Prop
  | z {o : Nat} : Off o o 0
  | s {o o0 k j : Nat} (h : Off o o0 k) : Off (o + j) o0 (k + j)
theorem Off.eq {o o0 k : Nat} (h : Off o o0 k) : o = o0 + k := by induction h with | z => rfl | s _ ih => omega
theorem off_ {o o0 k : Nat} (h : Off o o0 k := by repeat (first | with_reducible exact Off.z | with_reducible apply Off.s)) : Off o o0 k := h
end
class Elm (T : Ty) (E : outParam ((Value → List Own → Prop) → List Own → Prop)) : Prop where
  h : ∀ K os, E K os → ∀ w v fp, T.own w v fp → ∃ ow, K v (ow ++ os) ∧ fp.Perm (ow.flatMap (·.fp)) ∧ ∀ o ∈ ow, o.pr w
class ElmL (Ts : List Ty) (E : outParam ((List Value → List Own → Prop) → List Own → Prop)) : Prop where
  h : ∀ K os, E K os → ∀ w vs fp, cellsOwn w Ts vs fp → ∃ ow, K vs (ow ++ os) ∧ fp.Perm (ow.flatMap (·.fp)) ∧ ∀ o ∈ ow, o.pr w
instance (x : Value) : Elm (Ty.val x) (fun K os => K x os) := ⟨fun K os h w v fp ⟨e, e2⟩ => ⟨[], by subst e; exact h, by rw [e2]; exact List.Perm.refl _, by simp⟩⟩
instance (n : Int) : Elm (Ty.int n) (fun K os => K (.int .i64 n) os) := inferInstanceAs (Elm (Ty.val _) _)
instance (b : Bool) : Elm (Ty.bool b) (fun K os => K (.bool b) os) := inferInstanceAs (Elm (Ty.val _) _)
instance (s : List UInt8) : Elm (Ty.str s) (fun K os => K (.string (sB s)) os) := inferInstanceAs (Elm (Ty.val _) _)
instance : Elm Ty.any (fun K os => ∀ v, v.oneCell' = true → K v os) := ⟨fun K os h w v fp ⟨e, e2⟩ => ⟨[], h v e2, by rw [e]; exact List.Perm.refl _, by simp⟩⟩
instance (e : TypeId) (xs : List Int) : Elm (Ty.ints e xs) (fun K os => ∀ A c, xs.length ≤ c → c ≤ 9223372036854775807 → K (.slice A xs.length c) (rowO e 1 (.slice A xs.length c) xs.length (ints_ xs) [] :: os)) :=
  ⟨fun K os h w v fp ho => by
    obtain ⟨ow, ⟨A, c, rfl, rfl, h1, h2⟩, he, hp⟩ := Spl.ints e xs w v fp ho
    exact ⟨_, h A c h1 h2, by rw [he], hp⟩⟩
instance (e : TypeId) (xs : List Int) : Elm (Ty.ro e xs) (fun K os => ∀ A c, xs.length ≤ c → c ≤ 9223372036854775807 → K (.slice A xs.length c) (roO e (.slice A xs.length c) xs.length (ints_ xs) :: os)) :=
  ⟨fun K os h w v fp ho => by
    obtain ⟨ow, ⟨A, c, rfl, rfl, h1, h2⟩, he, hp⟩ := Spl.ro e xs w v fp ho
    exact ⟨_, h A c h1 h2, by rw [he], hp⟩⟩
instance (e : TypeId) (sz n : Nat) (Ts : List Ty) : Elm (Ty.sl e sz n Ts) (fun K os => ∀ A c vs f, n ≤ c → c ≤ 9223372036854775807 → K (.slice A n c) (rowO e sz (.slice A n c) n vs [] :: ownC Ts vs f :: os)) :=
  ⟨fun K os h w v fp ho => by
    obtain ⟨ow, ⟨A, c, vs, f, rfl, rfl, h1, h2⟩, he, hp⟩ := Spl.sl e sz n Ts w v fp ho
    exact ⟨_, h A c vs f h1 h2, by rw [he], hp⟩⟩
theorem strs_cells {w : World} : ∀ {l : List (List UInt8)} {vs : List Value} {f : List Nat}, cellsOwn w (l.map Ty.str) vs f → vs = txs_ l ∧ f = []
  | [], [], _, h => ⟨rfl, h⟩
  | [], _ :: _, _, h => h.elim
  | _ :: _, [], _, h => h.elim
  | x :: l, v :: vs, f, h => by
    obtain ⟨f1, f2, rfl, ⟨h1, rfl⟩, h2⟩ := h
    obtain ⟨rfl, rfl⟩ := strs_cells h2
    subst h1
    exact ⟨rfl, rfl⟩
instance (e : TypeId) (xs : List (List UInt8)) : Elm (Ty.strs e xs) (fun K os => ∀ A c, xs.length ≤ c → c ≤ 9223372036854775807 → K (.slice A xs.length c) (rowO e 1 (.slice A xs.length c) xs.length (txs_ xs) [] :: os)) :=
  ⟨fun K os h w v fp ho => by
    obtain ⟨A, c, rfl, h1, h2⟩ := sl_form ((Ty.strs e xs).ownok ho)
    obtain ⟨_, vs, f, h3, h4, h5⟩ := ho
    obtain ⟨rfl, rfl⟩ := strs_cells h5
    exact ⟨[rowO e 1 (.slice A xs.length c) xs.length (txs_ xs) []], h A c h1 h2, by rw [h4]; simp [rowO], fun o ho => by simp at ho; subst ho; exact h3⟩⟩
instance : ElmL [] (fun K os => K [] os) := ⟨fun K os h w vs fp ho => by
    cases vs with
    | nil => exact ⟨[], h, by rw [show fp = [] from ho]; exact List.Perm.refl _, by simp⟩
    | cons => exact ho.elim⟩
instance (T : Ty) (Ts : List Ty) (E1 : (Value → List Own → Prop) → List Own → Prop) (E2 : (List Value → List Own → Prop) → List Own → Prop) [h1 : Elm T E1] [h2 : ElmL Ts E2] : ElmL (T :: Ts) (fun K os => E1 (fun v os1 => E2 (fun vs os2 => K (v :: vs) os2) os1) os) :=
  ⟨fun K os h w vs fp ho => by
    cases vs with
    | nil => exact ho.elim
    | cons v vs =>
      obtain ⟨f1, f2, rfl, ho1, ho2⟩ := ho
      obtain ⟨w1, k1, p1, q1⟩ := h1.h _ _ h w v f1 ho1
      obtain ⟨w2, k2, p2, q2⟩ := h2.h _ _ k1 w vs f2 ho2
      refine ⟨w2 ++ w1, by rw [List.append_assoc]; exact k2, ?_, fun o ho => (List.mem_append.1 ho).elim (q2 o) (q1 o)⟩
      rw [List.flatMap_append]
      exact (p1.append p2).trans List.perm_append_comm⟩
instance (Ts : List Ty) (E : (List Value → List Own → Prop) → List Own → Prop) [h : ElmL Ts E] : Elm (Ty.agg Ts) (fun K os => E (fun vs os' => K (.agg vs.toArray) os') os) :=
  ⟨fun K os k w v fp ⟨vs, e, ho⟩ => by subst e; exact h.h (fun vs os' => K (.agg vs.toArray) os') os k w vs fp ho⟩
instance (Ts : List Ty) (E : (List Value → List Own → Prop) → List Own → Prop) [h : ElmL Ts E] : Elm (Ty.tup Ts) (fun K os => E (fun vs os' => K (.tuple vs.toArray) os') os) :=
  ⟨fun K os k w v fp ⟨vs, e, ho⟩ => by subst e; exact h.h (fun vs os' => K (.tuple vs.toArray) os') os k w vs fp ho⟩
instance (T : TypeId) (Ts : List Ty) (E : (List Value → List Own → Prop) → List Own → Prop) [h : ElmL Ts E] : Elm (Ty.box T Ts) (fun K os => ∀ b, E (fun vs os' => K (.pointer (some ⟨b, 0, none⟩)) (boxO b vs T :: os')) os) :=
  ⟨fun K os k w v fp ⟨b, vs, f, e, e2, hb, ho⟩ => by
    subst e; subst e2
    obtain ⟨w1, k1, p1, q1⟩ := h.h (fun vs os' => K (.pointer (some ⟨b, 0, none⟩)) (boxO b vs T :: os')) os (k b) w vs f ho
    exact ⟨boxO b vs T :: w1, k1, by simpa [boxO] using p1, fun o ho => by
      rcases List.mem_cons.1 ho with rfl | ho
      · exact hb
      · exact q1 o ho⟩⟩
instance {α : Type} (p : α → Prop) (F : α → Ty) (E : α → (Value → List Own → Prop) → List Own → Prop) [h : ∀ x, Elm (F x) (E x)] : Elm (Ty.ex p F) (fun K os => ∀ x, p x → E x K os) :=
  ⟨fun K os k w v fp ⟨x, hp, ho⟩ => (h x).h K os (k x hp) w v fp ho⟩
class Opn (T : Ty) (E : outParam (World → (Value → Prop) → Prop)) : Prop where h : ∀ u K, E u K → ∀ v, T.ok u v → K v
class OpnL (Ts : List Ty) (E : outParam (World → (List Value → Prop) → Prop)) : Prop where h : ∀ u K, E u K → ∀ vs, cellsOk u Ts vs → K vs
instance (x : Value) : Opn (Ty.val x) (fun _ K => K x) := ⟨fun u K h v e => by rw [show v = x from e]; exact h⟩
instance (n : Int) : Opn (Ty.int n) (fun _ K => K (.int .i64 n)) := inferInstanceAs (Opn (Ty.val _) _)
instance (b : Bool) : Opn (Ty.bool b) (fun _ K => K (.bool b)) := inferInstanceAs (Opn (Ty.val _) _)
instance (s : List UInt8) : Opn (Ty.str s) (fun _ K => K (.string (sB s))) := inferInstanceAs (Opn (Ty.val _) _)
instance : Opn Ty.any (fun _ K => ∀ v, v.oneCell' = true → K v) := ⟨fun u K h v e => h v e⟩
instance (e : TypeId) (xs : List Int) : Opn (Ty.ints e xs) (fun u K => ∀ A c, (Ty.ints e xs).ok u (.slice A xs.length c) → xs.length ≤ c → c ≤ 9223372036854775807 → K (.slice A xs.length c)) :=
  ⟨fun u K k v h => by obtain ⟨A, c, rfl, h1, h2⟩ := ints_form h; exact k A c h h1 h2⟩
instance (e : TypeId) (xs : List Int) : Opn (Ty.ro e xs) (fun u K => ∀ A c, (Ty.ints e xs).ok u (.slice A xs.length c) → xs.length ≤ c → c ≤ 9223372036854775807 → K (.slice A xs.length c)) :=
  ⟨fun u K k v h => by obtain ⟨A, c, rfl, h1, h2⟩ := ro_form h; exact k A c h h1 h2⟩
instance (e : TypeId) (sz n : Nat) (Ts : List Ty) : Opn (Ty.sl e sz n Ts) (fun u K => ∀ A c, (Ty.sl e sz n Ts).ok u (.slice A n c) → n ≤ c → c ≤ 9223372036854775807 → K (.slice A n c)) :=
  ⟨fun u K k v h => by obtain ⟨A, c, rfl, h1, h2⟩ := sl_form h; exact k A c h h1 h2⟩
instance (e : TypeId) (n : Nat) : Opn (Ty.bytes e n) (fun u K => ∀ A c, (Ty.bytes e n).ok u (.slice A n c) → n ≤ c → c ≤ 9223372036854775807 → K (.slice A n c)) :=
  ⟨fun u K k v h => by obtain ⟨A, c, rfl, h1, h2⟩ := sl_form h; exact k A c h h1 h2⟩
instance (e : TypeId) (xs : List (List UInt8)) : Opn (Ty.strs e xs) (fun u K => ∀ A c, (Ty.strs e xs).ok u (.slice A xs.length c) → xs.length ≤ c → c ≤ 9223372036854775807 → K (.slice A xs.length c)) :=
  ⟨fun u K k v h => by obtain ⟨A, c, rfl, h1, h2⟩ := sl_form h; exact k A c h h1 h2⟩
instance (c : Bool) (T : Ty) : Opn (Ty.opt c T) (fun u K => ∀ v, (Ty.opt c T).ok u v → K v) := ⟨fun u K k v h => k v h⟩
instance : OpnL [] (fun _ K => K []) := ⟨fun u K k vs h => by cases vs with | nil => exact k | cons => exact h.elim⟩
instance (T : Ty) (Ts : List Ty) (E1 : World → (Value → Prop) → Prop) (E2 : World → (List Value → Prop) → Prop) [h1 : Opn T E1] [h2 : OpnL Ts E2] : OpnL (T :: Ts) (fun u K => E1 u (fun v => E2 u (fun vs => K (v :: vs)))) :=
  ⟨fun u K k vs h => by
    cases vs with
    | nil => exact h.elim
    | cons v vs => exact h2.h u (fun vs => K (v :: vs)) (h1.h u _ k v h.1) vs h.2⟩
instance (Ts : List Ty) (E : World → (List Value → Prop) → Prop) [h : OpnL Ts E] : Opn (Ty.agg Ts) (fun u K => E u (fun vs => K (.agg vs.toArray))) := ⟨fun u K k v ⟨vs, e, ho⟩ => by subst e; exact h.h u (fun vs => K (.agg vs.toArray)) k vs ho⟩
instance (Ts : List Ty) (E : World → (List Value → Prop) → Prop) [h : OpnL Ts E] : Opn (Ty.tup Ts) (fun u K => E u (fun vs => K (.tuple vs.toArray))) := ⟨fun u K k v ⟨vs, e, ho⟩ => by subst e; exact h.h u (fun vs => K (.tuple vs.toArray)) k vs ho⟩
instance (Ts : List Ty) (E : World → (List Value → Prop) → Prop) [h : OpnL Ts E] : Opn (Ty.ref Ts) (fun u K => ∀ b o, E u (fun vs => RowAt u b o vs → K (.pointer (some ⟨b, o, none⟩)))) :=
  ⟨fun u K k v ⟨b, o, vs, e, ho, hr⟩ => by subst e; exact h.h u (fun vs => RowAt u b o vs → K (.pointer (some ⟨b, o, none⟩))) (k b o) vs ho hr⟩
instance (T : TypeId) (Ts : List Ty) (E : World → (List Value → Prop) → Prop) [h : OpnL Ts E] : Opn (Ty.box T Ts) (fun u K => ∀ b o, E u (fun vs => RowAt u b o vs → K (.pointer (some ⟨b, o, none⟩)))) :=
  ⟨fun u K k v ⟨b, o, vs, e, ho, hr⟩ => by subst e; exact h.h u (fun vs => RowAt u b o vs → K (.pointer (some ⟨b, o, none⟩))) (k b o) vs ho hr⟩
instance {α : Type} (p : α → Prop) (F : α → Ty) (E : α → World → (Value → Prop) → Prop) [h : ∀ x, Opn (F x) (E x)] : Opn (Ty.ex p F) (fun u K => ∀ x, p x → E x u K) := ⟨fun u K k v ⟨x, hp, ho⟩ => (h x).h u K (k x hp) v ho⟩
class Frm (T : Ty) (E : outParam ((Value → Prop) → Prop)) : Prop where h : ∀ K, E K → ∀ w v, T.ok w v → K v
class FrmL (Ts : List Ty) (E : outParam ((List Value → Prop) → Prop)) : Prop where h : ∀ K, E K → ∀ w vs, cellsOk w Ts vs → K vs
instance (x : Value) : Frm (Ty.val x) (fun K => K x) := ⟨fun K h w v e => by rw [show v = x from e]; exact h⟩
instance (n : Int) : Frm (Ty.int n) (fun K => K (.int .i64 n)) := inferInstanceAs (Frm (Ty.val _) _)
instance (b : Bool) : Frm (Ty.bool b) (fun K => K (.bool b)) := inferInstanceAs (Frm (Ty.val _) _)
instance (s : List UInt8) : Frm (Ty.str s) (fun K => K (.string (sB s))) := inferInstanceAs (Frm (Ty.val _) _)
instance : Frm Ty.any (fun K => ∀ v, v.oneCell' = true → K v) := ⟨fun K h w v e => h v e⟩
instance (e : TypeId) (xs : List Int) : Frm (Ty.ints e xs) (fun K => ∀ A c, xs.length ≤ c → c ≤ 9223372036854775807 → K (.slice A xs.length c)) := ⟨fun K k w v h => by obtain ⟨A, c, rfl, h1, h2⟩ := ints_form h; exact k A c h1 h2⟩
instance (e : TypeId) (xs : List Int) : Frm (Ty.ro e xs) (fun K => ∀ A c, xs.length ≤ c → c ≤ 9223372036854775807 → K (.slice A xs.length c)) := ⟨fun K k w v h => by obtain ⟨A, c, rfl, h1, h2⟩ := ro_form h; exact k A c h1 h2⟩
instance (e : TypeId) (sz n : Nat) (Ts : List Ty) : Frm (Ty.sl e sz n Ts) (fun K => ∀ A c, n ≤ c → c ≤ 9223372036854775807 → K (.slice A n c)) := ⟨fun K k w v h => by obtain ⟨A, c, rfl, h1, h2⟩ := sl_form h; exact k A c h1 h2⟩
instance : FrmL [] (fun K => K []) := ⟨fun K k w vs h => by cases vs with | nil => exact k | cons => exact h.elim⟩
instance (T : Ty) (Ts : List Ty) (E1 : (Value → Prop) → Prop) (E2 : (List Value → Prop) → Prop) [h1 : Frm T E1] [h2 : FrmL Ts E2] : FrmL (T :: Ts) (fun K => E1 (fun v => E2 (fun vs => K (v :: vs)))) :=
  ⟨fun K k w vs h => by
    cases vs with
    | nil => exact h.elim
    | cons v vs => exact h2.h (fun vs => K (v :: vs)) (h1.h _ k w v h.1) w vs h.2⟩
class ElmS (T : Ty) (E : outParam ((Value → List Own → Prop) → List Own → Prop)) : Prop where
  h : ∀ K os, E K os → ∀ w v fp, T.own w v fp → ∃ ow, K v (ow ++ os) ∧ fp.Perm (ow.flatMap (·.fp)) ∧ ∀ o ∈ ow, o.pr w
class ElmSL (Ts : List Ty) (E : outParam ((List Value → List Own → Prop) → List Own → Prop)) : Prop where
  h : ∀ K os, E K os → ∀ w vs fp, cellsOwn w Ts vs fp → ∃ ow, K vs (ow ++ os) ∧ fp.Perm (ow.flatMap (·.fp)) ∧ ∀ o ∈ ow, o.pr w
instance (priority := low) (T : Ty) (E : (Value → List Own → Prop) → List Own → Prop) [h : Elm T E] : ElmS T E := ⟨h.h⟩
instance (Ts : List Ty) (E : (List Value → Prop) → Prop) [h : FrmL Ts E] : ElmS (Ty.agg Ts) (fun K os => E (fun vs => ∀ f, K (.agg vs.toArray) (ownC Ts vs f :: os))) :=
  ⟨fun K os k w v fp ⟨vs, e, ho⟩ => by
    subst e
    exact ⟨[ownC Ts vs fp], h.h _ k w vs ho.ok fp, by simp [ownC], fun o ho' => by simp at ho'; subst ho'; exact ho⟩⟩
instance : ElmSL [] (fun K os => K [] os) := ⟨fun K os h w vs fp ho => by
    cases vs with
    | nil => exact ⟨[], h, by rw [show fp = [] from ho]; exact List.Perm.refl _, by simp⟩
    | cons => exact ho.elim⟩
instance (T : Ty) (Ts : List Ty) (E1 : (Value → List Own → Prop) → List Own → Prop) (E2 : (List Value → List Own → Prop) → List Own → Prop) [h1 : ElmS T E1] [h2 : ElmSL Ts E2] : ElmSL (T :: Ts) (fun K os => E1 (fun v os1 => E2 (fun vs os2 => K (v :: vs) os2) os1) os) :=
  ⟨fun K os h w vs fp ho => by
    cases vs with
    | nil => exact ho.elim
    | cons v vs =>
      obtain ⟨f1, f2, rfl, ho1, ho2⟩ := ho
      obtain ⟨w1, k1, p1, q1⟩ := h1.h _ _ h w v f1 ho1
      obtain ⟨w2, k2, p2, q2⟩ := h2.h _ _ k1 w vs f2 ho2
      refine ⟨w2 ++ w1, by rw [List.append_assoc]; exact k2, ?_, fun o ho => (List.mem_append.1 ho).elim (q2 o) (q1 o)⟩
      rw [List.flatMap_append]
      exact (p1.append p2).trans List.perm_append_comm⟩
instance (Ts : List Ty) (E : (List Value → List Own → Prop) → List Own → Prop) [h : ElmSL Ts E] : ElmS (Ty.tup Ts) (fun K os => E (fun vs os' => K (.tuple vs.toArray) os') os) :=
  ⟨fun K os k w v fp ⟨vs, e, ho⟩ => by subst e; exact h.h (fun vs os' => K (.tuple vs.toArray) os') os k w vs fp ho⟩
theorem opn {T : Ty} {u : World} {K : Value → Prop} {E : World → (Value → Prop) → Prop} [i : Opn T E] (k : E u K) : ∀ v, T.ok u v → K v := i.h u K k
section
variable {P : Program} {n lo : Nat} {B : List Nat} {Q : Exit → Act → World → Prop} {cs : List Code} {K : Act → World → Prop} {ops : Array Oper} {rest : List Oper} {l : Fr} {os os' : List Own} {u : World} {ty : TypeId} {pos : String} {af : Array Edge} {v : Value} {d : Nat} {x y : Operand} {c : Bool} {o : Oper}
  {u₀ : World} {os₀ : List Own} {nm : List Nat} {fuel i : Nat} {listed : Array Bool} {z : Bool}
theorem e_callE {f : FuncId} {xs : List Operand} {ts : Array TypeId} {vs : List Value} {T : Ty} {E : (Value → List Own → Prop) → List Own → Prop} {K0 : Value → List Own → Prop} {dst : Option Tmp} {gd : Option (Nat × Bool)} (hf : goodF P f = true) (hx : opds l xs = some vs) [he : Elm T E] (hc : ∀ w, St lo B u w os → Ret P f vs w T) (k : E K0 os) :
    OpE P n lo B l os u ⟨dst, .call { callee := .value (.func f), args := xs.toArray, argTypes := ts }, ty, pos, af, gd⟩ true (fun v' os' u' => K0 v' os' ∧ u = u') := fun a w ha hw K Q hk => by
  unfold Oper.wp
  rw [run_call hf ha hx, Oper.upon_enter]
  refine Calls.mono (hc w hw) fun e w' h => ?_
  obtain ⟨v, fp, rfl, ho, hn, hfp, hx'⟩ := h
  obtain ⟨ow, hR, hfe, hp⟩ := he.h K0 os k w' v fp ho
  have h1 : St lo B u w' ((ownO ⟨fun _ _ => True, fun w _ f => f = fp ∧ ∀ o ∈ ow, o.pr w, fun _ _ => trivial, fun {w w' v f} h k => ⟨h.1, fun o ho => o.loc (fun j hj => k j (by rw [h.1]; exact hfe.mem_iff.2 (List.mem_flatMap.2 ⟨o, ho, hj⟩))) (h.2 o ho)⟩, fun _ => trivial⟩ v fp) :: os) :=
    hw.new hx' (o := ownO _ v fp) hfp hn ⟨rfl, hp⟩
  refine hk _ _ u _ ⟨hR, rfl⟩ (Up.refl lo u) (h1.conv (fun o ho => ?_) ?_) (fun _ => hx')
  · rcases List.mem_append.1 ho with ho | ho
    · exact hp o ho
    · exact h1.prs o (by simp [ho])
  · simp only [List.flatMap_append, List.flatMap_cons, ownO]
    exact List.Perm.append_right _ hfe.symm
theorem e_callS {f : FuncId} {xs : List Operand} {ts : Array TypeId} {vs : List Value} {T : Ty} {E : (Value → List Own → Prop) → List Own → Prop} {K0 : Value → List Own → Prop} {dst : Option Tmp} {gd : Option (Nat × Bool)} (hf : goodF P f = true) (hx : opds l xs = some vs) [he : ElmS T E] (hc : ∀ w, St lo B u w os → Ret P f vs w T) (k : E K0 os) :
    OpE P n lo B l os u ⟨dst, .call { callee := .value (.func f), args := xs.toArray, argTypes := ts }, ty, pos, af, gd⟩ true (fun v' os' u' => K0 v' os' ∧ u = u') := fun a w ha hw K Q hk => by
  unfold Oper.wp
  rw [run_call hf ha hx, Oper.upon_enter]
  refine Calls.mono (hc w hw) fun e w' h => ?_
  obtain ⟨v, fp, rfl, ho, hn, hfp, hx'⟩ := h
  obtain ⟨ow, hR, hfe, hp⟩ := he.h K0 os k w' v fp ho
  have h1 : St lo B u w' ((ownO ⟨fun _ _ => True, fun w _ f => f = fp ∧ ∀ o ∈ ow, o.pr w, fun _ _ => trivial, fun {w w' v f} h k => ⟨h.1, fun o ho => o.loc (fun j hj => k j (by rw [h.1]; exact hfe.mem_iff.2 (List.mem_flatMap.2 ⟨o, ho, hj⟩))) (h.2 o ho)⟩, fun _ => trivial⟩ v fp) :: os) :=
    hw.new hx' (o := ownO _ v fp) hfp hn ⟨rfl, hp⟩
  refine hk _ _ u _ ⟨hR, rfl⟩ (Up.refl lo u) (h1.conv (fun o ho => ?_) ?_) (fun _ => hx')
  · rcases List.mem_append.1 ho with ho | ho
    · exact hp o ho
    · exact h1.prs o (by simp [ho])
  · simp only [List.flatMap_append, List.flatMap_cons, ownO]
    exact List.Perm.append_right _ hfe.symm
variable {gd : Option (Nat × Bool)}
theorem zS {id : Nat} {y : Code} {os2 : List Oper} (h : JL P n lo B (seqs P Q (y :: cs)) os2.toArray os2 l os u) : Js P n lo B Q (.seq (.region id os2.toArray false) y :: cs) l os u := Js.seq (Js.region h)
theorem zN {id : Nat} {y : Code} {os2 : List Oper} (h : JL P n lo B (seqs P Q (y :: cs)) os2.toArray os2 l os u) : JL P n lo B (seqs P Q (.seq (.region id os2.toArray false) y :: cs)) ops [] l os u := JL.nil (Js.seq (Js.region h))
theorem zG {id : Nat} {os2 : List Oper} (h : JL P n lo B (seqs P Q cs) os2.toArray os2 l os u) : JL P n lo B (seqs P Q (.region id os2.toArray false :: cs)) ops [] l os u := JL.nil (Js.region h)
theorem zJ {c y : Code} (h : Js P n lo B Q (c :: y :: cs) l os u) : JL P n lo B (seqs P Q (.seq c y :: cs)) ops [] l os u := JL.nil (Js.seq h)
theorem fh {t : TypeId} {k off : Nat} {ft : TypeId} {g : Bool} {s : Nat} [h : FldI P t k off ft g s] : fldOf P t k = some (off, ft, g, s) := h.h
theorem Qm {v : Value} (h : opd l x = some v) (k : JL P n lo B K ops rest ((d, v) :: l) os u) (hn : Nat.blt d n = true := by rfl) : JL P n lo B K ops (⟨some d, .move x, ty, pos, af, none⟩ :: rest) l os u := JL.q (p_move h).q k rfl rfl hn
theorem Qa {v : Value} (h : opd l x = some v) (k : JL P n lo B K ops rest ((d, v) :: l) os u) (hn : Nat.blt d n = true := by rfl) : JL P n lo B K ops (⟨some d, .assign x, ty, pos, af, none⟩ :: rest) l os u := JL.q (p_assign h).q k rfl rfl hn
theorem Qf {b o j off : Nat} {t ft : TypeId} {g : Bool} {s : Nat} (hf : fldOf P t j = some (off, ft, g, s + 1)) (h : opd l x = some (.pointer (some ⟨b, o, none⟩))) (k : JL P n lo B K ops rest ((d, .pointer (some ⟨b, o + off, none⟩)) :: l) os u) (hn : Nat.blt d n = true := by rfl) : JL P n lo B K ops (⟨some d, .fieldAddr t x j, ty, pos, af, none⟩ :: rest) l os u := JL.q (p_fieldAddr hf h).q k rfl rfl hn
theorem Qx {vs : List Value} {i : Nat} {v : Value} (h : opd l x = some (.tuple vs.toArray)) (hv : vs[i]? = some v) (k : JL P n lo B K ops rest ((d, v) :: l) os u) (hn : Nat.blt d n = true := by rfl) : JL P n lo B K ops (⟨some d, .extract x i, ty, pos, af, none⟩ :: rest) l os u := JL.q (p_extract h hv).q k rfl rfl hn
theorem Qt {b : Bool} {t : TypeId} (h : opd l x = some (.bool b)) (k : JL P n lo B K ops rest ((d, .bool (!b)) :: l) os u) (hn : Nat.blt d n = true := by rfl) : JL P n lo B K ops (⟨some d, .unOp .not t x, ty, pos, af, none⟩ :: rest) l os u := JL.q (p_not h).q k rfl rfl hn
theorem Ql {kk : IntKind} {i j : Int} {t t' : TypeId} (h1 : opd l x = some (.int kk i)) (h2 : opd l y = some (.int kk j)) (k : JL P n lo B K ops rest ((d, .bool (decide (i < j))) :: l) os u) (hn : Nat.blt d n = true := by rfl) : JL P n lo B K ops (⟨some d, .binOp .lss t x y t', ty, pos, af, none⟩ :: rest) l os u := JL.q (p_lss h1 h2).q k rfl rfl hn
theorem Qk {kk : IntKind} {i j : Int} {t t' : TypeId} (h1 : opd l x = some (.int kk i)) (h2 : opd l y = some (.int kk j)) (k : JL P n lo B K ops rest ((d, .bool (decide (i ≤ j))) :: l) os u) (hn : Nat.blt d n = true := by rfl) : JL P n lo B K ops (⟨some d, .binOp .leq t x y t', ty, pos, af, none⟩ :: rest) l os u := JL.q (p_leq h1 h2).q k rfl rfl hn
theorem Qg {kk : IntKind} {i j : Int} {t t' : TypeId} (h1 : opd l x = some (.int kk i)) (h2 : opd l y = some (.int kk j)) (k : JL P n lo B K ops rest ((d, .bool (decide (j < i))) :: l) os u) (hn : Nat.blt d n = true := by rfl) : JL P n lo B K ops (⟨some d, .binOp .gtr t x y t', ty, pos, af, none⟩ :: rest) l os u := JL.q (p_gtr h1 h2).q k rfl rfl hn
theorem Qh {kk : IntKind} {i j : Int} {t t' : TypeId} (h1 : opd l x = some (.int kk i)) (h2 : opd l y = some (.int kk j)) (k : JL P n lo B K ops rest ((d, .bool (decide (j ≤ i))) :: l) os u) (hn : Nat.blt d n = true := by rfl) : JL P n lo B K ops (⟨some d, .binOp .geq t x y t', ty, pos, af, none⟩ :: rest) l os u := JL.q (p_geq h1 h2).q k rfl rfl hn
theorem Qe {kk : IntKind} {i j : Int} {t t' : TypeId} (h1 : opd l x = some (.int kk i)) (h2 : opd l y = some (.int kk j)) (k : JL P n lo B K ops rest ((d, .bool (decide (i = j))) :: l) os u) (hn : Nat.blt d n = true := by rfl) : JL P n lo B K ops (⟨some d, .binOp .eql t x y t', ty, pos, af, none⟩ :: rest) l os u := JL.q (p_eql h1 h2).q k rfl rfl hn
theorem Qd {kk : IntKind} {i j : Int} {t t' : TypeId} (h1 : opd l x = some (.int kk i)) (h2 : opd l y = some (.int kk j)) (k : JL P n lo B K ops rest ((d, .bool (!decide (i = j))) :: l) os u) (hn : Nat.blt d n = true := by rfl) : JL P n lo B K ops (⟨some d, .binOp .neq t x y t', ty, pos, af, none⟩ :: rest) l os u := JL.q (p_neq h1 h2).q k rfl rfl hn
theorem Qc {p : Addr} (h : opd l x = some (.pointer (some p))) (k : JL P n lo B K ops rest ((d, .pointer (some p)) :: l) os u) (hn : Nat.blt d n = true := by rfl) : JL P n lo B K ops (⟨some d, .nilCheck x, ty, pos, af, none⟩ :: rest) l os u := JL.q (p_nilCheck h).q k rfl rfl hn
theorem Qz {t e : TypeId} {sz by' : Nat} {z : List Value} {A : Option Addr} {m c : Nat} [ht : ElI P t e sz by' z] (hx : opd l x = some (.slice A m c)) (k : JL P n lo B K ops rest ((d, .int .i64 m) :: l) os u) (hn : Nat.blt d n = true := by rfl) : JL P n lo B K ops (⟨some d, .call { callee := .builtin .len, args := #[x], argTypes := #[t] }, ty, pos, af, none⟩ :: rest) l os u := JL.q (p_len ht.h hx).q k rfl rfl hn
theorem Qb {t : TypeId} {parts : List (Nat × Operand)} {pv : List (Nat × Value)} {pl : List (Nat × Nat)} {z us vs : List Value} [hz : ZeroI P t z] [hp : FldsI P t pl] (k : JL P n lo B K ops rest ((d, .agg vs.toArray) :: l) os u) (hv : opdP l parts = some pv := by rfl) (hf : fillL pl z pv = some us := by rfl) (hl : NL us vs := by exact nl) (hn : Nat.blt d n = true := by rfl) :
    JL P n lo B K ops (⟨some d, .build t parts.toArray, ty, pos, af, none⟩ :: rest) l os u := JL.q (hl.eq ▸ p_build hz.h hp.h hv hf : OpP P n l _ _).q k rfl rfl hn
theorem Qp {i j : Int} {t t' : TypeId} (h1 : opd l x = some (.int .i64 i)) (h2 : opd l y = some (.int .i64 j)) (k : JL P n lo B K ops rest ((d, .int .i64 (i + j)) :: l) os u) (hr : -9223372036854775808 ≤ i + j ∧ i + j ≤ 9223372036854775807 := by omega) (hn : Nat.blt d n = true := by rfl) : JL P n lo B K ops (⟨some d, .binOp .add t x y t', ty, pos, af, none⟩ :: rest) l os u := JL.q (p_add h1 h2 (IntWalk.i64_in _ (by omega))).q k rfl rfl hn
theorem Qs {i j : Int} {t t' : TypeId} (h1 : opd l x = some (.int .i64 i)) (h2 : opd l y = some (.int .i64 j)) (k : JL P n lo B K ops rest ((d, .int .i64 (i - j)) :: l) os u) (hr : -9223372036854775808 ≤ i - j ∧ i - j ≤ 9223372036854775807 := by omega) (hn : Nat.blt d n = true := by rfl) : JL P n lo B K ops (⟨some d, .binOp .sub t x y t', ty, pos, af, none⟩ :: rest) l os u := JL.q (p_sub h1 h2 (IntWalk.i64_in _ (by omega))).q k rfl rfl hn
theorem Qu {i j : Int} {t t' : TypeId} (h1 : opd l x = some (.int .i64 i)) (h2 : opd l y = some (.int .i64 j)) (k : JL P n lo B K ops rest ((d, .int .i64 (i * j)) :: l) os u) (hr : -9223372036854775808 ≤ i * j ∧ i * j ≤ 9223372036854775807 := by omega) (hn : Nat.blt d n = true := by rfl) : JL P n lo B K ops (⟨some d, .binOp .mul t x y t', ty, pos, af, none⟩ :: rest) l os u := JL.q (p_mul h1 h2 (IntWalk.i64_in _ (by omega))).q k rfl rfl hn
theorem Q0 (i : Nat) {t T : TypeId} {s b o : Nat} {c : List Value} {v : Value} [ht : TyI P t false s] (hx : opd l x = some (.pointer (some ⟨b, o, none⟩))) (hi : os[i]? = some (boxO b c T)) (hv : c[o]? = some v) (k : JL P n lo B K ops rest ((d, v) :: l) os u) (hn : Nat.blt d n = true := by rfl) : JL P n lo B K ops (⟨some d, .load t x, ty, pos, af, none⟩ :: rest) l os u := JL.q (q_load1 ht.h hx (Mem.box hi hv)) k rfl rfl hn
theorem Q9 (i : Nat) {t T : TypeId} {s b o : Nat} {c vs : List Value} [ht : TyI P t true s] (hx : opd l x = some (.pointer (some ⟨b, o, none⟩))) (hi : os[i]? = some (boxO b c T)) (k : JL P n lo B K ops rest ((d, .agg vs.toArray) :: l) os u) (hv : NL (takV c o s) vs := by exact nl) (hs : vs.length = s := by rfl) (hn : Nat.blt d n = true := by rfl) : JL P n lo B K ops (⟨some d, .load t x, ty, pos, af, none⟩ :: rest) l os u := JL.q (q_loadN ht.h hx (Mem.boxR hi o s) (by rw [← hv.eq, takV_eq]) hs) k rfl rfl hn
theorem QC {t : TypeId} {s b o : Nat} {v : Value} [ht : TyI P t false s] (h : Cell u b o v) (hx : opd l x = some (.pointer (some ⟨b, o, none⟩))) (k : JL P n lo B K ops rest ((d, v) :: l) os u) (hn : Nat.blt d n = true := by rfl) : JL P n lo B K ops (⟨some d, .load t x, ty, pos, af, none⟩ :: rest) l os u := JL.q (q_load1 ht.h hx (Mem.pub h)) k rfl rfl hn
theorem QS (j : Nat) {t : TypeId} {s b o : Nat} {vs us : List Value} [ht : TyI P t true s] (h : RowAt u b o vs) (hx : opd l x = some (.pointer (some ⟨b, o + j, none⟩))) (k : JL P n lo B K ops rest ((d, .agg us.toArray) :: l) os u) (hv : NL (takV vs j s) us := by exact nl) (hs : us.length = s := by rfl) (hn : Nat.blt d n = true := by rfl) : JL P n lo B K ops (⟨some d, .load t x, ty, pos, af, none⟩ :: rest) l os u := JL.q (q_loadN ht.h hx (Mem.pubR (h.sub j s)) (by rw [← hv.eq, takV_eq]) hs) k rfl rfl hn
theorem zw (i : Nat) {t T : TypeId} {g : Bool} {s b o : Nat} {v : Value} {c c' : List Value} [ht : TyI P t g s] (hx : opd l x = some (.pointer (some ⟨b, o, none⟩))) (hy : opd l y = some v) (hi : os[i]? = some (boxO b c T)) (k : JL P n lo B K ops rest l os' u) (hc : NL (setV c o (cellsL v)) c' := by exact nl) (ho : NL (os.set i (boxO b c' T)) os' := by exact nl) (hs : (cellsL v).length = s := by rfl) (hl : Nat.ble (o + s) c.length = true := by rfl) (h1 : (cellsL v).all (·.oneCell') = true := by first | rfl | (simp [cellsL, *]; done) | (simp [cellsL, *]; repeat' (first | exact rfl | apply And.intro))) :
    JL P n lo B K ops (⟨none, .store t x y, ty, pos, af, none⟩ :: rest) l os u := by
  rw [← ho.eq] at k
  refine JL.s (e_store (c' := c') ht.h hx hi hy rfl hs h1 hl ?_) ?_
  · rw [← hc.eq, setV_eq]; simpa [Nat.ble_eq, hs] using hl
  · rintro _ _ _ ⟨rfl, rfl⟩ _; exact k
theorem Qq {v : Value} {p : Op} (h : OpP P n l ⟨some d, p, ty, pos, af, none⟩ v) (k : JL P n lo B K ops rest ((d, v) :: l) os u) (hn : Nat.blt d n = true := by rfl) : JL P n lo B K ops (⟨some d, p, ty, pos, af, none⟩ :: rest) l os u := JL.q h.q k rfl rfl hn
theorem Qw {v : Value} {p : Op} (h : OpQ P n lo B l os u ⟨some d, p, ty, pos, af, none⟩ v) (k : JL P n lo B K ops rest ((d, v) :: l) os u) (hn : Nat.blt d n = true := by rfl) : JL P n lo B K ops (⟨some d, p, ty, pos, af, none⟩ :: rest) l os u := JL.q h k rfl rfl hn
theorem gh {v : Value} (hc : c = true) (h : opd l x = some (gv c v)) : opd l x = some v := gvt h hc
theorem zg {v : Value} {p : Op} (hg : Gd ops l ⟨some d, p, ty, pos, af, gd⟩ c) (h : c = true → OpP P n l ⟨some d, p, ty, pos, af, gd⟩ v) (k : JL P n lo B K ops rest ((d, gv c v) :: l) os u) (hn : Nat.blt d n = true := by rfl) : JL P n lo B K ops (⟨some d, p, ty, pos, af, gd⟩ :: rest) l os u := JL.g hg (fun hc => (h hc).q) k rfl hn
theorem zgq {v : Value} {p : Op} (hg : Gd ops l ⟨some d, p, ty, pos, af, gd⟩ c) (h : c = true → OpQ P n lo B l os u ⟨some d, p, ty, pos, af, gd⟩ v) (k : JL P n lo B K ops rest ((d, gv c v) :: l) os u) (hn : Nat.blt d n = true := by rfl) : JL P n lo B K ops (⟨some d, p, ty, pos, af, gd⟩ :: rest) l os u := JL.g hg h k rfl hn
theorem zgv {f : FuncId} {xs : List Operand} {ts : Array TypeId} {vs : List Value} {v : Value} [hf : FnI P f] (hg : Gd ops l ⟨some d, .call { callee := .value (.func f), args := xs.toArray, argTypes := ts }, ty, pos, af, gd⟩ c) (h : c = true → opds l xs = some vs) (hc : c = true → ∀ w, St lo B u w os → RetV P f vs w v) (k : JL P n lo B K ops rest ((d, gv c v) :: l) os u) (hn : Nat.blt d n = true := by rfl) :
    JL P n lo B K ops (⟨some d, .call { callee := .value (.func f), args := xs.toArray, argTypes := ts }, ty, pos, af, gd⟩ :: rest) l os u := JL.ge hg (fun e => e_callV hf.h (h e) (hc e)) k rfl hn
theorem zT {p : Op} {dst : Option Tmp} (hg : Gd ops l ⟨dst, p, ty, pos, af, gd⟩ c) (hc : c = true) (k : JL P n lo B K ops (⟨dst, p, ty, pos, af, none⟩ :: rest) l os u) : JL P n lo B K ops (⟨dst, p, ty, pos, af, gd⟩ :: rest) l os u := fun a w ha hw => by
  have h := k a w ha hw
  unfold wpList at h ⊢
  rw [if_pos (by simp [Region.wanted])] at h
  rw [if_pos (by rw [hg n a ha, hc])]
  exact h
theorem zent {l' : Fr} (k : Js P n lo B Q cs l' os u) (h : NL l l' := by exact nl) : Js P n lo B Q cs l os u := by rw [h.eq]; exact k
theorem zb {t : TypeId} {c : List Value} (hx : opd l x = some (.agg c.toArray)) (k : ∀ b, JL P n lo B K ops rest ((d, .pointer (some ⟨b, 0, none⟩)) :: l) (boxO b c t :: os) u) (hn : Nat.blt d n = true := by rfl) :
    JL P n lo B K ops (⟨some d, .box t x, ty, pos, af, none⟩ :: rest) l os u := JL.e (e_box (c := c) hx rfl) (by rintro _ _ _ ⟨b, rfl, rfl, rfl⟩ _; exact k b) rfl rfl hn
theorem zeh {t : TypeId} {c : List Value} [hz : ZeroI P t c] : zeroOf P t = some c := hz.h
theorem za {t : TypeId} {c : List Value} (hz : zeroOf P t = some c) (k : ∀ b, JL P n lo B K ops rest ((d, .pointer (some ⟨b, 0, none⟩)) :: l) (boxO b c t :: os) u) (hn : Nat.blt d n = true := by rfl) :
    JL P n lo B K ops (⟨some d, .alloc t, ty, pos, af, none⟩ :: rest) l os u := JL.e (e_alloc hz) (by rintro _ _ _ ⟨b, rfl, rfl, rfl⟩ _; exact k b) rfl rfl hn
theorem zbs {t e : TypeId} {sz by' m : Nat} {z us vs : List Value} {parts : List (Nat × Operand)} {pv : List (Nat × Value)} [ht : ElI P t e sz by' z] (k : ∀ b, JL P n lo B K ops rest ((d, .slice (some ⟨b, 0, none⟩) m m) :: l) (rowO e sz (.slice (some ⟨b, 0, none⟩) m m) m vs [] :: os) u)
    (hv : opdP l parts = some pv := by rfl) (hf : fillL (elPl sz m) (repL z m) pv = some us := by rfl) (hnl : NL us vs := by exact nl) (hzl : Nat.beq z.length sz = true := by rfl) (hz0 : Nat.blt 0 sz = true := by rfl) (hm : Nat.ble (m * sz) 16777216 = true := by rfl) (hi : pv.all (fun p => Nat.blt p.1 m) = true := by rfl) (hn : Nat.blt d n = true := by rfl) :
    JL P n lo B K ops (⟨some d, .buildSlice t m parts.toArray, ty, pos, af, none⟩ :: rest) l os u := JL.e (e_buildSlice (vs := vs) ht.h hzl hz0 hm hv hi (by rw [hf, hnl.eq])) (by rintro _ _ _ ⟨b, rfl, rfl, _, rfl⟩ _; exact k b) rfl rfl hn
theorem zmk {t e : TypeId} {by' m : Nat} {a0 : Int} [ht : ElI P t e 1 by' [.int .i64 0]] (ha0 : a0 = (m : Int)) (hm : m ≤ 16777216) (k : ∀ b, JL P n lo B K ops rest ((d, .slice (some ⟨b, 0, none⟩) m m) :: l) (rowO e 1 (.slice (some ⟨b, 0, none⟩) m m) m (ints_ (List.replicate m 0)) [] :: os) u)
    (hx : opd l x = some (.int .i64 a0) := by rfl) (hy : opd l y = some (.int .i64 a0) := by rfl) (hb : Nat.ble by' 64 = true := by rfl) (hn : Nat.blt d n = true := by rfl) :
    JL P n lo B K ops (⟨some d, .makeSlice t x y, ty, pos, af, none⟩ :: rest) l os u := JL.e (e_makeI ht.h hb hx hy ha0 hm) (by rintro _ _ _ ⟨b, rfl, rfl, rfl⟩ _; exact k b) rfl rfl hn
theorem zv {f : FuncId} {xs : List Operand} {ts : Array TypeId} {vs : List Value} [hf : FnI P f] (hx : opds l xs = some vs) (hc : ∀ w, St lo B u w os → RetV P f vs w v) (k : JL P n lo B K ops rest ((d, v) :: l) os u) (hn : Nat.blt d n = true := by rfl) :
    JL P n lo B K ops (⟨some d, .call { callee := .value (.func f), args := xs.toArray, argTypes := ts }, ty, pos, af, none⟩ :: rest) l os u := JL.e (e_callV hf.h hx hc) (by rintro _ _ _ ⟨rfl, rfl, rfl⟩ _; exact k) rfl rfl hn
theorem zc {f : FuncId} {xs : List Operand} {ts : Array TypeId} {vs : List Value} {T : Ty} {E : (Value → List Own → Prop) → List Own → Prop} [hf : FnI P f] (hx : opds l xs = some vs) (hc : ∀ w, St lo B u w os → Ret P f vs w T) [he : Elm T E] (k : E (fun v os' => JL P n lo B K ops rest ((d, v) :: l) os' u) os) (hn : Nat.blt d n = true := by rfl) :
    JL P n lo B K ops (⟨some d, .call { callee := .value (.func f), args := xs.toArray, argTypes := ts }, ty, pos, af, none⟩ :: rest) l os u := JL.e (e_callE hf.h hx hc k) (by rintro _ _ _ ⟨h, rfl⟩ _; exact h) rfl rfl hn
theorem zcs {f : FuncId} {xs : List Operand} {ts : Array TypeId} {vs : List Value} {T : Ty} {E : (Value → List Own → Prop) → List Own → Prop} [hf : FnI P f] (hx : opds l xs = some vs) (hc : ∀ w, St lo B u w os → Ret P f vs w T) [he : ElmS T E] (k : E (fun v os' => JL P n lo B K ops rest ((d, v) :: l) os' u) os) (hn : Nat.blt d n = true := by rfl) :
    JL P n lo B K ops (⟨some d, .call { callee := .value (.func f), args := xs.toArray, argTypes := ts }, ty, pos, af, none⟩ :: rest) l os u := JL.e (e_callS hf.h hx hc k) (by rintro _ _ _ ⟨h, rfl⟩ _; exact h) rfl rfl hn
theorem zp {f : FuncId} {xs : List Operand} {ts : Array TypeId} {vs : List Value} {T : Ty} {E : World → (Value → Prop) → Prop} [hf : FnI P f] (hx : opds l xs = some vs) (hc : ∀ w, St lo B u w os → Ret P f vs w T) [he : Opn T E] (k : ∀ u', Up lo u u' → E u' (fun v => JL P n lo B K ops rest ((d, v) :: l) os u')) (hn : Nat.blt d n = true := by rfl) :
    JL P n lo B K ops (⟨some d, .call { callee := .value (.func f), args := xs.toArray, argTypes := ts }, ty, pos, af, none⟩ :: rest) l os u := JL.e (e_callP hf.h hx hc) (by rintro v _ u' ⟨h, rfl⟩ x; exact he.h u' (fun v => JL P n lo B K ops rest ((d, v) :: l) _ u') (k u' x) v h) rfl rfl hn
inductive SpL : List Own → Nat → List Own → List Own → Prop
  | z {r : List Own} : SpL r 0 [] r
  | s {o : Own} {r a b : List Own} {k : Nat} (h : SpL r k a b) : SpL (o :: r) (k + 1) (o :: a) b
theorem SpL.eq {os a b : List Own} {k : Nat} (h : SpL os k a b) : os = a ++ b := by induction h with | z => rfl | s _ ih => rw [ih]; rfl
theorem sp_ {os a b : List Own} {k : Nat} (h : SpL os k a b := by repeat (first | exact SpL.z | apply SpL.s)) : SpL os k a b := h
theorem zB (m : Nat) {f : FuncId} {xs : List Operand} {ts : Array TypeId} {vs : List Value} {bs rs : List Own} {R : Value → List Own → Prop} (hs : SpL os m bs rs) [hf : FnI P f] (hx : opds l xs = some vs)
    (hc : ∀ w, Bw w bs → St lo [] u (offW w (bs.flatMap (·.fp))) rs → RetB P f vs w bs R) (k : ∀ v bs' G, R v bs' → JL P n lo B K ops rest ((d, v) :: l) (bs' ++ anyO G :: rs) u) (hB : B = [] := by rfl) (hn : Nat.blt d n = true := by rfl) :
    JL P n lo B K ops (⟨some d, .call { callee := .value (.func f), args := xs.toArray, argTypes := ts }, ty, pos, af, none⟩ :: rest) l os u := by
  rw [hs.eq]
  exact JL.e (e_callB hf.h hx hc hB) (by rintro v _ _ ⟨bs', G, h, rfl, rfl⟩ _; exact k v bs' G h) rfl rfl hn
theorem zBB (m : Nat) {f : FuncId} {xs : List Operand} {ts : Array TypeId} {vs : List Value} {bs rs : List Own} {R : Value → List Own → Prop} (hs : SpL os m bs rs) [hf : FnI P f] (hx : opds l xs = some vs)
    (hc : ∀ w, Bw w bs → ∀ B', St lo B' u (offW w (bs.flatMap (·.fp))) rs → RetB P f vs w bs R) (k : ∀ v bs' G, R v bs' → JL P n lo B K ops rest ((d, v) :: l) (bs' ++ anyO G :: rs) u) (hn : Nat.blt d n = true := by rfl) :
    JL P n lo B K ops (⟨some d, .call { callee := .value (.func f), args := xs.toArray, argTypes := ts }, ty, pos, af, none⟩ :: rest) l os u := by
  rw [hs.eq]
  exact JL.e (e_callBB hf.h hx fun w hb ⟨B', hw⟩ => hc w hb B' hw) (by rintro v _ _ ⟨bs', G, h, rfl, rfl⟩ _; exact k v bs' G h) rfl rfl hn
theorem yB (m : Nat) {f : FuncId} {xs : List Operand} {ts : Array TypeId} {vs : List Value} {bs rs : List Own} {R : Value → List Own → Prop} (hs : SpL os m bs rs) [hf : FnI P f] (hi : ops[i]? = some ⟨some d, .call { callee := .value (.func f), args := xs.toArray, argTypes := ts }, ty, pos, af, none⟩) (hx : opds l xs = some vs)
    (hc : ∀ w, Bw w bs → St lo [] u (offW w (bs.flatMap (·.fp))) rs → RetB P f vs w bs R) (k : ∀ v bs' G, R v bs' → JH P n lo B K ops u₀ os₀ nm fuel (listed.setIfInBounds i true) (z && false) ((d, v) :: l) (bs' ++ anyO G :: rs) u) (hm : nm.contains i = true := by rfl) (hB : B = [] := by rfl) (hn : Nat.blt d n = true := by rfl) :
    JHo P n lo B K ops u₀ os₀ nm fuel listed z l os u i := by
  rw [hs.eq]
  exact JHo.e hi (e_callB hf.h hx hc hB) (.inr hm) (by rintro v _ _ ⟨bs', G, h, rfl, rfl⟩ _; exact k v bs' G h) rfl rfl hn
theorem ya {t : TypeId} {c : List Value} [hz : ZeroI P t c] (hi : ops[i]? = some ⟨some d, .alloc t, ty, pos, af, none⟩) (k : ∀ b, JH P n lo B K ops u₀ os₀ nm fuel (listed.setIfInBounds i true) (z && true) ((d, .pointer (some ⟨b, 0, none⟩)) :: l) (boxO b c t :: os) u) (hn : Nat.blt d n = true := by rfl) :
    JHo P n lo B K ops u₀ os₀ nm fuel listed z l os u i := JHo.e hi (e_alloc hz.h) (.inl rfl) (by rintro _ _ _ ⟨b, rfl, rfl, rfl⟩ _; exact k b) rfl rfl hn
theorem ybs {t e : TypeId} {sz by' m : Nat} {z' us vs : List Value} {parts : List (Nat × Operand)} {pv : List (Nat × Value)} [ht : ElI P t e sz by' z'] (hi : ops[i]? = some ⟨some d, .buildSlice t m parts.toArray, ty, pos, af, none⟩) (k : ∀ b, JH P n lo B K ops u₀ os₀ nm fuel (listed.setIfInBounds i true) (z && true) ((d, .slice (some ⟨b, 0, none⟩) m m) :: l) (rowO e sz (.slice (some ⟨b, 0, none⟩) m m) m vs [] :: os) u)
    (hv : opdP l parts = some pv := by rfl) (hf : fillL (elPl sz m) (repL z' m) pv = some us := by rfl) (hnl : NL us vs := by exact nl) (hzl : Nat.beq z'.length sz = true := by rfl) (hz0 : Nat.blt 0 sz = true := by rfl) (hm : Nat.ble (m * sz) 16777216 = true := by rfl) (hpi : pv.all (fun p => Nat.blt p.1 m) = true := by rfl) (hn : Nat.blt d n = true := by rfl) :
    JHo P n lo B K ops u₀ os₀ nm fuel listed z l os u i := JHo.e hi (e_buildSlice (vs := vs) ht.h hzl hz0 hm hv hpi (by rw [hf, hnl.eq])) (.inl rfl) (by rintro _ _ _ ⟨b, rfl, rfl, _, rfl⟩ _; exact k b) rfl rfl hn
theorem yv {f : FuncId} {xs : List Operand} {ts : Array TypeId} {vs : List Value} [hf : FnI P f] (hi : ops[i]? = some ⟨some d, .call { callee := .value (.func f), args := xs.toArray, argTypes := ts }, ty, pos, af, none⟩) (hx : opds l xs = some vs) (hc : ∀ w, St lo B u w os → RetV P f vs w v) (k : JH P n lo B K ops u₀ os₀ nm fuel (listed.setIfInBounds i true) (z && true) ((d, v) :: l) os u) (hn : Nat.blt d n = true := by rfl) :
    JHo P n lo B K ops u₀ os₀ nm fuel listed z l os u i := JHo.e hi (e_callV hf.h hx hc) (.inl rfl) (by rintro _ _ _ ⟨rfl, rfl, rfl⟩ _; exact k) rfl rfl hn
theorem yc {f : FuncId} {xs : List Operand} {ts : Array TypeId} {vs : List Value} {T : Ty} {E : (Value → List Own → Prop) → List Own → Prop} [hf : FnI P f] (hi : ops[i]? = some ⟨some d, .call { callee := .value (.func f), args := xs.toArray, argTypes := ts }, ty, pos, af, none⟩) (hx : opds l xs = some vs) (hc : ∀ w, St lo B u w os → Ret P f vs w T) [he : Elm T E] (k : E (fun v os' => JH P n lo B K ops u₀ os₀ nm fuel (listed.setIfInBounds i true) (z && true) ((d, v) :: l) os' u) os) (hn : Nat.blt d n = true := by rfl) :
    JHo P n lo B K ops u₀ os₀ nm fuel listed z l os u i := JHo.e hi (e_callE hf.h hx hc k) (.inl rfl) (by rintro _ _ _ ⟨h, rfl⟩ _; exact h) rfl rfl hn
theorem ycs {f : FuncId} {xs : List Operand} {ts : Array TypeId} {vs : List Value} {T : Ty} {E : (Value → List Own → Prop) → List Own → Prop} [hf : FnI P f] (hi : ops[i]? = some ⟨some d, .call { callee := .value (.func f), args := xs.toArray, argTypes := ts }, ty, pos, af, none⟩) (hx : opds l xs = some vs) (hc : ∀ w, St lo B u w os → Ret P f vs w T) [he : ElmS T E] (k : E (fun v os' => JH P n lo B K ops u₀ os₀ nm fuel (listed.setIfInBounds i true) (z && true) ((d, v) :: l) os' u) os) (hn : Nat.blt d n = true := by rfl) :
    JHo P n lo B K ops u₀ os₀ nm fuel listed z l os u i := JHo.e hi (e_callS hf.h hx hc k) (.inl rfl) (by rintro _ _ _ ⟨h, rfl⟩ _; exact h) rfl rfl hn
theorem yp {f : FuncId} {xs : List Operand} {ts : Array TypeId} {vs : List Value} {T : Ty} {E : World → (Value → Prop) → Prop} [hf : FnI P f] (hi : ops[i]? = some ⟨some d, .call { callee := .value (.func f), args := xs.toArray, argTypes := ts }, ty, pos, af, none⟩) (hx : opds l xs = some vs) (hc : ∀ w, St lo B u w os → Ret P f vs w T) [he : Opn T E] (k : ∀ u', Up lo u u' → E u' (fun v => JH P n lo B K ops u₀ os₀ nm fuel (listed.setIfInBounds i true) (z && true) ((d, v) :: l) os u')) (hn : Nat.blt d n = true := by rfl) :
    JHo P n lo B K ops u₀ os₀ nm fuel listed z l os u i := JHo.e hi (e_callP hf.h hx hc) (.inl rfl) (by rintro v _ u' ⟨h, rfl⟩ x; exact he.h u' (fun v => JH P n lo B K ops u₀ os₀ nm fuel (listed.setIfInBounds i true) (z && true) ((d, v) :: l) _ u') (k u' x) v h) rfl rfl hn
theorem yst {t : TypeId} {g : Bool} {s b o : Nat} (hi : ops[i]? = some ⟨none, .store t x y, ty, pos, af, none⟩) (hx : opd l x = some (.pointer (some ⟨b, o, none⟩))) (hy : opd l y = some v) (k : JH P n lo B K ops u₀ os₀ nm fuel (listed.setIfInBounds i true) (z && false) l os' u) [ht : TyI P t g s] (hm : nm.contains i = true := by rfl) (hw : St1 os b o (cellsL v) os' := by exact st1_) (hs : (cellsL v).length = s := by rfl) :
    JHo P n lo B K ops u₀ os₀ nm fuel listed z l os u i := by
  obtain ⟨j, c, T, h1, h2, h3, rfl⟩ := hw.get
  refine JHo.s hi (e_store ht.h hx h1 hy rfl hs h2 (hs ▸ h3) rfl) (.inr hm) ?_
  rintro _ _ _ ⟨rfl, rfl⟩ _
  exact k
theorem y1 (i : Nat) (h : JHo P n lo B K ops u₀ os₀ nm fuel listed z l os u i) (hr : Region.ready .any ops listed = [i] := by kernel_rfl) : JH P n lo B K ops u₀ os₀ nm (fuel + 1) listed z l os u := JH.one hr h
theorem y2 (i j : Nat) (h : JHo P n lo B K ops u₀ os₀ nm fuel listed z l os u i) (k : JHo P n lo B K ops u₀ os₀ nm fuel listed z l os u j) (hr : Region.ready .any ops listed = [i, j] := by kernel_rfl) : JH P n lo B K ops u₀ os₀ nm (fuel + 1) listed z l os u := JH.all hr rfl ⟨h, k, trivial⟩
theorem yd (h : Js P n lo B Q cs l os u) (hr : Region.ready .any ops listed = [] := by kernel_rfl) : JH P n lo B (seqs P Q cs) ops u₀ os₀ nm fuel listed z l os u := JH.done hr h
theorem zdr (nm : List Nat) {id : Nat} {ops : List Oper} [hm : MixI P] (h : JH P n lo B (seqs P Q cs) ops.toArray u os nm ops.length (Array.replicate ops.length false) true l os u) : Js P n lo B Q (.region id ops.toArray true :: cs) l os u := Js.drawn os nm hm.h (fun _ h => h) h
theorem zi {cnd : Operand} {b : Bool} {x y : Code} {p q : Prop} (ht : b = true → p → Js P n lo B Q (x :: cs) l os u) (hf : b = false → q → Js P n lo B Q (y :: cs) l os u) (hc : opd l cnd = some (.bool b) := by rfl)
    (hp : b = true → p := by intro h; (try simp only [Bool.or_eq_true, Bool.or_eq_false_iff, Bool.and_eq_true, Bool.and_eq_false_iff, Bool.not_eq_true', Bool.not_eq_false', decide_eq_true_eq, decide_eq_false_iff_not, Int.not_lt, Int.not_le] at h); exact h)
    (hq : b = false → q := by intro h; (try simp only [Bool.or_eq_true, Bool.or_eq_false_iff, Bool.and_eq_true, Bool.and_eq_false_iff, Bool.not_eq_true', Bool.not_eq_false', decide_eq_true_eq, decide_eq_false_iff_not, Int.not_lt, Int.not_le] at h); exact h) :
    Js P n lo B Q (.cond cnd x y :: cs) l os u := Js.cond hc (fun h => ht h (hp h)) (fun h => hf h (hq h))
theorem zx {j : Nat} {cs' : List Code} {Q' : Exit → Act → World → Prop} (h : Js P n lo B Q' cs' l os u) (hQ : ∀ a w, Q (.exit j) a w = seqs P Q' cs' a w := by exact fun _ _ => rfl) : Js P n lo B Q (.exit j :: cs) l os u := Js.exit hQ h
inductive Kp : Fr → List Nat → Fr → Prop
  | nil {L : Fr} : Kp L [] []
  | cons {L r : Fr} {k : Nat} {ks : List Nat} {v : Value} (h : look L k = some v) (t : Kp L ks r) : Kp L (k :: ks) ((k, v) :: r)
theorem kp_ {L r : Fr} {ks : List Nat} (h : Kp L ks r := by repeat (first | exact Kp.nil | (apply Kp.cons; rfl))) : Kp L ks r := h
theorem sub_ {L r : Fr} (h : subf L r := by repeat (first | exact trivial | refine And.intro rfl ?_)) : subf L r := h
abbrev nO : Option Own := none
def updO : List Own → List (Option Own) → List Own
  | _ :: os, some x :: r => x :: updO os r
  | o :: os, none :: r => o :: updO os r
  | os, [] => os
  | [], _ => []
theorem zl (ks : List Nat) {lk : Fr} (I : (Fr → Fr) → (List (Option Own) → List Own) → Fr → List Own → World → Nat → Prop) {body : Code} {l₀ : Fr} {m₀ : Nat} (h0 : I (· ++ lk) (updO os) l₀ os u m₀)
    (round : ∀ l' os' u' m, I (· ++ lk) (updO os) l' os' u' m → Up lo u u' → Js P n lo B (LQ n lo B (fun l os w m => I (· ++ lk) (updO os₀) l os w m ∧ Up lo u w) m Q) [body] l' os' u')
    (e : os₀ = os := by rfl) (hk : Kp l ks lk := by exact kp_) (hl : subf l l₀ := by exact sub_) : Js P n lo B Q (.loop body :: cs) l os u := by
  subst e
  exact Js.loop (fun l os' w m => I (· ++ lk) (updO os₀) l os' w m ∧ Up lo u w) ⟨h0, Up.refl _ _⟩ hl fun l' os' u' m h => round l' os' u' m h.1 h.2
theorem zag {J : Fr → List Own → World → Nat → Prop} {m m' : Nat} {l' : Fr} {u1 : World} (hI : J l' os u m') (x : Up lo u1 u) (hm : m' < m := by omega) (hl : subf l l' := by exact sub_) : Js P n lo B (LQ n lo B (fun l os w m => J l os w m ∧ Up lo u1 w) m Q) [] l os u := Js.again ⟨hI, x⟩ hm hl
theorem zk (ks : List Nat) {lk : Fr} (I : (Fr → Fr) → (List (Option Own) → List Own) → Fr → List Own → World → Prop) {c : Code} (h1 : Js P n lo B (CQ n lo B (fun l os w => I (· ++ lk) (updO os₀) l os w ∧ Up lo u w) Q) [c] l os u)
    (h2 : ∀ l' os' u', I (· ++ lk) (updO os₀) l' os' u' → Up lo u u' → Js P n lo B Q cs l' os' u') (e : os₀ = os := by rfl) (hk : Kp l ks lk := by exact kp_) : Js P n lo B Q (c :: cs) l os u := by
  subst e
  exact Js.cut (fun l os w => I (· ++ lk) (updO os₀) l os w ∧ Up lo u w) h1 fun l' os' u' h => h2 l' os' u' h.1 h.2
theorem zm {J : Fr → List Own → World → Prop} {l' : Fr} {u1 : World} (hI : J l' os u) (x : Up lo u1 u) (hl : subf l l' := by exact sub_) : Js P n lo B (CQ n lo B (fun l os w => J l os w ∧ Up lo u1 w) Q) [] l os u := Js.meet ⟨hI, x⟩ hl
theorem zt {p : Prop} (h : p := by first | assumption | omega | rfl | (simp; done)) : p := h
theorem zu {p : Prop} (h : p := by first | omega | (simp only [List.length_append, List.length_cons, List.length_nil] <;> omega)) : p := h
theorem om_ {p : Prop} (h : p := by first | omega | (simp only [List.length_append, List.length_cons, List.length_nil]; omega)) : p := h
theorem zn {l' : Fr} (k : Js P n lo B Q cs l' os' u) (hl : NL l l' := by exact nl) (ho : NL os os' := by exact nl) : Js P n lo B Q cs l os u := by rw [hl.eq, ho.eq]; exact k
theorem znl (k : JL P n lo B K ops rest l os' u) (ho : NL os os' := by exact nl) : JL P n lo B K ops rest l os u := by rw [ho.eq]; exact k
theorem znh (k : JH P n lo B K ops u₀ os₀ nm fuel listed z l os' u) (ho : NL os os' := by exact nl) : JH P n lo B K ops u₀ os₀ nm fuel listed z l os u := by rw [ho.eq]; exact k
inductive PickI : List Own → Nat → Own → List Own → Prop
  | z {o : Own} {r : List Own} : PickI (o :: r) 0 o r
  | s {o q : Own} {r s : List Own} {k : Nat} (h : PickI r k o s) : PickI (q :: r) (k + 1) o (q :: s)
theorem PickI.perm {os r : List Own} {k : Nat} {o : Own} (h : PickI os k o r) : os.Perm (o :: r) := by
  induction h with
  | z => exact List.Perm.refl _
  | s _ ih => exact (ih.cons _).trans (List.Perm.swap _ _ _)
inductive PP : List Own → List Nat → List Own → Prop
  | nil {os : List Own} : PP os [] os
  | cons {os r s : List Own} {k : Nat} {ks : List Nat} {o : Own} (h : PickI os k o r) (t : PP r ks s) : PP os (k :: ks) (o :: s)
theorem PP.perm {os s : List Own} {ks : List Nat} (h : PP os ks s) : os.Perm s := by
  induction h with
  | nil => exact List.Perm.refl _
  | cons h _ ih => exact h.perm.trans (ih.cons _)
theorem pi_ {os r : List Own} {k : Nat} {o : Own} (h : PickI os k o r := by repeat (first | exact PickI.z | apply PickI.s)) : PickI os k o r := h
theorem pp_ {os s : List Own} {ks : List Nat} (h : PP os ks s := by repeat (first | exact PP.nil | (apply PP.cons; repeat (first | exact PickI.z | apply PickI.s)))) : PP os ks s := h
theorem zh (ks : List Nat) (k : Js P n lo B Q cs l os' u) (h : PP os ks os' := by exact pp_) : Js P n lo B Q cs l os u := Js.conv (fun _ hw => hw.swap h.perm.symm) k
theorem zhl (ks : List Nat) (k : JL P n lo B K ops rest l os' u) (h : PP os ks os' := by exact pp_) : JL P n lo B K ops rest l os u := JL.conv (fun _ hw => hw.swap h.perm.symm) k
theorem zf (ks : List Nat) {m : Nat} {ra : List Own} (k : ∀ G, Js P n lo B Q cs l (ra ++ [anyO G]) u) (hm : ks.length = m := by rfl) (h : PP os ks os' := by exact pp_) (hs' : NL (os'.take m) ra := by exact nl) : Js P n lo B Q cs l os u :=
  Js.conv (os' := ra ++ [anyO ((os'.drop m).flatMap (·.fp))]) (fun w hw => by
    have hp := h.perm
    have e : os' = ra ++ os'.drop m := by rw [← hs'.eq, List.take_append_drop]
    refine hw.conv (fun o ho => ?_) ?_
    · rcases List.mem_append.1 ho with ho | ho
      · exact hw.prs o (hp.mem_iff.2 (by rw [e]; exact List.mem_append_left _ ho))
      · simp at ho; subst ho; trivial
    · have := hp.symm.flatMap_right (fun o : Own => o.fp)
      rw [e, List.flatMap_append] at this
      rw [List.flatMap_append]
      simpa [anyO] using this) (k _)
theorem zd (ks : List Nat) {m : Nat} {ra : List Own} (hB : B = []) (k : ∀ u', Up lo u u' → Js P n lo B Q cs l ra u') (hm : ks.length = m := by rfl) (h : PP os ks os' := by exact pp_) (hs' : NL (os'.take m) ra := by exact nl) : Js P n lo B Q cs l os u := by
  rw [← hs'.eq] at k
  refine zh ks ?_ h
  have key : ∀ (r s : List Own) (u : World), (∀ u', Up lo u u' → Js P n lo B Q cs l r u') → Js P n lo B Q cs l (r ++ s) u := by
    intro r s
    induction s generalizing r with
    | nil => intro u h; simpa using h u (Up.refl _ _)
    | cons o s ih =>
      intro u h
      refine Js.drop (i := r.length) (o := o) hB (by simp) fun u' x => ?_
      have : (r ++ o :: s).eraseIdx r.length = r ++ s := by rw [List.eraseIdx_append_of_length_le (Nat.le_refl _)]; simp
      rw [this]
      exact ih r u' fun u'' x' => h u'' (x.trans x')
  have := key (os'.take m) (os'.drop m) u k
  rwa [List.take_append_drop] at this
end
section
variable {P : Program} {n lo : Nat} {B : List Nat} {Q : Exit → Act → World → Prop} {cs : List Code} {l : Fr} {os os' os1 : List Own} {u w : World} {v : Value} {T : Ty} {Ts : List Ty}
inductive RetQ (P : Program) (fn : Func) (R : Ending → World → Prop) : (Exit → Act → World → Prop) → Prop
  | base : RetQ P fn R (bodyPost P fn R)
  | bq {i : Nat} {K : Act → World → Prop} {Q : Exit → Act → World → Prop} (h : RetQ P fn R Q) : RetQ P fn R (BQ i K Q)
  | lq {n lo : Nat} {B : List Nat} {I : Fr → List Own → World → Nat → Prop} {m : Nat} {Q : Exit → Act → World → Prop} (h : RetQ P fn R Q) : RetQ P fn R (LQ n lo B I m Q)
  | cq {n lo : Nat} {B : List Nat} {I : Fr → List Own → World → Prop} {Q : Exit → Act → World → Prop} (h : RetQ P fn R Q) : RetQ P fn R (CQ n lo B I Q)
theorem RetQ.eq {fn : Func} {R : Ending → World → Prop} (h : RetQ P fn R Q) : ∀ a w, Q .ret a w = bodyPost P fn R .ret a w := by
  induction h with
  | base => exact fun _ _ => rfl
  | bq _ ih => exact ih
  | lq _ ih => exact ih
  | cq _ ih => exact ih
theorem rq_ {fn : Func} {R : Ending → World → Prop} (h : RetQ P fn R Q := by repeat (first | with_reducible exact RetQ.base | with_reducible apply RetQ.bq | with_reducible apply RetQ.lq | with_reducible apply RetQ.cq)) : RetQ P fn R Q := h
inductive OutV : List Value → Value → Prop
  | one {v : Value} : OutV [v] v
  | two {v v' : Value} {r : List Value} : OutV (v :: v' :: r) (.tuple (v :: v' :: r).toArray)
theorem OutV.eq {vs : List Value} {v : Value} (h : OutV vs v) : outV vs = v := by cases h <;> rfl
theorem ov_ {vs : List Value} {v : Value} (h : OutV vs v := by first | exact OutV.one | exact OutV.two) : OutV vs v := h
theorem ro1 {t : Tmp} {T : TypeId} {r : List ResultVar} {s b : Nat} {v : Value} {vs : List Value} [ht : TyI P T false s] (hl : look l t = some (.pointer (some ⟨b, 0, none⟩))) (h : Ld os b 0 v) (k : ResOk P n lo B l os u r vs) : ResOk P n lo B l os u (.cell t T :: r) (v :: vs) :=
  ResOk.cell ⟨b, 0, hl, fun w hw => run_loadVar_one w ht.h (h.get hw.prs)⟩ k
theorem ro2 {t : Tmp} {T : TypeId} {r : List ResultVar} {s b : Nat} {vs us : List Value} [ht : TyI P T true s] (hl : look l t = some (.pointer (some ⟨b, 0, none⟩))) (h : LdR os b 0 s us) (hs : us.length = s) (k : ResOk P n lo B l os u r vs) : ResOk P n lo B l os u (.cell t T :: r) (.agg us.toArray :: vs) :=
  ResOk.cell ⟨b, 0, hl, fun w hw => run_loadVar_agg w (hs ▸ ht.h) (h.get hw.prs)⟩ k
theorem rs_ {rs : List ResultVar} {vs : List Value} (h : ResOk P n lo B l os u rs vs := by repeat (first | exact ResOk.nil | (apply ResOk.tmp; rfl) | (apply ro1; rfl; exact ld_) | (apply ro2; rfl; exact ldr_; rfl))) : ResOk P n lo B l os u rs vs := h
theorem zR {fn : Func} {v : Value} {w₀ : World} {rs : List ResultVar} {vs : List Value} (x : Up w₀.heap.size w₀ u) (e : Ending.returned (outV vs) = .returned v) (hq : RetQ P fn (RV w₀ v) Q := by exact rq_) (hr : fn.results = rs.toArray := by rfl) (hv : ResOk P n w₀.heap.size [] l os u rs vs := by exact rs_) : Js P n w₀.heap.size [] Q (.ret :: cs) l os u :=
  Js.ret hr hq.eq hv fun w hw => ⟨e, hw.ext x⟩
theorem zr {fn : Func} {v v' : Value} {w₀ : World} {rs : List ResultVar} {vs : List Value} (x : Up w₀.heap.size w₀ u) (hq : RetQ P fn (RV w₀ v) Q := by exact rq_) (hr : fn.results = rs.toArray := by rfl) (hv : ResOk P n w₀.heap.size [] l os u rs vs := by exact rs_) (ho : OutV vs v' := by exact ov_) (e : v' = v := by first | with_reducible rfl | assumption | rfl | (simp; done)) : Js P n w₀.heap.size [] Q (.ret :: cs) l os u :=
  zR x (by rw [ho.eq, e]) hq hr hv
inductive PickO : List Own → Own → List Own → Prop
  | z {o : Own} {r : List Own} : PickO (o :: r) o r
  | s {o q : Own} {r s : List Own} (h : PickO r o s) : PickO (q :: r) o (q :: s)
theorem PickO.perm {os r : List Own} {o : Own} (h : PickO os o r) : os.Perm (o :: r) := by
  induction h with
  | z => exact List.Perm.refl _
  | s _ ih => exact (ih.cons _).trans (List.Perm.swap _ _ _)
theorem po_ {os r : List Own} {o : Own} (h : PickO os o r := by repeat (first | with_reducible exact PickO.z | with_reducible apply PickO.s)) : PickO os o r := h
def Gv (os : List Own) (T : Ty) (v : Value) (os' : List Own) : Prop := ∀ w, (∀ o ∈ os, o.pr w) → ∃ fp g, T.own w v fp ∧ (fp ++ (g ++ os'.flatMap (·.fp))).Perm (os.flatMap (·.fp)) ∧ ∀ o ∈ os', o.pr w
def GvL (os : List Own) (Ts : List Ty) (vs : List Value) (os' : List Own) : Prop := ∀ w, (∀ o ∈ os, o.pr w) → ∃ fp g, cellsOwn w Ts vs fp ∧ (fp ++ (g ++ os'.flatMap (·.fp))).Perm (os.flatMap (·.fp)) ∧ ∀ o ∈ os', o.pr w
theorem PickO.flat {o : Own} (h : PickO os o os') : (o.fp ++ os'.flatMap (·.fp)).Perm (os.flatMap (·.fp)) := by
  have := h.perm.symm.flatMap_right (fun o : Own => o.fp)
  simpa using this
theorem PickO.at {o : Own} (h : PickO os o os') {w : World} (hp : ∀ o ∈ os, o.pr w) : o.pr w ∧ ∀ o ∈ os', o.pr w := ⟨hp o (h.perm.mem_iff.2 (by simp)), fun q hq => hp q (h.perm.mem_iff.2 (by simp [hq]))⟩
theorem gv_of {o : Own} (h : PickO os o os') (k : ∀ w, o.pr w → ∃ fp g, T.own w v fp ∧ o.fp = fp ++ g) : Gv os T v os' := fun w hp => by
  obtain ⟨h1, h2⟩ := h.at hp
  obtain ⟨fp, g, a, b⟩ := k w h1
  exact ⟨fp, g, a, by rw [← List.append_assoc, ← b]; exact h.flat, h2⟩
theorem gv_free (h : ∀ w, T.own w v []) : Gv os T v os := fun w hp => ⟨[], [], h w, List.Perm.refl _, hp⟩
theorem gv_val {x : Value} : Gv os (Ty.val x) x os := gv_free fun _ => ⟨rfl, rfl⟩
theorem gv_int {a b : Int} (h : a = b) : Gv os (Ty.int b) (.int .i64 a) os := gv_free fun _ => ⟨by rw [h], rfl⟩
theorem gv_bool {a b : Bool} (h : a = b) : Gv os (Ty.bool b) (.bool a) os := gv_free fun _ => ⟨by rw [h], rfl⟩
theorem gv_str {a b : List UInt8} (h : a = b) : Gv os (Ty.str b) (.string (sB a)) os := gv_free fun _ => ⟨by rw [h], rfl⟩
theorem gv_any (h : v.oneCell' = true) : Gv os Ty.any v os := gv_free fun _ => ⟨rfl, h⟩
theorem gv_ints {e : TypeId} {m : Nat} {xs ys : List Int} {g : List Nat} (h : PickO os (rowO e 1 v m (ints_ xs) g) os') (hx : xs = ys) : Gv os (Ty.ints e ys) v os' :=
  gv_of h fun w hr => ⟨_, g, ints_row hr hx, by simp [rowO]⟩
theorem gv_intsL {e : TypeId} {m : Nat} {vs : List Value} {ys : List Int} {g : List Nat} (h : PickO os (rowO e 1 v m vs g) os') (hx : vs = ints_ ys) : Gv os (Ty.ints e ys) v os' := gv_ints (hx ▸ h) rfl
theorem gv_intsM {e : TypeId} {m : Nat} {vs : List Value} {xs ys : List Int} {g : List Nat} (h : PickO os (rowO e 1 v m vs g) os') (he : xs = ys) (hx : vs = ints_ xs) : Gv os (Ty.ints e ys) v os' := gv_ints (hx ▸ h) he
theorem gv_nil {e : TypeId} {ys : List Int} (hx : [] = ys) : Gv os (Ty.ints e ys) (.slice none 0 0) os := gv_free fun _ => hx ▸ nil_own
theorem gv_ro {e : TypeId} {m : Nat} {xs ys : List Int} (h : PickO os (roO e v m (ints_ xs)) os') (hx : xs = ys) : Gv os (Ty.ro e ys) v os' :=
  gv_of h fun w hr => ⟨_, [], ro_own hr hx, by simp [roO]⟩
theorem gv_roR {e : TypeId} {m : Nat} {xs ys : List Int} {g : List Nat} (h : PickO os (rowO e 1 v m (ints_ xs) g) os') (hx : xs = ys) : Gv os (Ty.ro e ys) v os' :=
  gv_of h fun w hr => ⟨_, g, ro_ownR hr hx, by simp [rowO]⟩
theorem gv_roN {e : TypeId} {ys : List Int} (hx : [] = ys) : Gv os (Ty.ro e ys) (.slice none 0 0) os := gv_free fun _ => ro_nil hx
theorem gv_own {vs : List Value} {f : List Nat} (h : PickO os (ownC Ts vs f) os') : Gv os (Ty.agg Ts) (.agg vs.toArray) os' := gv_of h fun w hr => ⟨f, [], ⟨_, rfl, hr⟩, by simp [ownC]⟩
theorem gv_ownc {α : Type} (F : α → List Ty) {x y : α} {vs : List Value} {f : List Nat} (h : PickO os (ownC (F x) vs f) os') (hx : x = y) : Gv os (Ty.agg (F y)) (.agg vs.toArray) os' := hx ▸ gv_own h
theorem gv_strs {e : TypeId} {A : Option Addr} {m c : Nat} {vs : List Value} {g : List Nat} {xs : List (List UInt8)} (h : PickO os (rowO e 1 (.slice A m c) m vs g) os') (hx : vs = txs_ xs) (hn : m = xs.length) : Gv os (Ty.strs e xs) (.slice A m c) os' := by
  subst hx; subst hn
  exact gv_of h fun w hr => ⟨_, g, row_own hr (strs_own xs), by simp [rowO]⟩
theorem gv_strsN {e : TypeId} {ys : List (List UInt8)} (hx : [] = ys) : Gv os (Ty.strs e ys) (.slice none 0 0) os := gv_free fun w => hx ▸ row_own (World.ownsRow_nil w 0 e 1) (strs_own [])
theorem gv_strsE {e : TypeId} {A : Option Addr} {m c : Nat} {vs : List Value} {g : List Nat} {xs ys : List (List UInt8)} (h : PickO os (rowO e 1 (.slice A m c) m vs g) os') (hy : ys = xs) (hx : vs = txs_ ys) (hn : m = ys.length := by rfl) : Gv os (Ty.strs e xs) (.slice A m c) os' := hy ▸ gv_strs h hx hn
theorem gv_agg {vs : List Value} (h : GvL os Ts vs os') : Gv os (Ty.agg Ts) (.agg vs.toArray) os' := fun w hp => by
  obtain ⟨fp, g, a, b⟩ := h w hp; exact ⟨fp, g, ⟨_, rfl, a⟩, b⟩
theorem gv_tup {vs : List Value} (h : GvL os Ts vs os') : Gv os (Ty.tup Ts) (.tuple vs.toArray) os' := fun w hp => by
  obtain ⟨fp, g, a, b⟩ := h w hp; exact ⟨fp, g, ⟨_, rfl, a⟩, b⟩
theorem gv_box {t : TypeId} {b : Nat} {vs : List Value} (h : PickO os (boxO b vs t) os1) (k : GvL os1 Ts vs os') : Gv os (Ty.box t Ts) (.pointer (some ⟨b, 0, none⟩)) os' := fun w hp => by
  obtain ⟨h1, h2⟩ := h.at hp
  obtain ⟨fp, g, a, c, d⟩ := k w h2
  refine ⟨b :: fp, g, box_own h1 a, ?_, d⟩
  have := h.flat
  exact (c.cons b).trans (by simpa [boxO] using this)
class LenL {α : Type} (F : List α → List Ty) (k : outParam Nat) : Prop where h : ∀ xs, (F xs).length = xs.length * k
theorem gv_sl {α : Type} (F : List α → List Ty) {e : TypeId} {sz m : Nat} {v : Value} {vs : List Value} {xs ys : List α} {f g : List Nat} (h : PickO os (rowO e sz v m vs g) os1) (k : PickO os1 (ownC (F xs) vs f) os') (hx : xs = ys) [hl : LenL F sz] (hsz : 0 < sz := by decide) : Gv os (Ty.sl e sz ys.length (F ys)) v os' := fun w hp => by
  obtain ⟨h1, h2⟩ := h.at hp
  obtain ⟨h3, h4⟩ := k.at h2
  refine ⟨v.ownBlock.toList ++ f, g, srow_own F h1 h3 (hl.h _) hx hsz, ?_, h4⟩
  have a := h.flat
  have b := k.flat
  simp only [rowO, ownC] at a b
  refine List.Perm.trans ?_ a
  rw [List.append_assoc, List.append_assoc]
  refine List.Perm.append_left _ ?_
  refine List.Perm.trans ?_ (List.Perm.append_left g b)
  rw [← List.append_assoc, ← List.append_assoc]
  exact List.Perm.append_right _ List.perm_append_comm
theorem gv_sn {α : Type} (F : List α → List Ty) {e : TypeId} {sz : Nat} {xs : List α} (h : [] = xs) (hF : F [] = [] := by rfl) : Gv os (Ty.sl e sz xs.length (F xs)) (.slice none 0 0) os := gv_free fun _ => snil_own F h hF
theorem gv_yes {c : Bool} (hc : c = true) (h : Gv os T v os') : Gv os (Ty.opt c T) v os' := fun w hp => by
  obtain ⟨fp, g, a, b⟩ := h w hp; exact ⟨fp, g, opt_own a hc, b⟩
theorem gv_no {c : Bool} (hc : c = false) : Gv os (Ty.opt c T) (.pointer none) os := gv_free fun _ => opt_nil hc
theorem gvn : GvL os [] [] os := fun w hp => ⟨[], [], rfl, List.Perm.refl _, hp⟩
theorem gvc {vs : List Value} (h : Gv os T v os1) (k : GvL os1 Ts vs os') : GvL os (T :: Ts) (v :: vs) os' := fun w hp => by
  obtain ⟨f1, g1, a1, b1, c1⟩ := h w hp
  obtain ⟨f2, g2, a2, b2, c2⟩ := k w c1
  refine ⟨f1 ++ f2, g1 ++ g2, ⟨f1, f2, rfl, a1, a2⟩, List.Perm.trans ?_ b1, c2⟩
  rw [List.append_assoc]
  refine List.Perm.append_left _ ?_
  refine List.Perm.trans ?_ (List.Perm.append_left g1 b2)
  rw [List.append_assoc g1 g2]
  exact List.perm_append_comm_assoc _ _ _
theorem gv_ (h : Gv os T v os' := by repeat' (first
    | with_reducible exact gvn
    | with_reducible apply gvc
    | with_reducible exact gv_val
    | ((with_reducible apply gv_int); (first | with_reducible rfl | assumption | (symm; assumption) | rfl | omega | (simp; done)))
    | ((with_reducible apply gv_bool); (first | with_reducible rfl | assumption | (symm; assumption) | rfl | omega | (simp; done)))
    | ((with_reducible apply gv_str); (first | with_reducible rfl | assumption | (symm; assumption) | rfl | omega | (simp; done)))
    | ((with_reducible apply gv_ints); (repeat (first | with_reducible exact PickO.z | with_reducible apply PickO.s)); (first | with_reducible rfl | assumption | (symm; assumption) | rfl | omega | (simp; done)))
    | ((with_reducible apply gv_nil); (first | with_reducible rfl | assumption | (symm; assumption) | rfl | omega | (simp; done)))
    | ((with_reducible apply gv_own); (repeat (first | with_reducible exact PickO.z | with_reducible apply PickO.s)); done)
    | ((with_reducible apply gv_ownc); (repeat (first | with_reducible exact PickO.z | with_reducible apply PickO.s)); (first | with_reducible rfl | assumption | (symm; assumption) | rfl | omega | (simp; done)); done)
    | with_reducible apply gv_agg
    | with_reducible apply gv_tup
    | ((with_reducible apply gv_box); (repeat (first | with_reducible exact PickO.z | with_reducible apply PickO.s)))
    | ((with_reducible apply gv_sl); (repeat (first | with_reducible exact PickO.z | with_reducible apply PickO.s)); (repeat (first | with_reducible exact PickO.z | with_reducible apply PickO.s)); (first | with_reducible rfl | assumption | (symm; assumption) | rfl | omega | (simp; done)); all_goals decide)
    | ((with_reducible apply gv_sn); (first | with_reducible rfl | assumption | (symm; assumption) | rfl | omega | (simp; done)); rfl)
    | ((with_reducible apply gv_ro); (repeat (first | with_reducible exact PickO.z | with_reducible apply PickO.s)); (first | with_reducible rfl | assumption | (symm; assumption) | rfl | omega | (simp; done)))
    | ((with_reducible apply gv_roR); (repeat (first | with_reducible exact PickO.z | with_reducible apply PickO.s)); (first | with_reducible rfl | assumption | (symm; assumption) | rfl | omega | (simp; done)))
    | ((with_reducible apply gv_roN); (first | with_reducible rfl | assumption | (symm; assumption) | rfl | omega | (simp; done)))
    | ((with_reducible apply gv_intsL); (repeat (first | with_reducible exact PickO.z | with_reducible apply PickO.s)); first | rfl | (simp [ints_]; done))
    | ((with_reducible apply gv_intsM); (repeat (first | with_reducible exact PickO.z | with_reducible apply PickO.s)); assumption; rfl)
    | ((with_reducible apply gv_any); first | rfl | assumption)
    | ((with_reducible apply gv_yes); assumption)
    | ((with_reducible apply gv_no); assumption))) : Gv os T v os' := h
theorem zro {fn : Func} {T : Ty} {w₀ : World} {rs : List ResultVar} {vs : List Value} (x : Up w₀.heap.size w₀ u) (hq : RetQ P fn (RO w₀ T) Q := by exact rq_) (hr : fn.results = rs.toArray := by rfl) (hv : ResOk P n w₀.heap.size [] l os u rs vs := by exact rs_) (ho : OutV vs v := by exact ov_) (g : Gv os T v os' := by exact gv_) : Js P n w₀.heap.size [] Q (.ret :: cs) l os u :=
  Js.ret hr hq.eq hv fun w hw => by
    rw [ho.eq]
    obtain ⟨fp, r, a, b, _⟩ := g w hw.prs
    refine ⟨v, fp, rfl, a, ?_, fun k hk => ?_, hw.ext x⟩
    · exact (List.nodup_append.1 (b.nodup_iff.2 hw.dis)).1
    · have hm : k ∈ os.flatMap (·.fp) := b.mem_iff.1 (List.mem_append_left _ hk)
      obtain ⟨o, ho, hm⟩ := List.mem_flatMap.1 hm
      obtain ⟨p, q, _⟩ := hw.hid o ho k hm
      simp at q
      exact ⟨q, p⟩
theorem zrb (ks : List Nat) {fn : Func} {R : Value → List Own → Prop} {w₀ : World} {bs : List Own} {rs : List ResultVar} {vs : List Value} {fr : List Own} {m : Nat} (hb : Bw w₀ bs) (x : Up w₀.heap.size (offW w₀ (bs.flatMap (·.fp))) u) (h : R v fr)
    (hq : RetQ P fn (RB w₀ bs R) Q := by exact rq_) (hr : fn.results = rs.toArray := by rfl) (hv : ResOk P n w₀.heap.size (bs.flatMap (·.fp)) l os u rs vs := by exact rs_) (ho : OutV vs v := by exact ov_) (hm : ks.length = m := by rfl) (hp : PP os ks os' := by exact pp_) (hf : NL (os'.take m) fr := by exact nl) :
    Js P n w₀.heap.size (bs.flatMap (·.fp)) Q (.ret :: cs) l os u := Js.ret hr hq.eq hv fun w hw => by
  rw [ho.eq]
  have hpm := hp.perm
  have e : os' = fr ++ os'.drop m := by rw [← hf.eq, List.take_append_drop]
  have hw2 : St w₀.heap.size (bs.flatMap (·.fp)) u w (fr ++ [anyO ((os'.drop m).flatMap (·.fp))]) := hw.conv (fun o ho => by
    rcases List.mem_append.1 ho with ho | ho
    · exact hw.prs o (hpm.mem_iff.2 (by rw [e]; exact List.mem_append_left _ ho))
    · simp at ho; subst ho; trivial) (by
    have := hpm.symm.flatMap_right (fun o : Own => o.fp)
    rw [e, List.flatMap_append] at this
    rw [List.flatMap_append]
    simpa [anyO] using this)
  exact ⟨_, fr, _, rfl, h, hw2.giveBack hb x⟩
inductive Row1 : List Own → TypeId → Value → List Int → Prop
  | a {e : TypeId} {v : Value} {m : Nat} {xs : List Int} {g : List Nat} {r : List Own} : Row1 (rowO e 1 v m (ints_ xs) g :: r) e v xs
  | b {e : TypeId} {v : Value} {m : Nat} {xs : List Int} {r : List Own} : Row1 (roO e v m (ints_ xs) :: r) e v xs
  | s {e : TypeId} {v : Value} {xs : List Int} {q : Own} {r : List Own} (h : Row1 r e v xs) : Row1 (q :: r) e v xs
theorem Row1.get {e : TypeId} {v : Value} {xs : List Int} (h : Row1 os e v xs) {w : World} : (∀ o ∈ os, o.pr w) → (Ty.ints e xs).ok w v := by
  induction h with
  | a => intro hp; exact ints_rowok (hp _ List.mem_cons_self)
  | b => intro hp; exact ints_rook (hp _ List.mem_cons_self)
  | s _ ih => intro hp; exact ih fun q hq => hp q (by simp [hq])
inductive Cel : List Ty → List Value → Ty → Value → Prop
  | z {T : Ty} {Ts : List Ty} {v : Value} {vs : List Value} : Cel (T :: Ts) (v :: vs) T v
  | s {T T' : Ty} {Ts : List Ty} {v v' : Value} {vs : List Value} (h : Cel Ts vs T v) : Cel (T' :: Ts) (v' :: vs) T v
theorem Cel.get {vs : List Value} (h : Cel Ts vs T v) : cellsOk w Ts vs → T.ok w v := by
  induction h with
  | z => exact fun k => k.1
  | s _ ih => exact fun k => ih k.2
inductive Own1 : List Own → Ty → Value → Prop
  | a {Us : List Ty} {U : Ty} {v : Value} {vs : List Value} {f : List Nat} {r : List Own} (h : Cel Us vs U v) : Own1 (ownC Us vs f :: r) U v
  | s {U : Ty} {v : Value} {q : Own} {r : List Own} (h : Own1 r U v) : Own1 (q :: r) U v
theorem Own1.get (h : Own1 os T v) {w : World} : (∀ o ∈ os, o.pr w) → T.ok w v := by
  induction h with
  | a h => intro hp; exact h.get (cellsOwn.ok (show cellsOwn w _ _ _ from hp _ List.mem_cons_self))
  | s _ ih => intro hp; exact ih fun q hq => hp q (by simp [hq])
theorem ok_agg {vs : List Value} (h : cellsOk w Ts vs) : (Ty.agg Ts).ok w (.agg vs.toArray) := ⟨vs, rfl, h⟩
theorem ok_c {vs : List Value} (h : T.ok w v) (k : cellsOk w Ts vs) : cellsOk w (T :: Ts) (v :: vs) := ⟨h, k⟩
theorem ok_n : cellsOk w [] [] := trivial
theorem ok_ro {e : TypeId} {xs : List Int} (h : (Ty.ints e xs).ok w v) : (Ty.ro e xs).ok w v := h
theorem ok_ofro {e : TypeId} {xs : List Int} (h : (Ty.ro e xs).ok w v) : (Ty.ints e xs).ok w v := h
inductive LdB : List Own → Nat → List Value → Prop
  | z {b : Nat} {c : List Value} {T : TypeId} {r : List Own} : LdB (boxO b c T :: r) b c
  | s {b : Nat} {c : List Value} {q : Own} {r : List Own} (h : LdB r b c) : LdB (q :: r) b c
theorem LdB.get {b : Nat} {c : List Value} (h : LdB os b c) {w : World} : (∀ o ∈ os, o.pr w) → RowAt w b 0 c := by
  induction h with
  | @z b c T r => intro hp j x hj; exact ⟨_, _, _, hp (boxO b c T) (by simp), by simpa using hj⟩
  | s _ ih => intro hp; exact ih fun q hq => hp q (by simp [hq])
theorem ok_refB {b : Nat} {vs : List Value} (h : LdB os b vs) (hw : St lo B u w os) (k : cellsOk w Ts vs) : (Ty.ref Ts).ok w (.pointer (some ⟨b, 0, none⟩)) := ⟨b, 0, vs, rfl, k, h.get hw.prs⟩
theorem ok_refP {s b o o0 k : Nat} {vs us : List Value} {u0 : World} (hr : RowAt u0 b o0 vs) (hv : Vis u0 w) (hs : Ts.length = s) (ho : Off o o0 k) (hk : NL (takV vs k s) us) (c : cellsOk w Ts us) : (Ty.ref Ts).ok w (.pointer (some ⟨b, o, none⟩)) := ⟨b, o, us, rfl, c, by rw [← hk.eq, takV_eq, ho.eq]; exact (hr.vis hv).sub k s⟩
theorem ok_i {a : Int} : (Ty.int a).ok w (.int .i64 a) := rfl
theorem ok_b {a : Bool} : (Ty.bool a).ok w (.bool a) := rfl
theorem ok_s {a : List UInt8} : (Ty.str a).ok w (.string (sB a)) := rfl
theorem ok_ {v : Value} (hw : St lo B u w os) (h : St lo B u w os → T.ok w v := by
    intro hw
    repeat' (first
    | exact ok_i | exact ok_b | with_reducible apply ok_c | with_reducible exact ok_n | with_reducible apply ok_agg | exact ok_s | exact Ty.mono _ (by assumption) vis_ | exact nil_ok | (refine Row1.get ?_ (St.prs hw); (repeat (first | with_reducible exact Row1.a | with_reducible exact Row1.b | with_reducible apply Row1.s)); done) | (refine Own1.get ?_ (St.prs hw); (repeat (first | ((with_reducible apply Own1.a); (repeat (first | with_reducible exact Cel.z | with_reducible apply Cel.s)); done) | with_reducible apply Own1.s)); done) | (refine ok_ofro (Own1.get ?_ (St.prs hw)); (repeat (first | ((with_reducible apply Own1.a); (repeat (first | with_reducible exact Cel.z | with_reducible apply Cel.s)); done) | with_reducible apply Own1.s)); done) | apply ok_ro
    | ((with_reducible apply ok_refB (hw := hw)); (repeat (first | with_reducible exact LdB.z | with_reducible apply LdB.s))) | (apply ok_refP; assumption; exact vis_; rfl; exact off_; exact nl) | exact rfl | assumption | fail)) : T.ok w v := h hw
end
theorem len_ {p : Prop} (h : p := by first | omega | (simp only [List.length_set, List.length_append, List.length_cons, List.length_nil, List.length_take, List.length_drop, List.length_replicate]; omega)) : p := h
theorem ln2_ {p : Prop} (h : p := by first | omega | (simp only [List.length_append, List.length_cons, List.length_nil, List.length_take, List.length_drop] <;> omega)) : p := h
theorem oh_ {p q : Prop} (h : q) (k : q → p := by intro hc9; (try simp only [decide_eq_true_eq] at hc9); omega) : p := k h
theorem rp_ {p q : Prop} (h : q) (k : q → p := by intro h9; first | (rw [h9]; done) | (rw [h9]; rfl)) : p := k h
section
variable {P : Program} {n lo : Nat} {B : List Nat} {K : Act → World → Prop} {ops : Array Oper} {l : Fr} {os os₀ : List Own} {u u₀ : World} {ty : TypeId} {pos : String} {af : Array Edge} {v : Value} {d : Nat} {x y : Operand} {nm : List Nat} {fuel : Nat} {listed : Array Bool} {z : Bool} {o : Oper} {c : Bool}
theorem jM (i : Nat) (hi : ops[i]? = some ⟨some d, .move x, ty, pos, af, none⟩) (h : opd l x = some v) (k : JH P n lo B K ops u₀ os₀ nm fuel (listed.setIfInBounds i true) z ((d, v) :: l) os u) (hs : Region.noSelect ops = true := by kernel_rfl) (hf : freeB ops i = true := by kernel_rfl) (hr : (Region.ready .any ops listed).contains i = true := by kernel_rfl) (hn : Nat.blt d n = true := by rfl) : JH P n lo B K ops u₀ os₀ nm (fuel + 1) listed z l os u := JH.p i hi (p_move h) k hs hf hr rfl rfl hn
theorem jA (i : Nat) (hi : ops[i]? = some ⟨some d, .assign x, ty, pos, af, none⟩) (h : opd l x = some v) (k : JH P n lo B K ops u₀ os₀ nm fuel (listed.setIfInBounds i true) z ((d, v) :: l) os u) (hs : Region.noSelect ops = true := by kernel_rfl) (hf : freeB ops i = true := by kernel_rfl) (hr : (Region.ready .any ops listed).contains i = true := by kernel_rfl) (hn : Nat.blt d n = true := by rfl) : JH P n lo B K ops u₀ os₀ nm (fuel + 1) listed z l os u := JH.p i hi (p_assign h) k hs hf hr rfl rfl hn
theorem jN (i : Nat) {p : Addr} (hi : ops[i]? = some ⟨some d, .nilCheck x, ty, pos, af, none⟩) (h : opd l x = some (.pointer (some p))) (k : JH P n lo B K ops u₀ os₀ nm fuel (listed.setIfInBounds i true) z ((d, .pointer (some p)) :: l) os u) (hs : Region.noSelect ops = true := by kernel_rfl) (hf : freeB ops i = true := by kernel_rfl) (hr : (Region.ready .any ops listed).contains i = true := by kernel_rfl) (hn : Nat.blt d n = true := by rfl) : JH P n lo B K ops u₀ os₀ nm (fuel + 1) listed z l os u := JH.p i hi (p_nilCheck h) k hs hf hr rfl rfl hn
theorem jF (i : Nat) {b o j off : Nat} {t ft : TypeId} {g : Bool} {s : Nat} (f : FldI P t j off ft g (s + 1)) (hi : ops[i]? = some ⟨some d, .fieldAddr t x j, ty, pos, af, none⟩) (h : opd l x = some (.pointer (some ⟨b, o, none⟩))) (k : JH P n lo B K ops u₀ os₀ nm fuel (listed.setIfInBounds i true) z ((d, .pointer (some ⟨b, o + off, none⟩)) :: l) os u) (hs : Region.noSelect ops = true := by kernel_rfl) (hf : freeB ops i = true := by kernel_rfl) (hr : (Region.ready .any ops listed).contains i = true := by kernel_rfl) (hn : Nat.blt d n = true := by rfl) : JH P n lo B K ops u₀ os₀ nm (fuel + 1) listed z l os u := JH.p i hi (p_fieldAddr f.h h) k hs hf hr rfl rfl hn
theorem jI (i : Nat) {t e : TypeId} {sz by' : Nat} {z' : List Value} {A : Option Addr} {m m' b o : Nat} {kd : IntKind} {j : Int} (f : elOf P t = some (e, sz, by', z')) (hi : ops[i]? = some ⟨some d, .indexAddr t x y, ty, pos, af, none⟩) (h1 : opd l x = some (.slice A m m')) (h2 : opd l y = some (.int kd j)) (he : elemA sz (.slice A m m') j.toNat = some ⟨b, o, none⟩) (k : JH P n lo B K ops u₀ os₀ nm fuel (listed.setIfInBounds i true) z ((d, .pointer (some ⟨b, o, none⟩)) :: l) os u) (hs : Region.noSelect ops = true := by kernel_rfl) (hf : freeB ops i = true := by kernel_rfl) (hr : (Region.ready .any ops listed).contains i = true := by kernel_rfl) (hn : Nat.blt d n = true := by rfl) (h0 : 0 ≤ j := by exact len_) (hm : j < m := by exact len_) : JH P n lo B K ops u₀ os₀ nm (fuel + 1) listed z l os u := JH.p i hi (p_indexAddr f h1 h2 h0 hm he) k hs hf hr rfl rfl hn
theorem jW (i : Nat) {t : TypeId} {s b o : Nat} (f : TyI P t false s) (hi : ops[i]? = some ⟨some d, .load t x, ty, pos, af, none⟩) (hx : opd l x = some (.pointer (some ⟨b, o, none⟩))) (h : ∀ {u'}, Vis u₀ u' → Cell u' b o v) (k : JH P n lo B K ops u₀ os₀ nm fuel (listed.setIfInBounds i true) z ((d, v) :: l) os u) (hs : Region.noSelect ops = true := by kernel_rfl) (hf : freeB ops i = true := by kernel_rfl) (hr : (Region.ready .any ops listed).contains i = true := by kernel_rfl) (hn : Nat.blt d n = true := by rfl) : JH P n lo B K ops u₀ os₀ nm (fuel + 1) listed z l os u := JH.w i hi (fun _ _ hv => q_load1 f.h hx (Mem.pub (h hv))) k hs hf hr rfl rfl hn
theorem jB (i j : Nat) {t T : TypeId} {s b o : Nat} {c : List Value} (f : TyI P t false s) (hi : ops[i]? = some ⟨some d, .load t x, ty, pos, af, none⟩) (hx : opd l x = some (.pointer (some ⟨b, o, none⟩))) (ho : os₀[j]? = some (boxO b c T)) (hc : c[o]? = some v) (k : JH P n lo B K ops u₀ os₀ nm fuel (listed.setIfInBounds i true) true ((d, v) :: l) os u) (hs : Region.noSelect ops = true := by kernel_rfl) (hf : freeB ops i = true := by kernel_rfl) (hwt : waitB ops i nm listed = true := by kernel_rfl) (hr : (Region.ready .any ops listed).contains i = true := by kernel_rfl) (hn : Nat.blt d n = true := by rfl) : JH P n lo B K ops u₀ os₀ nm (fuel + 1) listed true l os u := JH.q i hi (q_load1 f.h hx (Mem.box ho hc)) k hs hf hwt hr rfl rfl hn
theorem jU (i : Nat) {p : Prop} (hi : ops[i]? = some o) (hg : Gd ops l o c) (h : p) (k : JH P n lo B K ops u₀ os₀ nm fuel (listed.setIfInBounds i true) z ((d, gv c undef) :: l) os u) (hs : Region.noSelect ops = true := by kernel_rfl) (hf : freeB ops i = true := by kernel_rfl) (hr : (Region.ready .any ops listed).contains i = true := by kernel_rfl) (hd : o.dst = some d := by rfl) (hn : Nat.blt d n = true := by rfl) (q : p → ¬c = true := by intro h9; first | (rw [h9]; simp; done) | simp [h9]) : JH P n lo B K ops u₀ os₀ nm (fuel + 1) listed z l os u := JH.pg (v := undef) i hi hg (fun hc => absurd hc (q h)) k hs hf hr hd hn
end
def RxRow (w : World) (e : TypeId) (v : Value) (n : Nat) (vs : List Value) : Prop :=
  vs.length = n ∧ ((v = .slice none 0 0 ∧ n = 0) ∨ ∃ g o c cur, v = .slice (some ⟨g, o, none⟩) n c ∧ w.heap[g]? = some (.cells cur e (0, 0)) ∧ n ≤ c ∧ c ≤ maxLen ∧ (cur.toList.drop o).take n = vs)
theorem RxRow.loc {w w' : World} {e : TypeId} {v : Value} {n : Nat} {vs : List Value} (h : RxRow w e v n vs) (k : ∀ b ∈ v.ownBlock.toList, w'.heap[b]? = w.heap[b]?) : RxRow w' e v n vs := by
  refine ⟨h.1, ?_⟩
  rcases h.2 with h2 | ⟨g, o, c, cur, rfl, hg, r⟩
  · exact .inl h2
  · exact .inr ⟨g, o, c, cur, rfl, by rw [k g (by simp [Value.ownBlock])]; exact hg, r⟩
theorem RxRow.form {w : World} {e : TypeId} {v : Value} {n : Nat} {vs : List Value} (h : RxRow w e v n vs) : ∃ A c, v = .slice A n c ∧ n ≤ c ∧ c ≤ 9223372036854775807 := by
  rcases h.2 with ⟨rfl, rfl⟩ | ⟨g, o, c, cur, rfl, hg, h1, h2, _⟩
  · exact ⟨_, _, rfl, Nat.le_refl _, by omega⟩
  · exact ⟨_, _, rfl, h1, h2⟩
theorem RxRow.ok {w : World} {e : TypeId} {v : Value} {n : Nat} {xs : List Int} (h : RxRow w e v n (ints_ xs)) : (Ty.ints e xs).ok w v := by
  have hl : n = xs.length := by rw [← h.1]; simp [ints_]
  subst hl
  rcases h.2 with ⟨rfl, h0⟩ | ⟨g, o, c, cur, rfl, hg, h1, h2, h4⟩
  · exact ⟨by simp, none, 0, ints_ xs, by rw [h0], by omega, by unfold maxLen; omega, (ints_own w xs).ok, fun hp => by simp [h0] at hp⟩
  · refine ⟨by simp, some ⟨g, o, none⟩, c, ints_ xs, rfl, h1, h2, (ints_own w xs).ok, fun _ => ⟨g, o, rfl, fun j x hj => ⟨cur, e, (0, 0), hg, ?_⟩⟩⟩
    rw [← h4, List.getElem?_take] at hj
    split at hj
    · simpa [List.getElem?_drop] using hj
    · simp at hj
def rxO (e : TypeId) (v : Value) (n : Nat) (vs : List Value) : Own := ⟨v.ownBlock.toList, fun w => RxRow w e v n vs, fun h k => k.loc h⟩
def Ty.rx (e : TypeId) (xs : List Int) : Ty :=
  ⟨fun w v => (Ty.ints e xs).ok w v,
   fun w v fp => fp = v.ownBlock.toList ∧ RxRow w e v xs.length (ints_ xs),
   fun h x => Ty.mono _ h x,
   fun {_ _ _ _} h k => ⟨h.1, h.2.loc (fun b hb => k b (by rw [h.1]; exact hb))⟩,
   fun h => h.2.ok⟩
instance (e : TypeId) (xs : List Int) : Elm (Ty.rx e xs) (fun K os => ∀ A c, xs.length ≤ c → c ≤ 9223372036854775807 → K (.slice A xs.length c) (rxO e (.slice A xs.length c) xs.length (ints_ xs) :: os)) :=
  ⟨fun K os h w v fp ho => by
    obtain ⟨A, c, rfl, h1, h2⟩ := ho.2.form
    exact ⟨[rxO e (.slice A xs.length c) xs.length (ints_ xs)], h A c h1 h2, by rw [ho.1]; simp [rxO], fun o hq => by simp at hq; subst hq; exact ho.2⟩⟩
instance (e : TypeId) (xs : List Int) : Opn (Ty.rx e xs) (fun u K => ∀ A c, (Ty.ints e xs).ok u (.slice A xs.length c) → xs.length ≤ c → c ≤ 9223372036854775807 → K (.slice A xs.length c)) :=
  ⟨fun u K k v h => by obtain ⟨A, c, rfl, h1, h2⟩ := ints_form (show (Ty.ints e xs).ok u v from h); exact k A c h h1 h2⟩
instance (e : TypeId) (xs : List Int) : Frm (Ty.rx e xs) (fun K => ∀ A c, xs.length ≤ c → c ≤ 9223372036854775807 → K (.slice A xs.length c)) :=
  ⟨fun K k w v h => by obtain ⟨A, c, rfl, h1, h2⟩ := ints_form (show (Ty.ints e xs).ok w v from h); exact k A c h1 h2⟩
section
variable {lo : Nat} {B : List Nat} {os os' : List Own} {u w : World} {v : Value}
end
section
variable {P : Program} {n : Nat} {l : Fr} {dst : Option Tmp} {ty : TypeId} {pos : String} {af : Array Edge} {gd : Option (Nat × Bool)}
end
end Go.Proofs.YtjklnidbndopiaaGreatDoor
namespace Go.Proofs.YtjklnidbndopiaaGreatDoor.M
structure Opt where
  move : Int
  value : Int
  deriving DecidableEq
structure Puz where
  rules : Rul
  position : Pos
  depth : Int
  move : Int
  value : Int
  margin : Int
  deriving DecidableEq
def Opt.zero : Opt := ⟨0, 0⟩
def Puz.zero : Puz := ⟨Rul.zero, Pos.zero, 0, 0, 0, 0⟩
def endV (r : Rul) (p : Pos) : Int := side r p.pits p.player - side r p.pits (1 - p.player)
def moveV (x : Res) (v : Int) : Int := if x.again = true then x.gain + v else x.gain - v
def bestF (fst : Bool) (b : Int) : List Int → Int
  | [] => b
  | v :: l => bestF false (if fst = true ∨ b < v then v else b) l
def best (l : List Int) : Int := bestF true 0 l
theorem results_fact {r : Rul} {p : Pos} {x : Res} (h : x ∈ results r p) : ∃ move : Int, (make r p move).2 = 0 ∧ x = (make r p move).1 := by
  obtain ⟨m, _, h2, h3⟩ := resultsTo_mem.1 h
  exact ⟨_, h2, h3⟩
def val (r : Rul) : Nat → Pos → Int
  | 0, p => if (results r p).length = 0 then endV r p else 0
  | d + 1, p => if (results r p).length = 0 then endV r p else best ((results r p).map fun x => moveV x (val r d x.next))
def vals (r : Rul) (d : Nat) (p : Pos) : List Int := (results r p).map fun x => moveV x (val r d x.next)
theorem drop_some {α : Type} {l : List α} {k : Nat} {y : α} (h : l[k]? = some y) : l.drop k = y :: l.drop (k + 1) := by
  obtain ⟨hk, rfl⟩ := List.getElem?_eq_some_iff.1 h
  exact List.drop_eq_getElem_cons hk
def size (r : Rul) : Nat → Pos → Int
  | 0, _ => 1
  | d + 1, p => 1 + isum ((results r p).map fun x => size r d x.next)
theorem size_pos (r : Rul) : ∀ (d : Nat) (p : Pos), 1 ≤ size r d p
  | 0, _ => by rw [size]; omega
  | d + 1, p => by
    rw [size]
    have := nn_isum (l := (results r p).map fun x => size r d x.next) (fun v hv => by
      obtain ⟨x, _, rfl⟩ := List.mem_map.1 hv
      have := size_pos r d x.next; omega)
    omega
theorem isum_mem {l : List Int} {v : Int} (h : nn l) (hv : v ∈ l) : v ≤ isum l := by
  obtain ⟨k, hk, rfl⟩ := List.getElem_of_mem hv
  rw [← nth_eq hk]; exact nth_le_isum h k
theorem size_sub {r : Rul} {d : Nat} {p : Pos} {x : Res} (h : x ∈ results r p) : size r d x.next ≤ size r (d + 1) p := by
  have := isum_mem (l := (results r p).map fun x => size r d x.next) (v := size r d x.next) (fun v hv => by
      obtain ⟨x, _, rfl⟩ := List.mem_map.1 hv
      have := size_pos r d x.next; omega) (List.mem_map.2 ⟨x, h, rfl⟩)
  rw [size]; omega
def srchC (r : Rul) (p : Pos) (depth : Int) : Int := if okP r p = true then (if betw depth 0 8 = true then (if 3000 < size r depth.toNat p then 5 else 0) else 2) else 1
theorem srchC_ok {r : Rul} {p : Pos} {depth : Int} (h : srchC r p depth = 0) : okP r p = true ∧ 0 ≤ depth ∧ depth ≤ 8 ∧ size r depth.toNat p ≤ 3000 := by
  unfold srchC at h
  by_cases h1 : okP r p = true
  · rw [if_pos h1] at h
    by_cases h2 : betw depth 0 8 = true
    · rw [if_pos h2] at h
      by_cases h3 : 3000 < size r depth.toNat p
      · rw [if_pos h3] at h; simp at h
      · have := betw_iff.1 h2; exact ⟨h1, this.1, this.2, by omega⟩
    · rw [if_neg h2] at h; simp at h
  · rw [if_neg h1] at h; simp at h
def optOf (r : Rul) (d : Nat) (x : Res) : Opt := ⟨x.move, moveV x (val r d x.next)⟩
def opts (r : Rul) (p : Pos) (depth : Int) : List Opt := (results r p).map (optOf r (depth - 1).toNat)
theorem opts_len (r : Rul) (p : Pos) (depth : Int) : (opts r p depth).length = (results r p).length := by simp [opts]
def bOptF (b : Opt) : List Opt → Opt
  | [] => b
  | o :: l => bOptF (if b.value < o.value then o else b) l
def bOpt : List Opt → Opt
  | [] => Opt.zero
  | a :: l => bOptF a l
theorem bOptF_mem : ∀ (l : List Opt) (b : Opt), bOptF b l = b ∨ bOptF b l ∈ l
  | [], b => .inl rfl
  | o :: l, b => by
    rw [bOptF]
    rcases bOptF_mem l (if b.value < o.value then o else b) with h | h
    · rw [h]; split
      · exact .inr (by simp)
      · exact .inl rfl
    · exact .inr (by simp [h])
theorem bOpt_mem {l : List Opt} (h : l.length ≠ 0) : bOpt l ∈ l := by
  cases l with
  | nil => simp at h
  | cons a t =>
    rcases bOptF_mem t a with e | e
    · show bOptF a t ∈ _; rw [e]; simp
    · show bOptF a t ∈ _; simp [e]
theorem bOpt_make {r : Rul} {p : Pos} {depth : Int} (h : (results r p).length ≠ 0) : (make r p (bOpt (opts r p depth)).move).2 = 0 ∧ (make r p (bOpt (opts r p depth)).move).1 ∈ results r p := by
  have h1 := bOpt_mem (l := opts r p depth) (by rw [opts_len]; exact h)
  obtain ⟨x, hx, e⟩ := List.mem_map.1 h1
  obtain ⟨m, hm, rfl⟩ := results_fact hx
  have h3 := (make_ok hm).2.2.2.2.1
  have h4 : (bOpt (opts r p depth)).move = m := by rw [← e]; exact h3
  rw [h4]; exact ⟨hm, hx⟩
def lineT (r : Rul) : Nat → Pos → List Int
  | 0, _ => []
  | d + 1, p => if (results r p).length = 0 then [] else (bOpt (opts r p (d + 1 : Nat))).move :: lineT r d (make r p (bOpt (opts r p (d + 1 : Nat))).move).1.next
theorem lineT_end {r : Rul} {d : Nat} {p : Pos} (h : (results r p).length = 0) : lineT r d p = [] := by
  cases d with
  | zero => rfl
  | succ d => rw [lineT, if_pos h]
structure Line (r : Rul) (p0 : Pos) (d0 : Int) (out : List Int) (p : Pos) (depth : Int) : Prop where
  ok : okP r p = true
  lo : 0 ≤ depth
  hi : depth ≤ 8
  sz : size r depth.toNat p ≤ 3000
  eq : out ++ lineT r depth.toNat p = lineT r d0.toNat p0
  ln : (out.length : Int) + depth = d0
theorem Line.zero {r : Rul} {p : Pos} {d : Int} (h : srchC r p d = 0) : Line r p d [] p d := by
  obtain ⟨a, b, c, e⟩ := srchC_ok h
  exact ⟨a, b, c, e, rfl, by simp⟩
theorem Line.end_ {r : Rul} {p0 p : Pos} {d0 d : Int} {out : List Int} (h : Line r p0 d0 out p d) (hd : (results r p).length = 0) : lineT r d0.toNat p0 = out := by
  have := h.eq; rw [lineT_end hd, List.append_nil] at this; exact this.symm
theorem Line.done {r : Rul} {p0 p : Pos} {d0 d : Int} {out : List Int} (h : Line r p0 d0 out p d) (hd : d ≤ 0) : lineT r d0.toNat p0 = out := by
  have := h.eq; rw [show d.toNat = 0 by omega, lineT, List.append_nil] at this; exact this.symm
theorem Line.step {r : Rul} {p0 p : Pos} {d0 d : Int} {out : List Int} (h : Line r p0 d0 out p d) (hd : 0 < d) (hl : (results r p).length ≠ 0) :
    Line r p0 d0 (out ++ [(bOpt (opts r p d)).move]) (make r p (bOpt (opts r p d)).move).1.next (d - 1) := by
  have hm := bOpt_make (depth := d) hl
  have e1 : d.toNat = (d - 1).toNat + 1 := by omega
  have e2 : (((d - 1).toNat + 1 : Nat) : Int) = d := by omega
  refine ⟨(make_ok hm.1).2.2.2.1, by omega, by have := h.hi; omega, ?_, ?_, ?_⟩
  · have := size_sub (d := (d - 1).toNat) hm.2
    rw [← e1] at this; have := h.sz; omega
  · have := h.eq
    rw [e1, lineT, if_neg hl, e2] at this
    rw [List.append_assoc]; exact this
  · have := h.ln; simp; omega
def second (m : Int) (s : Int) : List Opt → Int
  | [] => s
  | o :: l => second m (if o.move = m then s else if s < o.value then o.value else s) l
structure SmallP (p : Pos) : Prop where
  sp : p.pits.length ≤ 4194304
  ss : p.stores.length ≤ 4194304
theorem SmallP.zero : SmallP Pos.zero := ⟨by decide, by decide⟩
theorem SmallP.ok {r : Rul} {p : Pos} (h : okP r p = true) : SmallP p := ⟨(okP_len h).1, (okP_len h).2⟩
section
variable {α : Type} (f : Int → α → α) (sz : α → Int)
def mkL : Int → List α → List α
  | _, [] => []
  | k, x :: l => f k x :: mkL (k + sz x) l
def szs : List α → Int
  | [] => 0
  | x :: l => sz x + szs l
theorem mkL_len : ∀ (k : Int) (l : List α), (mkL f sz k l).length = l.length
  | _, [] => rfl
  | k, x :: l => by rw [mkL, List.length_cons, mkL_len, List.length_cons]
theorem mkL_get : ∀ (l : List α) (k : Int) (i : Nat) (y : α), l[i]? = some y → (mkL f sz k l)[i]? = some (f (k + szs sz (l.take i)) y)
  | x :: l, k, 0, y, h => by simp at h; subst h; simp [mkL, szs]
  | x :: l, k, i + 1, y, h => by
    simp at h
    rw [mkL, List.getElem?_cons_succ, mkL_get l _ i y h, List.take_succ_cons, szs, Int.add_assoc]
  | [], _, _, _, h => by simp at h
theorem szs_step : ∀ (l : List α) (i : Nat) (y : α), l[i]? = some y → szs sz (l.take (i + 1)) = szs sz (l.take i) + sz y
  | x :: l, 0, y, h => by simp at h; subst h; simp [szs]
  | x :: l, i + 1, y, h => by
    simp at h
    rw [List.take_succ_cons, szs, szs_step l i y h, List.take_succ_cons, szs, Int.add_assoc]
  | [], _, _, h => by simp at h
def mkd2 (k : Int) (l : List α) (i : Nat) : List α := (mkL f sz k l).take i ++ l.drop i
theorem mkd2_zero (k : Int) (l : List α) : l = mkd2 f sz k l 0 := by simp [mkd2]
theorem mkd2_step {k : Int} {l : List α} {i : Nat} {y : α} (h : l[i]? = some y) : (mkd2 f sz k l i).set i (f (k + szs sz (l.take i)) y) = mkd2 f sz k l (i + 1) := by
  obtain ⟨hi, hy⟩ := List.getElem?_eq_some_iff.1 h
  have h1 : ((mkL f sz k l).take i).length = i := by rw [List.length_take, mkL_len]; omega
  unfold mkd2
  rw [List.set_append_right _ _ (by omega), h1, Nat.sub_self, List.drop_eq_getElem_cons hi, List.set_cons_zero, List.take_add_one, mkL_get f sz l k i y h]
  simp
theorem mkd2_get {k : Int} {l : List α} {i : Nat} {y : α} (h : (mkd2 f sz k l i)[i]? = some y) : l[i]? = some y := by
  by_cases hi : i < l.length
  · have h1 : ((mkL f sz k l).take i).length = i := by rw [List.length_take, mkL_len]; omega
    unfold mkd2 at h
    rw [List.getElem?_append_right (by omega), h1, Nat.sub_self, List.getElem?_drop] at h
    exact h
  · unfold mkd2 at h
    rw [List.getElem?_eq_none (by rw [List.length_append, List.length_take, mkL_len, List.length_drop]; omega)] at h
    cases h
theorem mkd2_end {k : Int} {l : List α} {i : Nat} (h : i = l.length) : mkd2 f sz k l i = mkL f sz k l := by
  subst h; unfold mkd2; rw [List.drop_length, List.append_nil, List.take_of_length_le (by rw [mkL_len]; omega)]
variable (hf : Int → α → Int)
def heldL : Int → List α → Int
  | k, [] => k
  | k, x :: l => if hf k x < 0 then -1 else heldL (hf k x) l
theorem heldL_mk (h : ∀ k x, 0 ≤ k → hf k (f k x) = k + sz x) (h0 : ∀ x, 0 ≤ sz x) : ∀ (l : List α) (k : Int), 0 ≤ k → heldL hf k (mkL f sz k l) = k + szs sz l
  | [], k, hk => by simp [mkL, heldL, szs]
  | x :: l, k, hk => by
    have := h0 x
    rw [mkL, heldL, h k x hk, if_neg (by omega), heldL_mk h h0 l _ (by omega), szs, Int.add_assoc]
theorem szs_nn (h0 : ∀ x, 0 ≤ sz x) : ∀ l : List α, 0 ≤ szs sz l
  | [] => by simp [szs]
  | x :: l => by have := szs_nn h0 l; have := h0 x; rw [szs]; omega
theorem heldL_step {l : List α} {kk X : Int} {i : Nat} {y : α} (h : heldL hf kk (l.drop i) = X) (hy : l[i]? = some y) (hn : ¬ hf kk y < 0) : heldL hf (hf kk y) (l.drop (i + 1)) = X := by
  rw [drop_some hy, heldL, if_neg hn] at h; exact h
theorem heldL_no {l : List α} {kk X : Int} {i : Nat} {y : α} (h : heldL hf kk (l.drop i) = X) (hy : l[i]? = some y) (hn : hf kk y < 0) : X = -1 := by
  rw [drop_some hy, heldL, if_pos hn] at h; exact h.symm
theorem heldL_end {l : List α} {kk X : Int} {i : Nat} (h : heldL hf kk (l.drop i) = X) (hi : l.length ≤ i) : X = kk := by
  rw [List.drop_eq_nil_of_le hi, heldL] at h; exact h.symm
end
section
variable {α : Type}
theorem upto_step {a b : List α} {k : Nat} {x : α} (h : a.take k = b.take k) (ha : a[k]? = some x) (hb : b[k]? = some x) : a.take (k + 1) = b.take (k + 1) := by
  rw [List.take_add_one, List.take_add_one, h, ha, hb]
theorem upto_done {a b : List α} {k : Nat} (h : a.take k = b.take k) (ha : a.length ≤ k) (hb : b.length ≤ k) : a = b := by
  rwa [List.take_of_length_le ha, List.take_of_length_le hb] at h
theorem upto_ne {a b : List α} {k : Nat} {x y : α} (ha : a[k]? = some x) (hb : b[k]? = some y) (h : x ≠ y) : a ≠ b := by
  rintro rfl; rw [ha] at hb; cases hb; exact h rfl
end
def hO (k : Int) (x : Opt) : Int := if x.move ≠ k then -1 else if x.value ≠ k + 1 then -1 else k + 2
def hQ (k : Int) (p : Pos) : Int := if held p.pits k < 0 then -1 else if held p.stores (held p.pits k) < 0 then -1 else if p.player ≠ held p.stores (held p.pits k) then -1 else held p.stores (held p.pits k) + 1
def cutG (g : Gam) (n : Nat) : Gam := ⟨g.rules, g.start, g.moves.take n, (playedP g).getD n Pos.zero, -1⟩
theorem cutG_now {g : Gam} {n : Nat} {y : Pos} (h : (playedP g)[n]? = some y) : (cutG g n).now = y := by simp [cutG, List.getD, h]
def undo (g : Gam) : Gam × Int := if okG g = true then (if g.moves.length = 0 ∨ 0 ≤ g.resigned then (Gam.zero, 6) else (cutG g ((g.moves.length : Int) - 1).toNat, 0)) else (Gam.zero, 1)
theorem undo_0 {g : Gam} (h : okG g = true) (h2 : ¬ (g.moves.length = 0 ∨ 0 ≤ g.resigned)) : undo g = (cutG g ((g.moves.length : Int) - 1).toNat, 0) := by unfold undo; rw [if_pos h, if_neg h2]
def Cut (g : Gam) (k : Nat) : Prop := ∀ j, j < k → endOf (cutG g j) = 0
theorem Cut.zero (g : Gam) : Cut g 0 := fun j h => by omega
theorem Cut.step {g : Gam} {k : Nat} (h : Cut g k) (h2 : endOf (cutG g k) = 0) : Cut g (k + 1) := fun j hj => by
  by_cases e : j = k
  · subst e; exact h2
  · exact h j (by omega)
def legal (r : Rul) (p : Pos) : List Int := if okP r p = true then (results r p).map (·.move) else []
theorem runs_snoc (r : Rul) (m : Int) : ∀ (a : List Int) (p : Pos), (runs r p a).length = a.length → (make r (lastPos p (runs r p a)) m).2 = 0 → runs r p (a ++ [m]) = runs r p a ++ [(make r (lastPos p (runs r p a)) m).1]
  | [], p, _, h => by
    have h' : (make r p m).2 = 0 := h
    show (if (make r p m).2 = 0 then _ else _) = _
    rw [if_pos h']
    rfl
  | x :: xs, p, hl, h => by
    by_cases hz : (make r p x).2 = 0
    · have e : runs r p (x :: xs) = (make r p x).1 :: runs r (make r p x).1.next xs := by rw [runs, if_pos hz]
      rw [e] at hl h ⊢
      have := runs_snoc r m xs (make r p x).1.next (by simpa using hl) h
      rw [List.cons_append, runs, if_pos hz, this]
      rfl
    · rw [runs, if_neg hz] at hl; simp at hl
structure Played (g : Gam) (move : Int) : Prop where
  ok : okG (play g move).1 = true
  code : (make g.rules g.now move).2 = 0
  now : (play g move).1.now = (make g.rules g.now move).1.next
  back : undo (play g move).1 = (g, 0)
theorem played {g : Gam} {move : Int} (h : okG g = true) (hz : (play g move).2 = 0) : Played g move := by
  obtain ⟨k1, k2, k3, k4, k5, k6, k7, k8, k9⟩ := okG_parts h
  by_cases h1 : 0 ≤ g.resigned
  · rw [play_6 h1] at hz; simp at hz
  by_cases h2 : g.moves.length = 120
  · rw [play_5 h1 h2] at hz; simp at hz
  have h3 : (make g.rules g.now move).2 = 0 := Decidable.byContradiction fun h3 => by rw [play_c h1 h2 h3] at hz; exact h3 hz
  have hp := play_0 h1 h2 h3
  have hs := runs_snoc g.rules move g.moves g.start k8 (by rw [← k9]; exact h3)
  rw [← k9] at hs
  have hr : g.resigned = -1 := by omega
  have hok : okG (play g move).1 = true := by
    rw [hp]
    simp only [okG, Bool.and_eq_true, decide_eq_true_eq, hs]
    refine ⟨⟨⟨⟨k1, ?_⟩, betw_iff.2 ⟨k3, k4⟩⟩, ?_⟩, lastPos_snoc _ _ _⟩
    · simp; omega
    · simp [k8]
  refine ⟨hok, h3, by rw [hp], ?_⟩
  have hl : (play g move).1.moves.length = g.moves.length + 1 := by rw [hp]; simp
  have hrr : (play g move).1.resigned = -1 := by rw [hp]; exact hr
  rw [undo_0 hok (by omega), hl]
  have e : (((g.moves.length + 1 : Nat) : Int) - 1).toNat = g.moves.length := by omega
  rw [e]
  obtain ⟨j1, j2, j3, j4, j5, j6, j7, j8, j9⟩ := okG_parts hok
  have hn : (cutG (play g move).1 g.moves.length).now = g.now := by
    refine cutG_now ?_
    rw [j6, hp]
    show (hist g.start (runs g.rules g.start (g.moves ++ [move])))[g.moves.length]? = _
    rw [hs]
    have e2 : hist g.start (runs g.rules g.start g.moves ++ [(make g.rules g.now move).1]) = hist g.start (runs g.rules g.start g.moves) ++ [(make g.rules g.now move).1.next] := by simp [hist]
    rw [e2, List.getElem?_append_left (by simp [k8]), ← k8, hist_last, ← k9]
  refine Prod.ext (gam_ext ?_ ?_ ?_ hn ?_) rfl
  · rw [hp]; rfl
  · rw [hp]; rfl
  · rw [hp]; simp [cutG]
  · rw [hr]; rfl
structure Resigned (g : Gam) (player : Int) : Prop where
  ok : okG (resign g player).1 = true
  play : playR (resign g player).1 0 = (Gam.zero, 6)
  endc : endC (resign g player).1 = 0
  win : winner (resign g player).1 = 1 - player
theorem resigned {g : Gam} {player : Int} (h : (resign g player).2 = 0) : Resigned g player := by
  cases hg : okG g
  · rw [resign_1 hg] at h; simp at h
  cases hp : isPl player
  · rw [resign_2 hg hp] at h; simp at h
  by_cases hr : 0 ≤ g.resigned
  · rw [resign_6 hg hp hr] at h; simp at h
  have e := resign_0 hg hp hr
  have hpl : player = 0 ∨ player = 1 := by simpa [isPl] using hp
  have hok : okG ⟨g.rules, g.start, g.moves, g.now, player⟩ = true := by
    unfold okG at hg ⊢
    simp only [Bool.and_eq_true] at hg ⊢
    obtain ⟨⟨⟨⟨a, b⟩, _⟩, d⟩, f⟩ := hg
    exact ⟨⟨⟨⟨a, b⟩, betw_iff.2 (by omega)⟩, d⟩, f⟩
  have h0 : 0 ≤ (⟨g.rules, g.start, g.moves, g.now, player⟩ : Gam).resigned := by show 0 ≤ player; omega
  have hc : endC ⟨g.rules, g.start, g.moves, g.now, player⟩ = 0 := endC_0 hok (by rw [endOf_1 h0]; decide)
  refine ⟨?_, ?_, ?_, ?_⟩ <;> rw [e]
  · exact hok
  · rw [playR_yes hok, play_6 h0]
  · exact hc
  · exact winner_r hc h0
def endNames : List (List UInt8) := [[110, 111, 110, 101], [114, 101, 115, 105, 103, 110], [109, 97, 106, 111, 114, 105, 116, 121], [98, 108, 111, 99, 107, 101, 100], [114, 101, 112, 101, 97, 116], [108, 101, 110, 103, 116, 104]]
def endName (k : Int) : List UInt8 := if betw k 0 5 = true then endNames.getD k.toNat [] else []
def u8 (n : Int) : UInt8 := UInt8.ofNat n.toNat
theorem u8_val {n : Int} (h0 : 0 ≤ n) (h1 : n ≤ 255) : ((u8 n).toNat : Int) = n := by
  unfold u8
  rw [UInt8.toNat_ofNat', Nat.mod_eq_of_lt (by show n.toNat < 256; omega)]; omega
def dec (n : Int) : List UInt8 := if -9223372036854775808 ≤ n ∧ n ≤ 9223372036854775807 then Lib.itoa n else []
theorem dec_in {n : Int} (h0 : -9223372036854775808 ≤ n) (h1 : n ≤ 9223372036854775807) : dec n = Lib.itoa n := if_pos ⟨h0, h1⟩
theorem dec_len (n : Int) : (dec n).length ≤ 21 := by
  unfold dec; split
  · rename_i h; exact Lib.itoa_length_le n h.1 h.2
  · simp
theorem tdiv10 (k : Int) : (k.tdiv 10).natAbs = k.natAbs / 10 ∧ (k.tmod 10).natAbs = k.natAbs % 10 := ⟨Int.natAbs_tdiv k 10, Int.natAbs_tmod k 10⟩
theorem tdiv10_bd {k : Int} (h0 : -9223372036854775808 ≤ k) (h1 : k ≤ 9223372036854775807) : -9223372036854775808 ≤ k.tdiv 10 ∧ k.tdiv 10 ≤ 9223372036854775807 ∧ -9 ≤ k.tmod 10 ∧ k.tmod 10 ≤ 9 := by
  obtain ⟨a, b⟩ := tdiv10 k
  omega
def DecI (n k : Int) (out : List UInt8) : Prop := (n = 0 ∧ k = 0 ∧ out = []) ∨ (n ≠ 0 ∧ ((k ≠ 0 ∧ Lib.decDigits n.natAbs = Lib.decDigits k.natAbs ++ out) ∨ (k = 0 ∧ out = Lib.decDigits n.natAbs)))
theorem DecI.zero (n : Int) : DecI n n [] := by
  by_cases h : n = 0
  · exact .inl ⟨h, h, rfl⟩
  · exact .inr ⟨h, .inl ⟨h, by simp⟩⟩
theorem DecI.step {n k d : Int} {out : List UInt8} (h : DecI n k out) (hk : k ≠ 0) (hd : d = (k.tmod 10).natAbs) : DecI n (k.tdiv 10) (u8 (48 + d) :: out) := by
  rcases h with ⟨_, h, _⟩ | ⟨h0, ⟨_, h⟩ | ⟨h, _⟩⟩
  · exact absurd h hk
  · refine .inr ⟨h0, ?_⟩
    obtain ⟨a, b⟩ := tdiv10 k
    have e8 : u8 (48 + d) = UInt8.ofNat (48 + k.natAbs % 10) := by
      unfold u8; congr 1; omega
    by_cases hs : k.natAbs < 10
    · have : k.tdiv 10 = 0 := by omega
      refine .inr ⟨this, ?_⟩
      rw [h, Lib.decDigits, dif_pos hs, e8, Nat.mod_eq_of_lt hs]; rfl
    · have : k.tdiv 10 ≠ 0 := by omega
      refine .inl ⟨this, ?_⟩
      rw [h, Lib.decDigits, dif_neg hs, e8, a]; simp
  · exact absurd h hk
theorem decDigits_pos (u : Nat) : 1 ≤ (Lib.decDigits u).length := by rw [Lib.decDigits_length]; exact Lib.nDigits_pos u
theorem decDigits_len {n : Int} (h0 : -9223372036854775808 ≤ n) (h1 : n ≤ 9223372036854775807) : (Lib.decDigits n.natAbs).length ≤ 20 := by
  rw [Lib.decDigits_length]; exact Lib.nDigits_le20 _ (by omega)
theorem DecI.len {n k : Int} {out : List UInt8} (h : DecI n k out) (h0 : -9223372036854775808 ≤ n) (h1 : n ≤ 9223372036854775807) : out.length ≤ 20 := by
  have hb := decDigits_len h0 h1
  rcases h with ⟨_, _, rfl⟩ | ⟨_, ⟨_, h⟩ | ⟨_, rfl⟩⟩
  · simp
  · have := congrArg List.length h; rw [List.length_append] at this; omega
  · exact hb
theorem DecI.done0 {n : Int} {out : List UInt8} (h : DecI n 0 out) (hl : out.length = 0) (h0 : -9223372036854775808 ≤ n) (h1 : n ≤ 9223372036854775807) : dec n = [48] := by
  rw [dec_in h0 h1]
  rcases h with ⟨rfl, _, _⟩ | ⟨_, ⟨h, _⟩ | ⟨_, rfl⟩⟩
  · unfold Lib.itoa; rw [if_neg (by decide), Lib.decDigits, dif_pos (by decide)]; rfl
  · exact absurd rfl h
  · have := decDigits_pos n.natAbs; omega
theorem DecI.nz {n : Int} {out : List UInt8} (h : DecI n 0 out) (hl : out.length ≠ 0) : out = Lib.decDigits n.natAbs := by
  rcases h with ⟨_, _, rfl⟩ | ⟨_, ⟨h, _⟩ | ⟨_, rfl⟩⟩
  · simp at hl
  · exact absurd rfl h
  · rfl
theorem DecI.neg {n : Int} {out : List UInt8} (h : DecI n 0 out) (hl : out.length ≠ 0) (hn : n < 0) (h0 : -9223372036854775808 ≤ n) (h1 : n ≤ 9223372036854775807) : dec n = [45] ++ out := by
  rw [dec_in h0 h1]; unfold Lib.itoa; rw [if_pos hn, h.nz hl]; rfl
theorem DecI.pos {n : Int} {out : List UInt8} (h : DecI n 0 out) (hl : out.length ≠ 0) (hn : ¬ n < 0) (h0 : -9223372036854775808 ≤ n) (h1 : n ≤ 9223372036854775807) : dec n = out := by
  rw [dec_in h0 h1]; unfold Lib.itoa; rw [if_neg hn, h.nz hl, show n.toNat = n.natAbs by omega]
theorem endNames_len {k : Nat} {y : List UInt8} (h : endNames[k]? = some y) : y.length ≤ 8 := by
  have hm := List.mem_of_getElem? h
  have : ∀ x ∈ endNames, x.length ≤ 8 := by decide
  exact this y hm
theorem endName_len (k : Int) : (endName k).length ≤ 8 := by
  unfold endName; split
  · rw [List.getD_eq_getElem?_getD]
    cases h : endNames[k.toNat]? with
    | none => simp
    | some y => exact endNames_len h
  · simp
end Go.Proofs.YtjklnidbndopiaaGreatDoor.M
namespace Go.Proofs.YtjklnidbndopiaaGreatDoor
open Go.RowKit
def byt_ (l : List UInt8) : List Value := l.map fun b => .int .u8 (b.toNat : Int)
theorem byt_one (l : List UInt8) : (byt_ l).all (·.oneCell') = true := by
  rw [List.all_eq_true]; intro v hv
  obtain ⟨b, _, rfl⟩ := List.mem_map.1 hv
  rfl
theorem byt_len (l : List UInt8) : (byt_ l).length = l.length := by simp [byt_]
section
variable {P : Program} {n lo : Nat} {B : List Nat} {l : Fr} {os : List Own} {u : World} {dst : Option Tmp} {ty : TypeId} {pos : String} {af : Array Edge} {gd : Option (Nat × Bool)}
theorem src_rowG {tx e' e : TypeId} {sz i m c : Nat} {A : Option Addr} {vs : List Value} {g : List Nat} (hk : P.underlying tx = some (.slice e')) (hi : os[i]? = some (rowO e sz (.slice A m c) m vs g)) (h1 : vs.all (·.oneCell') = true) (hsz : 0 < sz := by decide) :
    ∀ w, St lo B u w os → Src P sz tx (.slice A m c) m vs w := fun w hw => by
  have hl := row_len hi w hw
  refine src_of hk hl (fun hp => ?_) h1 (fun h0 => ?_)
  · rcases row_form hi w hw with ⟨c', h2, h3, _⟩ | ⟨b, c', h2, _, _⟩
    · rw [h3, Nat.zero_mul] at hl; omega
    · injection h2 with h2 _ _
      subst h2
      exact ⟨b, 0, rfl, fun j v hj => by rw [Nat.zero_add]; exact Mem.row hi hj w hw⟩
  · rw [h0] at hl
    rcases Nat.mul_eq_zero.1 hl.symm with h | h <;> omega
theorem q_toStr {x : Operand} {src dt e e' : TypeId} {i m c : Nat} {A : Option Addr} {xs : List UInt8} {g : List Nat} (hs : P.underlying src = some (.slice e)) (he : P.underlying e = some (.int .u8)) (hd : P.underlying dt = some .string)
    (hx : opd l x = some (.slice A m c)) (hi : os[i]? = some (rowO e' 1 (.slice A m c) m (byt_ xs) g)) : OpQ P n lo B l os u ⟨dst, .convert src dt x, ty, pos, af, gd⟩ (.string (sB xs)) := fun a w ha hw => by
  have hl : m = xs.length := by have := row_len hi w hw; rw [byt_len] at this; omega
  subst hl
  have key : (convert src dt (.slice A xs.length c)).run P w = .ok (.string (sB xs)) w := by
    rcases row_form hi w hw with ⟨c', h2, h3, _⟩ | ⟨b, c', h2, _, _⟩
    · injection h2 with h2 _ _
      subst h2
      have hx0 : xs = [] := List.eq_nil_of_length_eq_zero h3
      subst hx0
      rw [run_convert_bytes_string w src dt e none _ c hs he hd]
      rfl
    · injection h2 with h2 _ _
      subst h2
      exact run_convert_bytes_back w src dt e ⟨b, 0, none⟩ c xs hs he hd (fun j hj => by
        rw [addr_add, Nat.zero_add]
        refine (Mem.row hi ?_ w hw).get
        simp [byt_, List.getElem?_eq_getElem hj])
  simp only [execOp, ha.eval hx, Sem.run_bind, key, Result.andThen_ok, Sem.run_pure]
end
theorem grow_ext (w : World) (k : Nat) (os : Array Obj) : Ext w (Sort.grow (w.drewN k) os) := by
  refine ⟨rfl, rfl, rfl, ?_, fun a ha => ?_⟩
  · simp [Sort.grow, World.drewN]
  · simp [Sort.grow, World.drewN, Array.getElem?_append_left, ha]
class LenB (l : List UInt8) (k : outParam Nat) : Prop where h : l.length ≤ k
instance : LenB [] 0 := ⟨Nat.le_refl _⟩
instance {a : UInt8} {l : List UInt8} {k : Nat} [h : LenB l k] : LenB (a :: l) (k + 1) := ⟨Nat.succ_le_succ h.h⟩
instance {a b : List UInt8} {i j : Nat} [h : LenB a i] [k : LenB b j] : LenB (a ++ b) (i + j) := ⟨by rw [List.length_append]; exact Nat.add_le_add h.h k.h⟩
instance {n : Int} : LenB (M.dec n) 21 := ⟨M.dec_len n⟩
instance {n : Int} : LenB (M.endName n) 8 := ⟨M.endName_len n⟩
theorem q_cat {P : Program} {n : Nat} {l : Fr} {dst : Option Tmp} {ty : TypeId} {pos : String} {af : Array Edge} {gd : Option (Nat × Bool)} {x y : Operand} {a b : List UInt8} {t t' : TypeId} {i j : Nat} [ha : LenB a i] [hb : LenB b j] (h1 : opd l x = some (.string (sB a))) (h2 : opd l y = some (.string (sB b))) (hl : Nat.ble (i + j) 9223372036854775807 = true := by rfl) :
    OpP P n l ⟨dst, .binOp .add t x y t', ty, pos, af, gd⟩ (.string (sB (a ++ b))) := p_cat h1 h2 (Nat.le_trans (Nat.add_le_add ha.h hb.h) (by simpa [Nat.ble_eq] using hl))
def tabN : String := Rows.fnExactBookTextRow.named.headD ""
def tabT : Ty := ⟨fun w _ => Lib.TabIs Tryz.prog w tabN .u64 Lib.pow10Tab, fun _ _ _ => False, fun {u w v} h k => by
  unfold Lib.TabIs World.var? at *
  cases hg : (Tryz.prog).globalNamed tabN with
  | none => rw [hg] at h; simp at h
  | some g =>
    rw [hg] at h
    simp only [Option.bind_some] at h ⊢
    split at h
    · rename_i cs t f hc
      rw [k.vis g cs t f hc]; exact h
    · simp at h, fun h _ => h, fun h => h.elim⟩
theorem c_strconv_FormatInt (n b : Int) {w : World} (h_tab : tabT.ok w undef) (r0 : b = 10 := by exact om_) (r1 : -9223372036854775808 ≤ n := by exact om_) (r2 : n ≤ 9223372036854775807 := by exact om_) : RetV Tryz.prog 88 [.int .i64 n, .int .i64 b] w (.string (sB (M.dec n))) := by
  subst r0
  rw [M.dec_in r1 r2]
  exact Calls.mono (Any.strconv_FormatInt_10 laysM173 n r1 r2 w h_tab) fun e w' ⟨he, k, os, hw⟩ => ⟨he, by subst hw; exact grow_ext w k os⟩
end Go.Proofs.YtjklnidbndopiaaGreatDoor

/- Short rules: tables by instances, operations that take themselves. -/
import Derived.Test.YtejnmechnhgmfaaZpF10
import Derived.Test.YtejnmechnhgmfaaZpF11
import Derived.Test.YtejnmechnhgmfaaZpF12
import Derived.Test.YtejnmechnhgmfaaZpF13
import Derived.Test.YtejnmechnhgmfaaZpF14
set_option linter.unusedSimpArgs false
set_option linter.unusedVariables false
namespace Go.Proofs.Ytejnmechnhgmfaa
open Go.RowKit
class TyI (P : Program) (t : TypeId) (g : outParam Bool) (s : outParam Nat) : Prop where h : tyOf P t = some (g, s)
class FldI (P : Program) (t : TypeId) (k : Nat) (off : outParam Nat) (ft : outParam TypeId) (g : outParam Bool) (s : outParam Nat) : Prop where h : fldOf P t k = some (off, ft, g, s)
class ElI (P : Program) (t : TypeId) (e : outParam TypeId) (sz by' : outParam Nat) (z : outParam (List Value)) : Prop where h : elOf P t = some (e, sz, by', z)
class ZeroI (P : Program) (t : TypeId) (c : outParam (List Value)) : Prop where h : zeroOf P t = some c
class FldsI (P : Program) (t : TypeId) (c : outParam (List (Nat × Nat))) : Prop where h : fldsOf P t = some c
class FnI (P : Program) (f : FuncId) : Prop where h : goodF P f = true
class UndI (P : Program) (t : TypeId) (d : outParam TypeDesc) : Prop where h : P.underlying t = some d
class MixI (P : Program) : Prop where h : P.follows .mixedOrders = true
inductive NL {α : Type} : List α → List α → Prop
  | nil : NL [] []
  | cons {a : α} {r s : List α} (h : NL r s) : NL (a :: r) (a :: s)
theorem NL.eq {α : Type} {a b : List α} (h : NL a b) : a = b := by induction h with | nil => rfl | cons _ ih => rw [ih]
theorem nl {α : Type} {a b : List α} (h : NL a b := by repeat (first | exact NL.nil | apply NL.cons)) : NL a b := h
def setV : List Value → Nat → List Value → List Value
  | x :: r, k + 1, vs => x :: setV r k vs
  | _ :: r, 0, v :: vs => v :: setV r 0 vs
  | r, 0, [] => r
  | [], _, _ => []
theorem setV_eq : ∀ (c : List Value) (o : Nat) (vs : List Value), o + vs.length ≤ c.length → setV c o vs = setL c o vs
  | x :: r, k + 1, vs, h => by
    rw [setV, setV_eq r k vs (by simp at h; omega)]
    simp [setL, Nat.add_right_comm]
  | x :: r, 0, v :: vs, h => by
    rw [setV, setV_eq r 0 vs (by simp at h; omega)]
    simp [setL]
  | [], 0, [], _ => by simp [setV, setL]
  | x :: r, 0, [], _ => by simp [setV, setL]
  | [], k + 1, vs, h => by simp at h
  | [], 0, v :: vs, h => by simp at h
def takV : List Value → Nat → Nat → List Value
  | _ :: r, k + 1, s => takV r k s
  | x :: r, 0, s + 1 => x :: takV r 0 s
  | _, _, _ => []
theorem takV_eq : ∀ (c : List Value) (o s : Nat), takV c o s = (c.drop o).take s
  | x :: r, k + 1, s => by simp [takV, takV_eq r k s]
  | x :: r, 0, s + 1 => by simp [takV, takV_eq r 0 s]
  | x :: r, 0, 0 => by simp [takV]
  | [], _, _ => by simp [takV]
section
variable {P : Program} {n lo : Nat} {B : List Nat} {Q : Exit → Act → World → Prop} {cs : List Code} {K : Act → World → Prop} {ops : Array Oper} {rest : List Oper} {l : Fr} {os os' : List Own} {u : World} {ty : TypeId} {pos : String} {af : Array Edge} {gd : Option (Nat × Bool)} {dst : Option Tmp} {v : Value} {d : Nat} {x y : Operand} {c : Bool} {o : Oper}
inductive Ld : List Own → Nat → Nat → Value → Prop
  | here {b o : Nat} {c : List Value} {T : TypeId} {r : List Own} {x : Value} (h : c[o]? = some x) : Ld (boxO b c T :: r) b o x
  | there {b o : Nat} {q : Own} {r : List Own} {x : Value} (h : Ld r b o x) : Ld (q :: r) b o x
theorem Ld.get {b o : Nat} {x : Value} {w : World} (h : Ld os b o x) : (∀ q ∈ os, q.pr w) → Cell w b o x := by
  induction h with
  | @here b o c T r x h => intro hp; exact ⟨_, _, _, hp (boxO b c T) (by simp), by simpa using h⟩
  | there _ ih => intro hp; exact ih fun q hq => hp q (by simp [hq])
theorem ld_ {b o : Nat} {x : Value} (h : Ld os b o x := by repeat (first | ((with_reducible apply Ld.here); rfl) | with_reducible apply Ld.there)) : Ld os b o x := h
inductive LdR : List Own → Nat → Nat → Nat → List Value → Prop
  | here {b o s : Nat} {c vs : List Value} {T : TypeId} {r : List Own} (h : NL (takV c o s) vs) : LdR (boxO b c T :: r) b o s vs
  | there {b o s : Nat} {q : Own} {r : List Own} {vs : List Value} (h : LdR r b o s vs) : LdR (q :: r) b o s vs
theorem LdR.get {b o s : Nat} {vs : List Value} {w : World} (h : LdR os b o s vs) : (∀ q ∈ os, q.pr w) → RowAt w b o vs := by
  induction h with
  | @here b o s c vs T r h =>
    intro hp j x hj
    rw [← h.eq, takV_eq, List.getElem?_take] at hj
    split at hj
    · rw [List.getElem?_drop] at hj
      exact ⟨_, _, _, hp (boxO b c T) (by simp), by simpa using hj⟩
    · cases hj
  | there _ ih => intro hp; exact ih fun q hq => hp q (by simp [hq])
theorem ldr_ {b o s : Nat} {vs : List Value} (h : LdR os b o s vs := by repeat (first | ((with_reducible apply LdR.here); (repeat (first | exact NL.nil | apply NL.cons))) | with_reducible apply LdR.there)) : LdR os b o s vs := h
inductive St1 : List Own → Nat → Nat → List Value → List Own → Prop
  | here {b o : Nat} {c c' vs : List Value} {T : TypeId} {r : List Own} (h : NL (setV c o vs) c') (h1 : vs.all (·.oneCell') = true) (hl : Nat.ble (o + vs.length) c.length = true) : St1 (boxO b c T :: r) b o vs (boxO b c' T :: r)
  | there {b o : Nat} {q : Own} {r r' : List Own} {vs : List Value} (h : St1 r b o vs r') : St1 (q :: r) b o vs (q :: r')
theorem St1.get {b o : Nat} {vs : List Value} (h : St1 os b o vs os') : ∃ i c T, os[i]? = some (boxO b c T) ∧ vs.all (·.oneCell') = true ∧ Nat.ble (o + vs.length) c.length = true ∧ os' = os.set i (boxO b (setL c o vs) T) := by
  induction h with
  | here h h1 hl => exact ⟨0, _, _, rfl, h1, hl, by rw [← h.eq, setV_eq _ _ _ (by simpa [Nat.ble_eq] using hl)]; rfl⟩
  | there _ ih => obtain ⟨i, c, T, a, b, d, e⟩ := ih; exact ⟨i + 1, c, T, by simpa using a, b, d, by rw [e]; rfl⟩
theorem st1_ {b o : Nat} {vs : List Value} (h : St1 os b o vs os' := by repeat (first | ((with_reducible apply St1.here); (repeat (first | exact NL.nil | apply NL.cons)); (first | rfl | (simp [cellsL, *]; done) | (simp [cellsL, *]; repeat' (first | exact rfl | apply And.intro))); rfl) | with_reducible apply St1.there)) : St1 os b o vs os' := h
theorem L9 (i : Nat) {t T : TypeId} {s b o : Nat} {c vs : List Value} [ht : TyI P t true s] (hx : opd l x = some (.pointer (some ⟨b, o, none⟩))) (hi : os[i]? = some (boxO b c T)) (hv : NL (takV c o s) vs := by exact nl) (hs : vs.length = s := by rfl) : OpQ P n lo B l os u ⟨dst, .load t x, ty, pos, af, gd⟩ (.agg vs.toArray) :=
  q_loadN ht.h hx (Mem.boxR hi o s) (by rw [← hv.eq, takV_eq]) hs
theorem LS (j : Nat) {t : TypeId} {s b o : Nat} {vs us : List Value} [ht : TyI P t true s] (h : RowAt u b o vs) (hx : opd l x = some (.pointer (some ⟨b, o + j, none⟩))) (hv : NL (takV vs j s) us := by exact nl) (hs : us.length = s := by rfl) : OpQ P n lo B l os u ⟨dst, .load t x, ty, pos, af, gd⟩ (.agg us.toArray) :=
  q_loadN ht.h hx (Mem.pubR (h.sub j s)) (by rw [← hv.eq, takV_eq]) hs
theorem q_bld {t : TypeId} {parts : List (Nat × Operand)} {pv : List (Nat × Value)} {pl : List (Nat × Nat)} {z us vs : List Value} [hz : ZeroI P t z] [hp : FldsI P t pl] (hv : opdP l parts = some pv := by rfl) (hf : fillL pl z pv = some us := by rfl) (hn : NL us vs := by exact nl) :
    OpP P n l ⟨dst, .build t parts.toArray, ty, pos, af, gd⟩ (.agg vs.toArray) := hn.eq ▸ p_build hz.h hp.h hv hf
theorem vis_ {u0 w : World} (h : Vis u0 w := by repeat (first | exact Vis.refl _ | exact St.vis (by assumption) | (refine Vis.trans (Up.vis (by assumption)) ?_))) : Vis u0 w := h
inductive Off : Nat → Nat → Nat → Prop
  | z {o : Nat} : Off o o 0
  | s {o o0 k j : Nat} (h : Off o o0 k) : Off (o + j) o0 (k + j)
theorem Off.eq {o o0 k : Nat} (h : Off o o0 k) : o = o0 + k := by induction h with | z => rfl | s _ ih => omega
theorem off_ {o o0 k : Nat} (h : Off o o0 k := by repeat (first | with_reducible exact Off.z | with_reducible apply Off.s)) : Off o o0 k := h
end
class Elm (T : Ty) (E : outParam ((Value → List Own → Prop) → List Own → Prop)) : Prop where
  h : ∀ K os, E K os → ∀ w v fp, T.own w v fp → ∃ ow, K v (ow ++ os) ∧ fp.Perm (ow.flatMap (·.fp)) ∧ ∀ o ∈ ow, o.pr w
class ElmL (Ts : List Ty) (E : outParam ((List Value → List Own → Prop) → List Own → Prop)) : Prop where
  h : ∀ K os, E K os → ∀ w vs fp, cellsOwn w Ts vs fp → ∃ ow, K vs (ow ++ os) ∧ fp.Perm (ow.flatMap (·.fp)) ∧ ∀ o ∈ ow, o.pr w
instance (x : Value) : Elm (Ty.val x) (fun K os => K x os) := ⟨fun K os h w v fp ⟨e, e2⟩ => ⟨[], by subst e; exact h, by rw [e2]; exact List.Perm.refl _, by simp⟩⟩
instance (n : Int) : Elm (Ty.int n) (fun K os => K (.int .i64 n) os) := inferInstanceAs (Elm (Ty.val _) _)
instance (b : Bool) : Elm (Ty.bool b) (fun K os => K (.bool b) os) := inferInstanceAs (Elm (Ty.val _) _)
instance (s : ByteArray) : Elm (Ty.str s) (fun K os => K (.string s) os) := inferInstanceAs (Elm (Ty.val _) _)
instance : Elm Ty.any (fun K os => ∀ v, v.oneCell' = true → K v os) := ⟨fun K os h w v fp ⟨e, e2⟩ => ⟨[], h v e2, by rw [e]; exact List.Perm.refl _, by simp⟩⟩
instance (e : TypeId) (xs : List Int) : Elm (Ty.ints e xs) (fun K os => ∀ A c, xs.length ≤ c → c ≤ 9223372036854775807 → K (.slice A xs.length c) (rowO e 1 (.slice A xs.length c) xs.length (ints_ xs) [] :: os)) :=
  ⟨fun K os h w v fp ho => by
    obtain ⟨ow, ⟨A, c, rfl, rfl, h1, h2⟩, he, hp⟩ := Spl.ints e xs w v fp ho
    exact ⟨_, h A c h1 h2, by rw [he], hp⟩⟩
instance (e : TypeId) (xs : List Int) : Elm (Ty.ro e xs) (fun K os => ∀ A c, xs.length ≤ c → c ≤ 9223372036854775807 → K (.slice A xs.length c) (roO e (.slice A xs.length c) xs.length (ints_ xs) :: os)) :=
  ⟨fun K os h w v fp ho => by
    obtain ⟨ow, ⟨A, c, rfl, rfl, h1, h2⟩, he, hp⟩ := Spl.ro e xs w v fp ho
    exact ⟨_, h A c h1 h2, by rw [he], hp⟩⟩
instance (e : TypeId) (sz n : Nat) (Ts : List Ty) : Elm (Ty.sl e sz n Ts) (fun K os => ∀ A c vs f, n ≤ c → c ≤ 9223372036854775807 → K (.slice A n c) (rowO e sz (.slice A n c) n vs [] :: ownC Ts vs f :: os)) :=
  ⟨fun K os h w v fp ho => by
    obtain ⟨ow, ⟨A, c, vs, f, rfl, rfl, h1, h2⟩, he, hp⟩ := Spl.sl e sz n Ts w v fp ho
    exact ⟨_, h A c vs f h1 h2, by rw [he], hp⟩⟩
instance : ElmL [] (fun K os => K [] os) := ⟨fun K os h w vs fp ho => by
    cases vs with
    | nil => exact ⟨[], h, by rw [show fp = [] from ho]; exact List.Perm.refl _, by simp⟩
    | cons => exact ho.elim⟩
instance (T : Ty) (Ts : List Ty) (E1 : (Value → List Own → Prop) → List Own → Prop) (E2 : (List Value → List Own → Prop) → List Own → Prop) [h1 : Elm T E1] [h2 : ElmL Ts E2] : ElmL (T :: Ts) (fun K os => E1 (fun v os1 => E2 (fun vs os2 => K (v :: vs) os2) os1) os) :=
  ⟨fun K os h w vs fp ho => by
    cases vs with
    | nil => exact ho.elim
    | cons v vs =>
      obtain ⟨f1, f2, rfl, ho1, ho2⟩ := ho
      obtain ⟨w1, k1, p1, q1⟩ := h1.h _ _ h w v f1 ho1
      obtain ⟨w2, k2, p2, q2⟩ := h2.h _ _ k1 w vs f2 ho2
      refine ⟨w2 ++ w1, by rw [List.append_assoc]; exact k2, ?_, fun o ho => (List.mem_append.1 ho).elim (q2 o) (q1 o)⟩
      rw [List.flatMap_append]
      exact (p1.append p2).trans List.perm_append_comm⟩
instance (Ts : List Ty) (E : (List Value → List Own → Prop) → List Own → Prop) [h : ElmL Ts E] : Elm (Ty.agg Ts) (fun K os => E (fun vs os' => K (.agg vs.toArray) os') os) :=
  ⟨fun K os k w v fp ⟨vs, e, ho⟩ => by subst e; exact h.h (fun vs os' => K (.agg vs.toArray) os') os k w vs fp ho⟩
instance (Ts : List Ty) (E : (List Value → List Own → Prop) → List Own → Prop) [h : ElmL Ts E] : Elm (Ty.tup Ts) (fun K os => E (fun vs os' => K (.tuple vs.toArray) os') os) :=
  ⟨fun K os k w v fp ⟨vs, e, ho⟩ => by subst e; exact h.h (fun vs os' => K (.tuple vs.toArray) os') os k w vs fp ho⟩
instance (T : TypeId) (Ts : List Ty) (E : (List Value → List Own → Prop) → List Own → Prop) [h : ElmL Ts E] : Elm (Ty.box T Ts) (fun K os => ∀ b, E (fun vs os' => K (.pointer (some ⟨b, 0, none⟩)) (boxO b vs T :: os')) os) :=
  ⟨fun K os k w v fp ⟨b, vs, f, e, e2, hb, ho⟩ => by
    subst e; subst e2
    obtain ⟨w1, k1, p1, q1⟩ := h.h (fun vs os' => K (.pointer (some ⟨b, 0, none⟩)) (boxO b vs T :: os')) os (k b) w vs f ho
    exact ⟨boxO b vs T :: w1, k1, by simpa [boxO] using p1, fun o ho => by
      rcases List.mem_cons.1 ho with rfl | ho
      · exact hb
      · exact q1 o ho⟩⟩
instance {α : Type} (p : α → Prop) (F : α → Ty) (E : α → (Value → List Own → Prop) → List Own → Prop) [h : ∀ x, Elm (F x) (E x)] : Elm (Ty.ex p F) (fun K os => ∀ x, p x → E x K os) :=
  ⟨fun K os k w v fp ⟨x, hp, ho⟩ => (h x).h K os (k x hp) w v fp ho⟩
class Opn (T : Ty) (E : outParam (World → (Value → Prop) → Prop)) : Prop where h : ∀ u K, E u K → ∀ v, T.ok u v → K v
class OpnL (Ts : List Ty) (E : outParam (World → (List Value → Prop) → Prop)) : Prop where h : ∀ u K, E u K → ∀ vs, cellsOk u Ts vs → K vs
instance (x : Value) : Opn (Ty.val x) (fun _ K => K x) := ⟨fun u K h v e => by rw [show v = x from e]; exact h⟩
instance (n : Int) : Opn (Ty.int n) (fun _ K => K (.int .i64 n)) := inferInstanceAs (Opn (Ty.val _) _)
instance (b : Bool) : Opn (Ty.bool b) (fun _ K => K (.bool b)) := inferInstanceAs (Opn (Ty.val _) _)
instance (s : ByteArray) : Opn (Ty.str s) (fun _ K => K (.string s)) := inferInstanceAs (Opn (Ty.val _) _)
instance : Opn Ty.any (fun _ K => ∀ v, v.oneCell' = true → K v) := ⟨fun u K h v e => h v e⟩
instance (e : TypeId) (xs : List Int) : Opn (Ty.ints e xs) (fun u K => ∀ A c, (Ty.ints e xs).ok u (.slice A xs.length c) → xs.length ≤ c → c ≤ 9223372036854775807 → K (.slice A xs.length c)) :=
  ⟨fun u K k v h => by obtain ⟨A, c, rfl, h1, h2⟩ := ints_form h; exact k A c h h1 h2⟩
instance (e : TypeId) (xs : List Int) : Opn (Ty.ro e xs) (fun u K => ∀ A c, (Ty.ints e xs).ok u (.slice A xs.length c) → xs.length ≤ c → c ≤ 9223372036854775807 → K (.slice A xs.length c)) :=
  ⟨fun u K k v h => by obtain ⟨A, c, rfl, h1, h2⟩ := ro_form h; exact k A c h h1 h2⟩
instance (e : TypeId) (sz n : Nat) (Ts : List Ty) : Opn (Ty.sl e sz n Ts) (fun u K => ∀ A c, (Ty.sl e sz n Ts).ok u (.slice A n c) → n ≤ c → c ≤ 9223372036854775807 → K (.slice A n c)) :=
  ⟨fun u K k v h => by obtain ⟨A, c, rfl, h1, h2⟩ := sl_form h; exact k A c h h1 h2⟩
instance (e : TypeId) (n : Nat) : Opn (Ty.bytes e n) (fun u K => ∀ A c, (Ty.bytes e n).ok u (.slice A n c) → n ≤ c → c ≤ 9223372036854775807 → K (.slice A n c)) :=
  ⟨fun u K k v h => by obtain ⟨A, c, rfl, h1, h2⟩ := sl_form h; exact k A c h h1 h2⟩
instance (e : TypeId) (n : Nat) : Opn (Ty.strs e n) (fun u K => ∀ A c, (Ty.strs e n).ok u (.slice A n c) → n ≤ c → c ≤ 9223372036854775807 → K (.slice A n c)) :=
  ⟨fun u K k v h => by obtain ⟨A, c, rfl, h1, h2⟩ := sl_form h; exact k A c h h1 h2⟩
instance (c : Bool) (T : Ty) : Opn (Ty.opt c T) (fun u K => ∀ v, (Ty.opt c T).ok u v → K v) := ⟨fun u K k v h => k v h⟩
instance : OpnL [] (fun _ K => K []) := ⟨fun u K k vs h => by cases vs with | nil => exact k | cons => exact h.elim⟩
instance (T : Ty) (Ts : List Ty) (E1 : World → (Value → Prop) → Prop) (E2 : World → (List Value → Prop) → Prop) [h1 : Opn T E1] [h2 : OpnL Ts E2] : OpnL (T :: Ts) (fun u K => E1 u (fun v => E2 u (fun vs => K (v :: vs)))) :=
  ⟨fun u K k vs h => by
    cases vs with
    | nil => exact h.elim
    | cons v vs => exact h2.h u (fun vs => K (v :: vs)) (h1.h u _ k v h.1) vs h.2⟩
instance (Ts : List Ty) (E : World → (List Value → Prop) → Prop) [h : OpnL Ts E] : Opn (Ty.agg Ts) (fun u K => E u (fun vs => K (.agg vs.toArray))) := ⟨fun u K k v ⟨vs, e, ho⟩ => by subst e; exact h.h u (fun vs => K (.agg vs.toArray)) k vs ho⟩
instance (Ts : List Ty) (E : World → (List Value → Prop) → Prop) [h : OpnL Ts E] : Opn (Ty.tup Ts) (fun u K => E u (fun vs => K (.tuple vs.toArray))) := ⟨fun u K k v ⟨vs, e, ho⟩ => by subst e; exact h.h u (fun vs => K (.tuple vs.toArray)) k vs ho⟩
instance (Ts : List Ty) (E : World → (List Value → Prop) → Prop) [h : OpnL Ts E] : Opn (Ty.ref Ts) (fun u K => ∀ b o, E u (fun vs => RowAt u b o vs → K (.pointer (some ⟨b, o, none⟩)))) :=
  ⟨fun u K k v ⟨b, o, vs, e, ho, hr⟩ => by subst e; exact h.h u (fun vs => RowAt u b o vs → K (.pointer (some ⟨b, o, none⟩))) (k b o) vs ho hr⟩
instance (T : TypeId) (Ts : List Ty) (E : World → (List Value → Prop) → Prop) [h : OpnL Ts E] : Opn (Ty.box T Ts) (fun u K => ∀ b o, E u (fun vs => RowAt u b o vs → K (.pointer (some ⟨b, o, none⟩)))) :=
  ⟨fun u K k v ⟨b, o, vs, e, ho, hr⟩ => by subst e; exact h.h u (fun vs => RowAt u b o vs → K (.pointer (some ⟨b, o, none⟩))) (k b o) vs ho hr⟩
instance {α : Type} (p : α → Prop) (F : α → Ty) (E : α → World → (Value → Prop) → Prop) [h : ∀ x, Opn (F x) (E x)] : Opn (Ty.ex p F) (fun u K => ∀ x, p x → E x u K) := ⟨fun u K k v ⟨x, hp, ho⟩ => (h x).h u K (k x hp) v ho⟩
class Frm (T : Ty) (E : outParam ((Value → Prop) → Prop)) : Prop where h : ∀ K, E K → ∀ w v, T.ok w v → K v
class FrmL (Ts : List Ty) (E : outParam ((List Value → Prop) → Prop)) : Prop where h : ∀ K, E K → ∀ w vs, cellsOk w Ts vs → K vs
instance (x : Value) : Frm (Ty.val x) (fun K => K x) := ⟨fun K h w v e => by rw [show v = x from e]; exact h⟩
instance (n : Int) : Frm (Ty.int n) (fun K => K (.int .i64 n)) := inferInstanceAs (Frm (Ty.val _) _)
instance (b : Bool) : Frm (Ty.bool b) (fun K => K (.bool b)) := inferInstanceAs (Frm (Ty.val _) _)
instance (s : ByteArray) : Frm (Ty.str s) (fun K => K (.string s)) := inferInstanceAs (Frm (Ty.val _) _)
instance : Frm Ty.any (fun K => ∀ v, v.oneCell' = true → K v) := ⟨fun K h w v e => h v e⟩
instance (e : TypeId) (xs : List Int) : Frm (Ty.ints e xs) (fun K => ∀ A c, xs.length ≤ c → c ≤ 9223372036854775807 → K (.slice A xs.length c)) := ⟨fun K k w v h => by obtain ⟨A, c, rfl, h1, h2⟩ := ints_form h; exact k A c h1 h2⟩
instance (e : TypeId) (xs : List Int) : Frm (Ty.ro e xs) (fun K => ∀ A c, xs.length ≤ c → c ≤ 9223372036854775807 → K (.slice A xs.length c)) := ⟨fun K k w v h => by obtain ⟨A, c, rfl, h1, h2⟩ := ro_form h; exact k A c h1 h2⟩
instance (e : TypeId) (sz n : Nat) (Ts : List Ty) : Frm (Ty.sl e sz n Ts) (fun K => ∀ A c, n ≤ c → c ≤ 9223372036854775807 → K (.slice A n c)) := ⟨fun K k w v h => by obtain ⟨A, c, rfl, h1, h2⟩ := sl_form h; exact k A c h1 h2⟩
instance : FrmL [] (fun K => K []) := ⟨fun K k w vs h => by cases vs with | nil => exact k | cons => exact h.elim⟩
instance (T : Ty) (Ts : List Ty) (E1 : (Value → Prop) → Prop) (E2 : (List Value → Prop) → Prop) [h1 : Frm T E1] [h2 : FrmL Ts E2] : FrmL (T :: Ts) (fun K => E1 (fun v => E2 (fun vs => K (v :: vs)))) :=
  ⟨fun K k w vs h => by
    cases vs with
    | nil => exact h.elim
    | cons v vs => exact h2.h (fun vs => K (v :: vs)) (h1.h _ k w v h.1) w vs h.2⟩
class ElmS (T : Ty) (E : outParam ((Value → List Own → Prop) → List Own → Prop)) : Prop where
  h : ∀ K os, E K os → ∀ w v fp, T.own w v fp → ∃ ow, K v (ow ++ os) ∧ fp.Perm (ow.flatMap (·.fp)) ∧ ∀ o ∈ ow, o.pr w
class ElmSL (Ts : List Ty) (E : outParam ((List Value → List Own → Prop) → List Own → Prop)) : Prop where
  h : ∀ K os, E K os → ∀ w vs fp, cellsOwn w Ts vs fp → ∃ ow, K vs (ow ++ os) ∧ fp.Perm (ow.flatMap (·.fp)) ∧ ∀ o ∈ ow, o.pr w
instance (priority := low) (T : Ty) (E : (Value → List Own → Prop) → List Own → Prop) [h : Elm T E] : ElmS T E := ⟨h.h⟩
instance (Ts : List Ty) (E : (List Value → Prop) → Prop) [h : FrmL Ts E] : ElmS (Ty.agg Ts) (fun K os => E (fun vs => ∀ f, K (.agg vs.toArray) (ownC Ts vs f :: os))) :=
  ⟨fun K os k w v fp ⟨vs, e, ho⟩ => by
    subst e
    exact ⟨[ownC Ts vs fp], h.h _ k w vs ho.ok fp, by simp [ownC], fun o ho' => by simp at ho'; subst ho'; exact ho⟩⟩
instance : ElmSL [] (fun K os => K [] os) := ⟨fun K os h w vs fp ho => by
    cases vs with
    | nil => exact ⟨[], h, by rw [show fp = [] from ho]; exact List.Perm.refl _, by simp⟩
    | cons => exact ho.elim⟩
instance (T : Ty) (Ts : List Ty) (E1 : (Value → List Own → Prop) → List Own → Prop) (E2 : (List Value → List Own → Prop) → List Own → Prop) [h1 : ElmS T E1] [h2 : ElmSL Ts E2] : ElmSL (T :: Ts) (fun K os => E1 (fun v os1 => E2 (fun vs os2 => K (v :: vs) os2) os1) os) :=
  ⟨fun K os h w vs fp ho => by
    cases vs with
    | nil => exact ho.elim
    | cons v vs =>
      obtain ⟨f1, f2, rfl, ho1, ho2⟩ := ho
      obtain ⟨w1, k1, p1, q1⟩ := h1.h _ _ h w v f1 ho1
      obtain ⟨w2, k2, p2, q2⟩ := h2.h _ _ k1 w vs f2 ho2
      refine ⟨w2 ++ w1, by rw [List.append_assoc]; exact k2, ?_, fun o ho => (List.mem_append.1 ho).elim (q2 o) (q1 o)⟩
      rw [List.flatMap_append]
      exact (p1.append p2).trans List.perm_append_comm⟩
instance (Ts : List Ty) (E : (List Value → List Own → Prop) → List Own → Prop) [h : ElmSL Ts E] : ElmS (Ty.tup Ts) (fun K os => E (fun vs os' => K (.tuple vs.toArray) os') os) :=
  ⟨fun K os k w v fp ⟨vs, e, ho⟩ => by subst e; exact h.h (fun vs os' => K (.tuple vs.toArray) os') os k w vs fp ho⟩
theorem opn {T : Ty} {u : World} {K : Value → Prop} {E : World → (Value → Prop) → Prop} [i : Opn T E] (k : E u K) : ∀ v, T.ok u v → K v := i.h u K k
end Go.Proofs.Ytejnmechnhgmfaa

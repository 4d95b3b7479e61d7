/- Short rules: tables by instances, operations that take themselves. -/
import Derived.Test.YtjdhgkdimanabaaGreatDoorZeA1
set_option linter.unusedSimpArgs false
set_option linter.unusedVariables false
namespace Go.Proofs.YtjdhgkdimanabaaGreatDoor
open Go.RowKit
class TyI (P : Program) (t : TypeId) (g : outParam Bool) (s : outParam Nat) : Prop where h : tyOf P t = some (g, s)
class FldI (P : Program) (t : TypeId) (k : Nat) (off : outParam Nat) (ft : outParam TypeId) (g : outParam Bool) (s : outParam Nat) : Prop where h : fldOf P t k = some (off, ft, g, s)
class ElI (P : Program) (t : TypeId) (e : outParam TypeId) (sz by' : outParam Nat) (z : outParam (List Value)) : Prop where h : elOf P t = some (e, sz, by', z)
class ZeroI (P : Program) (t : TypeId) (c : outParam (List Value)) : Prop where h : zeroOf P t = some c
class FldsI (P : Program) (t : TypeId) (c : outParam (List (Nat × Nat))) : Prop where h : fldsOf P t = some c
class FnI (P : Program) (f : FuncId) : Prop where h : goodF P f = true
class UndI (P : Program) (t : TypeId) (d : outParam TypeDesc) : Prop where h : P.underlying t = some d
class MixI (P : Program) : Prop where h : P.follows .mixedOrders = true
inductive NL {α : Type} : List α → List α → Prop
  | nil : NL [] []
  | cons {a : α} {r s : List α} (h : NL r s) : NL (a :: r) (a :: s)
theorem NL.eq {α : Type} {a b : List α} (h : NL a b) : a = b := by induction h with | nil => rfl | cons _ ih => rw [ih]
theorem nl {α : Type} {a b : List α} (h : NL a b := by repeat (first | exact NL.nil | apply NL.cons)) : NL a b := h
def setV : List Value → Nat → List Value → List Value
  | x :: r, k + 1, vs => x :: setV r k vs
  | _ :: r, 0, v :: vs => v :: setV r 0 vs
  | r, 0, [] => r
  | [], _, _ => []
theorem setV_eq : ∀ (c : List Value) (o : Nat) (vs : List Value), o + vs.length ≤ c.length → setV c o vs = setL c o vs
  | x :: r, k + 1, vs, h => by
    rw [setV, setV_eq r k vs (by simp at h; omega)]
    simp [setL, Nat.add_right_comm]
  | x :: r, 0, v :: vs, h => by
    rw [setV, setV_eq r 0 vs (by simp at h; omega)]
    simp [setL]
  | [], 0, [], _ => by simp [setV, setL]
  | x :: r, 0, [], _ => by simp [setV, setL]
  | [], k + 1, vs, h => by simp at h
  | [], 0, v :: vs, h => by simp at h
def takV : List Value → Nat → Nat → List Value
  | _ :: r, k + 1, s => takV r k s
  | x :: r, 0, s + 1 => x :: takV r 0 s
  | _, _, _ => []
theorem takV_eq : ∀ (c : List Value) (o s : Nat), takV c o s = (c.drop o).take s
  | x :: r, k + 1, s => by simp [takV, takV_eq r k s]
  | x :: r, 0, s + 1 => by simp [takV, takV_eq r 0 s]
  | x :: r, 0, 0 => by simp [takV]
  | [], _, _ => by simp [takV]
section
variable {P : Program} {n lo : Nat} {B : List Nat} {Q : Exit → Act → World → Prop} {cs : List Code} {K : Act → World → Prop} {ops : Array Oper} {rest : List Oper} {l : Fr} {os os' : List Own} {u : World} {ty : TypeId} {pos : String} {af : Array Edge} {gd : Option (Nat × Bool)} {dst : Option Tmp} {v : Value} {d : Nat} {x y : Operand} {c : Bool} {o : Oper}
inductive Ld : List Own → Nat → Nat → Value → Prop
  | here {b o : Nat} {c : List Value} {T : TypeId} {r : List Own} {x : Value} (h : c[o]? = some x) : Ld (boxO b c T :: r) b o x
  | there {b o : Nat} {q : Own} {r : List Own} {x : Value} (h : Ld r b o x) : Ld (q :: r) b o x
theorem Ld.get {b o : Nat} {x : Value} {w : World} (h : Ld os b o x) : (∀ q ∈ os, q.pr w) → Cell w b o x := by
  induction h with
  | @here b o c T r x h => intro hp; exact ⟨_, _, _, hp (boxO b c T) (by simp), by simpa using h⟩
  | there _ ih => intro hp; exact ih fun q hq => hp q (by simp [hq])
theorem ld_ {b o : Nat} {x : Value} (h : Ld os b o x := by repeat (first | ((with_reducible apply Ld.here); rfl) | with_reducible apply Ld.there)) : Ld os b o x := h
inductive LdR : List Own → Nat → Nat → Nat → List Value → Prop
  | here {b o s : Nat} {c vs : List Value} {T : TypeId} {r : List Own} (h : NL (takV c o s) vs) : LdR (boxO b c T :: r) b o s vs
  | there {b o s : Nat} {q : Own} {r : List Own} {vs : List Value} (h : LdR r b o s vs) : LdR (q :: r) b o s vs
theorem LdR.get {b o s : Nat} {vs : List Value} {w : World} (h : LdR os b o s vs) : (∀ q ∈ os, q.pr w) → RowAt w b o vs := by
  induction h with
  | @here b o s c vs T r h =>
    intro hp j x hj
    rw [← h.eq, takV_eq, List.getElem?_take] at hj
    split at hj
    · rw [List.getElem?_drop] at hj
      exact ⟨_, _, _, hp (boxO b c T) (by simp), by simpa using hj⟩
    · cases hj
  | there _ ih => intro hp; exact ih fun q hq => hp q (by simp [hq])
theorem ldr_ {b o s : Nat} {vs : List Value} (h : LdR os b o s vs := by repeat (first | ((with_reducible apply LdR.here); (repeat (first | exact NL.nil | apply NL.cons))) | with_reducible apply LdR.there)) : LdR os b o s vs := h
inductive St1 : List Own → Nat → Nat → List Value → List Own → Prop
  | here {b o : Nat} {c c' vs : List Value} {T : TypeId} {r : List Own} (h : NL (setV c o vs) c') (h1 : vs.all (·.oneCell') = true) (hl : Nat.ble (o + vs.length) c.length = true) : St1 (boxO b c T :: r) b o vs (boxO b c' T :: r)
  | there {b o : Nat} {q : Own} {r r' : List Own} {vs : List Value} (h : St1 r b o vs r') : St1 (q :: r) b o vs (q :: r')
theorem St1.get {b o : Nat} {vs : List Value} (h : St1 os b o vs os') : ∃ i c T, os[i]? = some (boxO b c T) ∧ vs.all (·.oneCell') = true ∧ Nat.ble (o + vs.length) c.length = true ∧ os' = os.set i (boxO b (setL c o vs) T) := by
  induction h with
  | here h h1 hl => exact ⟨0, _, _, rfl, h1, hl, by rw [← h.eq, setV_eq _ _ _ (by simpa [Nat.ble_eq] using hl)]; rfl⟩
  | there _ ih => obtain ⟨i, c, T, a, b, d, e⟩ := ih; exact ⟨i + 1, c, T, by simpa using a, b, d, by rw [e]; rfl⟩
theorem st1_ {b o : Nat} {vs : List Value} (h : St1 os b o vs os' := by repeat (first | ((with_reducible apply St1.here); (repeat (first | exact NL.nil | apply NL.cons)); (first | rfl | (simp [cellsL, *]; done) | (simp [cellsL, *]; repeat' (first | exact rfl | apply And.intro))); rfl) | with_reducible apply St1.there)) : St1 os b o vs os' := h
theorem L9 (i : Nat) {t T : TypeId} {s b o : Nat} {c vs : List Value} [ht : TyI P t true s] (hx : opd l x = some (.pointer (some ⟨b, o, none⟩))) (hi : os[i]? = some (boxO b c T)) (hv : NL (takV c o s) vs := by exact nl) (hs : vs.length = s := by rfl) : OpQ P n lo B l os u ⟨dst, .load t x, ty, pos, af, gd⟩ (.agg vs.toArray) :=
  q_loadN ht.h hx (Mem.boxR hi o s) (by rw [← hv.eq, takV_eq]) hs
theorem LS (j : Nat) {t : TypeId} {s b o : Nat} {vs us : List Value} [ht : TyI P t true s] (h : RowAt u b o vs) (hx : opd l x = some (.pointer (some ⟨b, o + j, none⟩))) (hv : NL (takV vs j s) us := by exact nl) (hs : us.length = s := by rfl) : OpQ P n lo B l os u ⟨dst, .load t x, ty, pos, af, gd⟩ (.agg us.toArray) :=
  q_loadN ht.h hx (Mem.pubR (h.sub j s)) (by rw [← hv.eq, takV_eq]) hs
theorem q_bld {t : TypeId} {parts : List (Nat × Operand)} {pv : List (Nat × Value)} {pl : List (Nat × Nat)} {z us vs : List Value} [hz : ZeroI P t z] [hp : FldsI P t pl] (hv : opdP l parts = some pv := by rfl) (hf : fillL pl z pv = some us := by rfl) (hn : NL us vs := by exact nl) :
    OpP P n l ⟨dst, .build t parts.toArray, ty, pos, af, gd⟩ (.agg vs.toArray) := hn.eq ▸ p_build hz.h hp.h hv hf
theorem vis_ {u0 w : World} (h : Vis u0 w := by repeat (first | exact Vis.refl _ | exact St.vis (by assumption) | (refine Vis.trans (Up.vis (by assumption)) ?_))) : Vis u0 w := h
inductive Off : Nat → Nat → Nat → Prop
  | z {o : Nat} : Off o o 0
  | s {o o0 k j : Nat} (h : Off o o0 k) : Off (o + j) o0 (k + j)
theorem Off.eq {o o0 k : Nat} (h : Off o o0 k) : o = o0 + k := by induction h with | z => rfl | s _ ih => omega
theorem off_ {o o0 k : Nat} (h : Off o o0 k := by repeat (first | with_reducible exact Off.z | with_reducible apply Off.s)) : Off o o0 k := h
end
class Elm (T : Ty) (E : outParam ((Value → List Own → Prop) → List Own → Prop)) : Prop where
  h : ∀ K os, E K os → ∀ w v fp, T.own w v fp → ∃ ow, K v (ow ++ os) ∧ fp.Perm (ow.flatMap (·.fp)) ∧ ∀ o ∈ ow, o.pr w
class ElmL (Ts : List Ty) (E : outParam ((List Value → List Own → Prop) → List Own → Prop)) : Prop where
  h : ∀ K os, E K os → ∀ w vs fp, cellsOwn w Ts vs fp → ∃ ow, K vs (ow ++ os) ∧ fp.Perm (ow.flatMap (·.fp)) ∧ ∀ o ∈ ow, o.pr w
instance (x : Value) : Elm (Ty.val x) (fun K os => K x os) := ⟨fun K os h w v fp ⟨e, e2⟩ => ⟨[], by subst e; exact h, by rw [e2]; exact List.Perm.refl _, by simp⟩⟩
instance (n : Int) : Elm (Ty.int n) (fun K os => K (.int .i64 n) os) := inferInstanceAs (Elm (Ty.val _) _)
instance (b : Bool) : Elm (Ty.bool b) (fun K os => K (.bool b) os) := inferInstanceAs (Elm (Ty.val _) _)
instance (s : List UInt8) : Elm (Ty.str s) (fun K os => K (.string (sB s)) os) := inferInstanceAs (Elm (Ty.val _) _)
instance : Elm Ty.any (fun K os => ∀ v, v.oneCell' = true → K v os) := ⟨fun K os h w v fp ⟨e, e2⟩ => ⟨[], h v e2, by rw [e]; exact List.Perm.refl _, by simp⟩⟩
instance (e : TypeId) (xs : List Int) : Elm (Ty.ints e xs) (fun K os => ∀ A c, xs.length ≤ c → c ≤ 9223372036854775807 → K (.slice A xs.length c) (rowO e 1 (.slice A xs.length c) xs.length (ints_ xs) [] :: os)) :=
  ⟨fun K os h w v fp ho => by
    obtain ⟨ow, ⟨A, c, rfl, rfl, h1, h2⟩, he, hp⟩ := Spl.ints e xs w v fp ho
    exact ⟨_, h A c h1 h2, by rw [he], hp⟩⟩
instance (e : TypeId) (xs : List Int) : Elm (Ty.ro e xs) (fun K os => ∀ A c, xs.length ≤ c → c ≤ 9223372036854775807 → K (.slice A xs.length c) (roO e (.slice A xs.length c) xs.length (ints_ xs) :: os)) :=
  ⟨fun K os h w v fp ho => by
    obtain ⟨ow, ⟨A, c, rfl, rfl, h1, h2⟩, he, hp⟩ := Spl.ro e xs w v fp ho
    exact ⟨_, h A c h1 h2, by rw [he], hp⟩⟩
instance (e : TypeId) (sz n : Nat) (Ts : List Ty) : Elm (Ty.sl e sz n Ts) (fun K os => ∀ A c vs f, n ≤ c → c ≤ 9223372036854775807 → K (.slice A n c) (rowO e sz (.slice A n c) n vs [] :: ownC Ts vs f :: os)) :=
  ⟨fun K os h w v fp ho => by
    obtain ⟨ow, ⟨A, c, vs, f, rfl, rfl, h1, h2⟩, he, hp⟩ := Spl.sl e sz n Ts w v fp ho
    exact ⟨_, h A c vs f h1 h2, by rw [he], hp⟩⟩
theorem strs_cells {w : World} : ∀ {l : List (List UInt8)} {vs : List Value} {f : List Nat}, cellsOwn w (l.map Ty.str) vs f → vs = txs_ l ∧ f = []
  | [], [], _, h => ⟨rfl, h⟩
  | [], _ :: _, _, h => h.elim
  | _ :: _, [], _, h => h.elim
  | x :: l, v :: vs, f, h => by
    obtain ⟨f1, f2, rfl, ⟨h1, rfl⟩, h2⟩ := h
    obtain ⟨rfl, rfl⟩ := strs_cells h2
    subst h1
    exact ⟨rfl, rfl⟩
instance (e : TypeId) (xs : List (List UInt8)) : Elm (Ty.strs e xs) (fun K os => ∀ A c, xs.length ≤ c → c ≤ 9223372036854775807 → K (.slice A xs.length c) (rowO e 1 (.slice A xs.length c) xs.length (txs_ xs) [] :: os)) :=
  ⟨fun K os h w v fp ho => by
    obtain ⟨A, c, rfl, h1, h2⟩ := sl_form ((Ty.strs e xs).ownok ho)
    obtain ⟨_, vs, f, h3, h4, h5⟩ := ho
    obtain ⟨rfl, rfl⟩ := strs_cells h5
    exact ⟨[rowO e 1 (.slice A xs.length c) xs.length (txs_ xs) []], h A c h1 h2, by rw [h4]; simp [rowO], fun o ho => by simp at ho; subst ho; exact h3⟩⟩
instance : ElmL [] (fun K os => K [] os) := ⟨fun K os h w vs fp ho => by
    cases vs with
    | nil => exact ⟨[], h, by rw [show fp = [] from ho]; exact List.Perm.refl _, by simp⟩
    | cons => exact ho.elim⟩
instance (T : Ty) (Ts : List Ty) (E1 : (Value → List Own → Prop) → List Own → Prop) (E2 : (List Value → List Own → Prop) → List Own → Prop) [h1 : Elm T E1] [h2 : ElmL Ts E2] : ElmL (T :: Ts) (fun K os => E1 (fun v os1 => E2 (fun vs os2 => K (v :: vs) os2) os1) os) :=
  ⟨fun K os h w vs fp ho => by
    cases vs with
    | nil => exact ho.elim
    | cons v vs =>
      obtain ⟨f1, f2, rfl, ho1, ho2⟩ := ho
      obtain ⟨w1, k1, p1, q1⟩ := h1.h _ _ h w v f1 ho1
      obtain ⟨w2, k2, p2, q2⟩ := h2.h _ _ k1 w vs f2 ho2
      refine ⟨w2 ++ w1, by rw [List.append_assoc]; exact k2, ?_, fun o ho => (List.mem_append.1 ho).elim (q2 o) (q1 o)⟩
      rw [List.flatMap_append]
      exact (p1.append p2).trans List.perm_append_comm⟩
instance (Ts : List Ty) (E : (List Value → List Own → Prop) → List Own → Prop) [h : ElmL Ts E] : Elm (Ty.agg Ts) (fun K os => E (fun vs os' => K (.agg vs.toArray) os') os) :=
  ⟨fun K os k w v fp ⟨vs, e, ho⟩ => by subst e; exact h.h (fun vs os' => K (.agg vs.toArray) os') os k w vs fp ho⟩
instance (Ts : List Ty) (E : (List Value → List Own → Prop) → List Own → Prop) [h : ElmL Ts E] : Elm (Ty.tup Ts) (fun K os => E (fun vs os' => K (.tuple vs.toArray) os') os) :=
  ⟨fun K os k w v fp ⟨vs, e, ho⟩ => by subst e; exact h.h (fun vs os' => K (.tuple vs.toArray) os') os k w vs fp ho⟩
instance (T : TypeId) (Ts : List Ty) (E : (List Value → List Own → Prop) → List Own → Prop) [h : ElmL Ts E] : Elm (Ty.box T Ts) (fun K os => ∀ b, E (fun vs os' => K (.pointer (some ⟨b, 0, none⟩)) (boxO b vs T :: os')) os) :=
  ⟨fun K os k w v fp ⟨b, vs, f, e, e2, hb, ho⟩ => by
    subst e; subst e2
    obtain ⟨w1, k1, p1, q1⟩ := h.h (fun vs os' => K (.pointer (some ⟨b, 0, none⟩)) (boxO b vs T :: os')) os (k b) w vs f ho
    exact ⟨boxO b vs T :: w1, k1, by simpa [boxO] using p1, fun o ho => by
      rcases List.mem_cons.1 ho with rfl | ho
      · exact hb
      · exact q1 o ho⟩⟩
instance {α : Type} (p : α → Prop) (F : α → Ty) (E : α → (Value → List Own → Prop) → List Own → Prop) [h : ∀ x, Elm (F x) (E x)] : Elm (Ty.ex p F) (fun K os => ∀ x, p x → E x K os) :=
  ⟨fun K os k w v fp ⟨x, hp, ho⟩ => (h x).h K os (k x hp) w v fp ho⟩
class Opn (T : Ty) (E : outParam (World → (Value → Prop) → Prop)) : Prop where h : ∀ u K, E u K → ∀ v, T.ok u v → K v
class OpnL (Ts : List Ty) (E : outParam (World → (List Value → Prop) → Prop)) : Prop where h : ∀ u K, E u K → ∀ vs, cellsOk u Ts vs → K vs
instance (x : Value) : Opn (Ty.val x) (fun _ K => K x) := ⟨fun u K h v e => by rw [show v = x from e]; exact h⟩
instance (n : Int) : Opn (Ty.int n) (fun _ K => K (.int .i64 n)) := inferInstanceAs (Opn (Ty.val _) _)
instance (b : Bool) : Opn (Ty.bool b) (fun _ K => K (.bool b)) := inferInstanceAs (Opn (Ty.val _) _)
instance (s : List UInt8) : Opn (Ty.str s) (fun _ K => K (.string (sB s))) := inferInstanceAs (Opn (Ty.val _) _)
instance : Opn Ty.any (fun _ K => ∀ v, v.oneCell' = true → K v) := ⟨fun u K h v e => h v e⟩
instance (e : TypeId) (xs : List Int) : Opn (Ty.ints e xs) (fun u K => ∀ A c, (Ty.ints e xs).ok u (.slice A xs.length c) → xs.length ≤ c → c ≤ 9223372036854775807 → K (.slice A xs.length c)) :=
  ⟨fun u K k v h => by obtain ⟨A, c, rfl, h1, h2⟩ := ints_form h; exact k A c h h1 h2⟩
instance (e : TypeId) (xs : List Int) : Opn (Ty.ro e xs) (fun u K => ∀ A c, (Ty.ints e xs).ok u (.slice A xs.length c) → xs.length ≤ c → c ≤ 9223372036854775807 → K (.slice A xs.length c)) :=
  ⟨fun u K k v h => by obtain ⟨A, c, rfl, h1, h2⟩ := ro_form h; exact k A c h h1 h2⟩
instance (e : TypeId) (sz n : Nat) (Ts : List Ty) : Opn (Ty.sl e sz n Ts) (fun u K => ∀ A c, (Ty.sl e sz n Ts).ok u (.slice A n c) → n ≤ c → c ≤ 9223372036854775807 → K (.slice A n c)) :=
  ⟨fun u K k v h => by obtain ⟨A, c, rfl, h1, h2⟩ := sl_form h; exact k A c h h1 h2⟩
instance (e : TypeId) (n : Nat) : Opn (Ty.bytes e n) (fun u K => ∀ A c, (Ty.bytes e n).ok u (.slice A n c) → n ≤ c → c ≤ 9223372036854775807 → K (.slice A n c)) :=
  ⟨fun u K k v h => by obtain ⟨A, c, rfl, h1, h2⟩ := sl_form h; exact k A c h h1 h2⟩
instance (e : TypeId) (xs : List (List UInt8)) : Opn (Ty.strs e xs) (fun u K => ∀ A c, (Ty.strs e xs).ok u (.slice A xs.length c) → xs.length ≤ c → c ≤ 9223372036854775807 → K (.slice A xs.length c)) :=
  ⟨fun u K k v h => by obtain ⟨A, c, rfl, h1, h2⟩ := sl_form h; exact k A c h h1 h2⟩
instance (c : Bool) (T : Ty) : Opn (Ty.opt c T) (fun u K => ∀ v, (Ty.opt c T).ok u v → K v) := ⟨fun u K k v h => k v h⟩
instance : OpnL [] (fun _ K => K []) := ⟨fun u K k vs h => by cases vs with | nil => exact k | cons => exact h.elim⟩
instance (T : Ty) (Ts : List Ty) (E1 : World → (Value → Prop) → Prop) (E2 : World → (List Value → Prop) → Prop) [h1 : Opn T E1] [h2 : OpnL Ts E2] : OpnL (T :: Ts) (fun u K => E1 u (fun v => E2 u (fun vs => K (v :: vs)))) :=
  ⟨fun u K k vs h => by
    cases vs with
    | nil => exact h.elim
    | cons v vs => exact h2.h u (fun vs => K (v :: vs)) (h1.h u _ k v h.1) vs h.2⟩
instance (Ts : List Ty) (E : World → (List Value → Prop) → Prop) [h : OpnL Ts E] : Opn (Ty.agg Ts) (fun u K => E u (fun vs => K (.agg vs.toArray))) := ⟨fun u K k v ⟨vs, e, ho⟩ => by subst e; exact h.h u (fun vs => K (.agg vs.toArray)) k vs ho⟩
instance (Ts : List Ty) (E : World → (List Value → Prop) → Prop) [h : OpnL Ts E] : Opn (Ty.tup Ts) (fun u K => E u (fun vs => K (.tuple vs.toArray))) := ⟨fun u K k v ⟨vs, e, ho⟩ => by subst e; exact h.h u (fun vs => K (.tuple vs.toArray)) k vs ho⟩
instance (Ts : List Ty) (E : World → (List Value → Prop) → Prop) [h : OpnL Ts E] : Opn (Ty.ref Ts) (fun u K => ∀ b o, E u (fun vs => RowAt u b o vs → K (.pointer (some ⟨b, o, none⟩)))) :=
  ⟨fun u K k v ⟨b, o, vs, e, ho, hr⟩ => by subst e; exact h.h u (fun vs => RowAt u b o vs → K (.pointer (some ⟨b, o, none⟩))) (k b o) vs ho hr⟩
instance (T : TypeId) (Ts : List Ty) (E : World → (List Value → Prop) → Prop) [h : OpnL Ts E] : Opn (Ty.box T Ts) (fun u K => ∀ b o, E u (fun vs => RowAt u b o vs → K (.pointer (some ⟨b, o, none⟩)))) :=
  ⟨fun u K k v ⟨b, o, vs, e, ho, hr⟩ => by subst e; exact h.h u (fun vs => RowAt u b o vs → K (.pointer (some ⟨b, o, none⟩))) (k b o) vs ho hr⟩
instance {α : Type} (p : α → Prop) (F : α → Ty) (E : α → World → (Value → Prop) → Prop) [h : ∀ x, Opn (F x) (E x)] : Opn (Ty.ex p F) (fun u K => ∀ x, p x → E x u K) := ⟨fun u K k v ⟨x, hp, ho⟩ => (h x).h u K (k x hp) v ho⟩
class Frm (T : Ty) (E : outParam ((Value → Prop) → Prop)) : Prop where h : ∀ K, E K → ∀ w v, T.ok w v → K v
class FrmL (Ts : List Ty) (E : outParam ((List Value → Prop) → Prop)) : Prop where h : ∀ K, E K → ∀ w vs, cellsOk w Ts vs → K vs
instance (x : Value) : Frm (Ty.val x) (fun K => K x) := ⟨fun K h w v e => by rw [show v = x from e]; exact h⟩
instance (n : Int) : Frm (Ty.int n) (fun K => K (.int .i64 n)) := inferInstanceAs (Frm (Ty.val _) _)
instance (b : Bool) : Frm (Ty.bool b) (fun K => K (.bool b)) := inferInstanceAs (Frm (Ty.val _) _)
instance (s : List UInt8) : Frm (Ty.str s) (fun K => K (.string (sB s))) := inferInstanceAs (Frm (Ty.val _) _)
instance : Frm Ty.any (fun K => ∀ v, v.oneCell' = true → K v) := ⟨fun K h w v e => h v e⟩
instance (e : TypeId) (xs : List Int) : Frm (Ty.ints e xs) (fun K => ∀ A c, xs.length ≤ c → c ≤ 9223372036854775807 → K (.slice A xs.length c)) := ⟨fun K k w v h => by obtain ⟨A, c, rfl, h1, h2⟩ := ints_form h; exact k A c h1 h2⟩
instance (e : TypeId) (xs : List Int) : Frm (Ty.ro e xs) (fun K => ∀ A c, xs.length ≤ c → c ≤ 9223372036854775807 → K (.slice A xs.length c)) := ⟨fun K k w v h => by obtain ⟨A, c, rfl, h1, h2⟩ := ro_form h; exact k A c h1 h2⟩
instance (e : TypeId) (sz n : Nat) (Ts : List Ty) : Frm (Ty.sl e sz n Ts) (fun K => ∀ A c, n ≤ c → c ≤ 9223372036854775807 → K (.slice A n c)) := ⟨fun K k w v h => by obtain ⟨A, c, rfl, h1, h2⟩ := sl_form h; exact k A c h1 h2⟩
instance : FrmL [] (fun K => K []) := ⟨fun K k w vs h => by cases vs with | nil => exact k | cons => exact h.elim⟩
instance (T : Ty) (Ts : List Ty) (E1 : (Value → Prop) → Prop) (E2 : (List Value → Prop) → Prop) [h1 : Frm T E1] [h2 : FrmL Ts E2] : FrmL (T :: Ts) (fun K => E1 (fun v => E2 (fun vs => K (v :: vs)))) :=
  ⟨fun K k w vs h => by
    cases vs with
    | nil => exact h.elim
    | cons v vs => exact h2.h (fun vs => K (v :: vs)) (h1.h _ k w v h.1) w vs h.2⟩
class ElmS (T : Ty) (E : outParam ((Value → List Own → Prop) → List Own → Prop)) : Prop where
  h : ∀ K os, E K os → ∀ w v fp, T.own w v fp → ∃ ow, K v (ow ++ os) ∧ fp.Perm (ow.flatMap (·.fp)) ∧ ∀ o ∈ ow, o.pr w
class ElmSL (Ts : List Ty) (E : outParam ((List Value → List Own → Prop) → List Own → Prop)) : Prop where
  h : ∀ K os, E K os → ∀ w vs fp, cellsOwn w Ts vs fp → ∃ ow, K vs (ow ++ os) ∧ fp.Perm (ow.flatMap (·.fp)) ∧ ∀ o ∈ ow, o.pr w
instance (priority := low) (T : Ty) (E : (Value → List Own → Prop) → List Own → Prop) [h : Elm T E] : ElmS T E := ⟨h.h⟩
instance (Ts : List Ty) (E : (List Value → Prop) → Prop) [h : FrmL Ts E] : ElmS (Ty.agg Ts) (fun K os => E (fun vs => ∀ f, K (.agg vs.toArray) (ownC Ts vs f :: os))) :=
  ⟨fun K os k w v fp ⟨vs, e, ho⟩ => by
    subst e
    exact ⟨[ownC Ts vs fp], h.h _ k w vs ho.ok fp, by simp [ownC], fun o ho' => by simp at ho'; subst ho'; exact ho⟩⟩
instance : ElmSL [] (fun K os => K [] os) := ⟨fun K os h w vs fp ho => by
    cases vs with
    | nil => exact ⟨[], h, by rw [show fp = [] from ho]; exact List.Perm.refl _, by simp⟩
    | cons => exact ho.elim⟩
instance (T : Ty) (Ts : List Ty) (E1 : (Value → List Own → Prop) → List Own → Prop) (E2 : (List Value → List Own → Prop) → List Own → Prop) [h1 : ElmS T E1] [h2 : ElmSL Ts E2] : ElmSL (T :: Ts) (fun K os => E1 (fun v os1 => E2 (fun vs os2 => K (v :: vs) os2) os1) os) :=
  ⟨fun K os h w vs fp ho => by
    cases vs with
    | nil => exact ho.elim
    | cons v vs =>
      obtain ⟨f1, f2, rfl, ho1, ho2⟩ := ho
      obtain ⟨w1, k1, p1, q1⟩ := h1.h _ _ h w v f1 ho1
      obtain ⟨w2, k2, p2, q2⟩ := h2.h _ _ k1 w vs f2 ho2
      refine ⟨w2 ++ w1, by rw [List.append_assoc]; exact k2, ?_, fun o ho => (List.mem_append.1 ho).elim (q2 o) (q1 o)⟩
      rw [List.flatMap_append]
      exact (p1.append p2).trans List.perm_append_comm⟩
instance (Ts : List Ty) (E : (List Value → List Own → Prop) → List Own → Prop) [h : ElmSL Ts E] : ElmS (Ty.tup Ts) (fun K os => E (fun vs os' => K (.tuple vs.toArray) os') os) :=
  ⟨fun K os k w v fp ⟨vs, e, ho⟩ => by subst e; exact h.h (fun vs os' => K (.tuple vs.toArray) os') os k w vs fp ho⟩
theorem opn {T : Ty} {u : World} {K : Value → Prop} {E : World → (Value → Prop) → Prop} [i : Opn T E] (k : E u K) : ∀ v, T.ok u v → K v := i.h u K k
section
variable {P : Program} {n lo : Nat} {B : List Nat} {Q : Exit → Act → World → Prop} {cs : List Code} {K : Act → World → Prop} {ops : Array Oper} {rest : List Oper} {l : Fr} {os os' : List Own} {u : World} {ty : TypeId} {pos : String} {af : Array Edge} {v : Value} {d : Nat} {x y : Operand} {c : Bool} {o : Oper}
  {u₀ : World} {os₀ : List Own} {nm : List Nat} {fuel i : Nat} {listed : Array Bool} {z : Bool}
theorem e_callE {f : FuncId} {xs : List Operand} {ts : Array TypeId} {vs : List Value} {T : Ty} {E : (Value → List Own → Prop) → List Own → Prop} {K0 : Value → List Own → Prop} {dst : Option Tmp} {gd : Option (Nat × Bool)} (hf : goodF P f = true) (hx : opds l xs = some vs) [he : Elm T E] (hc : ∀ w, St lo B u w os → Ret P f vs w T) (k : E K0 os) :
    OpE P n lo B l os u ⟨dst, .call { callee := .value (.func f), args := xs.toArray, argTypes := ts }, ty, pos, af, gd⟩ true (fun v' os' u' => K0 v' os' ∧ u = u') := fun a w ha hw K Q hk => by
  unfold Oper.wp
  rw [run_call hf ha hx, Oper.upon_enter]
  refine Calls.mono (hc w hw) fun e w' h => ?_
  obtain ⟨v, fp, rfl, ho, hn, hfp, hx'⟩ := h
  obtain ⟨ow, hR, hfe, hp⟩ := he.h K0 os k w' v fp ho
  have h1 : St lo B u w' ((ownO ⟨fun _ _ => True, fun w _ f => f = fp ∧ ∀ o ∈ ow, o.pr w, fun _ _ => trivial, fun {w w' v f} h k => ⟨h.1, fun o ho => o.loc (fun j hj => k j (by rw [h.1]; exact hfe.mem_iff.2 (List.mem_flatMap.2 ⟨o, ho, hj⟩))) (h.2 o ho)⟩, fun _ => trivial⟩ v fp) :: os) :=
    hw.new hx' (o := ownO _ v fp) hfp hn ⟨rfl, hp⟩
  refine hk _ _ u _ ⟨hR, rfl⟩ (Up.refl lo u) (h1.conv (fun o ho => ?_) ?_) (fun _ => hx')
  · rcases List.mem_append.1 ho with ho | ho
    · exact hp o ho
    · exact h1.prs o (by simp [ho])
  · simp only [List.flatMap_append, List.flatMap_cons, ownO]
    exact List.Perm.append_right _ hfe.symm
theorem e_callS {f : FuncId} {xs : List Operand} {ts : Array TypeId} {vs : List Value} {T : Ty} {E : (Value → List Own → Prop) → List Own → Prop} {K0 : Value → List Own → Prop} {dst : Option Tmp} {gd : Option (Nat × Bool)} (hf : goodF P f = true) (hx : opds l xs = some vs) [he : ElmS T E] (hc : ∀ w, St lo B u w os → Ret P f vs w T) (k : E K0 os) :
    OpE P n lo B l os u ⟨dst, .call { callee := .value (.func f), args := xs.toArray, argTypes := ts }, ty, pos, af, gd⟩ true (fun v' os' u' => K0 v' os' ∧ u = u') := fun a w ha hw K Q hk => by
  unfold Oper.wp
  rw [run_call hf ha hx, Oper.upon_enter]
  refine Calls.mono (hc w hw) fun e w' h => ?_
  obtain ⟨v, fp, rfl, ho, hn, hfp, hx'⟩ := h
  obtain ⟨ow, hR, hfe, hp⟩ := he.h K0 os k w' v fp ho
  have h1 : St lo B u w' ((ownO ⟨fun _ _ => True, fun w _ f => f = fp ∧ ∀ o ∈ ow, o.pr w, fun _ _ => trivial, fun {w w' v f} h k => ⟨h.1, fun o ho => o.loc (fun j hj => k j (by rw [h.1]; exact hfe.mem_iff.2 (List.mem_flatMap.2 ⟨o, ho, hj⟩))) (h.2 o ho)⟩, fun _ => trivial⟩ v fp) :: os) :=
    hw.new hx' (o := ownO _ v fp) hfp hn ⟨rfl, hp⟩
  refine hk _ _ u _ ⟨hR, rfl⟩ (Up.refl lo u) (h1.conv (fun o ho => ?_) ?_) (fun _ => hx')
  · rcases List.mem_append.1 ho with ho | ho
    · exact hp o ho
    · exact h1.prs o (by simp [ho])
  · simp only [List.flatMap_append, List.flatMap_cons, ownO]
    exact List.Perm.append_right _ hfe.symm
variable {gd : Option (Nat × Bool)}
theorem zS {id : Nat} {y : Code} {os2 : List Oper} (h : JL P n lo B (seqs P Q (y :: cs)) os2.toArray os2 l os u) : Js P n lo B Q (.seq (.region id os2.toArray false) y :: cs) l os u := Js.seq (Js.region h)
theorem zN {id : Nat} {y : Code} {os2 : List Oper} (h : JL P n lo B (seqs P Q (y :: cs)) os2.toArray os2 l os u) : JL P n lo B (seqs P Q (.seq (.region id os2.toArray false) y :: cs)) ops [] l os u := JL.nil (Js.seq (Js.region h))
theorem zG {id : Nat} {os2 : List Oper} (h : JL P n lo B (seqs P Q cs) os2.toArray os2 l os u) : JL P n lo B (seqs P Q (.region id os2.toArray false :: cs)) ops [] l os u := JL.nil (Js.region h)
theorem zJ {c y : Code} (h : Js P n lo B Q (c :: y :: cs) l os u) : JL P n lo B (seqs P Q (.seq c y :: cs)) ops [] l os u := JL.nil (Js.seq h)
theorem fh {t : TypeId} {k off : Nat} {ft : TypeId} {g : Bool} {s : Nat} [h : FldI P t k off ft g s] : fldOf P t k = some (off, ft, g, s) := h.h
theorem Qm {v : Value} (h : opd l x = some v) (k : JL P n lo B K ops rest ((d, v) :: l) os u) (hn : Nat.blt d n = true := by rfl) : JL P n lo B K ops (⟨some d, .move x, ty, pos, af, none⟩ :: rest) l os u := JL.q (p_move h).q k rfl rfl hn
theorem Qa {v : Value} (h : opd l x = some v) (k : JL P n lo B K ops rest ((d, v) :: l) os u) (hn : Nat.blt d n = true := by rfl) : JL P n lo B K ops (⟨some d, .assign x, ty, pos, af, none⟩ :: rest) l os u := JL.q (p_assign h).q k rfl rfl hn
theorem Qf {b o j off : Nat} {t ft : TypeId} {g : Bool} {s : Nat} (hf : fldOf P t j = some (off, ft, g, s + 1)) (h : opd l x = some (.pointer (some ⟨b, o, none⟩))) (k : JL P n lo B K ops rest ((d, .pointer (some ⟨b, o + off, none⟩)) :: l) os u) (hn : Nat.blt d n = true := by rfl) : JL P n lo B K ops (⟨some d, .fieldAddr t x j, ty, pos, af, none⟩ :: rest) l os u := JL.q (p_fieldAddr hf h).q k rfl rfl hn
theorem Qx {vs : List Value} {i : Nat} {v : Value} (h : opd l x = some (.tuple vs.toArray)) (hv : vs[i]? = some v) (k : JL P n lo B K ops rest ((d, v) :: l) os u) (hn : Nat.blt d n = true := by rfl) : JL P n lo B K ops (⟨some d, .extract x i, ty, pos, af, none⟩ :: rest) l os u := JL.q (p_extract h hv).q k rfl rfl hn
theorem Qt {b : Bool} {t : TypeId} (h : opd l x = some (.bool b)) (k : JL P n lo B K ops rest ((d, .bool (!b)) :: l) os u) (hn : Nat.blt d n = true := by rfl) : JL P n lo B K ops (⟨some d, .unOp .not t x, ty, pos, af, none⟩ :: rest) l os u := JL.q (p_not h).q k rfl rfl hn
theorem Ql {kk : IntKind} {i j : Int} {t t' : TypeId} (h1 : opd l x = some (.int kk i)) (h2 : opd l y = some (.int kk j)) (k : JL P n lo B K ops rest ((d, .bool (decide (i < j))) :: l) os u) (hn : Nat.blt d n = true := by rfl) : JL P n lo B K ops (⟨some d, .binOp .lss t x y t', ty, pos, af, none⟩ :: rest) l os u := JL.q (p_lss h1 h2).q k rfl rfl hn
theorem Qk {kk : IntKind} {i j : Int} {t t' : TypeId} (h1 : opd l x = some (.int kk i)) (h2 : opd l y = some (.int kk j)) (k : JL P n lo B K ops rest ((d, .bool (decide (i ≤ j))) :: l) os u) (hn : Nat.blt d n = true := by rfl) : JL P n lo B K ops (⟨some d, .binOp .leq t x y t', ty, pos, af, none⟩ :: rest) l os u := JL.q (p_leq h1 h2).q k rfl rfl hn
theorem Qg {kk : IntKind} {i j : Int} {t t' : TypeId} (h1 : opd l x = some (.int kk i)) (h2 : opd l y = some (.int kk j)) (k : JL P n lo B K ops rest ((d, .bool (decide (j < i))) :: l) os u) (hn : Nat.blt d n = true := by rfl) : JL P n lo B K ops (⟨some d, .binOp .gtr t x y t', ty, pos, af, none⟩ :: rest) l os u := JL.q (p_gtr h1 h2).q k rfl rfl hn
theorem Qh {kk : IntKind} {i j : Int} {t t' : TypeId} (h1 : opd l x = some (.int kk i)) (h2 : opd l y = some (.int kk j)) (k : JL P n lo B K ops rest ((d, .bool (decide (j ≤ i))) :: l) os u) (hn : Nat.blt d n = true := by rfl) : JL P n lo B K ops (⟨some d, .binOp .geq t x y t', ty, pos, af, none⟩ :: rest) l os u := JL.q (p_geq h1 h2).q k rfl rfl hn
theorem Qe {kk : IntKind} {i j : Int} {t t' : TypeId} (h1 : opd l x = some (.int kk i)) (h2 : opd l y = some (.int kk j)) (k : JL P n lo B K ops rest ((d, .bool (decide (i = j))) :: l) os u) (hn : Nat.blt d n = true := by rfl) : JL P n lo B K ops (⟨some d, .binOp .eql t x y t', ty, pos, af, none⟩ :: rest) l os u := JL.q (p_eql h1 h2).q k rfl rfl hn
theorem Qd {kk : IntKind} {i j : Int} {t t' : TypeId} (h1 : opd l x = some (.int kk i)) (h2 : opd l y = some (.int kk j)) (k : JL P n lo B K ops rest ((d, .bool (!decide (i = j))) :: l) os u) (hn : Nat.blt d n = true := by rfl) : JL P n lo B K ops (⟨some d, .binOp .neq t x y t', ty, pos, af, none⟩ :: rest) l os u := JL.q (p_neq h1 h2).q k rfl rfl hn
theorem Qc {p : Addr} (h : opd l x = some (.pointer (some p))) (k : JL P n lo B K ops rest ((d, .pointer (some p)) :: l) os u) (hn : Nat.blt d n = true := by rfl) : JL P n lo B K ops (⟨some d, .nilCheck x, ty, pos, af, none⟩ :: rest) l os u := JL.q (p_nilCheck h).q k rfl rfl hn
theorem Qz {t e : TypeId} {sz by' : Nat} {z : List Value} {A : Option Addr} {m c : Nat} [ht : ElI P t e sz by' z] (hx : opd l x = some (.slice A m c)) (k : JL P n lo B K ops rest ((d, .int .i64 m) :: l) os u) (hn : Nat.blt d n = true := by rfl) : JL P n lo B K ops (⟨some d, .call { callee := .builtin .len, args := #[x], argTypes := #[t] }, ty, pos, af, none⟩ :: rest) l os u := JL.q (p_len ht.h hx).q k rfl rfl hn
theorem Qi {j off s : Nat} {t ft : TypeId} {vs : List Value} {v : Value} (hf : fldOf P t j = some (off, ft, false, s)) (h : opd l x = some (.agg vs.toArray)) (hv : vs[off]? = some v) (k : JL P n lo B K ops rest ((d, v) :: l) os u) (hn : Nat.blt d n = true := by rfl) : JL P n lo B K ops (⟨some d, .field t x j, ty, pos, af, none⟩ :: rest) l os u := JL.q (p_field hf h hv).q k rfl rfl hn
theorem Qb {t : TypeId} {parts : List (Nat × Operand)} {pv : List (Nat × Value)} {pl : List (Nat × Nat)} {z us vs : List Value} [hz : ZeroI P t z] [hp : FldsI P t pl] (k : JL P n lo B K ops rest ((d, .agg vs.toArray) :: l) os u) (hv : opdP l parts = some pv := by rfl) (hf : fillL pl z pv = some us := by rfl) (hl : NL us vs := by exact nl) (hn : Nat.blt d n = true := by rfl) :
    JL P n lo B K ops (⟨some d, .build t parts.toArray, ty, pos, af, none⟩ :: rest) l os u := JL.q (hl.eq ▸ p_build hz.h hp.h hv hf : OpP P n l _ _).q k rfl rfl hn
theorem Qp {i j : Int} {t t' : TypeId} (h1 : opd l x = some (.int .i64 i)) (h2 : opd l y = some (.int .i64 j)) (k : JL P n lo B K ops rest ((d, .int .i64 (i + j)) :: l) os u) (hr : -9223372036854775808 ≤ i + j ∧ i + j ≤ 9223372036854775807 := by omega) (hn : Nat.blt d n = true := by rfl) : JL P n lo B K ops (⟨some d, .binOp .add t x y t', ty, pos, af, none⟩ :: rest) l os u := JL.q (p_add h1 h2 (IntWalk.i64_in _ (by omega))).q k rfl rfl hn
theorem Qs {i j : Int} {t t' : TypeId} (h1 : opd l x = some (.int .i64 i)) (h2 : opd l y = some (.int .i64 j)) (k : JL P n lo B K ops rest ((d, .int .i64 (i - j)) :: l) os u) (hr : -9223372036854775808 ≤ i - j ∧ i - j ≤ 9223372036854775807 := by omega) (hn : Nat.blt d n = true := by rfl) : JL P n lo B K ops (⟨some d, .binOp .sub t x y t', ty, pos, af, none⟩ :: rest) l os u := JL.q (p_sub h1 h2 (IntWalk.i64_in _ (by omega))).q k rfl rfl hn
theorem Qu {i j : Int} {t t' : TypeId} (h1 : opd l x = some (.int .i64 i)) (h2 : opd l y = some (.int .i64 j)) (k : JL P n lo B K ops rest ((d, .int .i64 (i * j)) :: l) os u) (hr : -9223372036854775808 ≤ i * j ∧ i * j ≤ 9223372036854775807 := by omega) (hn : Nat.blt d n = true := by rfl) : JL P n lo B K ops (⟨some d, .binOp .mul t x y t', ty, pos, af, none⟩ :: rest) l os u := JL.q (p_mul h1 h2 (IntWalk.i64_in _ (by omega))).q k rfl rfl hn
theorem Q0 (i : Nat) {t T : TypeId} {s b o : Nat} {c : List Value} {v : Value} [ht : TyI P t false s] (hx : opd l x = some (.pointer (some ⟨b, o, none⟩))) (hi : os[i]? = some (boxO b c T)) (hv : c[o]? = some v) (k : JL P n lo B K ops rest ((d, v) :: l) os u) (hn : Nat.blt d n = true := by rfl) : JL P n lo B K ops (⟨some d, .load t x, ty, pos, af, none⟩ :: rest) l os u := JL.q (q_load1 ht.h hx (Mem.box hi hv)) k rfl rfl hn
theorem Q9 (i : Nat) {t T : TypeId} {s b o : Nat} {c vs : List Value} [ht : TyI P t true s] (hx : opd l x = some (.pointer (some ⟨b, o, none⟩))) (hi : os[i]? = some (boxO b c T)) (k : JL P n lo B K ops rest ((d, .agg vs.toArray) :: l) os u) (hv : NL (takV c o s) vs := by exact nl) (hs : vs.length = s := by rfl) (hn : Nat.blt d n = true := by rfl) : JL P n lo B K ops (⟨some d, .load t x, ty, pos, af, none⟩ :: rest) l os u := JL.q (q_loadN ht.h hx (Mem.boxR hi o s) (by rw [← hv.eq, takV_eq]) hs) k rfl rfl hn
theorem QC {t : TypeId} {s b o : Nat} {v : Value} [ht : TyI P t false s] (h : Cell u b o v) (hx : opd l x = some (.pointer (some ⟨b, o, none⟩))) (k : JL P n lo B K ops rest ((d, v) :: l) os u) (hn : Nat.blt d n = true := by rfl) : JL P n lo B K ops (⟨some d, .load t x, ty, pos, af, none⟩ :: rest) l os u := JL.q (q_load1 ht.h hx (Mem.pub h)) k rfl rfl hn
theorem QS (j : Nat) {t : TypeId} {s b o : Nat} {vs us : List Value} [ht : TyI P t true s] (h : RowAt u b o vs) (hx : opd l x = some (.pointer (some ⟨b, o + j, none⟩))) (k : JL P n lo B K ops rest ((d, .agg us.toArray) :: l) os u) (hv : NL (takV vs j s) us := by exact nl) (hs : us.length = s := by rfl) (hn : Nat.blt d n = true := by rfl) : JL P n lo B K ops (⟨some d, .load t x, ty, pos, af, none⟩ :: rest) l os u := JL.q (q_loadN ht.h hx (Mem.pubR (h.sub j s)) (by rw [← hv.eq, takV_eq]) hs) k rfl rfl hn
theorem zw (i : Nat) {t T : TypeId} {g : Bool} {s b o : Nat} {v : Value} {c c' : List Value} [ht : TyI P t g s] (hx : opd l x = some (.pointer (some ⟨b, o, none⟩))) (hy : opd l y = some v) (hi : os[i]? = some (boxO b c T)) (k : JL P n lo B K ops rest l os' u) (hc : NL (setV c o (cellsL v)) c' := by exact nl) (ho : NL (os.set i (boxO b c' T)) os' := by exact nl) (hs : (cellsL v).length = s := by rfl) (hl : Nat.ble (o + s) c.length = true := by rfl) (h1 : (cellsL v).all (·.oneCell') = true := by first | rfl | (simp [cellsL, *]; done) | (simp [cellsL, *]; repeat' (first | exact rfl | apply And.intro))) :
    JL P n lo B K ops (⟨none, .store t x y, ty, pos, af, none⟩ :: rest) l os u := by
  rw [← ho.eq] at k
  refine JL.s (e_store (c' := c') ht.h hx hi hy rfl hs h1 hl ?_) ?_
  · rw [← hc.eq, setV_eq]; simpa [Nat.ble_eq, hs] using hl
  · rintro _ _ _ ⟨rfl, rfl⟩ _; exact k
theorem Qq {v : Value} {p : Op} (h : OpP P n l ⟨some d, p, ty, pos, af, none⟩ v) (k : JL P n lo B K ops rest ((d, v) :: l) os u) (hn : Nat.blt d n = true := by rfl) : JL P n lo B K ops (⟨some d, p, ty, pos, af, none⟩ :: rest) l os u := JL.q h.q k rfl rfl hn
theorem Qw {v : Value} {p : Op} (h : OpQ P n lo B l os u ⟨some d, p, ty, pos, af, none⟩ v) (k : JL P n lo B K ops rest ((d, v) :: l) os u) (hn : Nat.blt d n = true := by rfl) : JL P n lo B K ops (⟨some d, p, ty, pos, af, none⟩ :: rest) l os u := JL.q h k rfl rfl hn
theorem gh {v : Value} (hc : c = true) (h : opd l x = some (gv c v)) : opd l x = some v := gvt h hc
theorem zg {v : Value} {p : Op} (hg : Gd ops l ⟨some d, p, ty, pos, af, gd⟩ c) (h : c = true → OpP P n l ⟨some d, p, ty, pos, af, gd⟩ v) (k : JL P n lo B K ops rest ((d, gv c v) :: l) os u) (hn : Nat.blt d n = true := by rfl) : JL P n lo B K ops (⟨some d, p, ty, pos, af, gd⟩ :: rest) l os u := JL.g hg (fun hc => (h hc).q) k rfl hn
theorem zgq {v : Value} {p : Op} (hg : Gd ops l ⟨some d, p, ty, pos, af, gd⟩ c) (h : c = true → OpQ P n lo B l os u ⟨some d, p, ty, pos, af, gd⟩ v) (k : JL P n lo B K ops rest ((d, gv c v) :: l) os u) (hn : Nat.blt d n = true := by rfl) : JL P n lo B K ops (⟨some d, p, ty, pos, af, gd⟩ :: rest) l os u := JL.g hg h k rfl hn
theorem zgv {f : FuncId} {xs : List Operand} {ts : Array TypeId} {vs : List Value} {v : Value} [hf : FnI P f] (hg : Gd ops l ⟨some d, .call { callee := .value (.func f), args := xs.toArray, argTypes := ts }, ty, pos, af, gd⟩ c) (h : c = true → opds l xs = some vs) (hc : c = true → ∀ w, St lo B u w os → RetV P f vs w v) (k : JL P n lo B K ops rest ((d, gv c v) :: l) os u) (hn : Nat.blt d n = true := by rfl) :
    JL P n lo B K ops (⟨some d, .call { callee := .value (.func f), args := xs.toArray, argTypes := ts }, ty, pos, af, gd⟩ :: rest) l os u := JL.ge hg (fun e => e_callV hf.h (h e) (hc e)) k rfl hn
theorem zT {p : Op} {dst : Option Tmp} (hg : Gd ops l ⟨dst, p, ty, pos, af, gd⟩ c) (hc : c = true) (k : JL P n lo B K ops (⟨dst, p, ty, pos, af, none⟩ :: rest) l os u) : JL P n lo B K ops (⟨dst, p, ty, pos, af, gd⟩ :: rest) l os u := fun a w ha hw => by
  have h := k a w ha hw
  unfold wpList at h ⊢
  rw [if_pos (by simp [Region.wanted])] at h
  rw [if_pos (by rw [hg n a ha, hc])]
  exact h
theorem zent {l' : Fr} (k : Js P n lo B Q cs l' os u) (h : NL l l' := by exact nl) : Js P n lo B Q cs l os u := by rw [h.eq]; exact k
theorem zb {t : TypeId} {c : List Value} (hx : opd l x = some (.agg c.toArray)) (k : ∀ b, JL P n lo B K ops rest ((d, .pointer (some ⟨b, 0, none⟩)) :: l) (boxO b c t :: os) u) (hn : Nat.blt d n = true := by rfl) :
    JL P n lo B K ops (⟨some d, .box t x, ty, pos, af, none⟩ :: rest) l os u := JL.e (e_box (c := c) hx rfl) (by rintro _ _ _ ⟨b, rfl, rfl, rfl⟩ _; exact k b) rfl rfl hn
theorem zeh {t : TypeId} {c : List Value} [hz : ZeroI P t c] : zeroOf P t = some c := hz.h
theorem za {t : TypeId} {c : List Value} (hz : zeroOf P t = some c) (k : ∀ b, JL P n lo B K ops rest ((d, .pointer (some ⟨b, 0, none⟩)) :: l) (boxO b c t :: os) u) (hn : Nat.blt d n = true := by rfl) :
    JL P n lo B K ops (⟨some d, .alloc t, ty, pos, af, none⟩ :: rest) l os u := JL.e (e_alloc hz) (by rintro _ _ _ ⟨b, rfl, rfl, rfl⟩ _; exact k b) rfl rfl hn
theorem zbs {t e : TypeId} {sz by' m : Nat} {z us vs : List Value} {parts : List (Nat × Operand)} {pv : List (Nat × Value)} [ht : ElI P t e sz by' z] (k : ∀ b, JL P n lo B K ops rest ((d, .slice (some ⟨b, 0, none⟩) m m) :: l) (rowO e sz (.slice (some ⟨b, 0, none⟩) m m) m vs [] :: os) u)
    (hv : opdP l parts = some pv := by rfl) (hf : fillL (elPl sz m) (repL z m) pv = some us := by rfl) (hnl : NL us vs := by exact nl) (hzl : Nat.beq z.length sz = true := by rfl) (hz0 : Nat.blt 0 sz = true := by rfl) (hm : Nat.ble (m * sz) 16777216 = true := by rfl) (hi : pv.all (fun p => Nat.blt p.1 m) = true := by rfl) (hn : Nat.blt d n = true := by rfl) :
    JL P n lo B K ops (⟨some d, .buildSlice t m parts.toArray, ty, pos, af, none⟩ :: rest) l os u := JL.e (e_buildSlice (vs := vs) ht.h hzl hz0 hm hv hi (by rw [hf, hnl.eq])) (by rintro _ _ _ ⟨b, rfl, rfl, _, rfl⟩ _; exact k b) rfl rfl hn
theorem zv {f : FuncId} {xs : List Operand} {ts : Array TypeId} {vs : List Value} [hf : FnI P f] (hx : opds l xs = some vs) (hc : ∀ w, St lo B u w os → RetV P f vs w v) (k : JL P n lo B K ops rest ((d, v) :: l) os u) (hn : Nat.blt d n = true := by rfl) :
    JL P n lo B K ops (⟨some d, .call { callee := .value (.func f), args := xs.toArray, argTypes := ts }, ty, pos, af, none⟩ :: rest) l os u := JL.e (e_callV hf.h hx hc) (by rintro _ _ _ ⟨rfl, rfl, rfl⟩ _; exact k) rfl rfl hn
theorem zc {f : FuncId} {xs : List Operand} {ts : Array TypeId} {vs : List Value} {T : Ty} {E : (Value → List Own → Prop) → List Own → Prop} [hf : FnI P f] (hx : opds l xs = some vs) (hc : ∀ w, St lo B u w os → Ret P f vs w T) [he : Elm T E] (k : E (fun v os' => JL P n lo B K ops rest ((d, v) :: l) os' u) os) (hn : Nat.blt d n = true := by rfl) :
    JL P n lo B K ops (⟨some d, .call { callee := .value (.func f), args := xs.toArray, argTypes := ts }, ty, pos, af, none⟩ :: rest) l os u := JL.e (e_callE hf.h hx hc k) (by rintro _ _ _ ⟨h, rfl⟩ _; exact h) rfl rfl hn
theorem zcs {f : FuncId} {xs : List Operand} {ts : Array TypeId} {vs : List Value} {T : Ty} {E : (Value → List Own → Prop) → List Own → Prop} [hf : FnI P f] (hx : opds l xs = some vs) (hc : ∀ w, St lo B u w os → Ret P f vs w T) [he : ElmS T E] (k : E (fun v os' => JL P n lo B K ops rest ((d, v) :: l) os' u) os) (hn : Nat.blt d n = true := by rfl) :
    JL P n lo B K ops (⟨some d, .call { callee := .value (.func f), args := xs.toArray, argTypes := ts }, ty, pos, af, none⟩ :: rest) l os u := JL.e (e_callS hf.h hx hc k) (by rintro _ _ _ ⟨h, rfl⟩ _; exact h) rfl rfl hn
theorem zp {f : FuncId} {xs : List Operand} {ts : Array TypeId} {vs : List Value} {T : Ty} {E : World → (Value → Prop) → Prop} [hf : FnI P f] (hx : opds l xs = some vs) (hc : ∀ w, St lo B u w os → Ret P f vs w T) [he : Opn T E] (k : ∀ u', Up lo u u' → E u' (fun v => JL P n lo B K ops rest ((d, v) :: l) os u')) (hn : Nat.blt d n = true := by rfl) :
    JL P n lo B K ops (⟨some d, .call { callee := .value (.func f), args := xs.toArray, argTypes := ts }, ty, pos, af, none⟩ :: rest) l os u := JL.e (e_callP hf.h hx hc) (by rintro v _ u' ⟨h, rfl⟩ x; exact he.h u' (fun v => JL P n lo B K ops rest ((d, v) :: l) _ u') (k u' x) v h) rfl rfl hn
inductive SpL : List Own → Nat → List Own → List Own → Prop
  | z {r : List Own} : SpL r 0 [] r
  | s {o : Own} {r a b : List Own} {k : Nat} (h : SpL r k a b) : SpL (o :: r) (k + 1) (o :: a) b
theorem SpL.eq {os a b : List Own} {k : Nat} (h : SpL os k a b) : os = a ++ b := by induction h with | z => rfl | s _ ih => rw [ih]; rfl
theorem sp_ {os a b : List Own} {k : Nat} (h : SpL os k a b := by repeat (first | exact SpL.z | apply SpL.s)) : SpL os k a b := h
theorem zB (m : Nat) {f : FuncId} {xs : List Operand} {ts : Array TypeId} {vs : List Value} {bs rs : List Own} {R : Value → List Own → Prop} (hs : SpL os m bs rs) [hf : FnI P f] (hx : opds l xs = some vs)
    (hc : ∀ w, Bw w bs → St lo [] u (offW w (bs.flatMap (·.fp))) rs → RetB P f vs w bs R) (k : ∀ v bs' G, R v bs' → JL P n lo B K ops rest ((d, v) :: l) (bs' ++ anyO G :: rs) u) (hB : B = [] := by rfl) (hn : Nat.blt d n = true := by rfl) :
    JL P n lo B K ops (⟨some d, .call { callee := .value (.func f), args := xs.toArray, argTypes := ts }, ty, pos, af, none⟩ :: rest) l os u := by
  rw [hs.eq]
  exact JL.e (e_callB hf.h hx hc hB) (by rintro v _ _ ⟨bs', G, h, rfl, rfl⟩ _; exact k v bs' G h) rfl rfl hn
theorem zBB (m : Nat) {f : FuncId} {xs : List Operand} {ts : Array TypeId} {vs : List Value} {bs rs : List Own} {R : Value → List Own → Prop} (hs : SpL os m bs rs) [hf : FnI P f] (hx : opds l xs = some vs)
    (hc : ∀ w, Bw w bs → ∀ B', St lo B' u (offW w (bs.flatMap (·.fp))) rs → RetB P f vs w bs R) (k : ∀ v bs' G, R v bs' → JL P n lo B K ops rest ((d, v) :: l) (bs' ++ anyO G :: rs) u) (hn : Nat.blt d n = true := by rfl) :
    JL P n lo B K ops (⟨some d, .call { callee := .value (.func f), args := xs.toArray, argTypes := ts }, ty, pos, af, none⟩ :: rest) l os u := by
  rw [hs.eq]
  exact JL.e (e_callBB hf.h hx fun w hb ⟨B', hw⟩ => hc w hb B' hw) (by rintro v _ _ ⟨bs', G, h, rfl, rfl⟩ _; exact k v bs' G h) rfl rfl hn
theorem yB (m : Nat) {f : FuncId} {xs : List Operand} {ts : Array TypeId} {vs : List Value} {bs rs : List Own} {R : Value → List Own → Prop} (hs : SpL os m bs rs) [hf : FnI P f] (hi : ops[i]? = some ⟨some d, .call { callee := .value (.func f), args := xs.toArray, argTypes := ts }, ty, pos, af, none⟩) (hx : opds l xs = some vs)
    (hc : ∀ w, Bw w bs → St lo [] u (offW w (bs.flatMap (·.fp))) rs → RetB P f vs w bs R) (k : ∀ v bs' G, R v bs' → JH P n lo B K ops u₀ os₀ nm fuel (listed.setIfInBounds i true) (z && false) ((d, v) :: l) (bs' ++ anyO G :: rs) u) (hm : nm.contains i = true := by rfl) (hB : B = [] := by rfl) (hn : Nat.blt d n = true := by rfl) :
    JHo P n lo B K ops u₀ os₀ nm fuel listed z l os u i := by
  rw [hs.eq]
  exact JHo.e hi (e_callB hf.h hx hc hB) (.inr hm) (by rintro v _ _ ⟨bs', G, h, rfl, rfl⟩ _; exact k v bs' G h) rfl rfl hn
theorem yBB (m : Nat) {f : FuncId} {xs : List Operand} {ts : Array TypeId} {vs : List Value} {bs rs : List Own} {R : Value → List Own → Prop} (hs : SpL os m bs rs) [hf : FnI P f] (hi : ops[i]? = some ⟨some d, .call { callee := .value (.func f), args := xs.toArray, argTypes := ts }, ty, pos, af, none⟩) (hx : opds l xs = some vs)
    (hc : ∀ w, Bw w bs → ∀ B', St lo B' u (offW w (bs.flatMap (·.fp))) rs → RetB P f vs w bs R) (k : ∀ v bs' G, R v bs' → JH P n lo B K ops u₀ os₀ nm fuel (listed.setIfInBounds i true) (z && false) ((d, v) :: l) (bs' ++ anyO G :: rs) u) (hm : nm.contains i = true := by rfl) (hn : Nat.blt d n = true := by rfl) :
    JHo P n lo B K ops u₀ os₀ nm fuel listed z l os u i := by
  rw [hs.eq]
  exact JHo.e hi (e_callBB hf.h hx fun w hb ⟨B', hw⟩ => hc w hb B' hw) (.inr hm) (by rintro v _ _ ⟨bs', G, h, rfl, rfl⟩ _; exact k v bs' G h) rfl rfl hn
theorem ya {t : TypeId} {c : List Value} [hz : ZeroI P t c] (hi : ops[i]? = some ⟨some d, .alloc t, ty, pos, af, none⟩) (k : ∀ b, JH P n lo B K ops u₀ os₀ nm fuel (listed.setIfInBounds i true) (z && true) ((d, .pointer (some ⟨b, 0, none⟩)) :: l) (boxO b c t :: os) u) (hn : Nat.blt d n = true := by rfl) :
    JHo P n lo B K ops u₀ os₀ nm fuel listed z l os u i := JHo.e hi (e_alloc hz.h) (.inl rfl) (by rintro _ _ _ ⟨b, rfl, rfl, rfl⟩ _; exact k b) rfl rfl hn
theorem ybs {t e : TypeId} {sz by' m : Nat} {z' us vs : List Value} {parts : List (Nat × Operand)} {pv : List (Nat × Value)} [ht : ElI P t e sz by' z'] (hi : ops[i]? = some ⟨some d, .buildSlice t m parts.toArray, ty, pos, af, none⟩) (k : ∀ b, JH P n lo B K ops u₀ os₀ nm fuel (listed.setIfInBounds i true) (z && true) ((d, .slice (some ⟨b, 0, none⟩) m m) :: l) (rowO e sz (.slice (some ⟨b, 0, none⟩) m m) m vs [] :: os) u)
    (hv : opdP l parts = some pv := by rfl) (hf : fillL (elPl sz m) (repL z' m) pv = some us := by rfl) (hnl : NL us vs := by exact nl) (hzl : Nat.beq z'.length sz = true := by rfl) (hz0 : Nat.blt 0 sz = true := by rfl) (hm : Nat.ble (m * sz) 16777216 = true := by rfl) (hpi : pv.all (fun p => Nat.blt p.1 m) = true := by rfl) (hn : Nat.blt d n = true := by rfl) :
    JHo P n lo B K ops u₀ os₀ nm fuel listed z l os u i := JHo.e hi (e_buildSlice (vs := vs) ht.h hzl hz0 hm hv hpi (by rw [hf, hnl.eq])) (.inl rfl) (by rintro _ _ _ ⟨b, rfl, rfl, _, rfl⟩ _; exact k b) rfl rfl hn
theorem yv {f : FuncId} {xs : List Operand} {ts : Array TypeId} {vs : List Value} [hf : FnI P f] (hi : ops[i]? = some ⟨some d, .call { callee := .value (.func f), args := xs.toArray, argTypes := ts }, ty, pos, af, none⟩) (hx : opds l xs = some vs) (hc : ∀ w, St lo B u w os → RetV P f vs w v) (k : JH P n lo B K ops u₀ os₀ nm fuel (listed.setIfInBounds i true) (z && true) ((d, v) :: l) os u) (hn : Nat.blt d n = true := by rfl) :
    JHo P n lo B K ops u₀ os₀ nm fuel listed z l os u i := JHo.e hi (e_callV hf.h hx hc) (.inl rfl) (by rintro _ _ _ ⟨rfl, rfl, rfl⟩ _; exact k) rfl rfl hn
theorem yc {f : FuncId} {xs : List Operand} {ts : Array TypeId} {vs : List Value} {T : Ty} {E : (Value → List Own → Prop) → List Own → Prop} [hf : FnI P f] (hi : ops[i]? = some ⟨some d, .call { callee := .value (.func f), args := xs.toArray, argTypes := ts }, ty, pos, af, none⟩) (hx : opds l xs = some vs) (hc : ∀ w, St lo B u w os → Ret P f vs w T) [he : Elm T E] (k : E (fun v os' => JH P n lo B K ops u₀ os₀ nm fuel (listed.setIfInBounds i true) (z && true) ((d, v) :: l) os' u) os) (hn : Nat.blt d n = true := by rfl) :
    JHo P n lo B K ops u₀ os₀ nm fuel listed z l os u i := JHo.e hi (e_callE hf.h hx hc k) (.inl rfl) (by rintro _ _ _ ⟨h, rfl⟩ _; exact h) rfl rfl hn
theorem ycs {f : FuncId} {xs : List Operand} {ts : Array TypeId} {vs : List Value} {T : Ty} {E : (Value → List Own → Prop) → List Own → Prop} [hf : FnI P f] (hi : ops[i]? = some ⟨some d, .call { callee := .value (.func f), args := xs.toArray, argTypes := ts }, ty, pos, af, none⟩) (hx : opds l xs = some vs) (hc : ∀ w, St lo B u w os → Ret P f vs w T) [he : ElmS T E] (k : E (fun v os' => JH P n lo B K ops u₀ os₀ nm fuel (listed.setIfInBounds i true) (z && true) ((d, v) :: l) os' u) os) (hn : Nat.blt d n = true := by rfl) :
    JHo P n lo B K ops u₀ os₀ nm fuel listed z l os u i := JHo.e hi (e_callS hf.h hx hc k) (.inl rfl) (by rintro _ _ _ ⟨h, rfl⟩ _; exact h) rfl rfl hn
theorem yp {f : FuncId} {xs : List Operand} {ts : Array TypeId} {vs : List Value} {T : Ty} {E : World → (Value → Prop) → Prop} [hf : FnI P f] (hi : ops[i]? = some ⟨some d, .call { callee := .value (.func f), args := xs.toArray, argTypes := ts }, ty, pos, af, none⟩) (hx : opds l xs = some vs) (hc : ∀ w, St lo B u w os → Ret P f vs w T) [he : Opn T E] (k : ∀ u', Up lo u u' → E u' (fun v => JH P n lo B K ops u₀ os₀ nm fuel (listed.setIfInBounds i true) (z && true) ((d, v) :: l) os u')) (hn : Nat.blt d n = true := by rfl) :
    JHo P n lo B K ops u₀ os₀ nm fuel listed z l os u i := JHo.e hi (e_callP hf.h hx hc) (.inl rfl) (by rintro v _ u' ⟨h, rfl⟩ x; exact he.h u' (fun v => JH P n lo B K ops u₀ os₀ nm fuel (listed.setIfInBounds i true) (z && true) ((d, v) :: l) _ u') (k u' x) v h) rfl rfl hn
theorem yst {t : TypeId} {g : Bool} {s b o : Nat} (hi : ops[i]? = some ⟨none, .store t x y, ty, pos, af, none⟩) (hx : opd l x = some (.pointer (some ⟨b, o, none⟩))) (hy : opd l y = some v) (k : JH P n lo B K ops u₀ os₀ nm fuel (listed.setIfInBounds i true) (z && false) l os' u) [ht : TyI P t g s] (hm : nm.contains i = true := by rfl) (hw : St1 os b o (cellsL v) os' := by exact st1_) (hs : (cellsL v).length = s := by rfl) :
    JHo P n lo B K ops u₀ os₀ nm fuel listed z l os u i := by
  obtain ⟨j, c, T, h1, h2, h3, rfl⟩ := hw.get
  refine JHo.s hi (e_store ht.h hx h1 hy rfl hs h2 (hs ▸ h3) rfl) (.inr hm) ?_
  rintro _ _ _ ⟨rfl, rfl⟩ _
  exact k
theorem y1 (i : Nat) (h : JHo P n lo B K ops u₀ os₀ nm fuel listed z l os u i) (hr : Region.ready .any ops listed = [i] := by kernel_rfl) : JH P n lo B K ops u₀ os₀ nm (fuel + 1) listed z l os u := JH.one hr h
theorem y2 (i j : Nat) (h : JHo P n lo B K ops u₀ os₀ nm fuel listed z l os u i) (k : JHo P n lo B K ops u₀ os₀ nm fuel listed z l os u j) (hr : Region.ready .any ops listed = [i, j] := by kernel_rfl) : JH P n lo B K ops u₀ os₀ nm (fuel + 1) listed z l os u := JH.all hr rfl ⟨h, k, trivial⟩
theorem y3 (i j m : Nat) (h : JHo P n lo B K ops u₀ os₀ nm fuel listed z l os u i) (k : JHo P n lo B K ops u₀ os₀ nm fuel listed z l os u j) (k2 : JHo P n lo B K ops u₀ os₀ nm fuel listed z l os u m) (hr : Region.ready .any ops listed = [i, j, m] := by kernel_rfl) : JH P n lo B K ops u₀ os₀ nm (fuel + 1) listed z l os u := JH.all hr rfl ⟨h, k, k2, trivial⟩
theorem yd (h : Js P n lo B Q cs l os u) (hr : Region.ready .any ops listed = [] := by kernel_rfl) : JH P n lo B (seqs P Q cs) ops u₀ os₀ nm fuel listed z l os u := JH.done hr h
theorem zdr (nm : List Nat) {id : Nat} {ops : List Oper} [hm : MixI P] (h : JH P n lo B (seqs P Q cs) ops.toArray u os nm ops.length (Array.replicate ops.length false) true l os u) : Js P n lo B Q (.region id ops.toArray true :: cs) l os u := Js.drawn os nm hm.h (fun _ h => h) h
theorem zi {cnd : Operand} {b : Bool} {x y : Code} {p q : Prop} (ht : b = true → p → Js P n lo B Q (x :: cs) l os u) (hf : b = false → q → Js P n lo B Q (y :: cs) l os u) (hc : opd l cnd = some (.bool b) := by rfl)
    (hp : b = true → p := by intro h; (try simp only [Bool.or_eq_true, Bool.or_eq_false_iff, Bool.and_eq_true, Bool.and_eq_false_iff, Bool.not_eq_true', Bool.not_eq_false', decide_eq_true_eq, decide_eq_false_iff_not, Int.not_lt, Int.not_le] at h); exact h)
    (hq : b = false → q := by intro h; (try simp only [Bool.or_eq_true, Bool.or_eq_false_iff, Bool.and_eq_true, Bool.and_eq_false_iff, Bool.not_eq_true', Bool.not_eq_false', decide_eq_true_eq, decide_eq_false_iff_not, Int.not_lt, Int.not_le] at h); exact h) :
    Js P n lo B Q (.cond cnd x y :: cs) l os u := Js.cond hc (fun h => ht h (hp h)) (fun h => hf h (hq h))
theorem zx {j : Nat} {cs' : List Code} {Q' : Exit → Act → World → Prop} (h : Js P n lo B Q' cs' l os u) (hQ : ∀ a w, Q (.exit j) a w = seqs P Q' cs' a w := by exact fun _ _ => rfl) : Js P n lo B Q (.exit j :: cs) l os u := Js.exit hQ h
inductive Kp : Fr → List Nat → Fr → Prop
  | nil {L : Fr} : Kp L [] []
  | cons {L r : Fr} {k : Nat} {ks : List Nat} {v : Value} (h : look L k = some v) (t : Kp L ks r) : Kp L (k :: ks) ((k, v) :: r)
theorem kp_ {L r : Fr} {ks : List Nat} (h : Kp L ks r := by repeat (first | exact Kp.nil | (apply Kp.cons; rfl))) : Kp L ks r := h
theorem sub_ {L r : Fr} (h : subf L r := by repeat (first | exact trivial | refine And.intro rfl ?_)) : subf L r := h
abbrev nO : Option Own := none
def updO : List Own → List (Option Own) → List Own
  | _ :: os, some x :: r => x :: updO os r
  | o :: os, none :: r => o :: updO os r
  | os, [] => os
  | [], _ => []
theorem zl (ks : List Nat) {lk : Fr} (I : (Fr → Fr) → (List (Option Own) → List Own) → Fr → List Own → World → Nat → Prop) {body : Code} {l₀ : Fr} {m₀ : Nat} (h0 : I (· ++ lk) (updO os) l₀ os u m₀)
    (round : ∀ l' os' u' m, I (· ++ lk) (updO os) l' os' u' m → Up lo u u' → Js P n lo B (LQ n lo B (fun l os w m => I (· ++ lk) (updO os₀) l os w m ∧ Up lo u w) m Q) [body] l' os' u')
    (e : os₀ = os := by rfl) (hk : Kp l ks lk := by exact kp_) (hl : subf l l₀ := by exact sub_) : Js P n lo B Q (.loop body :: cs) l os u := by
  subst e
  exact Js.loop (fun l os' w m => I (· ++ lk) (updO os₀) l os' w m ∧ Up lo u w) ⟨h0, Up.refl _ _⟩ hl fun l' os' u' m h => round l' os' u' m h.1 h.2
theorem zag {J : Fr → List Own → World → Nat → Prop} {m m' : Nat} {l' : Fr} {u1 : World} (hI : J l' os u m') (x : Up lo u1 u) (hm : m' < m := by omega) (hl : subf l l' := by exact sub_) : Js P n lo B (LQ n lo B (fun l os w m => J l os w m ∧ Up lo u1 w) m Q) [] l os u := Js.again ⟨hI, x⟩ hm hl
theorem zk (ks : List Nat) {lk : Fr} (I : (Fr → Fr) → (List (Option Own) → List Own) → Fr → List Own → World → Prop) {c : Code} (h1 : Js P n lo B (CQ n lo B (fun l os w => I (· ++ lk) (updO os₀) l os w ∧ Up lo u w) Q) [c] l os u)
    (h2 : ∀ l' os' u', I (· ++ lk) (updO os₀) l' os' u' → Up lo u u' → Js P n lo B Q cs l' os' u') (e : os₀ = os := by rfl) (hk : Kp l ks lk := by exact kp_) : Js P n lo B Q (c :: cs) l os u := by
  subst e
  exact Js.cut (fun l os w => I (· ++ lk) (updO os₀) l os w ∧ Up lo u w) h1 fun l' os' u' h => h2 l' os' u' h.1 h.2
theorem zm {J : Fr → List Own → World → Prop} {l' : Fr} {u1 : World} (hI : J l' os u) (x : Up lo u1 u) (hl : subf l l' := by exact sub_) : Js P n lo B (CQ n lo B (fun l os w => J l os w ∧ Up lo u1 w) Q) [] l os u := Js.meet ⟨hI, x⟩ hl
theorem zt {p : Prop} (h : p := by first | assumption | omega | rfl | (simp; done)) : p := h
theorem zu {p : Prop} (h : p := by first | omega | (simp only [List.length_append, List.length_cons, List.length_nil] <;> omega)) : p := h
theorem om_ {p : Prop} (h : p := by first | omega | (simp only [List.length_append, List.length_cons, List.length_nil]; omega)) : p := h
theorem zn {l' : Fr} (k : Js P n lo B Q cs l' os' u) (hl : NL l l' := by exact nl) (ho : NL os os' := by exact nl) : Js P n lo B Q cs l os u := by rw [hl.eq, ho.eq]; exact k
theorem znl (k : JL P n lo B K ops rest l os' u) (ho : NL os os' := by exact nl) : JL P n lo B K ops rest l os u := by rw [ho.eq]; exact k
theorem znh (k : JH P n lo B K ops u₀ os₀ nm fuel listed z l os' u) (ho : NL os os' := by exact nl) : JH P n lo B K ops u₀ os₀ nm fuel listed z l os u := by rw [ho.eq]; exact k
inductive PickI : List Own → Nat → Own → List Own → Prop
  | z {o : Own} {r : List Own} : PickI (o :: r) 0 o r
  | s {o q : Own} {r s : List Own} {k : Nat} (h : PickI r k o s) : PickI (q :: r) (k + 1) o (q :: s)
theorem PickI.perm {os r : List Own} {k : Nat} {o : Own} (h : PickI os k o r) : os.Perm (o :: r) := by
  induction h with
  | z => exact List.Perm.refl _
  | s _ ih => exact (ih.cons _).trans (List.Perm.swap _ _ _)
inductive PP : List Own → List Nat → List Own → Prop
  | nil {os : List Own} : PP os [] os
  | cons {os r s : List Own} {k : Nat} {ks : List Nat} {o : Own} (h : PickI os k o r) (t : PP r ks s) : PP os (k :: ks) (o :: s)
theorem PP.perm {os s : List Own} {ks : List Nat} (h : PP os ks s) : os.Perm s := by
  induction h with
  | nil => exact List.Perm.refl _
  | cons h _ ih => exact h.perm.trans (ih.cons _)
theorem pp_ {os s : List Own} {ks : List Nat} (h : PP os ks s := by repeat (first | exact PP.nil | (apply PP.cons; repeat (first | exact PickI.z | apply PickI.s)))) : PP os ks s := h
theorem zh (ks : List Nat) (k : Js P n lo B Q cs l os' u) (h : PP os ks os' := by exact pp_) : Js P n lo B Q cs l os u := Js.conv (fun _ hw => hw.swap h.perm.symm) k
theorem zhl (ks : List Nat) (k : JL P n lo B K ops rest l os' u) (h : PP os ks os' := by exact pp_) : JL P n lo B K ops rest l os u := JL.conv (fun _ hw => hw.swap h.perm.symm) k
theorem zhh (ks : List Nat) (k : JHo P n lo B K ops u₀ os₀ nm fuel listed z l os' u i) (h : PP os ks os' := by exact pp_) : JHo P n lo B K ops u₀ os₀ nm fuel listed z l os u i := JHo.conv (fun _ hw => hw.swap h.perm.symm) k
theorem zf (ks : List Nat) {m : Nat} {ra : List Own} (k : ∀ G, Js P n lo B Q cs l (ra ++ [anyO G]) u) (hm : ks.length = m := by rfl) (h : PP os ks os' := by exact pp_) (hs' : NL (os'.take m) ra := by exact nl) : Js P n lo B Q cs l os u :=
  Js.conv (os' := ra ++ [anyO ((os'.drop m).flatMap (·.fp))]) (fun w hw => by
    have hp := h.perm
    have e : os' = ra ++ os'.drop m := by rw [← hs'.eq, List.take_append_drop]
    refine hw.conv (fun o ho => ?_) ?_
    · rcases List.mem_append.1 ho with ho | ho
      · exact hw.prs o (hp.mem_iff.2 (by rw [e]; exact List.mem_append_left _ ho))
      · simp at ho; subst ho; trivial
    · have := hp.symm.flatMap_right (fun o : Own => o.fp)
      rw [e, List.flatMap_append] at this
      rw [List.flatMap_append]
      simpa [anyO] using this) (k _)
theorem zd (ks : List Nat) {m : Nat} {ra : List Own} (hB : B = []) (k : ∀ u', Up lo u u' → Js P n lo B Q cs l ra u') (hm : ks.length = m := by rfl) (h : PP os ks os' := by exact pp_) (hs' : NL (os'.take m) ra := by exact nl) : Js P n lo B Q cs l os u := by
  rw [← hs'.eq] at k
  refine zh ks ?_ h
  have key : ∀ (r s : List Own) (u : World), (∀ u', Up lo u u' → Js P n lo B Q cs l r u') → Js P n lo B Q cs l (r ++ s) u := by
    intro r s
    induction s generalizing r with
    | nil => intro u h; simpa using h u (Up.refl _ _)
    | cons o s ih =>
      intro u h
      refine Js.drop (i := r.length) (o := o) hB (by simp) fun u' x => ?_
      have : (r ++ o :: s).eraseIdx r.length = r ++ s := by rw [List.eraseIdx_append_of_length_le (Nat.le_refl _)]; simp
      rw [this]
      exact ih r u' fun u'' x' => h u'' (x.trans x')
  have := key (os'.take m) (os'.drop m) u k
  rwa [List.take_append_drop] at this
end
section
variable {P : Program} {n lo : Nat} {B : List Nat} {Q : Exit → Act → World → Prop} {cs : List Code} {l : Fr} {os os' os1 : List Own} {u w : World} {v : Value} {T : Ty} {Ts : List Ty}
inductive RetQ (P : Program) (fn : Func) (R : Ending → World → Prop) : (Exit → Act → World → Prop) → Prop
  | base : RetQ P fn R (bodyPost P fn R)
  | bq {i : Nat} {K : Act → World → Prop} {Q : Exit → Act → World → Prop} (h : RetQ P fn R Q) : RetQ P fn R (BQ i K Q)
  | lq {n lo : Nat} {B : List Nat} {I : Fr → List Own → World → Nat → Prop} {m : Nat} {Q : Exit → Act → World → Prop} (h : RetQ P fn R Q) : RetQ P fn R (LQ n lo B I m Q)
  | cq {n lo : Nat} {B : List Nat} {I : Fr → List Own → World → Prop} {Q : Exit → Act → World → Prop} (h : RetQ P fn R Q) : RetQ P fn R (CQ n lo B I Q)
theorem RetQ.eq {fn : Func} {R : Ending → World → Prop} (h : RetQ P fn R Q) : ∀ a w, Q .ret a w = bodyPost P fn R .ret a w := by
  induction h with
  | base => exact fun _ _ => rfl
  | bq _ ih => exact ih
  | lq _ ih => exact ih
  | cq _ ih => exact ih
theorem rq_ {fn : Func} {R : Ending → World → Prop} (h : RetQ P fn R Q := by repeat (first | with_reducible exact RetQ.base | with_reducible apply RetQ.bq | with_reducible apply RetQ.lq | with_reducible apply RetQ.cq)) : RetQ P fn R Q := h
inductive OutV : List Value → Value → Prop
  | one {v : Value} : OutV [v] v
  | two {v v' : Value} {r : List Value} : OutV (v :: v' :: r) (.tuple (v :: v' :: r).toArray)
theorem OutV.eq {vs : List Value} {v : Value} (h : OutV vs v) : outV vs = v := by cases h <;> rfl
theorem ov_ {vs : List Value} {v : Value} (h : OutV vs v := by first | exact OutV.one | exact OutV.two) : OutV vs v := h
theorem ro1 {t : Tmp} {T : TypeId} {r : List ResultVar} {s b : Nat} {v : Value} {vs : List Value} [ht : TyI P T false s] (hl : look l t = some (.pointer (some ⟨b, 0, none⟩))) (h : Ld os b 0 v) (k : ResOk P n lo B l os u r vs) : ResOk P n lo B l os u (.cell t T :: r) (v :: vs) :=
  ResOk.cell ⟨b, 0, hl, fun w hw => run_loadVar_one w ht.h (h.get hw.prs)⟩ k
theorem ro2 {t : Tmp} {T : TypeId} {r : List ResultVar} {s b : Nat} {vs us : List Value} [ht : TyI P T true s] (hl : look l t = some (.pointer (some ⟨b, 0, none⟩))) (h : LdR os b 0 s us) (hs : us.length = s) (k : ResOk P n lo B l os u r vs) : ResOk P n lo B l os u (.cell t T :: r) (.agg us.toArray :: vs) :=
  ResOk.cell ⟨b, 0, hl, fun w hw => run_loadVar_agg w (hs ▸ ht.h) (h.get hw.prs)⟩ k
theorem rs_ {rs : List ResultVar} {vs : List Value} (h : ResOk P n lo B l os u rs vs := by repeat (first | exact ResOk.nil | (apply ResOk.tmp; rfl) | (apply ro1; rfl; exact ld_) | (apply ro2; rfl; exact ldr_; rfl))) : ResOk P n lo B l os u rs vs := h
theorem zR {fn : Func} {v : Value} {w₀ : World} {rs : List ResultVar} {vs : List Value} (x : Up w₀.heap.size w₀ u) (e : Ending.returned (outV vs) = .returned v) (hq : RetQ P fn (RV w₀ v) Q := by exact rq_) (hr : fn.results = rs.toArray := by rfl) (hv : ResOk P n w₀.heap.size [] l os u rs vs := by exact rs_) : Js P n w₀.heap.size [] Q (.ret :: cs) l os u :=
  Js.ret hr hq.eq hv fun w hw => ⟨e, hw.ext x⟩
theorem zr {fn : Func} {v v' : Value} {w₀ : World} {rs : List ResultVar} {vs : List Value} (x : Up w₀.heap.size w₀ u) (hq : RetQ P fn (RV w₀ v) Q := by exact rq_) (hr : fn.results = rs.toArray := by rfl) (hv : ResOk P n w₀.heap.size [] l os u rs vs := by exact rs_) (ho : OutV vs v' := by exact ov_) (e : v' = v := by first | with_reducible rfl | assumption | rfl | (simp; done)) : Js P n w₀.heap.size [] Q (.ret :: cs) l os u :=
  zR x (by rw [ho.eq, e]) hq hr hv
inductive PickO : List Own → Own → List Own → Prop
  | z {o : Own} {r : List Own} : PickO (o :: r) o r
  | s {o q : Own} {r s : List Own} (h : PickO r o s) : PickO (q :: r) o (q :: s)
theorem PickO.perm {os r : List Own} {o : Own} (h : PickO os o r) : os.Perm (o :: r) := by
  induction h with
  | z => exact List.Perm.refl _
  | s _ ih => exact (ih.cons _).trans (List.Perm.swap _ _ _)
theorem po_ {os r : List Own} {o : Own} (h : PickO os o r := by repeat (first | with_reducible exact PickO.z | with_reducible apply PickO.s)) : PickO os o r := h
def Gv (os : List Own) (T : Ty) (v : Value) (os' : List Own) : Prop := ∀ w, (∀ o ∈ os, o.pr w) → ∃ fp g, T.own w v fp ∧ (fp ++ (g ++ os'.flatMap (·.fp))).Perm (os.flatMap (·.fp)) ∧ ∀ o ∈ os', o.pr w
def GvL (os : List Own) (Ts : List Ty) (vs : List Value) (os' : List Own) : Prop := ∀ w, (∀ o ∈ os, o.pr w) → ∃ fp g, cellsOwn w Ts vs fp ∧ (fp ++ (g ++ os'.flatMap (·.fp))).Perm (os.flatMap (·.fp)) ∧ ∀ o ∈ os', o.pr w
theorem PickO.flat {o : Own} (h : PickO os o os') : (o.fp ++ os'.flatMap (·.fp)).Perm (os.flatMap (·.fp)) := by
  have := h.perm.symm.flatMap_right (fun o : Own => o.fp)
  simpa using this
theorem PickO.at {o : Own} (h : PickO os o os') {w : World} (hp : ∀ o ∈ os, o.pr w) : o.pr w ∧ ∀ o ∈ os', o.pr w := ⟨hp o (h.perm.mem_iff.2 (by simp)), fun q hq => hp q (h.perm.mem_iff.2 (by simp [hq]))⟩
theorem gv_of {o : Own} (h : PickO os o os') (k : ∀ w, o.pr w → ∃ fp g, T.own w v fp ∧ o.fp = fp ++ g) : Gv os T v os' := fun w hp => by
  obtain ⟨h1, h2⟩ := h.at hp
  obtain ⟨fp, g, a, b⟩ := k w h1
  exact ⟨fp, g, a, by rw [← List.append_assoc, ← b]; exact h.flat, h2⟩
theorem gv_free (h : ∀ w, T.own w v []) : Gv os T v os := fun w hp => ⟨[], [], h w, List.Perm.refl _, hp⟩
theorem gv_val {x : Value} : Gv os (Ty.val x) x os := gv_free fun _ => ⟨rfl, rfl⟩
theorem gv_int {a b : Int} (h : a = b) : Gv os (Ty.int b) (.int .i64 a) os := gv_free fun _ => ⟨by rw [h], rfl⟩
theorem gv_bool {a b : Bool} (h : a = b) : Gv os (Ty.bool b) (.bool a) os := gv_free fun _ => ⟨by rw [h], rfl⟩
theorem gv_str {a b : List UInt8} (h : a = b) : Gv os (Ty.str b) (.string (sB a)) os := gv_free fun _ => ⟨by rw [h], rfl⟩
theorem gv_any (h : v.oneCell' = true) : Gv os Ty.any v os := gv_free fun _ => ⟨rfl, h⟩
theorem gv_ints {e : TypeId} {m : Nat} {xs ys : List Int} {g : List Nat} (h : PickO os (rowO e 1 v m (ints_ xs) g) os') (hx : xs = ys) : Gv os (Ty.ints e ys) v os' :=
  gv_of h fun w hr => ⟨_, g, ints_row hr hx, by simp [rowO]⟩
theorem gv_intsL {e : TypeId} {m : Nat} {vs : List Value} {ys : List Int} {g : List Nat} (h : PickO os (rowO e 1 v m vs g) os') (hx : vs = ints_ ys) : Gv os (Ty.ints e ys) v os' := gv_ints (hx ▸ h) rfl
theorem gv_intsM {e : TypeId} {m : Nat} {vs : List Value} {xs ys : List Int} {g : List Nat} (h : PickO os (rowO e 1 v m vs g) os') (he : xs = ys) (hx : vs = ints_ xs) : Gv os (Ty.ints e ys) v os' := gv_ints (hx ▸ h) he
theorem gv_nil {e : TypeId} {ys : List Int} (hx : [] = ys) : Gv os (Ty.ints e ys) (.slice none 0 0) os := gv_free fun _ => hx ▸ nil_own
theorem gv_ro {e : TypeId} {m : Nat} {xs ys : List Int} (h : PickO os (roO e v m (ints_ xs)) os') (hx : xs = ys) : Gv os (Ty.ro e ys) v os' :=
  gv_of h fun w hr => ⟨_, [], ro_own hr hx, by simp [roO]⟩
theorem gv_roR {e : TypeId} {m : Nat} {xs ys : List Int} {g : List Nat} (h : PickO os (rowO e 1 v m (ints_ xs) g) os') (hx : xs = ys) : Gv os (Ty.ro e ys) v os' :=
  gv_of h fun w hr => ⟨_, g, ro_ownR hr hx, by simp [rowO]⟩
theorem gv_roN {e : TypeId} {ys : List Int} (hx : [] = ys) : Gv os (Ty.ro e ys) (.slice none 0 0) os := gv_free fun _ => ro_nil hx
theorem gv_own {vs : List Value} {f : List Nat} (h : PickO os (ownC Ts vs f) os') : Gv os (Ty.agg Ts) (.agg vs.toArray) os' := gv_of h fun w hr => ⟨f, [], ⟨_, rfl, hr⟩, by simp [ownC]⟩
theorem gv_ownc {α : Type} (F : α → List Ty) {x y : α} {vs : List Value} {f : List Nat} (h : PickO os (ownC (F x) vs f) os') (hx : x = y) : Gv os (Ty.agg (F y)) (.agg vs.toArray) os' := hx ▸ gv_own h
theorem gv_strs {e : TypeId} {A : Option Addr} {m c : Nat} {vs : List Value} {g : List Nat} {xs : List (List UInt8)} (h : PickO os (rowO e 1 (.slice A m c) m vs g) os') (hx : vs = txs_ xs) (hn : m = xs.length) : Gv os (Ty.strs e xs) (.slice A m c) os' := by
  subst hx; subst hn
  exact gv_of h fun w hr => ⟨_, g, row_own hr (strs_own xs), by simp [rowO]⟩
theorem gv_strsE {e : TypeId} {A : Option Addr} {m c : Nat} {vs : List Value} {g : List Nat} {xs ys : List (List UInt8)} (h : PickO os (rowO e 1 (.slice A m c) m vs g) os') (hy : ys = xs) (hx : vs = txs_ ys) (hn : m = ys.length := by rfl) : Gv os (Ty.strs e xs) (.slice A m c) os' := hy ▸ gv_strs h hx hn
theorem gv_agg {vs : List Value} (h : GvL os Ts vs os') : Gv os (Ty.agg Ts) (.agg vs.toArray) os' := fun w hp => by
  obtain ⟨fp, g, a, b⟩ := h w hp; exact ⟨fp, g, ⟨_, rfl, a⟩, b⟩
theorem gv_tup {vs : List Value} (h : GvL os Ts vs os') : Gv os (Ty.tup Ts) (.tuple vs.toArray) os' := fun w hp => by
  obtain ⟨fp, g, a, b⟩ := h w hp; exact ⟨fp, g, ⟨_, rfl, a⟩, b⟩
theorem gv_box {t : TypeId} {b : Nat} {vs : List Value} (h : PickO os (boxO b vs t) os1) (k : GvL os1 Ts vs os') : Gv os (Ty.box t Ts) (.pointer (some ⟨b, 0, none⟩)) os' := fun w hp => by
  obtain ⟨h1, h2⟩ := h.at hp
  obtain ⟨fp, g, a, c, d⟩ := k w h2
  refine ⟨b :: fp, g, box_own h1 a, ?_, d⟩
  have := h.flat
  exact (c.cons b).trans (by simpa [boxO] using this)
class LenL {α : Type} (F : List α → List Ty) (k : outParam Nat) : Prop where h : ∀ xs, (F xs).length = xs.length * k
theorem gv_sl {α : Type} (F : List α → List Ty) {e : TypeId} {sz m : Nat} {v : Value} {vs : List Value} {xs ys : List α} {f g : List Nat} (h : PickO os (rowO e sz v m vs g) os1) (k : PickO os1 (ownC (F xs) vs f) os') (hx : xs = ys) [hl : LenL F sz] (hsz : 0 < sz := by decide) : Gv os (Ty.sl e sz ys.length (F ys)) v os' := fun w hp => by
  obtain ⟨h1, h2⟩ := h.at hp
  obtain ⟨h3, h4⟩ := k.at h2
  refine ⟨v.ownBlock.toList ++ f, g, srow_own F h1 h3 (hl.h _) hx hsz, ?_, h4⟩
  have a := h.flat
  have b := k.flat
  simp only [rowO, ownC] at a b
  refine List.Perm.trans ?_ a
  rw [List.append_assoc, List.append_assoc]
  refine List.Perm.append_left _ ?_
  refine List.Perm.trans ?_ (List.Perm.append_left g b)
  rw [← List.append_assoc, ← List.append_assoc]
  exact List.Perm.append_right _ List.perm_append_comm
theorem gv_sn {α : Type} (F : List α → List Ty) {e : TypeId} {sz : Nat} {xs : List α} (h : [] = xs) (hF : F [] = [] := by rfl) : Gv os (Ty.sl e sz xs.length (F xs)) (.slice none 0 0) os := gv_free fun _ => snil_own F h hF
theorem gv_yes {c : Bool} (hc : c = true) (h : Gv os T v os') : Gv os (Ty.opt c T) v os' := fun w hp => by
  obtain ⟨fp, g, a, b⟩ := h w hp; exact ⟨fp, g, opt_own a hc, b⟩
theorem gv_no {c : Bool} (hc : c = false) : Gv os (Ty.opt c T) (.pointer none) os := gv_free fun _ => opt_nil hc
theorem gv_ex {α : Type} {p : α → Prop} {F : α → Ty} (x : α) (hp : p x) (h : Gv os (F x) v os') : Gv os (Ty.ex p F) v os' := fun w hw => by
  obtain ⟨fp, g, a, b⟩ := h w hw; exact ⟨fp, g, ⟨x, hp, a⟩, b⟩
theorem gvn : GvL os [] [] os := fun w hp => ⟨[], [], rfl, List.Perm.refl _, hp⟩
theorem gvc {vs : List Value} (h : Gv os T v os1) (k : GvL os1 Ts vs os') : GvL os (T :: Ts) (v :: vs) os' := fun w hp => by
  obtain ⟨f1, g1, a1, b1, c1⟩ := h w hp
  obtain ⟨f2, g2, a2, b2, c2⟩ := k w c1
  refine ⟨f1 ++ f2, g1 ++ g2, ⟨f1, f2, rfl, a1, a2⟩, List.Perm.trans ?_ b1, c2⟩
  rw [List.append_assoc]
  refine List.Perm.append_left _ ?_
  refine List.Perm.trans ?_ (List.Perm.append_left g1 b2)
  rw [List.append_assoc g1 g2]
  exact List.perm_append_comm_assoc _ _ _
theorem gv_ (h : Gv os T v os' := by repeat' (first
    | with_reducible exact gvn
    | with_reducible apply gvc
    | with_reducible exact gv_val
    | ((with_reducible apply gv_int); (first | with_reducible rfl | assumption | (symm; assumption) | rfl | omega | (simp; done)))
    | ((with_reducible apply gv_bool); (first | with_reducible rfl | assumption | (symm; assumption) | rfl | omega | (simp; done)))
    | ((with_reducible apply gv_str); (first | with_reducible rfl | assumption | (symm; assumption) | rfl | omega | (simp; done)))
    | ((with_reducible apply gv_ints); (repeat (first | with_reducible exact PickO.z | with_reducible apply PickO.s)); (first | with_reducible rfl | assumption | (symm; assumption) | rfl | omega | (simp; done)))
    | ((with_reducible apply gv_nil); (first | with_reducible rfl | assumption | (symm; assumption) | rfl | omega | (simp; done)))
    | ((with_reducible apply gv_own); (repeat (first | with_reducible exact PickO.z | with_reducible apply PickO.s)); done)
    | ((with_reducible apply gv_ownc); (repeat (first | with_reducible exact PickO.z | with_reducible apply PickO.s)); (first | with_reducible rfl | assumption | (symm; assumption) | rfl | omega | (simp; done)); done)
    | with_reducible apply gv_agg
    | with_reducible apply gv_tup
    | ((with_reducible apply gv_box); (repeat (first | with_reducible exact PickO.z | with_reducible apply PickO.s)))
    | ((with_reducible apply gv_sl); (repeat (first | with_reducible exact PickO.z | with_reducible apply PickO.s)); (repeat (first | with_reducible exact PickO.z | with_reducible apply PickO.s)); (first | with_reducible rfl | assumption | (symm; assumption) | rfl | omega | (simp; done)); all_goals decide)
    | ((with_reducible apply gv_sn); (first | with_reducible rfl | assumption | (symm; assumption) | rfl | omega | (simp; done)); rfl)
    | ((with_reducible apply gv_ro); (repeat (first | with_reducible exact PickO.z | with_reducible apply PickO.s)); (first | with_reducible rfl | assumption | (symm; assumption) | rfl | omega | (simp; done)))
    | ((with_reducible apply gv_roR); (repeat (first | with_reducible exact PickO.z | with_reducible apply PickO.s)); (first | with_reducible rfl | assumption | (symm; assumption) | rfl | omega | (simp; done)))
    | ((with_reducible apply gv_roN); (first | with_reducible rfl | assumption | (symm; assumption) | rfl | omega | (simp; done)))
    | ((with_reducible apply gv_intsL); (repeat (first | with_reducible exact PickO.z | with_reducible apply PickO.s)); first | rfl | (simp [ints_]; done))
    | ((with_reducible apply gv_intsM); (repeat (first | with_reducible exact PickO.z | with_reducible apply PickO.s)); assumption; rfl)
    | ((with_reducible apply gv_any); first | rfl | assumption)
    | ((with_reducible apply gv_yes); assumption)
    | ((with_reducible apply gv_no); assumption))) : Gv os T v os' := h
theorem zro {fn : Func} {T : Ty} {w₀ : World} {rs : List ResultVar} {vs : List Value} (x : Up w₀.heap.size w₀ u) (hq : RetQ P fn (RO w₀ T) Q := by exact rq_) (hr : fn.results = rs.toArray := by rfl) (hv : ResOk P n w₀.heap.size [] l os u rs vs := by exact rs_) (ho : OutV vs v := by exact ov_) (g : Gv os T v os' := by exact gv_) : Js P n w₀.heap.size [] Q (.ret :: cs) l os u :=
  Js.ret hr hq.eq hv fun w hw => by
    rw [ho.eq]
    obtain ⟨fp, r, a, b, _⟩ := g w hw.prs
    refine ⟨v, fp, rfl, a, ?_, fun k hk => ?_, hw.ext x⟩
    · exact (List.nodup_append.1 (b.nodup_iff.2 hw.dis)).1
    · have hm : k ∈ os.flatMap (·.fp) := b.mem_iff.1 (List.mem_append_left _ hk)
      obtain ⟨o, ho, hm⟩ := List.mem_flatMap.1 hm
      obtain ⟨p, q, _⟩ := hw.hid o ho k hm
      simp at q
      exact ⟨q, p⟩
theorem zrb (ks : List Nat) {fn : Func} {R : Value → List Own → Prop} {w₀ : World} {bs : List Own} {rs : List ResultVar} {vs : List Value} {fr : List Own} {m : Nat} (hb : Bw w₀ bs) (x : Up w₀.heap.size (offW w₀ (bs.flatMap (·.fp))) u) (h : R v fr)
    (hq : RetQ P fn (RB w₀ bs R) Q := by exact rq_) (hr : fn.results = rs.toArray := by rfl) (hv : ResOk P n w₀.heap.size (bs.flatMap (·.fp)) l os u rs vs := by exact rs_) (ho : OutV vs v := by exact ov_) (hm : ks.length = m := by rfl) (hp : PP os ks os' := by exact pp_) (hf : NL (os'.take m) fr := by exact nl) :
    Js P n w₀.heap.size (bs.flatMap (·.fp)) Q (.ret :: cs) l os u := Js.ret hr hq.eq hv fun w hw => by
  rw [ho.eq]
  have hpm := hp.perm
  have e : os' = fr ++ os'.drop m := by rw [← hf.eq, List.take_append_drop]
  have hw2 : St w₀.heap.size (bs.flatMap (·.fp)) u w (fr ++ [anyO ((os'.drop m).flatMap (·.fp))]) := hw.conv (fun o ho => by
    rcases List.mem_append.1 ho with ho | ho
    · exact hw.prs o (hpm.mem_iff.2 (by rw [e]; exact List.mem_append_left _ ho))
    · simp at ho; subst ho; trivial) (by
    have := hpm.symm.flatMap_right (fun o : Own => o.fp)
    rw [e, List.flatMap_append] at this
    rw [List.flatMap_append]
    simpa [anyO] using this)
  exact ⟨_, fr, _, rfl, h, hw2.giveBack hb x⟩
inductive Row1 : List Own → TypeId → Value → List Int → Prop
  | a {e : TypeId} {v : Value} {m : Nat} {xs : List Int} {g : List Nat} {r : List Own} : Row1 (rowO e 1 v m (ints_ xs) g :: r) e v xs
  | b {e : TypeId} {v : Value} {m : Nat} {xs : List Int} {r : List Own} : Row1 (roO e v m (ints_ xs) :: r) e v xs
  | s {e : TypeId} {v : Value} {xs : List Int} {q : Own} {r : List Own} (h : Row1 r e v xs) : Row1 (q :: r) e v xs
theorem Row1.get {e : TypeId} {v : Value} {xs : List Int} (h : Row1 os e v xs) {w : World} : (∀ o ∈ os, o.pr w) → (Ty.ints e xs).ok w v := by
  induction h with
  | a => intro hp; exact ints_rowok (hp _ List.mem_cons_self)
  | b => intro hp; exact ints_rook (hp _ List.mem_cons_self)
  | s _ ih => intro hp; exact ih fun q hq => hp q (by simp [hq])
inductive Cel : List Ty → List Value → Ty → Value → Prop
  | z {T : Ty} {Ts : List Ty} {v : Value} {vs : List Value} : Cel (T :: Ts) (v :: vs) T v
  | s {T T' : Ty} {Ts : List Ty} {v v' : Value} {vs : List Value} (h : Cel Ts vs T v) : Cel (T' :: Ts) (v' :: vs) T v
theorem Cel.get {vs : List Value} (h : Cel Ts vs T v) : cellsOk w Ts vs → T.ok w v := by
  induction h with
  | z => exact fun k => k.1
  | s _ ih => exact fun k => ih k.2
inductive Own1 : List Own → Ty → Value → Prop
  | a {Us : List Ty} {U : Ty} {v : Value} {vs : List Value} {f : List Nat} {r : List Own} (h : Cel Us vs U v) : Own1 (ownC Us vs f :: r) U v
  | s {U : Ty} {v : Value} {q : Own} {r : List Own} (h : Own1 r U v) : Own1 (q :: r) U v
theorem Own1.get (h : Own1 os T v) {w : World} : (∀ o ∈ os, o.pr w) → T.ok w v := by
  induction h with
  | a h => intro hp; exact h.get (cellsOwn.ok (show cellsOwn w _ _ _ from hp _ List.mem_cons_self))
  | s _ ih => intro hp; exact ih fun q hq => hp q (by simp [hq])
theorem ok_agg {vs : List Value} (h : cellsOk w Ts vs) : (Ty.agg Ts).ok w (.agg vs.toArray) := ⟨vs, rfl, h⟩
theorem ok_c {vs : List Value} (h : T.ok w v) (k : cellsOk w Ts vs) : cellsOk w (T :: Ts) (v :: vs) := ⟨h, k⟩
theorem ok_n : cellsOk w [] [] := trivial
theorem ok_ro {e : TypeId} {xs : List Int} (h : (Ty.ints e xs).ok w v) : (Ty.ro e xs).ok w v := h
theorem ok_ofro {e : TypeId} {xs : List Int} (h : (Ty.ro e xs).ok w v) : (Ty.ints e xs).ok w v := h
inductive LdB : List Own → Nat → List Value → Prop
  | z {b : Nat} {c : List Value} {T : TypeId} {r : List Own} : LdB (boxO b c T :: r) b c
  | s {b : Nat} {c : List Value} {q : Own} {r : List Own} (h : LdB r b c) : LdB (q :: r) b c
theorem LdB.get {b : Nat} {c : List Value} (h : LdB os b c) {w : World} : (∀ o ∈ os, o.pr w) → RowAt w b 0 c := by
  induction h with
  | @z b c T r => intro hp j x hj; exact ⟨_, _, _, hp (boxO b c T) (by simp), by simpa using hj⟩
  | s _ ih => intro hp; exact ih fun q hq => hp q (by simp [hq])
theorem ok_refB {b : Nat} {vs : List Value} (h : LdB os b vs) (hw : St lo B u w os) (k : cellsOk w Ts vs) : (Ty.ref Ts).ok w (.pointer (some ⟨b, 0, none⟩)) := ⟨b, 0, vs, rfl, k, h.get hw.prs⟩
theorem ok_refP {s b o o0 k : Nat} {vs us : List Value} {u0 : World} (hr : RowAt u0 b o0 vs) (hv : Vis u0 w) (hs : Ts.length = s) (ho : Off o o0 k) (hk : NL (takV vs k s) us) (c : cellsOk w Ts us) : (Ty.ref Ts).ok w (.pointer (some ⟨b, o, none⟩)) := ⟨b, o, us, rfl, c, by rw [← hk.eq, takV_eq, ho.eq]; exact (hr.vis hv).sub k s⟩
theorem ok_i {a : Int} : (Ty.int a).ok w (.int .i64 a) := rfl
theorem ok_b {a : Bool} : (Ty.bool a).ok w (.bool a) := rfl
theorem ok_s {a : List UInt8} : (Ty.str a).ok w (.string (sB a)) := rfl
theorem ok_ {v : Value} (hw : St lo B u w os) (h : St lo B u w os → T.ok w v := by
    intro hw
    repeat' (first
    | exact ok_i | exact ok_b | with_reducible apply ok_c | with_reducible exact ok_n | with_reducible apply ok_agg | exact ok_s | exact Ty.mono _ (by assumption) vis_ | exact nil_ok | (refine Row1.get ?_ (St.prs hw); (repeat (first | with_reducible exact Row1.a | with_reducible exact Row1.b | with_reducible apply Row1.s)); done) | (refine Own1.get ?_ (St.prs hw); (repeat (first | ((with_reducible apply Own1.a); (repeat (first | with_reducible exact Cel.z | with_reducible apply Cel.s)); done) | with_reducible apply Own1.s)); done) | (refine ok_ofro (Own1.get ?_ (St.prs hw)); (repeat (first | ((with_reducible apply Own1.a); (repeat (first | with_reducible exact Cel.z | with_reducible apply Cel.s)); done) | with_reducible apply Own1.s)); done) | apply ok_ro
    | ((with_reducible apply ok_refB (hw := hw)); (repeat (first | with_reducible exact LdB.z | with_reducible apply LdB.s))) | (apply ok_refP; assumption; exact vis_; rfl; exact off_; exact nl) | exact rfl | assumption | fail)) : T.ok w v := h hw
end
theorem len_ {p : Prop} (h : p := by first | omega | (simp only [List.length_set, List.length_append, List.length_cons, List.length_nil, List.length_take, List.length_drop, List.length_replicate]; omega)) : p := h
theorem ln2_ {p : Prop} (h : p := by first | omega | (simp only [List.length_append, List.length_cons, List.length_nil, List.length_take, List.length_drop] <;> omega)) : p := h
theorem oh_ {p q : Prop} (h : q) (k : q → p := by intro hc9; (try simp only [decide_eq_true_eq] at hc9); omega) : p := k h
theorem r5_ {p q : Prop} (h : q) (k : q → p := by intro h9; first | rfl | (dsimp only; rw [h9]; done) | (dsimp only; rw [h9]; rfl) | (dsimp only; simp only [h9]) | (rw [h9]; done) | (rw [h9]; rfl)) : p := k h
theorem rp_ {p q : Prop} (h : q) (k : q → p := by intro h9; first | (rw [h9]; done) | (rw [h9]; rfl)) : p := k h
section
variable {P : Program} {n lo : Nat} {B : List Nat} {K : Act → World → Prop} {ops : Array Oper} {l : Fr} {os os₀ : List Own} {u u₀ : World} {ty : TypeId} {pos : String} {af : Array Edge} {v : Value} {d : Nat} {x y : Operand} {nm : List Nat} {fuel : Nat} {listed : Array Bool} {z : Bool} {o : Oper} {c : Bool}
theorem jM (i : Nat) (hi : ops[i]? = some ⟨some d, .move x, ty, pos, af, none⟩) (h : opd l x = some v) (k : JH P n lo B K ops u₀ os₀ nm fuel (listed.setIfInBounds i true) z ((d, v) :: l) os u) (hs : Region.noSelect ops = true := by kernel_rfl) (hf : freeB ops i = true := by kernel_rfl) (hr : (Region.ready .any ops listed).contains i = true := by kernel_rfl) (hn : Nat.blt d n = true := by rfl) : JH P n lo B K ops u₀ os₀ nm (fuel + 1) listed z l os u := JH.p i hi (p_move h) k hs hf hr rfl rfl hn
theorem jA (i : Nat) (hi : ops[i]? = some ⟨some d, .assign x, ty, pos, af, none⟩) (h : opd l x = some v) (k : JH P n lo B K ops u₀ os₀ nm fuel (listed.setIfInBounds i true) z ((d, v) :: l) os u) (hs : Region.noSelect ops = true := by kernel_rfl) (hf : freeB ops i = true := by kernel_rfl) (hr : (Region.ready .any ops listed).contains i = true := by kernel_rfl) (hn : Nat.blt d n = true := by rfl) : JH P n lo B K ops u₀ os₀ nm (fuel + 1) listed z l os u := JH.p i hi (p_assign h) k hs hf hr rfl rfl hn
theorem jN (i : Nat) {p : Addr} (hi : ops[i]? = some ⟨some d, .nilCheck x, ty, pos, af, none⟩) (h : opd l x = some (.pointer (some p))) (k : JH P n lo B K ops u₀ os₀ nm fuel (listed.setIfInBounds i true) z ((d, .pointer (some p)) :: l) os u) (hs : Region.noSelect ops = true := by kernel_rfl) (hf : freeB ops i = true := by kernel_rfl) (hr : (Region.ready .any ops listed).contains i = true := by kernel_rfl) (hn : Nat.blt d n = true := by rfl) : JH P n lo B K ops u₀ os₀ nm (fuel + 1) listed z l os u := JH.p i hi (p_nilCheck h) k hs hf hr rfl rfl hn
theorem jF (i : Nat) {b o j off : Nat} {t ft : TypeId} {g : Bool} {s : Nat} (f : FldI P t j off ft g (s + 1)) (hi : ops[i]? = some ⟨some d, .fieldAddr t x j, ty, pos, af, none⟩) (h : opd l x = some (.pointer (some ⟨b, o, none⟩))) (k : JH P n lo B K ops u₀ os₀ nm fuel (listed.setIfInBounds i true) z ((d, .pointer (some ⟨b, o + off, none⟩)) :: l) os u) (hs : Region.noSelect ops = true := by kernel_rfl) (hf : freeB ops i = true := by kernel_rfl) (hr : (Region.ready .any ops listed).contains i = true := by kernel_rfl) (hn : Nat.blt d n = true := by rfl) : JH P n lo B K ops u₀ os₀ nm (fuel + 1) listed z l os u := JH.p i hi (p_fieldAddr f.h h) k hs hf hr rfl rfl hn
theorem jI (i : Nat) {t e : TypeId} {sz by' : Nat} {z' : List Value} {A : Option Addr} {m m' b o : Nat} {kd : IntKind} {j : Int} (f : elOf P t = some (e, sz, by', z')) (hi : ops[i]? = some ⟨some d, .indexAddr t x y, ty, pos, af, none⟩) (h1 : opd l x = some (.slice A m m')) (h2 : opd l y = some (.int kd j)) (he : elemA sz (.slice A m m') j.toNat = some ⟨b, o, none⟩) (k : JH P n lo B K ops u₀ os₀ nm fuel (listed.setIfInBounds i true) z ((d, .pointer (some ⟨b, o, none⟩)) :: l) os u) (hs : Region.noSelect ops = true := by kernel_rfl) (hf : freeB ops i = true := by kernel_rfl) (hr : (Region.ready .any ops listed).contains i = true := by kernel_rfl) (hn : Nat.blt d n = true := by rfl) (h0 : 0 ≤ j := by exact len_) (hm : j < m := by exact len_) : JH P n lo B K ops u₀ os₀ nm (fuel + 1) listed z l os u := JH.p i hi (p_indexAddr f h1 h2 h0 hm he) k hs hf hr rfl rfl hn
theorem jW (i : Nat) {t : TypeId} {s b o : Nat} (f : TyI P t false s) (hi : ops[i]? = some ⟨some d, .load t x, ty, pos, af, none⟩) (hx : opd l x = some (.pointer (some ⟨b, o, none⟩))) (h : ∀ {u'}, Vis u₀ u' → Cell u' b o v) (k : JH P n lo B K ops u₀ os₀ nm fuel (listed.setIfInBounds i true) z ((d, v) :: l) os u) (hs : Region.noSelect ops = true := by kernel_rfl) (hf : freeB ops i = true := by kernel_rfl) (hr : (Region.ready .any ops listed).contains i = true := by kernel_rfl) (hn : Nat.blt d n = true := by rfl) : JH P n lo B K ops u₀ os₀ nm (fuel + 1) listed z l os u := JH.w i hi (fun _ _ hv => q_load1 f.h hx (Mem.pub (h hv))) k hs hf hr rfl rfl hn
theorem jB (i j : Nat) {t T : TypeId} {s b o : Nat} {c : List Value} (f : TyI P t false s) (hi : ops[i]? = some ⟨some d, .load t x, ty, pos, af, none⟩) (hx : opd l x = some (.pointer (some ⟨b, o, none⟩))) (ho : os₀[j]? = some (boxO b c T)) (hc : c[o]? = some v) (k : JH P n lo B K ops u₀ os₀ nm fuel (listed.setIfInBounds i true) true ((d, v) :: l) os u) (hs : Region.noSelect ops = true := by kernel_rfl) (hf : freeB ops i = true := by kernel_rfl) (hwt : waitB ops i nm listed = true := by kernel_rfl) (hr : (Region.ready .any ops listed).contains i = true := by kernel_rfl) (hn : Nat.blt d n = true := by rfl) : JH P n lo B K ops u₀ os₀ nm (fuel + 1) listed true l os u := JH.q i hi (q_load1 f.h hx (Mem.box ho hc)) k hs hf hwt hr rfl rfl hn
end
def RxRow (w : World) (e : TypeId) (v : Value) (n : Nat) (vs : List Value) : Prop :=
  vs.length = n ∧ ((v = .slice none 0 0 ∧ n = 0) ∨ ∃ g o c cur, v = .slice (some ⟨g, o, none⟩) n c ∧ w.heap[g]? = some (.cells cur e (0, 0)) ∧ n ≤ c ∧ c ≤ maxLen ∧ (cur.toList.drop o).take n = vs)
theorem RxRow.loc {w w' : World} {e : TypeId} {v : Value} {n : Nat} {vs : List Value} (h : RxRow w e v n vs) (k : ∀ b ∈ v.ownBlock.toList, w'.heap[b]? = w.heap[b]?) : RxRow w' e v n vs := by
  refine ⟨h.1, ?_⟩
  rcases h.2 with h2 | ⟨g, o, c, cur, rfl, hg, r⟩
  · exact .inl h2
  · exact .inr ⟨g, o, c, cur, rfl, by rw [k g (by simp [Value.ownBlock])]; exact hg, r⟩
theorem RxRow.form {w : World} {e : TypeId} {v : Value} {n : Nat} {vs : List Value} (h : RxRow w e v n vs) : ∃ A c, v = .slice A n c ∧ n ≤ c ∧ c ≤ 9223372036854775807 := by
  rcases h.2 with ⟨rfl, rfl⟩ | ⟨g, o, c, cur, rfl, hg, h1, h2, _⟩
  · exact ⟨_, _, rfl, Nat.le_refl _, by omega⟩
  · exact ⟨_, _, rfl, h1, h2⟩
theorem RxRow.ok {w : World} {e : TypeId} {v : Value} {n : Nat} {xs : List Int} (h : RxRow w e v n (ints_ xs)) : (Ty.ints e xs).ok w v := by
  have hl : n = xs.length := by rw [← h.1]; simp [ints_]
  subst hl
  rcases h.2 with ⟨rfl, h0⟩ | ⟨g, o, c, cur, rfl, hg, h1, h2, h4⟩
  · exact ⟨by simp, none, 0, ints_ xs, by rw [h0], by omega, by unfold maxLen; omega, (ints_own w xs).ok, fun hp => by simp [h0] at hp⟩
  · refine ⟨by simp, some ⟨g, o, none⟩, c, ints_ xs, rfl, h1, h2, (ints_own w xs).ok, fun _ => ⟨g, o, rfl, fun j x hj => ⟨cur, e, (0, 0), hg, ?_⟩⟩⟩
    rw [← h4, List.getElem?_take] at hj
    split at hj
    · simpa [List.getElem?_drop] using hj
    · simp at hj
def rxO (e : TypeId) (v : Value) (n : Nat) (vs : List Value) : Own := ⟨v.ownBlock.toList, fun w => RxRow w e v n vs, fun h k => k.loc h⟩
def Ty.rx (e : TypeId) (xs : List Int) : Ty :=
  ⟨fun w v => (Ty.ints e xs).ok w v,
   fun w v fp => fp = v.ownBlock.toList ∧ RxRow w e v xs.length (ints_ xs),
   fun h x => Ty.mono _ h x,
   fun {_ _ _ _} h k => ⟨h.1, h.2.loc (fun b hb => k b (by rw [h.1]; exact hb))⟩,
   fun h => h.2.ok⟩
theorem ownsRow_rx {w : World} {e : TypeId} {v : Value} {m : Nat} {vs : List Value} (h : w.ownsRow 0 e 1 v m vs) : RxRow w e v m vs := by
  have hl : vs.length = m := by have := h.1; simpa using this
  rcases h.2 with ⟨h2, h3⟩ | ⟨g, cap, cur, h2, _, hg, h4, h5, h6, h7⟩
  · exact ⟨hl, .inl ⟨h2, by omega⟩⟩
  · exact ⟨hl, .inr ⟨g, 0, cap, cur, h2, hg, by omega, by omega, by simpa using h7⟩⟩
instance (e : TypeId) (xs : List Int) : Elm (Ty.rx e xs) (fun K os => ∀ A c, xs.length ≤ c → c ≤ 9223372036854775807 → K (.slice A xs.length c) (rxO e (.slice A xs.length c) xs.length (ints_ xs) :: os)) :=
  ⟨fun K os h w v fp ho => by
    obtain ⟨A, c, rfl, h1, h2⟩ := ho.2.form
    exact ⟨[rxO e (.slice A xs.length c) xs.length (ints_ xs)], h A c h1 h2, by rw [ho.1]; simp [rxO], fun o hq => by simp at hq; subst hq; exact ho.2⟩⟩
instance (e : TypeId) (xs : List Int) : Opn (Ty.rx e xs) (fun u K => ∀ A c, (Ty.ints e xs).ok u (.slice A xs.length c) → xs.length ≤ c → c ≤ 9223372036854775807 → K (.slice A xs.length c)) :=
  ⟨fun u K k v h => by obtain ⟨A, c, rfl, h1, h2⟩ := ints_form (show (Ty.ints e xs).ok u v from h); exact k A c h h1 h2⟩
instance (e : TypeId) (xs : List Int) : Frm (Ty.rx e xs) (fun K => ∀ A c, xs.length ≤ c → c ≤ 9223372036854775807 → K (.slice A xs.length c)) :=
  ⟨fun K k w v h => by obtain ⟨A, c, rfl, h1, h2⟩ := ints_form (show (Ty.ints e xs).ok w v from h); exact k A c h1 h2⟩
theorem ints_rxok {e : TypeId} {m : Nat} {xs : List Int} {w : World} {v : Value} (h : RxRow w e v m (ints_ xs)) : (Ty.ints e xs).ok w v := h.ok
section
variable {lo : Nat} {B : List Nat} {os os' : List Own} {u w : World} {v : Value}
theorem St.toRx {i m : Nat} {e : TypeId} {v : Value} {vs : List Value} {g : List Nat} (hi : os[i]? = some (rowO e 1 v m vs g)) (hw : St lo B u w os) : St lo B u w (rxO e v m vs :: anyO g :: os.eraseIdx i) := by
  have h1 := hw.front hi
  refine h1.conv (fun x hx => ?_) (by simp only [List.flatMap_cons, rxO, rowO, anyO, List.append_assoc]; exact List.Perm.refl _)
  rcases List.mem_cons.1 hx with rfl | hx
  · exact ownsRow_rx (h1.prs _ List.mem_cons_self)
  rcases List.mem_cons.1 hx with rfl | hx
  · trivial
  · exact h1.prs x (by simp [hx])
theorem St.cutRx {i m c k : Nat} {e : TypeId} {A : Option Addr} {xs : List Int} {g : List Nat} (hi : os[i]? = some (rowO e 1 (.slice A m c) m (ints_ xs) g)) (hk : k ≤ m) (hw : St lo B u w os) :
    St lo B u w (rxO e (.slice (cutA 1 A k c) (m - k) (c - k)) (m - k) (ints_ (xs.drop k)) :: anyO g :: os.eraseIdx i) := by
  have h1 := hw.front hi
  have ho : w.ownsRow 0 e 1 (.slice A m c) m (ints_ xs) := h1.prs (rowO e 1 (.slice A m c) m (ints_ xs) g) (by simp)
  have hlen : xs.length = m := by have := ho.1; simpa [ints_] using this
  have hl : (ints_ (xs.drop k)).length = m - k := by simp [ints_]; omega
  have key : RxRow w e (.slice (cutA 1 A k c) (m - k) (c - k)) (m - k) (ints_ (xs.drop k)) ∧ (Value.slice (cutA 1 A k c) (m - k) (c - k)).ownBlock.toList = (Value.slice A m c).ownBlock.toList := by
    rcases ho.2 with ⟨h2, h3⟩ | ⟨g', cap, cur, h2, _, hg, h4, h5, h6, h7⟩
    · cases h2
      have : k = 0 := by omega
      subst this
      exact ⟨⟨hl, .inl ⟨rfl, by omega⟩⟩, rfl⟩
    · cases h2
      by_cases hc : c = k
      · have e1 : cutA 1 (some ⟨g', 0, none⟩) k c = some ⟨g', 0, none⟩ := by unfold cutA; rw [if_pos hc]
        rw [e1]
        refine ⟨⟨hl, .inr ⟨g', 0, c - k, cur, rfl, hg, by omega, by omega, ?_⟩⟩, by simp [Value.ownBlock]⟩
        have : m - k = 0 := by omega
        have hz : xs.drop k = [] := List.drop_eq_nil_of_le (by omega)
        rw [this, hz]; simp [ints_]
      · have e1 : cutA 1 (some ⟨g', 0, none⟩) k c = some ⟨g', k, none⟩ := by unfold cutA; rw [if_neg hc]; simp [Addr.add]; try omega
        rw [e1]
        refine ⟨⟨hl, .inr ⟨g', k, c - k, cur, rfl, hg, by omega, by omega, ?_⟩⟩, by simp [Value.ownBlock]⟩
        have : ints_ (xs.drop k) = (ints_ xs).drop k := by simp [ints_, List.map_drop]
        rw [this, ← h7, List.drop_take]
        congr 1; omega
  refine h1.conv (fun x hx => ?_) (by simp only [List.flatMap_cons, rxO, rowO, anyO, key.2, List.append_assoc]; exact List.Perm.refl _)
  rcases List.mem_cons.1 hx with rfl | hx
  · exact key.1
  rcases List.mem_cons.1 hx with rfl | hx
  · trivial
  · exact h1.prs x (by simp [hx])
end
section
variable {P : Program} {n : Nat} {l : Fr} {dst : Option Tmp} {ty : TypeId} {pos : String} {af : Array Edge} {gd : Option (Nat × Bool)}
end
end Go.Proofs.YtjdhgkdimanabaaGreatDoor
namespace Go.Proofs.YtjdhgkdimanabaaGreatDoor.M
structure Opt where
  move : Int
  value : Int
  deriving DecidableEq
structure Puz where
  rules : Rul
  position : Pos
  depth : Int
  move : Int
  value : Int
  margin : Int
  deriving DecidableEq
def Opt.zero : Opt := ⟨0, 0⟩
def Puz.zero : Puz := ⟨Rul.zero, Pos.zero, 0, 0, 0, 0⟩
theorem puz_ext {a b : Puz} (h1 : a.rules = b.rules) (h2 : a.position = b.position) (h3 : a.depth = b.depth) (h4 : a.move = b.move) (h5 : a.value = b.value) (h6 : a.margin = b.margin) : a = b := by cases a; cases b; simp_all
def endV (r : Rul) (p : Pos) : Int := side r p.pits p.player - side r p.pits (1 - p.player)
def moveV (x : Res) (v : Int) : Int := if x.again = true then x.gain + v else x.gain - v
theorem moveV_y {x : Res} {v : Int} (h : x.again = true) : moveV x v = x.gain + v := by unfold moveV; rw [if_pos h]
theorem moveV_n {x : Res} {v : Int} (h : x.again = false) : moveV x v = x.gain - v := by unfold moveV; rw [if_neg (by simp [h])]
def bestF (fst : Bool) (b : Int) : List Int → Int
  | [] => b
  | v :: l => bestF false (if fst = true ∨ b < v then v else b) l
def best (l : List Int) : Int := bestF true 0 l
theorem bestF_bd {B : Int} : ∀ (l : List Int) (fst : Bool) (b : Int), -B ≤ b → b ≤ B → (∀ v ∈ l, -B ≤ v ∧ v ≤ B) → -B ≤ bestF fst b l ∧ bestF fst b l ≤ B
  | [], _, _, h1, h2, _ => ⟨h1, h2⟩
  | v :: l, fst, b, h1, h2, h => by
    have hv := h v (by simp)
    rw [bestF]
    refine bestF_bd l false _ ?_ ?_ (fun x hx => h x (by simp [hx]))
    · split <;> omega
    · split <;> omega
theorem results_fact {r : Rul} {p : Pos} {x : Res} (h : x ∈ results r p) : ∃ move : Int, (make r p move).2 = 0 ∧ x = (make r p move).1 := by
  obtain ⟨m, _, h2, h3⟩ := resultsTo_mem.1 h
  exact ⟨_, h2, h3⟩
theorem results_get0 {r : Rul} {p : Pos} {x : Res} {k : Nat} (h : (results r p)[k]? = some x) : x ∈ results r p := List.mem_of_getElem? h
theorem results_ok {r : Rul} {p : Pos} {x : Res} (h : x ∈ results r p) : okP r x.next = true := by
  obtain ⟨m, h2, rfl⟩ := results_fact h
  exact (make_ok h2).2.2.2.1
theorem make_gain {r : Rul} {p : Pos} {move : Int} (h : (make r p move).2 = 0) : -96 ≤ (make r p move).1.gain ∧ (make r p move).1.gain ≤ 96 := by
  have h1 := make_code (r := r) (p := p) (move := move)
  rw [h] at h1
  obtain ⟨hok, _, _, hG⟩ := done_good h1.symm
  rw [make_yes h1.symm]
  have a1 := hG.store p.player
  have a2 := (Good.of_ok hok).store p.player
  show -96 ≤ getI _ _ - getI _ _ ∧ getI _ _ - getI _ _ ≤ 96
  omega
theorem results_gain {r : Rul} {p : Pos} {x : Res} (h : x ∈ results r p) : -96 ≤ x.gain ∧ x.gain ≤ 96 := by
  obtain ⟨m, h2, rfl⟩ := results_fact h
  exact make_gain h2
theorem results_8 {r : Rul} {p : Pos} (h : okP r p = true) : (results r p).length ≤ 8 := by
  have h1 := resultsTo_len (r := r) (p := p) r.pits.toNat
  have h2 := okP_bd h
  unfold results; omega
def val (r : Rul) : Nat → Pos → Int
  | 0, p => if (results r p).length = 0 then endV r p else 0
  | d + 1, p => if (results r p).length = 0 then endV r p else best ((results r p).map fun x => moveV x (val r d x.next))
theorem val_end {r : Rul} {d : Nat} {p : Pos} (h : (results r p).length = 0) : val r d p = endV r p := by
  cases d <;> rw [val, if_pos h]
theorem val_0 {r : Rul} {p : Pos} (h : (results r p).length ≠ 0) : val r 0 p = 0 := by rw [val, if_neg h]
theorem val_s {r : Rul} {d : Nat} {p : Pos} (h : (results r p).length ≠ 0) : val r (d + 1) p = best ((results r p).map fun x => moveV x (val r d x.next)) := by rw [val, if_neg h]
theorem endV_bd {r : Rul} {p : Pos} (h : okP r p = true) : -768 ≤ endV r p ∧ endV r p ≤ 768 := by
  obtain ⟨g1, g2, g3, g4, g5, g6, g7⟩ := okP_bd h
  have a := side_bd g5 g2 p.player
  have b := side_bd g5 g2 (1 - p.player)
  unfold endV; omega
theorem moveV_bd {x : Res} {v B : Int} (h1 : -96 ≤ x.gain ∧ x.gain ≤ 96) (h2 : -B ≤ v ∧ v ≤ B) : -(B + 96) ≤ moveV x v ∧ moveV x v ≤ B + 96 := by
  unfold moveV; split <;> omega
theorem val_bd {r : Rul} : ∀ (d : Nat) (p : Pos), okP r p = true → -(768 + 96 * (d : Int)) ≤ val r d p ∧ val r d p ≤ 768 + 96 * (d : Int)
  | 0, p, h => by
    have := endV_bd h
    rw [val]; split <;> omega
  | d + 1, p, h => by
    have := endV_bd h
    rw [val]; split
    · omega
    refine bestF_bd _ _ _ (by omega) (by omega) (fun v hv => ?_)
    obtain ⟨x, hx, rfl⟩ := List.mem_map.1 hv
    have h1 := val_bd d x.next (results_ok hx)
    have h2 := moveV_bd (results_gain hx) h1
    omega
def vals (r : Rul) (d : Nat) (p : Pos) : List Int := (results r p).map fun x => moveV x (val r d x.next)
theorem vals_len (r : Rul) (d : Nat) (p : Pos) : (vals r d p).length = (results r p).length := by simp [vals]
theorem vals_get {r : Rul} {d : Nat} {p : Pos} {k : Nat} {y : Res} (h : (results r p)[k]? = some y) : (vals r d p)[k]? = some (moveV y (val r d y.next)) := by unfold vals; rw [List.getElem?_map, h]; rfl
theorem val_d {r : Rul} {depth : Int} {p : Pos} (h : (results r p).length ≠ 0) (hd : 1 ≤ depth) : val r depth.toNat p = best (vals r (depth - 1).toNat p) := by
  rw [show depth.toNat = (depth - 1).toNat + 1 by omega, val_s h]; rfl
theorem drop_some {α : Type} {l : List α} {k : Nat} {y : α} (h : l[k]? = some y) : l.drop k = y :: l.drop (k + 1) := by
  obtain ⟨hk, rfl⟩ := List.getElem?_eq_some_iff.1 h
  exact List.drop_eq_getElem_cons hk
theorem bestF_y {l : List Int} {k : Nat} {v b X : Int} (h : bestF (decide (k = 0)) b (l.drop k) = X) (hv : l[k]? = some v) (hc : k = 0 ∨ b < v) : bestF (decide (k + 1 = 0)) v (l.drop (k + 1)) = X := by
  rw [drop_some hv, bestF, if_pos (by simpa using hc)] at h
  simpa using h
theorem bestF_n {l : List Int} {k : Nat} {v b X : Int} (h : bestF (decide (k = 0)) b (l.drop k) = X) (hv : l[k]? = some v) (hc : ¬ (k = 0 ∨ b < v)) : bestF (decide (k + 1 = 0)) b (l.drop (k + 1)) = X := by
  rw [drop_some hv, bestF, if_neg (by simpa using hc)] at h
  simpa using h
theorem bestF_e {l : List Int} {k : Nat} {c : Bool} {b X : Int} (h : bestF c b (l.drop k) = X) (hk : l.length ≤ k) : X = b := by
  rw [List.drop_eq_nil_of_le hk] at h; exact h.symm
def size (r : Rul) : Nat → Pos → Int
  | 0, _ => 1
  | d + 1, p => 1 + isum ((results r p).map fun x => size r d x.next)
def szgo (f : Pos → Int) : Int → List Res → Int
  | s, [] => s
  | s, x :: l => if 3000 < s + f x.next then s + f x.next else szgo f (s + f x.next) l
def sizeT (r : Rul) : Nat → Pos → Int
  | 0, _ => 1
  | d + 1, p => szgo (sizeT r d) 1 (results r p)
theorem size_pos (r : Rul) : ∀ (d : Nat) (p : Pos), 1 ≤ size r d p
  | 0, _ => by rw [size]; omega
  | d + 1, p => by
    rw [size]
    have := nn_isum (l := (results r p).map fun x => size r d x.next) (fun v hv => by
      obtain ⟨x, _, rfl⟩ := List.mem_map.1 hv
      have := size_pos r d x.next; omega)
    omega
theorem szgo_bd {f : Pos → Int} {B : Int} (h : ∀ p, 1 ≤ f p ∧ f p ≤ B) : ∀ (l : List Res) (s : Int), 1 ≤ s → s ≤ 3000 → 1 ≤ szgo f s l ∧ szgo f s l ≤ 3000 + B
  | [], s, h1, h2 => by have := h Pos.zero; rw [szgo]; omega
  | x :: l, s, h1, h2 => by
    have h3 := h x.next
    rw [szgo]; split
    · omega
    · exact szgo_bd h l _ (by omega) (by omega)
theorem sizeT_bd (r : Rul) : ∀ (d : Nat) (p : Pos), 1 ≤ sizeT r d p ∧ sizeT r d p ≤ 3001 * (d + 1 : Nat)
  | 0, _ => by rw [sizeT]; omega
  | d + 1, p => by
    rw [sizeT]
    have := szgo_bd (sizeT_bd r d) (results r p) 1 (by omega) (by omega)
    omega
theorem szgo_eq {f g : Pos → Int} (hg : ∀ p, 1 ≤ g p) (h : ∀ p, (f p ≤ 3000 → f p = g p) ∧ (3000 < f p → 3000 < g p)) : ∀ (l : List Res) (s : Int), 0 ≤ s → s ≤ 3000 →
    (szgo f s l ≤ 3000 → szgo f s l = s + isum (l.map fun x => g x.next)) ∧ (3000 < szgo f s l → 3000 < s + isum (l.map fun x => g x.next))
  | [], s, h0, h1 => by simp only [szgo, List.map_nil]; rw [isum_nil]; omega
  | x :: l, s, h0, h1 => by
    have h2 := h x.next
    have h3 := hg x.next
    have h4 : 0 ≤ isum (l.map fun x => g x.next) := nn_isum (fun v hv => by
      obtain ⟨y, _, rfl⟩ := List.mem_map.1 hv
      have := hg y.next; omega)
    rw [szgo, List.map_cons, isum_cons]
    split
    · rename_i hb
      refine ⟨fun h => by omega, fun _ => ?_⟩
      by_cases h5 : f x.next ≤ 3000
      · rw [h2.1 h5] at hb; omega
      · have := h2.2 (by omega); omega
    · rename_i hb
      have h5 : f x.next ≤ 3000 := by
        by_cases h5 : f x.next ≤ 3000
        · exact h5
        · have := h2.2 (by omega)
          omega
      have h6 := h2.1 h5
      rw [h6] at hb ⊢
      have := szgo_eq hg h l (s + g x.next) (by omega) (by omega)
      rw [Int.add_assoc] at this
      exact this
theorem sizeT_eq (r : Rul) : ∀ (d : Nat) (p : Pos), (sizeT r d p ≤ 3000 → sizeT r d p = size r d p) ∧ (3000 < sizeT r d p → 3000 < size r d p)
  | 0, p => by rw [sizeT, size]; exact ⟨fun _ => rfl, fun h => h⟩
  | d + 1, p => by
    rw [sizeT, size]
    exact szgo_eq (size_pos r d) (sizeT_eq r d) _ 1 (by omega) (by omega)
theorem sizeT_big (r : Rul) (d : Nat) (p : Pos) : 3000 < sizeT r d p ↔ 3000 < size r d p := by
  have h := sizeT_eq r d p
  constructor
  · exact h.2
  · intro h2
    by_cases h3 : sizeT r d p ≤ 3000
    · rw [← h.1 h3] at h2; omega
    · omega
theorem isum_mem {l : List Int} {v : Int} (h : nn l) (hv : v ∈ l) : v ≤ isum l := by
  obtain ⟨k, hk, rfl⟩ := List.getElem_of_mem hv
  rw [← nth_eq hk]; exact nth_le_isum h k
theorem size_sub {r : Rul} {d : Nat} {p : Pos} {x : Res} (h : x ∈ results r p) : size r d x.next ≤ size r (d + 1) p := by
  have := isum_mem (l := (results r p).map fun x => size r d x.next) (v := size r d x.next) (fun v hv => by
      obtain ⟨x, _, rfl⟩ := List.mem_map.1 hv
      have := size_pos r d x.next; omega) (List.mem_map.2 ⟨x, h, rfl⟩)
  rw [size]; omega
theorem szgo_y {f : Pos → Int} {s X : Int} {l : List Res} {k : Nat} {y : Res} (h : szgo f s (l.drop k) = X) (hy : l[k]? = some y) (hc : 3000 < s + f y.next) : X = s + f y.next := by
  rw [drop_some hy, szgo, if_pos hc] at h; exact h.symm
theorem szgo_n {f : Pos → Int} {s X : Int} {l : List Res} {k : Nat} {y : Res} (h : szgo f s (l.drop k) = X) (hy : l[k]? = some y) (hc : ¬ 3000 < s + f y.next) : szgo f (s + f y.next) (l.drop (k + 1)) = X := by
  rw [drop_some hy, szgo, if_neg hc] at h; exact h
theorem szgo_e {f : Pos → Int} {s X : Int} {l : List Res} {k : Nat} (h : szgo f s (l.drop k) = X) (hk : l.length ≤ k) : X = s := by
  rw [List.drop_eq_nil_of_le hk] at h; exact h.symm
theorem sizeT_d {r : Rul} {depth : Int} {p : Pos} (hd : 1 ≤ depth) : sizeT r depth.toNat p = szgo (sizeT r (depth - 1).toNat) 1 (results r p) := by
  rw [show depth.toNat = (depth - 1).toNat + 1 by omega, sizeT]
def svL (f : Pos → Int → Int × Int) : Bool → Int → Int → List Res → Int × Int
  | _, b, s, [] => (b, s)
  | fst, b, s, x :: l => svL f false (if fst = true ∨ b < moveV x (f x.next s).1 then moveV x (f x.next s).1 else b) (f x.next s).2 l
def sv (r : Rul) : Nat → Pos → Int → Int × Int
  | 0, p, s => if 3000 < s + 1 then (0, s + 1) else if (results r p).length = 0 then (endV r p, s + 1) else (0, s + 1)
  | d + 1, p, s => if 3000 < s + 1 then (0, s + 1) else if (results r p).length = 0 then (endV r p, s + 1) else svL (sv r d) true 0 (s + 1) (results r p)
theorem sv_big {r : Rul} {d : Nat} {p : Pos} {s : Int} (h : 3000 < s + 1) : sv r d p s = (0, s + 1) := by cases d <;> rw [sv, if_pos h]
theorem sv_end {r : Rul} {d : Nat} {p : Pos} {s : Int} (h : ¬ 3000 < s + 1) (h2 : (results r p).length = 0) : sv r d p s = (endV r p, s + 1) := by cases d <;> rw [sv, if_neg h, if_pos h2]
theorem sv_0 {r : Rul} {p : Pos} {s : Int} (h : ¬ 3000 < s + 1) (h2 : (results r p).length ≠ 0) : sv r 0 p s = (0, s + 1) := by rw [sv, if_neg h, if_neg h2]
theorem sv_s {r : Rul} {d : Nat} {p : Pos} {s : Int} (h : ¬ 3000 < s + 1) (h2 : (results r p).length ≠ 0) : sv r (d + 1) p s = svL (sv r d) true 0 (s + 1) (results r p) := by rw [sv, if_neg h, if_neg h2]
theorem svL_bd {f : Pos → Int → Int × Int} {B : Int} (hf : ∀ p s, (3000 ≤ s → (f p s).2 = s + 1) ∧ (s < 3000 → s ≤ (f p s).2 ∧ (f p s).2 ≤ B)) (hB : 3001 ≤ B) : ∀ (l : List Res) (fst : Bool) (b s : Int), s ≤ B →
    s ≤ (svL f fst b s l).2 ∧ (svL f fst b s l).2 ≤ B + l.length
  | [], _, _, s, h => by rw [svL]; simp; omega
  | x :: l, fst, b, s, h => by
    rw [svL]
    have h1 := hf x.next s
    by_cases h3 : 3000 ≤ s
    · have h4 := h1.1 h3
      rw [h4]
      have h5 := svL_hi hf hB l false (if fst = true ∨ b < moveV x (f x.next s).1 then moveV x (f x.next s).1 else b) (s + 1) (by omega)
      rw [h5, List.length_cons]; omega
    · have h4 := h1.2 (by omega)
      have h5 := svL_bd hf hB l false (if fst = true ∨ b < moveV x (f x.next s).1 then moveV x (f x.next s).1 else b) _ h4.2
      rw [List.length_cons]; omega
where
  svL_hi {f : Pos → Int → Int × Int} {B : Int} (hf : ∀ p s, (3000 ≤ s → (f p s).2 = s + 1) ∧ (s < 3000 → s ≤ (f p s).2 ∧ (f p s).2 ≤ B)) (hB : 3001 ≤ B) : ∀ (l : List Res) (fst : Bool) (b s : Int), 3000 ≤ s → (svL f fst b s l).2 = s + l.length
  | [], _, _, s, h => by rw [svL]; simp
  | x :: l, fst, b, s, h => by
    rw [svL, (hf x.next s).1 h, svL_hi hf hB l _ _ _ (by omega), List.length_cons]; omega
theorem sv_bd {r : Rul} : ∀ (d : Nat) (p : Pos) (s : Int), (∀ q, (results r q).length ≤ 8) → (3000 ≤ s → (sv r d p s).2 = s + 1) ∧ (s < 3000 → s ≤ (sv r d p s).2 ∧ (sv r d p s).2 ≤ 3001 + 8 * (d : Int))
  | 0, p, s, h8 => by
    rw [sv]; split
    · simp; omega
    split <;> (simp; omega)
  | d + 1, p, s, h8 => by
    rw [sv]; split
    · simp; omega
    split
    · simp; omega
    · rename_i h1 _
      have := svL_bd (B := 3001 + 8 * (d : Int)) (f := sv r d) (fun q t => sv_bd d q t h8) (by omega) (results r p) true 0 (s + 1) (by omega)
      have h3 := h8 p
      omega
theorem svL_val {f : Pos → Int → Int × Int} {g v : Pos → Int} (hg : ∀ p, 1 ≤ g p) (hf : ∀ p s, 0 ≤ s → s + g p ≤ 3000 → f p s = (v p, s + g p)) : ∀ (l : List Res) (fst : Bool) (b s : Int), 0 ≤ s →
    s + isum (l.map fun x => g x.next) ≤ 3000 → svL f fst b s l = (bestF fst b (l.map fun x => moveV x (v x.next)), s + isum (l.map fun x => g x.next))
  | [], _, _, s, _, _ => by simp [svL, bestF]
  | x :: l, fst, b, s, h0, h => by
    rw [List.map_cons, isum_cons] at h
    have h1 := hg x.next
    have h4 : 0 ≤ isum (l.map fun x => g x.next) := nn_isum (fun v hv => by
      obtain ⟨y, _, rfl⟩ := List.mem_map.1 hv
      have := hg y.next; omega)
    rw [svL, hf x.next s h0 (by omega), svL_val hg hf l _ _ _ (by omega) (by omega), List.map_cons, List.map_cons, isum_cons, bestF, Int.add_assoc]
theorem sv_val {r : Rul} : ∀ (d : Nat) (p : Pos) (s : Int), 0 ≤ s → s + size r d p ≤ 3000 → sv r d p s = (val r d p, s + size r d p)
  | 0, p, s, h0, h => by
    rw [size] at h ⊢
    rw [sv, if_neg (by omega), val]; split <;> rfl
  | d + 1, p, s, h0, h => by
    have h1 := size_pos r (d + 1) p
    by_cases h2 : (results r p).length = 0
    · rw [sv_end (by omega) h2, val_end h2, size]
      rw [List.eq_nil_of_length_eq_zero h2]; simp
    · rw [sv_s (by omega) h2, val_s h2, size] at *
      rw [svL_val (size_pos r d) (fun q t => sv_val d q t) _ _ _ _ (by omega) (by omega), best, Int.add_assoc]
theorem svL_grow {f : Pos → Int → Int × Int} {g : Pos → Int} (hm : ∀ p s, s ≤ (f p s).2) (hg : ∀ p s, 0 ≤ s → 3000 < s + g p → 3000 < (f p s).2) (he : ∀ p s, 0 ≤ s → s + g p ≤ 3000 → (f p s).2 = s + g p) : ∀ (l : List Res) (fst : Bool) (b s : Int), 0 ≤ s →
    s ≤ (svL f fst b s l).2 ∧ (3000 < s + isum (l.map fun x => g x.next) → 3000 < (svL f fst b s l).2)
  | [], _, _, s, _ => by simp [svL]
  | x :: l, fst, b, s, h0 => by
    have h1 := hm x.next s
    have h2 := svL_grow hm hg he l false (if fst = true ∨ b < moveV x (f x.next s).1 then moveV x (f x.next s).1 else b) (f x.next s).2 (by omega)
    rw [svL, List.map_cons, isum_cons]
    refine ⟨by omega, fun h3 => ?_⟩
    by_cases h4 : 3000 < s + g x.next
    · have := hg x.next s h0 h4; omega
    · rw [he x.next s h0 (by omega)] at h2 ⊢
      exact h2.2 (by omega)
theorem sv_grow {r : Rul} (h8 : ∀ q, (results r q).length ≤ 8) : ∀ (d : Nat) (p : Pos) (s : Int), 0 ≤ s → 3000 < s + size r d p → 3000 < (sv r d p s).2
  | 0, p, s, h0, h => by
    rw [size] at h
    rw [sv_big (by omega)]; simp; omega
  | d + 1, p, s, h0, h => by
    by_cases h1 : 3000 < s + 1
    · rw [sv_big h1]; simp; omega
    by_cases h2 : (results r p).length = 0
    · exfalso
      rw [size, List.eq_nil_of_length_eq_zero h2] at h; simp at h; omega
    rw [sv_s h1 h2]
    rw [size] at h
    refine (svL_grow (g := size r d) (fun q t => ?_) (fun q t => sv_grow h8 d q t) (fun q t ha hb => by rw [sv_val d q t ha hb]) (results r p) true 0 (s + 1) (by omega)).2 (by omega)
    have := sv_bd d q t h8
    by_cases h9 : 3000 ≤ t
    · have := this.1 h9; omega
    · have := this.2 (by omega); omega
theorem svL_vbd {f : Pos → Int → Int × Int} {B : Int} {l0 : List Res} (hf : ∀ x ∈ l0, ∀ s, -B ≤ (f x.next s).1 ∧ (f x.next s).1 ≤ B) (hg : ∀ x ∈ l0, -96 ≤ x.gain ∧ x.gain ≤ 96) : ∀ (l : List Res) (fst : Bool) (b s : Int), (∀ x ∈ l, x ∈ l0) → -(B + 96) ≤ b → b ≤ B + 96 →
    -(B + 96) ≤ (svL f fst b s l).1 ∧ (svL f fst b s l).1 ≤ B + 96
  | [], _, b, s, _, h1, h2 => by rw [svL]; exact ⟨h1, h2⟩
  | x :: l, fst, b, s, hl, h1, h2 => by
    have h3 := moveV_bd (hg x (hl x (by simp))) (hf x (hl x (by simp)) s)
    rw [svL]
    refine svL_vbd hf hg l _ _ _ (fun y hy => hl y (by simp [hy])) ?_ ?_
    · split <;> omega
    · split <;> omega
theorem sv_vbd {r : Rul} : ∀ (d : Nat) (p : Pos) (s : Int), okP r p = true → -(768 + 96 * (d : Int)) ≤ (sv r d p s).1 ∧ (sv r d p s).1 ≤ 768 + 96 * (d : Int)
  | 0, p, s, h => by
    have := endV_bd h
    rw [sv]; split
    · simp
    split <;> (simp; try omega)
  | d + 1, p, s, h => by
    have := endV_bd h
    rw [sv]; split
    · simp; omega
    split
    · simp; omega
    · have := svL_vbd (f := sv r d) (B := 768 + 96 * (d : Int)) (l0 := results r p) (fun x hx t => sv_vbd d x.next t (results_ok hx)) (fun x hx => results_gain hx) (results r p) true 0 (s + 1) (fun _ h => h) (by omega) (by omega)
      omega
theorem results_8R {r : Rul} (h : okR r = true) : ∀ q : Pos, (results r q).length ≤ 8 := fun q => by
  have h1 := resultsTo_len (r := r) (p := q) r.pits.toNat
  have h2 := okR_bd h
  unfold results; omega
theorem svL_y {f : Pos → Int → Int × Int} {b z : Int} {X : Int × Int} {l : List Res} {k : Nat} {y : Res} (h : svL f (decide (k = 0)) b z (l.drop k) = X) (hy : l[k]? = some y) (hc : k = 0 ∨ b < moveV y (f y.next z).1) : svL f (decide (k + 1 = 0)) (moveV y (f y.next z).1) (f y.next z).2 (l.drop (k + 1)) = X := by
  rw [drop_some hy, svL, if_pos (by simpa using hc)] at h
  simpa using h
theorem svL_n {f : Pos → Int → Int × Int} {b z : Int} {X : Int × Int} {l : List Res} {k : Nat} {y : Res} (h : svL f (decide (k = 0)) b z (l.drop k) = X) (hy : l[k]? = some y) (hc : ¬ (k = 0 ∨ b < moveV y (f y.next z).1)) : svL f (decide (k + 1 = 0)) b (f y.next z).2 (l.drop (k + 1)) = X := by
  rw [drop_some hy, svL, if_neg (by simpa using hc)] at h
  simpa using h
theorem svL_e {f : Pos → Int → Int × Int} {c : Bool} {b z : Int} {X : Int × Int} {l : List Res} {k : Nat} (h : svL f c b z (l.drop k) = X) (hk : l.length ≤ k) : X = (b, z) := by
  rw [List.drop_eq_nil_of_le hk] at h; exact h.symm
theorem sv_d {r : Rul} {depth : Int} {p : Pos} {s : Int} (h : ¬ 3000 < s + 1) (h2 : (results r p).length ≠ 0) (hd : 1 ≤ depth) : sv r depth.toNat p s = svL (sv r (depth - 1).toNat) true 0 (s + 1) (results r p) := by
  rw [show depth.toNat = (depth - 1).toNat + 1 by omega, sv_s h h2]
theorem sv_too {r : Rul} {d : Nat} {p : Pos} (h : okR r = true) : 3000 < (sv r d p 0).2 ↔ 3000 < size r d p := by
  constructor
  · intro h1
    by_cases h2 : 0 + size r d p ≤ 3000
    · rw [sv_val d p 0 (by omega) h2] at h1; simp at h1; omega
    · omega
  · intro h1
    exact sv_grow (results_8R h) d p 0 (by omega) (by omega)
def szk (r : Rul) (d : Nat) (p : Pos) (k : Nat) : Int := isum (((results r p).take k).map fun x => size r d x.next)
theorem szk_zero (r : Rul) (d : Nat) (p : Pos) : szk r d p 0 = 0 := by simp [szk]
theorem szk_step {r : Rul} {d : Nat} {p : Pos} {k : Nat} {y : Res} (h : (results r p)[k]? = some y) : szk r d p (k + 1) = szk r d p k + size r d y.next := by
  unfold szk
  rw [List.take_add_one, h, List.map_append, isum_append]
  simp
theorem szk_le (r : Rul) (d : Nat) (p : Pos) (k : Nat) : 0 ≤ szk r d p k ∧ szk r d p k + 1 ≤ size r (d + 1) p := by
  have hn : ∀ l : List Res, 0 ≤ isum (l.map fun x => size r d x.next) := fun l => nn_isum (fun v hv => by
      obtain ⟨x, _, rfl⟩ := List.mem_map.1 hv
      have := size_pos r d x.next; omega)
  have h1 := hn ((results r p).take k)
  have h2 := hn ((results r p).drop k)
  have h3 : isum ((results r p).map fun x => size r d x.next) = isum (((results r p).take k).map fun x => size r d x.next) + isum (((results r p).drop k).map fun x => size r d x.next) := by
    rw [← isum_append, ← List.map_append, List.take_append_drop]
  rw [size]; unfold szk; omega
def baseC (r : Rul) (p : Pos) (depth : Int) : Int := if okP r p = true then (if betw depth 0 8 = true then 0 else 2) else 1
def srchC (r : Rul) (p : Pos) (depth : Int) : Int := if okP r p = true then (if betw depth 0 8 = true then (if 3000 < size r depth.toNat p then 5 else 0) else 2) else 1
def optsC (r : Rul) (p : Pos) (depth : Int) : Int := if okP r p = true ∧ depth = 0 then 2 else srchC r p depth
theorem srchC_1 {r : Rul} {p : Pos} {depth : Int} (h : okP r p = false) : srchC r p depth = 1 := by unfold srchC; rw [if_neg (by simp [h])]
theorem srchC_2 {r : Rul} {p : Pos} {depth : Int} (h : okP r p = true) (h2 : betw depth 0 8 = false) : srchC r p depth = 2 := by unfold srchC; rw [if_pos h, if_neg (by simp [h2])]
theorem srchC_5 {r : Rul} {p : Pos} {depth : Int} (h : okP r p = true) (h2 : betw depth 0 8 = true) (h3 : 3000 < size r depth.toNat p) : srchC r p depth = 5 := by unfold srchC; rw [if_pos h, if_pos h2, if_pos h3]
theorem srchC_0 {r : Rul} {p : Pos} {depth : Int} (h : okP r p = true) (h2 : betw depth 0 8 = true) (h3 : ¬ 3000 < size r depth.toNat p) : srchC r p depth = 0 := by unfold srchC; rw [if_pos h, if_pos h2, if_neg h3]
theorem srchC_ok {r : Rul} {p : Pos} {depth : Int} (h : srchC r p depth = 0) : okP r p = true ∧ 0 ≤ depth ∧ depth ≤ 8 ∧ size r depth.toNat p ≤ 3000 := by
  unfold srchC at h
  by_cases h1 : okP r p = true
  · rw [if_pos h1] at h
    by_cases h2 : betw depth 0 8 = true
    · rw [if_pos h2] at h
      by_cases h3 : 3000 < size r depth.toNat p
      · rw [if_pos h3] at h; simp at h
      · have := betw_iff.1 h2; exact ⟨h1, this.1, this.2, by omega⟩
    · rw [if_neg h2] at h; simp at h
  · rw [if_neg h1] at h; simp at h
theorem optsC_2 {r : Rul} {p : Pos} {depth : Int} (h : okP r p = true ∧ depth = 0) : optsC r p depth = 2 := by unfold optsC; rw [if_pos h]
theorem optsC_s {r : Rul} {p : Pos} {depth : Int} (h : ¬ (okP r p = true ∧ depth = 0)) : optsC r p depth = srchC r p depth := by unfold optsC; rw [if_neg h]
theorem optsC_ok {r : Rul} {p : Pos} {depth : Int} (h : optsC r p depth = 0) : okP r p = true ∧ 1 ≤ depth ∧ depth ≤ 8 ∧ size r depth.toNat p ≤ 3000 ∧ srchC r p depth = 0 := by
  by_cases h1 : okP r p = true ∧ depth = 0
  · rw [optsC_2 h1] at h; simp at h
  · rw [optsC_s h1] at h
    obtain ⟨a, b, c, d⟩ := srchC_ok h
    refine ⟨a, ?_, c, d, h⟩
    by_cases h2 : depth = 0
    · exact absurd ⟨a, h2⟩ h1
    · omega
theorem baseC_1 {r : Rul} {p : Pos} {depth : Int} (h : okP r p = false) : baseC r p depth = 1 := by unfold baseC; rw [if_neg (by simp [h])]
theorem baseC_2 {r : Rul} {p : Pos} {depth : Int} (h : okP r p = true) (h2 : betw depth 0 8 = false) : baseC r p depth = 2 := by unfold baseC; rw [if_pos h, if_neg (by simp [h2])]
theorem baseC_0 {r : Rul} {p : Pos} {depth : Int} (h : okP r p = true) (h2 : betw depth 0 8 = true) : baseC r p depth = 0 := by unfold baseC; rw [if_pos h, if_pos h2]
theorem baseC_ok {r : Rul} {p : Pos} {depth : Int} (h : baseC r p depth = 0) : okP r p = true ∧ 0 ≤ depth ∧ depth ≤ 8 := by
  cases h1 : okP r p
  · rw [baseC_1 h1] at h; simp at h
  · cases h2 : betw depth 0 8
    · rw [baseC_2 h1 h2] at h; simp at h
    · have := betw_iff.1 h2; exact ⟨rfl, this.1, this.2⟩
theorem baseC_srch {r : Rul} {p : Pos} {depth : Int} (h : baseC r p depth ≠ 0) : srchC r p depth = baseC r p depth := by
  cases h1 : okP r p
  · rw [baseC_1 h1, srchC_1 h1]
  · cases h2 : betw depth 0 8
    · rw [baseC_2 h1 h2, srchC_2 h1 h2]
    · rw [baseC_0 h1 h2] at h; exact absurd rfl h
def ask (r : Rul) (p : Pos) (depth : Int) : Int × Int × Int := if srchC r p depth = 0 then (val r depth.toNat p, size r depth.toNat p, 0) else (0, 0, srchC r p depth)
theorem ask_no {r : Rul} {p : Pos} {depth : Int} (h : srchC r p depth ≠ 0) : ask r p depth = (0, 0, srchC r p depth) := by unfold ask; rw [if_neg h]
theorem ask_yes {r : Rul} {p : Pos} {depth : Int} (h : srchC r p depth = 0) : ask r p depth = (val r depth.toNat p, size r depth.toNat p, 0) := by unfold ask; rw [if_pos h]
theorem ask_c (r : Rul) (p : Pos) (depth : Int) : (ask r p depth).2.2 = srchC r p depth := by
  by_cases h : srchC r p depth = 0
  · rw [ask_yes h, h]
  · rw [ask_no h]
theorem ask_5 {r : Rul} {p : Pos} {depth : Int} (h : baseC r p depth = 0) (h2 : 3000 < (sv r depth.toNat p 0).2) : ask r p depth = (0, 0, 5) := by
  obtain ⟨a, b, c⟩ := baseC_ok h
  have h3 := srchC_5 a (betw_iff.2 ⟨b, c⟩) ((sv_too (okP_okR a)).1 h2)
  rw [ask_no (by rw [h3]; decide), h3]
theorem ask_0 {r : Rul} {p : Pos} {depth : Int} (h : baseC r p depth = 0) (h2 : ¬ 3000 < (sv r depth.toNat p 0).2) : ask r p depth = ((sv r depth.toNat p 0).1, (sv r depth.toNat p 0).2, 0) := by
  obtain ⟨a, b, c⟩ := baseC_ok h
  have h3 := fun h => h2 ((sv_too (d := depth.toNat) (p := p) (okP_okR a)).2 h)
  rw [ask_yes (srchC_0 a (betw_iff.2 ⟨b, c⟩) h3), sv_val _ _ _ (Int.le_refl 0) (by have : ¬ 3000 < size r depth.toNat p := h3; omega)]; simp
theorem ask_b {r : Rul} {p : Pos} {depth : Int} (h : baseC r p depth ≠ 0) : ask r p depth = (0, 0, baseC r p depth) := by
  have := baseC_srch h
  rw [ask_no (by rw [this]; exact h), this]
theorem optsC_base {r : Rul} {p : Pos} {depth : Int} (h : baseC r p depth ≠ 0) : optsC r p depth = baseC r p depth := by
  cases h1 : okP r p
  · rw [baseC_1 h1, optsC_s (by simp [h1]), srchC_1 h1]
  · cases h2 : betw depth 0 8
    · rw [baseC_2 h1 h2, optsC_s ?_, srchC_2 h1 h2]
      rintro ⟨_, rfl⟩
      exact absurd h2 (by decide)
    · rw [baseC_0 h1 h2] at h; exact absurd rfl h
def optOf (r : Rul) (d : Nat) (x : Res) : Opt := ⟨x.move, moveV x (val r d x.next)⟩
def opts (r : Rul) (p : Pos) (depth : Int) : List Opt := (results r p).map (optOf r (depth - 1).toNat)
theorem opts_len (r : Rul) (p : Pos) (depth : Int) : (opts r p depth).length = (results r p).length := by simp [opts]
theorem opts_step {r : Rul} {p : Pos} {depth : Int} {k : Nat} {y : Res} (h : (results r p)[k]? = some y) : (opts r p depth).take (k + 1) = (opts r p depth).take k ++ [Opt.mk y.move (moveV y (val r (depth - 1).toNat y.next))] := by
  have h1 : (opts r p depth)[k]? = some (optOf r (depth - 1).toNat y) := by unfold opts; rw [List.getElem?_map, h]; rfl
  rw [List.take_add_one, h1]; rfl
def optsR (r : Rul) (p : Pos) (depth : Int) : List Opt := if optsC r p depth = 0 then opts r p depth else []
theorem optsR_yes {r : Rul} {p : Pos} {depth : Int} (h : optsC r p depth = 0) : optsR r p depth = opts r p depth := by unfold optsR; rw [if_pos h]
theorem optsR_no {r : Rul} {p : Pos} {depth : Int} (h : optsC r p depth ≠ 0) : optsR r p depth = [] := by unfold optsR; rw [if_neg h]
theorem optsR_len (r : Rul) (p : Pos) (depth : Int) : (optsR r p depth).length ≤ 8 := by
  by_cases h : optsC r p depth = 0
  · rw [optsR_yes h, opts_len]; exact results_8 (optsC_ok h).1
  · rw [optsR_no h]; simp
def bOptF (b : Opt) : List Opt → Opt
  | [] => b
  | o :: l => bOptF (if b.value < o.value then o else b) l
def bOpt : List Opt → Opt
  | [] => Opt.zero
  | a :: l => bOptF a l
theorem bOpt_zero {l : List Opt} {y : Opt} (h : l[0]? = some y) : bOptF y (l.drop 0) = bOpt l := by
  cases l with
  | nil => simp at h
  | cons a t => simp at h; subst h; rw [List.drop_zero, bOptF, if_neg (by omega)]; rfl
theorem bOpt_one {l : List Opt} {y : Opt} (h : l[0]? = some y) : bOptF y (l.drop 1) = bOpt l := by
  cases l with
  | nil => simp at h
  | cons a t => simp at h; subst h; rfl
theorem bOptF_y {l : List Opt} {k : Nat} {y b : Opt} {X : Opt} (h : bOptF b (l.drop k) = X) (hy : l[k]? = some y) (hv : b.value < y.value) : bOptF y (l.drop (k + 1)) = X := by
  rw [drop_some hy, bOptF, if_pos hv] at h; exact h
theorem bOptF_n {l : List Opt} {k : Nat} {y b : Opt} {X : Opt} (h : bOptF b (l.drop k) = X) (hy : l[k]? = some y) (hv : ¬ b.value < y.value) : bOptF b (l.drop (k + 1)) = X := by
  rw [drop_some hy, bOptF, if_neg hv] at h; exact h
theorem bOptF_e {l : List Opt} {k : Nat} {b : Opt} {X : Opt} (h : bOptF b (l.drop k) = X) (hk : l.length ≤ k) : b = X := by
  rw [List.drop_eq_nil_of_le hk] at h; exact h
theorem bOptF_mem : ∀ (l : List Opt) (b : Opt), bOptF b l = b ∨ bOptF b l ∈ l
  | [], b => .inl rfl
  | o :: l, b => by
    rw [bOptF]
    rcases bOptF_mem l (if b.value < o.value then o else b) with h | h
    · rw [h]; split
      · exact .inr (by simp)
      · exact .inl rfl
    · exact .inr (by simp [h])
theorem bOpt_mem {l : List Opt} (h : l.length ≠ 0) : bOpt l ∈ l := by
  cases l with
  | nil => simp at h
  | cons a t =>
    rcases bOptF_mem t a with e | e
    · show bOptF a t ∈ _; rw [e]; simp
    · show bOptF a t ∈ _; simp [e]
theorem bOpt_make {r : Rul} {p : Pos} {depth : Int} (h : (results r p).length ≠ 0) : (make r p (bOpt (opts r p depth)).move).2 = 0 ∧ (make r p (bOpt (opts r p depth)).move).1 ∈ results r p := by
  have h1 := bOpt_mem (l := opts r p depth) (by rw [opts_len]; exact h)
  obtain ⟨x, hx, e⟩ := List.mem_map.1 h1
  obtain ⟨m, hm, rfl⟩ := results_fact hx
  have h3 := (make_ok hm).2.2.2.2.1
  have h4 : (bOpt (opts r p depth)).move = m := by rw [← e]; exact h3
  rw [h4]; exact ⟨hm, hx⟩
theorem opts_bd {r : Rul} {p : Pos} {depth : Int} (h : okP r p = true) (h1 : 0 ≤ depth) (h2 : depth ≤ 8) {o : Opt} (ho : o ∈ opts r p depth) : -2000 ≤ o.value ∧ o.value ≤ 2000 := by
  obtain ⟨x, hx, rfl⟩ := List.mem_map.1 ho
  have h3 := val_bd (depth - 1).toNat x.next (results_ok hx)
  have h4 := moveV_bd (results_gain hx) h3
  show -2000 ≤ moveV _ _ ∧ moveV _ _ ≤ 2000
  omega
def lineT (r : Rul) : Nat → Pos → List Int
  | 0, _ => []
  | d + 1, p => if (results r p).length = 0 then [] else (bOpt (opts r p (d + 1 : Nat))).move :: lineT r d (make r p (bOpt (opts r p (d + 1 : Nat))).move).1.next
theorem lineT_end {r : Rul} {d : Nat} {p : Pos} (h : (results r p).length = 0) : lineT r d p = [] := by
  cases d with
  | zero => rfl
  | succ d => rw [lineT, if_pos h]
structure Line (r : Rul) (p0 : Pos) (d0 : Int) (out : List Int) (p : Pos) (depth : Int) : Prop where
  ok : okP r p = true
  lo : 0 ≤ depth
  hi : depth ≤ 8
  sz : size r depth.toNat p ≤ 3000
  eq : out ++ lineT r depth.toNat p = lineT r d0.toNat p0
  ln : (out.length : Int) + depth = d0
theorem Line.zero {r : Rul} {p : Pos} {d : Int} (h : srchC r p d = 0) : Line r p d [] p d := by
  obtain ⟨a, b, c, e⟩ := srchC_ok h
  exact ⟨a, b, c, e, rfl, by simp⟩
theorem Line.end_ {r : Rul} {p0 p : Pos} {d0 d : Int} {out : List Int} (h : Line r p0 d0 out p d) (hd : (results r p).length = 0) : lineT r d0.toNat p0 = out := by
  have := h.eq; rw [lineT_end hd, List.append_nil] at this; exact this.symm
theorem Line.done {r : Rul} {p0 p : Pos} {d0 d : Int} {out : List Int} (h : Line r p0 d0 out p d) (hd : d ≤ 0) : lineT r d0.toNat p0 = out := by
  have := h.eq; rw [show d.toNat = 0 by omega, lineT, List.append_nil] at this; exact this.symm
theorem Line.step {r : Rul} {p0 p : Pos} {d0 d : Int} {out : List Int} (h : Line r p0 d0 out p d) (hd : 0 < d) (hl : (results r p).length ≠ 0) :
    Line r p0 d0 (out ++ [(bOpt (opts r p d)).move]) (make r p (bOpt (opts r p d)).move).1.next (d - 1) := by
  have hm := bOpt_make (depth := d) hl
  have e1 : d.toNat = (d - 1).toNat + 1 := by omega
  have e2 : (((d - 1).toNat + 1 : Nat) : Int) = d := by omega
  refine ⟨(make_ok hm.1).2.2.2.1, by omega, by have := h.hi; omega, ?_, ?_, ?_⟩
  · have := size_sub (d := (d - 1).toNat) hm.2
    rw [← e1] at this; have := h.sz; omega
  · have := h.eq
    rw [e1, lineT, if_neg hl, e2] at this
    rw [List.append_assoc]; exact this
  · have := h.ln; simp; omega
theorem Line.srch {r : Rul} {p0 p : Pos} {d0 d : Int} {out : List Int} (h : Line r p0 d0 out p d) (hd : 0 < d) : optsC r p d = 0 := by
  rw [optsC_s (by omega), srchC_0 h.ok (betw_iff.2 ⟨h.lo, h.hi⟩) (by have := h.sz; omega)]
def lineR (r : Rul) (p : Pos) (depth : Int) : List Int := if srchC r p depth = 0 then lineT r depth.toNat p else []
theorem lineR_yes {r : Rul} {p : Pos} {depth : Int} (h : srchC r p depth = 0) : lineR r p depth = lineT r depth.toNat p := by unfold lineR; rw [if_pos h]
theorem lineR_no {r : Rul} {p : Pos} {depth : Int} (h : srchC r p depth ≠ 0) : lineR r p depth = [] := by unfold lineR; rw [if_neg h]
theorem lineT_len (r : Rul) : ∀ (d : Nat) (p : Pos), (lineT r d p).length ≤ d
  | 0, _ => by rw [lineT]; simp
  | d + 1, p => by
    rw [lineT]; split
    · simp
    · have := lineT_len r d (make r p (bOpt (opts r p (d + 1 : Nat))).move).1.next
      rw [List.length_cons]; omega
theorem lineR_len (r : Rul) (p : Pos) (depth : Int) : (lineR r p depth).length ≤ 8 := by
  by_cases h : srchC r p depth = 0
  · rw [lineR_yes h]
    have h1 := lineT_len r depth.toNat p
    have h2 := srchC_ok h
    omega
  · rw [lineR_no h]; simp
def second (m : Int) (s : Int) : List Opt → Int
  | [] => s
  | o :: l => second m (if o.move = m then s else if s < o.value then o.value else s) l
theorem second_s {m s : Int} {l : List Opt} {k : Nat} {y : Opt} {X : Int} (h : second m s (l.drop k) = X) (hy : l[k]? = some y) : second m (if y.move = m then s else if s < y.value then y.value else s) (l.drop (k + 1)) = X := by
  rw [drop_some hy, second] at h; exact h
theorem second_e {m s : Int} {l : List Opt} {k : Nat} {X : Int} (h : second m s (l.drop k) = X) (hk : l.length ≤ k) : s = X := by
  rw [List.drop_eq_nil_of_le hk] at h; exact h
def puz (r : Rul) (p : Pos) (depth : Int) : Puz × Int :=
  if optsC r p depth ≠ 0 then (Puz.zero, optsC r p depth)
  else if (opts r p depth).length < 2 then (Puz.zero, 6)
  else if second (bOpt (opts r p depth)).move (-1000) (opts r p depth) = (bOpt (opts r p depth)).value then (Puz.zero, 6)
  else (⟨r, p, depth, (bOpt (opts r p depth)).move, (bOpt (opts r p depth)).value, (bOpt (opts r p depth)).value - second (bOpt (opts r p depth)).move (-1000) (opts r p depth)⟩, 0)
theorem puz_c {r : Rul} {p : Pos} {depth : Int} (h : optsC r p depth ≠ 0) : puz r p depth = (Puz.zero, optsC r p depth) := by unfold puz; rw [if_pos h]
theorem puz_2 {r : Rul} {p : Pos} {depth : Int} (h : optsC r p depth = 0) (h2 : (opts r p depth).length < 2) : puz r p depth = (Puz.zero, 6) := by unfold puz; rw [if_neg (by simpa using h), if_pos h2]
theorem puz_6 {r : Rul} {p : Pos} {depth : Int} (h : optsC r p depth = 0) (h2 : ¬ (opts r p depth).length < 2) (h3 : second (bOpt (opts r p depth)).move (-1000) (opts r p depth) = (bOpt (opts r p depth)).value) : puz r p depth = (Puz.zero, 6) := by
  unfold puz; rw [if_neg (by simpa using h), if_neg h2, if_pos h3]
theorem puz_0 {r : Rul} {p : Pos} {depth : Int} (h : optsC r p depth = 0) (h2 : ¬ (opts r p depth).length < 2) (h3 : ¬ second (bOpt (opts r p depth)).move (-1000) (opts r p depth) = (bOpt (opts r p depth)).value) :
    puz r p depth = (⟨r, p, depth, (bOpt (opts r p depth)).move, (bOpt (opts r p depth)).value, (bOpt (opts r p depth)).value - second (bOpt (opts r p depth)).move (-1000) (opts r p depth)⟩, 0) := by
  unfold puz; rw [if_neg (by simpa using h), if_neg h2, if_neg h3]
def samez (a b : Puz) : Bool := decide (a.rules = b.rules) && sameP a.position b.position && decide (a.depth = b.depth) && decide (a.move = b.move) && decide (a.value = b.value) && decide (a.margin = b.margin)
theorem samez_eq {a b : Puz} (h : samez a b = true) : a = b := by
  unfold samez at h
  simp only [Bool.and_eq_true, decide_eq_true_eq, sameP_true] at h
  obtain ⟨⟨⟨⟨⟨h1, h2⟩, h3⟩, h4⟩, h5⟩, h6⟩ := h
  exact puz_ext h1 h2 h3 h4 h5 h6
def okZ (z : Puz) : Bool := decide ((puz z.rules z.position z.depth).2 = 0) && samez (puz z.rules z.position z.depth).1 z
theorem okZ_parts {z : Puz} (h : okZ z = true) : optsC z.rules z.position z.depth = 0 ∧ puz z.rules z.position z.depth = (z, 0) := by
  unfold okZ at h
  simp only [Bool.and_eq_true, decide_eq_true_eq] at h
  have h2 := samez_eq h.2
  refine ⟨?_, Prod.ext h2 h.1⟩
  by_cases h3 : optsC z.rules z.position z.depth = 0
  · exact h3
  · have := h.1; rw [puz_c h3] at this; exact absurd this h3
theorem okZ_val {z : Puz} (h : okZ z = true) : -2000 ≤ z.value ∧ z.value ≤ 2000 := by
  obtain ⟨a, b⟩ := okZ_parts h
  have ho := optsC_ok a
  have e : (puz z.rules z.position z.depth).1.value = z.value := by rw [b]
  unfold puz at b e
  rw [if_neg (by simpa using a)] at b e
  by_cases h2 : (opts z.rules z.position z.depth).length < 2
  · rw [if_pos h2] at b; simp at b
  rw [if_neg h2] at b e
  split at b
  · simp at b
  · rename_i h3
    rw [if_neg h3] at e
    rw [← e]
    exact opts_bd ho.1 (by omega) ho.2.2.1 (bOpt_mem (by omega))
def ans (z : Puz) (move : Int) : Int × Int :=
  if okZ z = true then (if (make z.rules z.position move).2 = 0 then (z.value - moveV (make z.rules z.position move).1 (val z.rules (z.depth - 1).toNat (make z.rules z.position move).1.next), 0) else (0, (make z.rules z.position move).2)) else (0, 1)
theorem ans_1 {z : Puz} {move : Int} (h : okZ z = false) : ans z move = (0, 1) := by unfold ans; rw [if_neg (by simp [h])]
theorem ans_c {z : Puz} {move : Int} (h : okZ z = true) (h2 : (make z.rules z.position move).2 ≠ 0) : ans z move = (0, (make z.rules z.position move).2) := by unfold ans; rw [if_pos h, if_neg h2]
theorem ans_0 {z : Puz} {move : Int} (h : okZ z = true) (h2 : (make z.rules z.position move).2 = 0) :
    ans z move = (z.value - moveV (make z.rules z.position move).1 (val z.rules (z.depth - 1).toNat (make z.rules z.position move).1.next), 0) := by unfold ans; rw [if_pos h, if_pos h2]
theorem opts_get {r : Rul} {p : Pos} {depth move : Int} {k : Nat} {y : Opt} (h : (opts r p depth)[k]? = some y) (hm : y.move = move) : y.value = moveV (make r p move).1 (val r (depth - 1).toNat (make r p move).1.next) := by
  unfold opts at h
  rw [List.getElem?_map] at h
  obtain ⟨x, hx, rfl⟩ := Option.map_eq_some_iff.1 h
  rw [← results_get hx hm]; rfl
theorem opts_has {r : Rul} {p : Pos} {depth move : Int} (h : (make r p move).2 = 0) : ∃ j, j < (opts r p depth).length ∧ ∃ y, (opts r p depth)[j]? = some y ∧ y.move = move := by
  obtain ⟨j, hj, hx, hm⟩ := results_has h
  exact ⟨j, by rw [opts_len]; exact hj, optOf r (depth - 1).toNat (make r p move).1, by unfold opts; rw [List.getElem?_map, hx]; rfl, hm⟩
theorem none_stepO {l : List Opt} {k : Nat} {y : Opt} {move : Int} (hn : ∀ (j : Nat) (x : Opt), j < k → l[j]? = some x → x.move ≠ move) (hy : l[k]? = some y) (h : y.move ≠ move) : ∀ (j : Nat) (x : Opt), j < k + 1 → l[j]? = some x → x.move ≠ move := fun j x hj hx => by
  by_cases e : j = k
  · subst e; rw [hy] at hx; cases hx; exact h
  · exact hn j x (by omega) hx
def sol (z : Puz) : List Int := if okZ z = true then lineR z.rules z.position z.depth else []
def solC (z : Puz) : Int := if okZ z = true then srchC z.rules z.position z.depth else 1
theorem sol_yes {z : Puz} (h : okZ z = true) : sol z = lineR z.rules z.position z.depth := by unfold sol; rw [if_pos h]
theorem sol_no {z : Puz} (h : okZ z = false) : sol z = [] := by unfold sol; rw [if_neg (by simp [h])]
theorem solC_yes {z : Puz} (h : okZ z = true) : solC z = srchC z.rules z.position z.depth := by unfold solC; rw [if_pos h]
theorem solC_no {z : Puz} (h : okZ z = false) : solC z = 1 := by unfold solC; rw [if_neg (by simp [h])]
theorem sol_len (z : Puz) : (sol z).length ≤ 8 := by
  cases h : okZ z
  · rw [sol_no h]; simp
  · rw [sol_yes h]; exact lineR_len _ _ _
structure SmallP (p : Pos) : Prop where
  sp : p.pits.length ≤ 4194304
  ss : p.stores.length ≤ 4194304
theorem SmallP.zero : SmallP Pos.zero := ⟨by decide, by decide⟩
theorem SmallP.ok {r : Rul} {p : Pos} (h : okP r p = true) : SmallP p := ⟨(okP_len h).1, (okP_len h).2⟩
theorem puz_small (r : Rul) (p : Pos) (depth : Int) : SmallP (puz r p depth).1.position := by
  unfold puz
  split
  · exact SmallP.zero
  · rename_i h
    have hp := (optsC_ok (by simpa using h)).1
    split
    · exact SmallP.zero
    split
    · exact SmallP.zero
    · exact SmallP.ok hp
section
variable {α : Type} (f : Int → α → α) (sz : α → Int)
variable (hf : Int → α → Int)
end
section
variable {α : Type}
end
def hO (k : Int) (x : Opt) : Int := if x.move ≠ k then -1 else if x.value ≠ k + 1 then -1 else k + 2
def hQ (k : Int) (p : Pos) : Int := if held p.pits k < 0 then -1 else if held p.stores (held p.pits k) < 0 then -1 else if p.player ≠ held p.stores (held p.pits k) then -1 else held p.stores (held p.pits k) + 1
end Go.Proofs.YtjdhgkdimanabaaGreatDoor.M

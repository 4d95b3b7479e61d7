/- A framework for walks: results of which only some things are said; bytes; texts. -/
import Derived.Test.YtejnmechnhgmfaaZpF12
set_option linter.unusedSimpArgs false
set_option linter.unusedVariables false
namespace Go.Proofs.Ytejnmechnhgmfaa
open Go.RowKit
def Ty.ex {α : Type} (p : α → Prop) (F : α → Ty) : Ty :=
  ⟨fun w v => ∃ x, p x ∧ (F x).ok w v, fun w v fp => ∃ x, p x ∧ (F x).own w v fp, fun ⟨x, hp, h⟩ k => ⟨x, hp, Ty.mono _ h k⟩, fun ⟨x, hp, h⟩ k => ⟨x, hp, (F x).loc h k⟩, fun ⟨x, hp, h⟩ => ⟨x, hp, (F x).ownok h⟩⟩
theorem Spl.ex {α : Type} {p : α → Prop} {F : α → Ty} {R : α → Value → List Own → Prop} (h : ∀ x, Spl (F x) (R x)) : Spl (Ty.ex p F) (fun v ow => ∃ x, p x ∧ R x v ow) := fun w v fp ⟨x, hp, hx⟩ => by
  obtain ⟨ow, h1, h2, h3⟩ := h x w v fp hx
  exact ⟨ow, ⟨x, hp, h1⟩, h2, h3⟩
def Ty.byte : Ty :=
  ⟨fun _ v => ∃ b : Int, v = .int .u8 b ∧ 0 ≤ b ∧ b ≤ 255, fun _ v fp => (∃ b : Int, v = .int .u8 b ∧ 0 ≤ b ∧ b ≤ 255) ∧ fp = [], fun h _ => h, fun h _ => h, fun h => h.1⟩
def Ty.bytes (e : TypeId) (n : Nat) : Ty := Ty.sl e 1 n (List.replicate n Ty.byte)
def Ty.astr : Ty := ⟨fun _ v => ∃ b : ByteArray, v = .string b, fun _ v fp => (∃ b : ByteArray, v = .string b) ∧ fp = [], fun h _ => h, fun h _ => h, fun h => h.1⟩
def Ty.strs (e : TypeId) (n : Nat) : Ty := Ty.sl e 1 n (List.replicate n Ty.astr)
theorem rep_drop {α : Type} (x : α) (n i : Nat) (h : i < n) : ((List.replicate n x).drop (i * 1)).take 1 = [x] := by
  rw [Nat.mul_one, List.drop_replicate, List.take_replicate, show min 1 (n - i) = 1 by omega]; rfl
theorem bytes_elem {e n c i : Nat} {A : Option Addr} {u : World} (h : (Ty.bytes e n).ok u (.slice A n c)) (hi : i < n) : ∃ b o x, elemA 1 (.slice A n c) i = some ⟨b, o, none⟩ ∧ Cell u b o (.int .u8 x) ∧ 0 ≤ x ∧ x ≤ 255 := by
  obtain ⟨b, o, vs, he, h, hr⟩ := sl_elem h hi rfl
  rw [rep_drop _ _ _ hi] at h
  cases vs with
  | nil => exact absurd h (by simp [cellsOk])
  | cons v r =>
    obtain ⟨⟨x, rfl, h0, h1⟩, _⟩ := h
    exact ⟨b, o, x, he, by simpa using hr 0 _ rfl, h0, h1⟩
theorem strs_elem {e n c i : Nat} {A : Option Addr} {u : World} (h : (Ty.strs e n).ok u (.slice A n c)) (hi : i < n) : ∃ b o x, elemA 1 (.slice A n c) i = some ⟨b, o, none⟩ ∧ Cell u b o (.string x) := by
  obtain ⟨b, o, vs, he, h, hr⟩ := sl_elem h hi rfl
  rw [rep_drop _ _ _ hi] at h
  cases vs with
  | nil => exact absurd h (by simp [cellsOk])
  | cons v r =>
    obtain ⟨⟨x, rfl⟩, _⟩ := h
    exact ⟨b, o, x, he, by simpa using hr 0 _ rfl⟩
theorem strs_own {w : World} : ∀ (l : List ByteArray), cellsOwn w (List.replicate l.length Ty.astr) (l.map Value.string) []
  | [] => rfl
  | x :: l => ⟨[], [], rfl, ⟨⟨x, rfl⟩, rfl⟩, strs_own l⟩
theorem St.nilRow {lo : Nat} {B : List Nat} {u w : World} {os : List Own} (e : TypeId) (h : St lo B u w os) : St lo B u w (rowO e 1 (.slice none 0 0) 0 (ints_ []) [] :: os) :=
  h.conv (fun o ho => by
    rcases List.mem_cons.1 ho with rfl | ho
    · exact ⟨rfl, .inl ⟨rfl, rfl⟩⟩
    · exact h.prs o ho) (by simp [rowO, Value.ownBlock])
section
variable {P : Program} {n : Nat} {l : Fr} {dst : Option Tmp} {ty : TypeId} {pos : String} {af : Array Edge} {gd : Option (Nat × Bool)}
theorem p_conv {x : Operand} {k k' : IntKind} {i r : Int} {s t : TypeId} {d : TypeDesc} (hs : P.underlying s = some d) (ht : P.underlying t = some (.int k')) (hx : opd l x = some (.int k i)) (hr : k'.wrap i = r) :
    OpP P n l ⟨dst, .convert s t x, ty, pos, af, gd⟩ (.int k' r) := fun a w ha => by
  subst hr
  simp [execOp, ha.eval hx, convert, run_underlying hs, run_underlying ht, Conv.intToInt]
theorem p_shr {x y : Operand} {k k' : IntKind} {i j : Int} {t t' : TypeId} (h1 : opd l x = some (.int k i)) (h2 : opd l y = some (.int k' j)) (hj : ¬ j < 0) : OpP P n l ⟨dst, .binOp .shr t x y t', ty, pos, af, gd⟩ (.int k (i.fdiv (2 ^ (min j.toNat k.bits)))) := fun a w ha => by
  simp [execOp, eqGuard, binOp, ha.eval h1, ha.eval h2, Op.shift, hj]
def andI (k : IntKind) (i j : Int) : Int := k.wrap ((BitVec.ofInt k.bits i &&& BitVec.ofInt k.bits j).toNat : Int)
theorem p_and {x y : Operand} {k : IntKind} {i j : Int} {t t' : TypeId} (h1 : opd l x = some (.int k i)) (h2 : opd l y = some (.int k j)) : OpP P n l ⟨dst, .binOp .and t x y t', ty, pos, af, gd⟩ (.int k (andI k i j)) := fun a w ha => by
  simp [execOp, eqGuard, binOp, ha.eval h1, ha.eval h2, Op.intBits, andI]
theorem andI_255 (i : Int) : 0 ≤ andI .u64 i 255 ∧ andI .u64 i 255 ≤ 255 := by
  have h : (BitVec.ofInt 64 i &&& BitVec.ofInt 64 255).toNat ≤ 255 := by
    rw [BitVec.toNat_and]
    exact Nat.le_trans Nat.and_le_right (by decide)
  unfold andI
  show 0 ≤ IntKind.u64.wrap ((BitVec.ofInt 64 i &&& BitVec.ofInt 64 255).toNat : Int) ∧ IntKind.u64.wrap ((BitVec.ofInt 64 i &&& BitVec.ofInt 64 255).toNat : Int) ≤ 255
  generalize (BitVec.ofInt 64 i &&& BitVec.ofInt 64 255).toNat = q at h ⊢
  unfold IntKind.wrap
  simp [IntKind.bits, IntKind.signed]
  omega
def strEq (a b : ByteArray) : Bool := a.toList == b.toList
theorem p_eqlT {x y : Operand} {a b : ByteArray} {t t' : TypeId} (hu : P.underlying t = some .string) (h1 : opd l x = some (.string a)) (h2 : opd l y = some (.string b)) : OpP P n l ⟨dst, .binOp .eql t x y t', ty, pos, af, gd⟩ (.bool (strEq a b)) := fun c w ha => by
  simp [execOp, eqGuard, binOp, ha.eval h1, ha.eval h2, Op.stringOp, strEq]
end
end Go.Proofs.Ytejnmechnhgmfaa

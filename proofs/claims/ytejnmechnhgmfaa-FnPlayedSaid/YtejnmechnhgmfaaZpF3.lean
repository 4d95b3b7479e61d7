/- A framework for walks: the rules of single operations. -/
import Derived.Test.YtejnmechnhgmfaaZpF2
set_option linter.unusedSimpArgs false
set_option linter.unusedVariables false
namespace Go.Proofs.Ytejnmechnhgmfaa
open Go.RowKit
def aggD : TypeDesc → Bool
  | .struct _ | .array _ _ => true
  | _ => false
def tyOf (P : Program) (t : TypeId) : Option (Bool × Nat) := match P.underlying t, P.info? t with
  | some d, some i => some (aggD d, i.size)
  | _, _ => none
def fldOf (P : Program) (t : TypeId) (k : Nat) : Option (Nat × TypeId × Bool × Nat) := match P.underlying t with
  | some (.struct fs) => match fs[k]? with
    | some f => match tyOf P f.type with
      | some (b, s) => some (f.offset, f.type, b, s)
      | none => none
    | none => none
  | _ => none
def elOf (P : Program) (t : TypeId) : Option (TypeId × Nat × Nat × List Value) := match P.underlying t with
  | some (.slice e) => match P.info? e with
    | some i => match i.zero with
      | some z => some (e, i.size, i.bytes, z.cells.toList)
      | none => none
    | none => none
  | _ => none
def zeroOf (P : Program) (t : TypeId) : Option (List Value) := match P.info? t with
  | some i => match i.zero with
    | some z => some z.cells.toList
    | none => none
  | none => none
section
variable {P : Program} (w : World)
theorem run_isAgg {t : TypeId} {b : Bool} {s : Nat} (h : tyOf P t = some (b, s)) : (isAgg t).run P w = .ok b w ∧ (sizeOf t).run P w = .ok s w := by
  unfold tyOf at h
  cases hu : P.underlying t with
  | none => simp [hu] at h
  | some d =>
    cases hi : P.info? t with
    | none => simp [hu, hi] at h
    | some i =>
      simp [hu, hi] at h
      obtain ⟨rfl, rfl⟩ := h
      constructor
      · cases d <;> simp [isAgg, run_underlying hu, aggD]
      · simp [sizeOf, typeInfo, hi]
theorem addr_add (b o k : Nat) : (⟨b, o, none⟩ : Addr).add k = ⟨b, o + k, none⟩ := by unfold Addr.add; split <;> simp_all
theorem run_loadVar_agg {t : TypeId} {vs : List Value} (ht : tyOf P t = some (true, vs.length)) {b o : Nat} (h : RowAt w b o vs) : (loadVar t ⟨b, o, none⟩).run P w = .ok (.agg vs.toArray) w := by
  obtain ⟨h1, h2⟩ := run_isAgg w ht
  have h3 := run_loadCells_list (P := P) w ⟨b, o, none⟩ vs (fun j v hj => by rw [addr_add]; exact (h j v hj).get)
  simp [loadVar, h1, h2, h3]
theorem run_loadVar_one {t : TypeId} {s : Nat} {v : Value} (ht : tyOf P t = some (false, s)) {b o : Nat} (h : Cell w b o v) : (loadVar t ⟨b, o, none⟩).run P w = .ok v w := by
  obtain ⟨h1, _⟩ := run_isAgg w ht
  simp [loadVar, h1, h.get]
end
section
variable {P : Program} {n lo : Nat} {B : List Nat} {l : Fr} {os : List Own} {u : World} {dst : Option Tmp} {ty : TypeId} {pos : String} {af : Array Edge} {gd : Option (Nat × Bool)}
theorem p_move {x : Operand} {v : Value} (h : opd l x = some v) : OpP P n l ⟨dst, .move x, ty, pos, af, gd⟩ v := fun a w ha => by simp [execOp, ha.eval h]
theorem p_assign {x : Operand} {v : Value} (h : opd l x = some v) : OpP P n l ⟨dst, .assign x, ty, pos, af, gd⟩ v := fun a w ha => by simp [execOp, ha.eval h]
theorem p_nilCheck {x : Operand} {p : Addr} (h : opd l x = some (.pointer (some p))) : OpP P n l ⟨dst, .nilCheck x, ty, pos, af, gd⟩ (.pointer (some p)) := fun a w ha => by simp [execOp, ha.eval h]
theorem p_pick {c x y : Operand} {b : Bool} {v v1 v2 : Value} (hc : opd l c = some (.bool b)) (h1 : opd l x = some v1) (h2 : opd l y = some v2) (hv : (bif b then v1 else v2) = v) : OpP P n l ⟨dst, .pick c x y, ty, pos, af, gd⟩ v := fun a w ha => by
  subst hv
  cases b <;> simp [execOp, ha.eval hc, ha.eval h1, ha.eval h2, asBool]
theorem p_extract {x : Operand} {vs : List Value} {i : Nat} {v : Value} (h : opd l x = some (.tuple vs.toArray)) (hv : vs[i]? = some v) : OpP P n l ⟨dst, .extract x i, ty, pos, af, gd⟩ v := fun a w ha => by
  simp [execOp, ha.eval h, Instr.extract, hv]
theorem p_not {x : Operand} {b : Bool} {t : TypeId} (h : opd l x = some (.bool b)) : OpP P n l ⟨dst, .unOp .not t x, ty, pos, af, gd⟩ (.bool (!b)) := fun a w ha => by simp [execOp, ha.eval h, Op.unary]
theorem p_add {x y : Operand} {k : IntKind} {i j r : Int} {t t' : TypeId} (h1 : opd l x = some (.int k i)) (h2 : opd l y = some (.int k j)) (hr : k.wrap (i + j) = r) : OpP P n l ⟨dst, .binOp .add t x y t', ty, pos, af, gd⟩ (.int k r) := fun a w ha => by
  subst hr; simp [execOp, eqGuard, binOp, ha.eval h1, ha.eval h2, Op.intArith]
theorem p_sub {x y : Operand} {k : IntKind} {i j r : Int} {t t' : TypeId} (h1 : opd l x = some (.int k i)) (h2 : opd l y = some (.int k j)) (hr : k.wrap (i - j) = r) : OpP P n l ⟨dst, .binOp .sub t x y t', ty, pos, af, gd⟩ (.int k r) := fun a w ha => by
  subst hr; simp [execOp, eqGuard, binOp, ha.eval h1, ha.eval h2, Op.intArith]
theorem p_mul {x y : Operand} {k : IntKind} {i j r : Int} {t t' : TypeId} (h1 : opd l x = some (.int k i)) (h2 : opd l y = some (.int k j)) (hr : k.wrap (i * j) = r) : OpP P n l ⟨dst, .binOp .mul t x y t', ty, pos, af, gd⟩ (.int k r) := fun a w ha => by
  subst hr; simp [execOp, eqGuard, binOp, ha.eval h1, ha.eval h2, Op.intArith]
theorem p_quo {x y : Operand} {k : IntKind} {i j r : Int} {t t' : TypeId} (h1 : opd l x = some (.int k i)) (h2 : opd l y = some (.int k j)) (h0 : j ≠ 0) (hr : k.wrap (i.tdiv j) = r) : OpP P n l ⟨dst, .binOp .quo t x y t', ty, pos, af, gd⟩ (.int k r) := fun a w ha => by
  subst hr; simp [execOp, eqGuard, binOp, ha.eval h1, ha.eval h2, Op.intDiv, h0]
theorem p_rem {x y : Operand} {k : IntKind} {i j r : Int} {t t' : TypeId} (h1 : opd l x = some (.int k i)) (h2 : opd l y = some (.int k j)) (h0 : j ≠ 0) (hr : i.tmod j = r) : OpP P n l ⟨dst, .binOp .rem t x y t', ty, pos, af, gd⟩ (.int k r) := fun a w ha => by
  subst hr; simp [execOp, eqGuard, binOp, ha.eval h1, ha.eval h2, Op.intDiv, h0]
theorem p_lss {x y : Operand} {k : IntKind} {i j : Int} {t t' : TypeId} (h1 : opd l x = some (.int k i)) (h2 : opd l y = some (.int k j)) : OpP P n l ⟨dst, .binOp .lss t x y t', ty, pos, af, gd⟩ (.bool (decide (i < j))) := fun a w ha => by
  simp [execOp, eqGuard, binOp, ha.eval h1, ha.eval h2, Op.intCmp]
theorem p_leq {x y : Operand} {k : IntKind} {i j : Int} {t t' : TypeId} (h1 : opd l x = some (.int k i)) (h2 : opd l y = some (.int k j)) : OpP P n l ⟨dst, .binOp .leq t x y t', ty, pos, af, gd⟩ (.bool (decide (i ≤ j))) := fun a w ha => by
  simp [execOp, eqGuard, binOp, ha.eval h1, ha.eval h2, Op.intCmp]
theorem p_gtr {x y : Operand} {k : IntKind} {i j : Int} {t t' : TypeId} (h1 : opd l x = some (.int k i)) (h2 : opd l y = some (.int k j)) : OpP P n l ⟨dst, .binOp .gtr t x y t', ty, pos, af, gd⟩ (.bool (decide (j < i))) := fun a w ha => by
  simp [execOp, eqGuard, binOp, ha.eval h1, ha.eval h2, Op.intCmp]
theorem p_geq {x y : Operand} {k : IntKind} {i j : Int} {t t' : TypeId} (h1 : opd l x = some (.int k i)) (h2 : opd l y = some (.int k j)) : OpP P n l ⟨dst, .binOp .geq t x y t', ty, pos, af, gd⟩ (.bool (decide (j ≤ i))) := fun a w ha => by
  simp [execOp, eqGuard, binOp, ha.eval h1, ha.eval h2, Op.intCmp]
theorem p_eql {x y : Operand} {k : IntKind} {i j : Int} {t t' : TypeId} (h1 : opd l x = some (.int k i)) (h2 : opd l y = some (.int k j)) : OpP P n l ⟨dst, .binOp .eql t x y t', ty, pos, af, gd⟩ (.bool (decide (i = j))) := fun a w ha => by
  simp [execOp, eqGuard, binOp, ha.eval h1, ha.eval h2, Op.intCmp]; rw [Bool.eq_iff_iff]; simp
theorem p_neq {x y : Operand} {k : IntKind} {i j : Int} {t t' : TypeId} (h1 : opd l x = some (.int k i)) (h2 : opd l y = some (.int k j)) : OpP P n l ⟨dst, .binOp .neq t x y t', ty, pos, af, gd⟩ (.bool (!decide (i = j))) := fun a w ha => by
  simp [execOp, eqGuard, binOp, ha.eval h1, ha.eval h2, Op.intCmp]; rw [Bool.eq_iff_iff]; simp
theorem run_equalIn_bool (d : Nat) {t : TypeId} (hu : P.underlying t = some .bool) (a b : Bool) (w : World) : (Op.equalIn (d + 1) t (.bool a) (.bool b)).run P w = .ok (a == b) w := by
  simp [Op.equalIn, run_underlying hu]
theorem p_neqB {x y : Operand} {i j : Bool} {t t' : TypeId} (hu : P.underlying t = some .bool) (h1 : opd l x = some (.bool i)) (h2 : opd l y = some (.bool j)) : OpP P n l ⟨dst, .binOp .neq t x y t', ty, pos, af, gd⟩ (.bool (!(i == j))) := fun a w ha => by
  simp [execOp, eqGuard, binOp, ha.eval h1, ha.eval h2, Op.equal, Op.maxDepth, run_equalIn_bool 9999 hu]
theorem p_fieldAddr {x : Operand} {b o k off : Nat} {t ft : TypeId} {g : Bool} {s : Nat} (hf : fldOf P t k = some (off, ft, g, s + 1)) (h : opd l x = some (.pointer (some ⟨b, o, none⟩))) : OpP P n l ⟨dst, .fieldAddr t x k, ty, pos, af, gd⟩ (.pointer (some ⟨b, o + off, none⟩)) := fun a w ha => by
  unfold fldOf at hf
  split at hf
  · rename_i fs hu
    split at hf
    · rename_i f hk
      split at hf
      · rename_i b' s' ht
        simp at hf
        obtain ⟨rfl, rfl, rfl, rfl⟩ := hf
        have h2 := (run_isAgg (P := P) w ht).2
        simp [execOp, ha.eval h, Instr.fieldAt, run_underlying hu, hk, Instr.sureAddr, fieldPlace, h2, addr_add]
      · simp at hf
    · simp at hf
  · simp at hf
def elemA (sz : Nat) (v : Value) (i : Nat) : Option Addr := match v with
  | .slice (some ⟨b, o, none⟩) _ _ => some ⟨b, o + i * sz, none⟩
  | _ => none
theorem p_indexAddr {x y : Operand} {t e : TypeId} {sz by' : Nat} {z : List Value} {A : Option Addr} {m c b o : Nat} {k : IntKind} {i : Int} (ht : elOf P t = some (e, sz, by', z)) (h1 : opd l x = some (.slice A m c)) (h2 : opd l y = some (.int k i))
    (h0 : 0 ≤ i) (hm : i < m) (he : elemA sz (.slice A m c) i.toNat = some ⟨b, o, none⟩) : OpP P n l ⟨dst, .indexAddr t x y, ty, pos, af, gd⟩ (.pointer (some ⟨b, o, none⟩)) := fun a w ha => by
  unfold elOf at ht
  split at ht
  · rename_i e' hu
    split at ht
    · rename_i i' hi
      split at ht
      · simp at ht
        obtain ⟨rfl, rfl, rfl, rfl⟩ := ht
        unfold elemA at he
        split at he
        · rename_i b' o' _ _ hv
          injection hv with hv1 hv2 hv3
          subst hv1
          simp only [Option.some.injEq, Addr.mk.injEq, and_true] at he
          obtain ⟨rfl, rfl⟩ := he
          simp [execOp, ha.eval h1, ha.eval h2, Instr.indexAt, asIntOf, run_underlying hu, h0, hm, sizeOf, typeInfo, hi, addr_add]
        · simp at he
      · simp at ht
    · simp at ht
  · simp at ht
theorem run_builtin_len {t : TypeId} {e : TypeId} {sz by' : Nat} {z : List Value} (ht : elOf P t = some (e, sz, by', z)) (A : Option Addr) (m c : Nat) (ts : TypeId) (cs : Array Bool) (w : World) :
    (builtin .len #[t] ts cs #[.slice A m c]).run P w = .ok (.value (.int .i64 m)) w := by
  unfold elOf at ht
  split at ht
  · rename_i e' hu
    simp [builtin, Builtin.len_, run_underlying hu, goInt]
  · simp at ht
end
end Go.Proofs.Ytejnmechnhgmfaa

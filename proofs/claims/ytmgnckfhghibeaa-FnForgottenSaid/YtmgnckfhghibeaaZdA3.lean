/- Plain mathematics of searches with a memory. -/
import Derived.Test.YtmgnckfhghibeaaZdA2
import Derived.Test.YtmgnckfhghibeaaProg
import Derived.ProofKit
import Derived.SizedLaws
import Derived.Test.YtmgnckfhghibeaaZdA1
import Derived.Test.YtmgnckfhghibeaaZdA0
set_option linter.unusedSimpArgs false
set_option linter.unusedVariables false
namespace Go.Proofs.Ytmgnckfhghibeaa.M
structure Slo where
  used : Bool
  pits : List Int
  player : Int
  depth : Int
  value : Int
  bound : Int
  deriving DecidableEq
structure Mem where
  rules : Rul
  slots : List Slo
  deriving DecidableEq
structure Vst where
  rules : Rul
  slots : List Slo
  hits : Int
  deriving DecidableEq
def Slo.zero : Slo := ⟨false, [], 0, 0, 0, 0⟩
def Mem.zero : Mem := ⟨Rul.zero, []⟩
def slo (l : List Slo) (k : Nat) : Slo := l.getD k Slo.zero
theorem slo_get {l : List Slo} {k : Nat} (h : k < l.length) : l[k]? = some (slo l k) := by simp [slo, List.getD, h]
theorem slo_mem {l : List Slo} {k : Nat} (h : k < l.length) : slo l k ∈ l := List.mem_of_getElem? (slo_get h)
theorem slo_set {l : List Slo} {k : Nat} {y : Slo} (h : k < l.length) : slo (l.set k y) k = y := by simp [slo, List.getD, h]
theorem slo_set_ne {l : List Slo} {k j : Nat} {y : Slo} (h : k ≠ j) : slo (l.set k y) j = slo l j := by simp [slo, List.getD, List.getElem?_set, h]
theorem slo_ext {a b : Slo} (h1 : a.used = b.used) (h2 : a.pits = b.pits) (h3 : a.player = b.player) (h4 : a.depth = b.depth) (h5 : a.value = b.value) (h6 : a.bound = b.bound) : a = b := by cases a; cases b; simp_all
theorem mem_ext {a b : Mem} (h1 : a.rules = b.rules) (h2 : a.slots = b.slots) : a = b := by cases a; cases b; simp_all
def hashF (h x : Int) : Int := (31 * h + x) % 1000003
def hashP (pits : List Int) (player : Int) : Int := pits.foldl hashF (player + 1)
theorem hash_step {pits : List Int} {h0 : Int} {k : Nat} (h : k < pits.length) : (pits.take (k + 1)).foldl hashF h0 = (31 * (pits.take k).foldl hashF h0 + nth pits k) % 1000003 := by
  rw [take_nth h, List.foldl_append]; rfl
theorem hash_all {pits : List Int} {h0 : Int} {k : Nat} (h : pits.length ≤ k) : (pits.take k).foldl hashF h0 = pits.foldl hashF h0 := by rw [List.take_of_length_le h]
def plc (n : Nat) (pits : List Int) (player : Int) : Int := hashP pits player % (n : Int)
theorem plc_bd {n : Nat} (pits : List Int) (player : Int) (h : 0 < n) : 0 ≤ plc n pits player ∧ plc n pits player < n :=
  ⟨Int.emod_nonneg _ (by omega), Int.emod_lt_of_pos _ (by omega)⟩
@[reducible] def posS (s : Slo) : Pos := ⟨s.pits, [0, 0], s.player⟩
def okCt (d v b : Int) : Bool := betw d 1 8 && betw v (-96) 96 && betw b 0 2
def freeS (s : Slo) : Bool := decide (s.pits.length = 0) && decide (s.player = 0) && decide (s.depth = 0) && decide (s.value = 0) && decide (s.bound = 0)
def okS (r : Rul) (n i : Nat) (s : Slo) : Bool := if s.used = true then okP r (posS s) && okCt s.depth s.value s.bound && decide (plc n s.pits s.player = (i : Int)) else freeS s
def okM (m : Mem) : Bool := okR m.rules && betw (m.slots.length : Int) 1 64 && (List.range m.slots.length).all fun i => okS m.rules m.slots.length i (slo m.slots i)
theorem okM_parts {m : Mem} (h : okM m = true) : okR m.rules = true ∧ 1 ≤ m.slots.length ∧ m.slots.length ≤ 64 ∧ ∀ i, i < m.slots.length → okS m.rules m.slots.length i (slo m.slots i) = true := by
  unfold okM at h
  simp only [Bool.and_eq_true, betw_iff, List.all_eq_true, List.mem_range] at h
  exact ⟨h.1.1, by omega, by omega, h.2⟩
theorem okM_of {m : Mem} (h1 : okR m.rules = true) (h2 : 1 ≤ m.slots.length) (h3 : m.slots.length ≤ 64) (h4 : ∀ i, i < m.slots.length → okS m.rules m.slots.length i (slo m.slots i) = true) : okM m = true := by
  unfold okM
  simp only [Bool.and_eq_true, betw_iff, List.all_eq_true, List.mem_range]
  exact ⟨⟨h1, by omega, by omega⟩, h4⟩
def stoS (l : List Slo) (s : Slo) : List Slo := if (slo l (plc l.length s.pits s.player).toNat).used = false ∨ (slo l (plc l.length s.pits s.player).toNat).depth ≤ s.depth then l.set (plc l.length s.pits s.player).toNat s else l
theorem stoS_len (l : List Slo) (s : Slo) : (stoS l s).length = l.length := by unfold stoS; split <;> simp
def fnd (l : List Slo) (p : Pos) : Slo := slo l (plc l.length p.pits p.player).toNat
def fndB (l : List Slo) (p : Pos) (d : Int) : Bool := (fnd l p).used && decide ((fnd l p).depth = d) && decide ((fnd l p).player = p.player) && decide ((fnd l p).pits = p.pits)
def mx (a b : Int) : Int := if a < b then b else a
def useS (s : Slo) (low high : Int) : Bool := decide (s.bound = 0) || decide (s.bound = 1) && decide (high ≤ s.value) || decide (s.bound = 2) && decide (s.value ≤ low)
def bndV (best low high : Int) : Int := if best ≤ low then 2 else if high ≤ best then 1 else 0
def loV (x : Res) (low high b : Int) : Int := if x.again = true then mx low b - x.gain else x.gain - high
def hiV (x : Res) (low high b : Int) : Int := if x.again = true then high - x.gain else x.gain - mx low b
def visL (f : Pos → Int → Int → List Slo × Int → Int × List Slo × Int) (low high : Int) : Int → List Slo × Int → List Res → Int × List Slo × Int
  | b, st, [] => (b, st)
  | b, st, x :: l => if high ≤ b then (b, st) else visL f low high (mx b (moveV x (f x.next (loV x low high b) (hiV x low high b) st).1)) (f x.next (loV x low high b) (hiV x low high b) st).2 l
def vis (r : Rul) : Nat → Pos → Int → Int → List Slo × Int → Int × List Slo × Int
  | 0, p, _, _, st => if (results r p).length = 0 then (endV r p, st) else (0, st)
  | d + 1, p, low, high, st =>
    if (results r p).length = 0 then (endV r p, st)
    else if (fndB st.1 p (d + 1 : Nat) && useS (fnd st.1 p) low high) = true then ((fnd st.1 p).value, st.1, st.2 + 1)
    else ((visL (vis r d) low high (-1000) st (results r p)).1, stoS (visL (vis r d) low high (-1000) st (results r p)).2.1 ⟨true, p.pits, p.player, (d + 1 : Nat), (visL (vis r d) low high (-1000) st (results r p)).1, bndV (visL (vis r d) low high (-1000) st (results r p)).1 low high⟩, (visL (vis r d) low high (-1000) st (results r p)).2.2)
theorem visL_len {f : Pos → Int → Int → List Slo × Int → Int × List Slo × Int} (hf : ∀ p a b st, (f p a b st).2.1.length = st.1.length) (low high : Int) : ∀ (l : List Res) (b : Int) (st : List Slo × Int), (visL f low high b st l).2.1.length = st.1.length
  | [], _, _ => rfl
  | x :: l, b, st => by
    rw [visL]; split
    · rfl
    · rw [visL_len hf low high l, hf]
theorem vis_len (r : Rul) : ∀ (d : Nat) (p : Pos) (low high : Int) (st : List Slo × Int), (vis r d p low high st).2.1.length = st.1.length
  | 0, p, _, _, st => by rw [vis]; split <;> rfl
  | d + 1, p, low, high, st => by
    rw [vis]; split
    · rfl
    · split
      · rfl
      · rw [stoS_len, visL_len (vis_len r d)]
structure SndS (r : Rul) (s : Slo) : Prop where
  ok : okP r (posS s) = true
  d1 : 1 ≤ s.depth
  d2 : s.depth ≤ 8
  sz : size r s.depth.toNat (posS s) ≤ 3000
  v1 : -isum s.pits ≤ s.value
  v2 : s.value ≤ isum s.pits
  bd : (s.bound = 0 ∧ s.value = val r s.depth.toNat (posS s)) ∨ (s.bound = 1 ∧ s.value ≤ val r s.depth.toNat (posS s)) ∨ (s.bound = 2 ∧ val r s.depth.toNat (posS s) ≤ s.value)
structure SndM (r : Rul) (D : Int) (l : List Slo) : Prop where
  us : ∀ i, i < l.length → (slo l i).used = true → SndS r (slo l i) ∧ plc l.length (slo l i).pits (slo l i).player = (i : Int) ∧ (slo l i).depth ≤ D
  fr : ∀ i, i < l.length → (slo l i).used = false → freeS (slo l i) = true
theorem SndM.empty (r : Rul) (D : Int) (n : Nat) : SndM r D (List.replicate n Slo.zero) := by
  have e : ∀ i, slo (List.replicate n Slo.zero) i = Slo.zero := fun i => by
    unfold slo
    rw [List.getD_eq_getElem?_getD, List.getElem?_replicate]
    split <;> rfl
  exact ⟨fun i _ h => by rw [e] at h; simp [Slo.zero] at h, fun i _ _ => by rw [e]; decide⟩
theorem SndM.sto {r : Rul} {D : Int} {l : List Slo} {s : Slo} (h : SndM r D l) (hl : 0 < l.length) (hs : SndS r s) (hus : s.used = true) (hd : s.depth ≤ D) : SndM r D (stoS l s) := by
  have hp := plc_bd s.pits s.player hl
  unfold stoS
  split
  · refine ⟨fun i hi hu => ?_, fun i hi hu => ?_⟩
    · rw [List.length_set] at hi ⊢
      by_cases e : (plc l.length s.pits s.player).toNat = i
      · subst e
        rw [slo_set hi] at hu ⊢
        exact ⟨hs, by omega, hd⟩
      · rw [slo_set_ne e] at hu ⊢
        exact h.us i hi hu
    · rw [List.length_set] at hi
      by_cases e : (plc l.length s.pits s.player).toNat = i
      · subst e
        rw [slo_set hi, hus] at hu; cases hu
      · rw [slo_set_ne e] at hu ⊢
        exact h.fr i hi hu
  · exact h
def AB (low high v V : Int) : Prop := (v ≤ low → V ≤ v) ∧ (high ≤ v → v ≤ V) ∧ (low < v → v < high → v = V)
theorem AB.refl (low high v : Int) : AB low high v v := ⟨fun _ => Int.le_refl _, fun _ => Int.le_refl _, fun _ _ => rfl⟩
theorem mx_le (a b : Int) : a ≤ mx a b ∧ b ≤ mx a b ∧ (mx a b = a ∨ mx a b = b) := by unfold mx; split <;> omega
end Go.Proofs.Ytmgnckfhghibeaa.M
namespace Go.Proofs.Ytmgnckfhghibeaa
open Go.RowKit
theorem cellsOk_cons {w : World} {T : Ty} {Ts : List Ty} : ∀ {vs : List Value}, cellsOk w (T :: Ts) vs → ∃ x r, vs = x :: r ∧ T.ok w x ∧ cellsOk w Ts r
  | x :: r, h => ⟨x, r, rfl, h.1, h.2⟩
theorem cellsOk_nil {w : World} : ∀ {vs : List Value}, cellsOk w [] vs → vs = []
  | [], _ => rfl
theorem drop_flat {α β : Type} (f : α → List β) (k : Nat) (hf : ∀ a, (f a).length = k) : ∀ (l : List α) (i : Nat) (a : α), l[i]? = some a → ((l.flatMap f).drop (i * k)).take k = f a
  | x :: l, 0, a, h => by
    simp at h; subst h
    simp [List.flatMap_cons, hf, List.take_append]
  | x :: l, i + 1, a, h => by
    simp at h
    rw [List.flatMap_cons, Nat.succ_mul, Nat.add_comm, ← List.drop_drop, List.drop_left' (hf x)]
    exact drop_flat f k hf l i a h
  | [], _, _, h => by simp at h
theorem flat_len {α β : Type} (f : α → List β) (k : Nat) (hf : ∀ a, (f a).length = k) : ∀ (l : List α), (l.flatMap f).length = l.length * k
  | [] => by simp
  | x :: l => by rw [List.flatMap_cons, List.length_append, hf, flat_len f k hf l, List.length_cons, Nat.succ_mul, Nat.add_comm]
instance ty_2 : TyI Try.prog 2 false 1 := ⟨by kernel_rfl⟩
instance ty_3 : TyI Try.prog 3 false 1 := ⟨by kernel_rfl⟩
instance ty_4 : TyI Try.prog 4 false 1 := ⟨by kernel_rfl⟩
instance ty_5 : TyI Try.prog 5 false 1 := ⟨by kernel_rfl⟩
instance ty_9 : TyI Try.prog 9 false 1 := ⟨by kernel_rfl⟩
instance ty_22 : TyI Try.prog 22 false 1 := ⟨by kernel_rfl⟩
instance ty_25 : TyI Try.prog 25 true 9 := ⟨by kernel_rfl⟩
instance ty_26 : TyI Try.prog 26 false 1 := ⟨by kernel_rfl⟩
instance ty_28 : TyI Try.prog 28 true 10 := ⟨by kernel_rfl⟩
instance ty_29 : TyI Try.prog 29 false 1 := ⟨by kernel_rfl⟩
instance ty_31 : TyI Try.prog 31 true 3 := ⟨by kernel_rfl⟩
instance ty_45 : TyI Try.prog 45 true 6 := ⟨by kernel_rfl⟩
instance ty_87 : TyI Try.prog 87 false 1 := ⟨by kernel_rfl⟩
instance ty_89 : TyI Try.prog 89 false 1 := ⟨by kernel_rfl⟩
instance ty_91 : TyI Try.prog 91 true 3 := ⟨by kernel_rfl⟩
instance ty_103 : TyI Try.prog 103 true 11 := ⟨by kernel_rfl⟩
instance ty_110 : TyI Try.prog 110 true 6 := ⟨by kernel_rfl⟩
instance ty_117 : TyI Try.prog 117 true 2 := ⟨by kernel_rfl⟩
instance ty_134 : TyI Try.prog 134 true 4 := ⟨by kernel_rfl⟩
instance fld_25_0 : FldI Try.prog 25 0 0 2 false 1 := ⟨by kernel_rfl⟩
instance fld_25_1 : FldI Try.prog 25 1 1 2 false 1 := ⟨by kernel_rfl⟩
instance fld_25_2 : FldI Try.prog 25 2 2 4 false 1 := ⟨by kernel_rfl⟩
instance fld_25_3 : FldI Try.prog 25 3 3 4 false 1 := ⟨by kernel_rfl⟩
instance fld_25_4 : FldI Try.prog 25 4 4 4 false 1 := ⟨by kernel_rfl⟩
instance fld_25_5 : FldI Try.prog 25 5 5 4 false 1 := ⟨by kernel_rfl⟩
instance fld_25_6 : FldI Try.prog 25 6 6 4 false 1 := ⟨by kernel_rfl⟩
instance fld_25_7 : FldI Try.prog 25 7 7 2 false 1 := ⟨by kernel_rfl⟩
instance fld_25_8 : FldI Try.prog 25 8 8 2 false 1 := ⟨by kernel_rfl⟩
instance fld_28_0 : FldI Try.prog 28 0 0 25 true 9 := ⟨by kernel_rfl⟩
instance fld_28_1 : FldI Try.prog 28 1 9 26 false 1 := ⟨by kernel_rfl⟩
instance fld_31_0 : FldI Try.prog 31 0 0 29 false 1 := ⟨by kernel_rfl⟩
instance fld_31_1 : FldI Try.prog 31 1 1 29 false 1 := ⟨by kernel_rfl⟩
instance fld_31_2 : FldI Try.prog 31 2 2 2 false 1 := ⟨by kernel_rfl⟩
instance fld_45_0 : FldI Try.prog 45 0 0 4 false 1 := ⟨by kernel_rfl⟩
instance fld_45_1 : FldI Try.prog 45 1 1 29 false 1 := ⟨by kernel_rfl⟩
instance fld_45_2 : FldI Try.prog 45 2 2 2 false 1 := ⟨by kernel_rfl⟩
instance fld_45_3 : FldI Try.prog 45 3 3 2 false 1 := ⟨by kernel_rfl⟩
instance fld_45_4 : FldI Try.prog 45 4 4 2 false 1 := ⟨by kernel_rfl⟩
instance fld_45_5 : FldI Try.prog 45 5 5 2 false 1 := ⟨by kernel_rfl⟩
instance fld_91_0 : FldI Try.prog 91 0 0 22 false 1 := ⟨by kernel_rfl⟩
instance fld_91_1 : FldI Try.prog 91 1 1 3 false 1 := ⟨by kernel_rfl⟩
instance fld_91_2 : FldI Try.prog 91 2 2 89 false 1 := ⟨by kernel_rfl⟩
instance fld_103_0 : FldI Try.prog 103 0 0 28 true 10 := ⟨by kernel_rfl⟩
instance fld_103_1 : FldI Try.prog 103 1 10 2 false 1 := ⟨by kernel_rfl⟩
instance fld_110_1 : FldI Try.prog 110 1 1 2 false 1 := ⟨by kernel_rfl⟩
instance fld_110_2 : FldI Try.prog 110 2 2 4 false 1 := ⟨by kernel_rfl⟩
instance fld_110_3 : FldI Try.prog 110 3 3 31 true 3 := ⟨by kernel_rfl⟩
instance fld_117_0 : FldI Try.prog 117 0 0 87 false 1 := ⟨by kernel_rfl⟩
instance fld_117_1 : FldI Try.prog 117 1 1 2 false 1 := ⟨by kernel_rfl⟩
instance fld_134_0 : FldI Try.prog 134 0 0 29 false 1 := ⟨by kernel_rfl⟩
instance fld_134_1 : FldI Try.prog 134 1 1 29 false 1 := ⟨by kernel_rfl⟩
instance fld_134_2 : FldI Try.prog 134 2 2 2 false 1 := ⟨by kernel_rfl⟩
instance fld_134_3 : FldI Try.prog 134 3 3 2 false 1 := ⟨by kernel_rfl⟩
instance eI_22 : ElI Try.prog 22 5 1 1 [.int .u8 0] := ⟨by kernel_rfl⟩
theorem el_22 : elOf Try.prog 22 = some (5, 1, 1, [.int .u8 0]) := ElI.h
instance eI_26 : ElI Try.prog 26 45 6 64 [.bool false, .slice none 0 0, .int .i64 0, .int .i64 0, .int .i64 0, .int .i64 0] := ⟨by kernel_rfl⟩
theorem el_26 : elOf Try.prog 26 = some (45, 6, 64, [.bool false, .slice none 0 0, .int .i64 0, .int .i64 0, .int .i64 0, .int .i64 0]) := ElI.h
instance eI_29 : ElI Try.prog 29 2 1 8 [.int .i64 0] := ⟨by kernel_rfl⟩
theorem el_29 : elOf Try.prog 29 = some (2, 1, 8, [.int .i64 0]) := ElI.h
instance eI_107 : ElI Try.prog 107 110 6 80 [.int .i64 0, .int .i64 0, .bool false, .slice none 0 0, .slice none 0 0, .int .i64 0] := ⟨by kernel_rfl⟩
theorem el_107 : elOf Try.prog 107 = some (110, 6, 80, [.int .i64 0, .int .i64 0, .bool false, .slice none 0 0, .slice none 0 0, .int .i64 0]) := ElI.h
instance eI_127 : ElI Try.prog 127 9 1 16 [.string ByteArray.empty] := ⟨by kernel_rfl⟩
theorem el_127 : elOf Try.prog 127 = some (9, 1, 16, [.string ByteArray.empty]) := ElI.h
instance zero_25 : ZeroI Try.prog 25 [.int .i64 0, .int .i64 0, .bool false, .bool false, .bool false, .bool false, .bool false, .int .i64 0, .int .i64 0] := ⟨by kernel_rfl⟩
instance zero_28 : ZeroI Try.prog 28 [.int .i64 0, .int .i64 0, .bool false, .bool false, .bool false, .bool false, .bool false, .int .i64 0, .int .i64 0, .slice none 0 0] := ⟨by kernel_rfl⟩
instance zero_31 : ZeroI Try.prog 31 [.slice none 0 0, .slice none 0 0, .int .i64 0] := ⟨by kernel_rfl⟩
instance zero_45 : ZeroI Try.prog 45 [.bool false, .slice none 0 0, .int .i64 0, .int .i64 0, .int .i64 0, .int .i64 0] := ⟨by kernel_rfl⟩
instance zero_91 : ZeroI Try.prog 91 [.slice none 0 0, .int .i64 0, .int .u64 0] := ⟨by kernel_rfl⟩
instance zero_103 : ZeroI Try.prog 103 [.int .i64 0, .int .i64 0, .bool false, .bool false, .bool false, .bool false, .bool false, .int .i64 0, .int .i64 0, .slice none 0 0, .int .i64 0] := ⟨by kernel_rfl⟩
instance zero_110 : ZeroI Try.prog 110 [.int .i64 0, .int .i64 0, .bool false, .slice none 0 0, .slice none 0 0, .int .i64 0] := ⟨by kernel_rfl⟩
instance zero_117 : ZeroI Try.prog 117 [.pointer none, .int .i64 0] := ⟨by kernel_rfl⟩
instance zero_134 : ZeroI Try.prog 134 [.slice none 0 0, .slice none 0 0, .int .i64 0, .int .i64 0] := ⟨by kernel_rfl⟩
instance flds_25 : FldsI Try.prog 25 [(0, 1), (1, 1), (2, 1), (3, 1), (4, 1), (5, 1), (6, 1), (7, 1), (8, 1)] := ⟨by kernel_rfl⟩
instance flds_28 : FldsI Try.prog 28 [(0, 9), (9, 1)] := ⟨by kernel_rfl⟩
instance flds_31 : FldsI Try.prog 31 [(0, 1), (1, 1), (2, 1)] := ⟨by kernel_rfl⟩
instance flds_45 : FldsI Try.prog 45 [(0, 1), (1, 1), (2, 1), (3, 1), (4, 1), (5, 1)] := ⟨by kernel_rfl⟩
instance flds_91 : FldsI Try.prog 91 [(0, 1), (1, 1), (2, 1)] := ⟨by kernel_rfl⟩
instance flds_103 : FldsI Try.prog 103 [(0, 10), (10, 1)] := ⟨by kernel_rfl⟩
instance flds_110 : FldsI Try.prog 110 [(0, 1), (1, 1), (2, 1), (3, 3)] := ⟨by kernel_rfl⟩
instance flds_117 : FldsI Try.prog 117 [(0, 1), (1, 1)] := ⟨by kernel_rfl⟩
instance flds_134 : FldsI Try.prog 134 [(0, 1), (1, 1), (2, 1), (3, 1)] := ⟨by kernel_rfl⟩
instance fn_5 : FnI Try.prog 5 := ⟨by kernel_rfl⟩
instance fn_14 : FnI Try.prog 14 := ⟨by kernel_rfl⟩
instance fn_15 : FnI Try.prog 15 := ⟨by kernel_rfl⟩
instance fn_16 : FnI Try.prog 16 := ⟨by kernel_rfl⟩
instance fn_17 : FnI Try.prog 17 := ⟨by kernel_rfl⟩
instance fn_18 : FnI Try.prog 18 := ⟨by kernel_rfl⟩
instance fn_19 : FnI Try.prog 19 := ⟨by kernel_rfl⟩
instance fn_20 : FnI Try.prog 20 := ⟨by kernel_rfl⟩
instance fn_21 : FnI Try.prog 21 := ⟨by kernel_rfl⟩
instance fn_22 : FnI Try.prog 22 := ⟨by kernel_rfl⟩
instance fn_23 : FnI Try.prog 23 := ⟨by kernel_rfl⟩
instance fn_24 : FnI Try.prog 24 := ⟨by kernel_rfl⟩
instance fn_25 : FnI Try.prog 25 := ⟨by kernel_rfl⟩
instance fn_26 : FnI Try.prog 26 := ⟨by kernel_rfl⟩
instance fn_27 : FnI Try.prog 27 := ⟨by kernel_rfl⟩
instance fn_28 : FnI Try.prog 28 := ⟨by kernel_rfl⟩
instance fn_29 : FnI Try.prog 29 := ⟨by kernel_rfl⟩
instance fn_30 : FnI Try.prog 30 := ⟨by kernel_rfl⟩
instance fn_31 : FnI Try.prog 31 := ⟨by kernel_rfl⟩
instance fn_33 : FnI Try.prog 33 := ⟨by kernel_rfl⟩
instance fn_34 : FnI Try.prog 34 := ⟨by kernel_rfl⟩
instance fn_35 : FnI Try.prog 35 := ⟨by kernel_rfl⟩
instance fn_36 : FnI Try.prog 36 := ⟨by kernel_rfl⟩
instance fn_37 : FnI Try.prog 37 := ⟨by kernel_rfl⟩
instance fn_38 : FnI Try.prog 38 := ⟨by kernel_rfl⟩
instance fn_39 : FnI Try.prog 39 := ⟨by kernel_rfl⟩
instance fn_40 : FnI Try.prog 40 := ⟨by kernel_rfl⟩
instance fn_41 : FnI Try.prog 41 := ⟨by kernel_rfl⟩
instance fn_42 : FnI Try.prog 42 := ⟨by kernel_rfl⟩
instance fn_43 : FnI Try.prog 43 := ⟨by kernel_rfl⟩
instance fn_44 : FnI Try.prog 44 := ⟨by kernel_rfl⟩
instance fn_47 : FnI Try.prog 47 := ⟨by kernel_rfl⟩
instance fn_48 : FnI Try.prog 48 := ⟨by kernel_rfl⟩
instance fn_49 : FnI Try.prog 49 := ⟨by kernel_rfl⟩
instance fn_50 : FnI Try.prog 50 := ⟨by kernel_rfl⟩
instance fn_51 : FnI Try.prog 51 := ⟨by kernel_rfl⟩
instance fn_52 : FnI Try.prog 52 := ⟨by kernel_rfl⟩
instance fn_53 : FnI Try.prog 53 := ⟨by kernel_rfl⟩
instance fn_54 : FnI Try.prog 54 := ⟨by kernel_rfl⟩
instance fn_55 : FnI Try.prog 55 := ⟨by kernel_rfl⟩
instance fn_56 : FnI Try.prog 56 := ⟨by kernel_rfl⟩
instance fn_57 : FnI Try.prog 57 := ⟨by kernel_rfl⟩
instance fn_58 : FnI Try.prog 58 := ⟨by kernel_rfl⟩
instance fn_59 : FnI Try.prog 59 := ⟨by kernel_rfl⟩
instance fn_60 : FnI Try.prog 60 := ⟨by kernel_rfl⟩
instance fn_61 : FnI Try.prog 61 := ⟨by kernel_rfl⟩
instance fn_62 : FnI Try.prog 62 := ⟨by kernel_rfl⟩
instance fn_63 : FnI Try.prog 63 := ⟨by kernel_rfl⟩
instance fn_64 : FnI Try.prog 64 := ⟨by kernel_rfl⟩
instance fn_65 : FnI Try.prog 65 := ⟨by kernel_rfl⟩
instance fn_66 : FnI Try.prog 66 := ⟨by kernel_rfl⟩
instance fn_67 : FnI Try.prog 67 := ⟨by kernel_rfl⟩
instance fn_68 : FnI Try.prog 68 := ⟨by kernel_rfl⟩
instance fn_69 : FnI Try.prog 69 := ⟨by kernel_rfl⟩
instance fn_70 : FnI Try.prog 70 := ⟨by kernel_rfl⟩
instance fn_71 : FnI Try.prog 71 := ⟨by kernel_rfl⟩
instance fn_72 : FnI Try.prog 72 := ⟨by kernel_rfl⟩
instance fn_73 : FnI Try.prog 73 := ⟨by kernel_rfl⟩
instance fn_74 : FnI Try.prog 74 := ⟨by kernel_rfl⟩
instance fn_75 : FnI Try.prog 75 := ⟨by kernel_rfl⟩
instance fn_76 : FnI Try.prog 76 := ⟨by kernel_rfl⟩
instance fn_77 : FnI Try.prog 77 := ⟨by kernel_rfl⟩
instance fn_78 : FnI Try.prog 78 := ⟨by kernel_rfl⟩
instance fn_79 : FnI Try.prog 79 := ⟨by kernel_rfl⟩
instance fn_80 : FnI Try.prog 80 := ⟨by kernel_rfl⟩
instance fn_81 : FnI Try.prog 81 := ⟨by kernel_rfl⟩
instance fn_82 : FnI Try.prog 82 := ⟨by kernel_rfl⟩
instance fn_83 : FnI Try.prog 83 := ⟨by kernel_rfl⟩
instance fn_84 : FnI Try.prog 84 := ⟨by kernel_rfl⟩
instance fn_85 : FnI Try.prog 85 := ⟨by kernel_rfl⟩
instance fn_86 : FnI Try.prog 86 := ⟨by kernel_rfl⟩
instance fn_87 : FnI Try.prog 87 := ⟨by kernel_rfl⟩
instance fn_88 : FnI Try.prog 88 := ⟨by kernel_rfl⟩
instance fn_89 : FnI Try.prog 89 := ⟨by kernel_rfl⟩
instance fn_90 : FnI Try.prog 90 := ⟨by kernel_rfl⟩
instance fn_91 : FnI Try.prog 91 := ⟨by kernel_rfl⟩
instance fn_92 : FnI Try.prog 92 := ⟨by kernel_rfl⟩
instance fn_93 : FnI Try.prog 93 := ⟨by kernel_rfl⟩
instance fn_94 : FnI Try.prog 94 := ⟨by kernel_rfl⟩
instance fn_95 : FnI Try.prog 95 := ⟨by kernel_rfl⟩
instance fn_96 : FnI Try.prog 96 := ⟨by kernel_rfl⟩
instance fn_97 : FnI Try.prog 97 := ⟨by kernel_rfl⟩
instance fn_98 : FnI Try.prog 98 := ⟨by kernel_rfl⟩
instance fn_99 : FnI Try.prog 99 := ⟨by kernel_rfl⟩
instance fn_100 : FnI Try.prog 100 := ⟨by kernel_rfl⟩
instance fn_101 : FnI Try.prog 101 := ⟨by kernel_rfl⟩
instance fn_102 : FnI Try.prog 102 := ⟨by kernel_rfl⟩
instance fn_103 : FnI Try.prog 103 := ⟨by kernel_rfl⟩
instance fn_104 : FnI Try.prog 104 := ⟨by kernel_rfl⟩
instance fn_105 : FnI Try.prog 105 := ⟨by kernel_rfl⟩
instance fn_106 : FnI Try.prog 106 := ⟨by kernel_rfl⟩
instance fn_107 : FnI Try.prog 107 := ⟨by kernel_rfl⟩
instance uI_4 : UndI Try.prog 4 (.bool) := ⟨@Try.underlying4⟩
theorem und_4 : Try.prog.underlying 4 = some (.bool) := UndI.h
instance uI_9 : UndI Try.prog 9 (.string) := ⟨@Try.underlying9⟩
theorem und_9 : Try.prog.underlying 9 = some (.string) := UndI.h
instance uI_10 : UndI Try.prog 10 (.string) := ⟨@Try.underlying10⟩
instance uI_11 : UndI Try.prog 11 (.string) := ⟨@Try.underlying11⟩
instance uI_22 : UndI Try.prog 22 (.slice 5) := ⟨@Try.underlying22⟩
instance uI_26 : UndI Try.prog 26 (.slice 45) := ⟨@Try.underlying26⟩
theorem und_26 : Try.prog.underlying 26 = some (.slice 45) := UndI.h
instance uI_29 : UndI Try.prog 29 (.slice 2) := ⟨@Try.underlying29⟩
theorem und_29 : Try.prog.underlying 29 = some (.slice 2) := UndI.h
instance uI_107 : UndI Try.prog 107 (.slice 110) := ⟨@Try.underlying107⟩
theorem und_107 : Try.prog.underlying 107 = some (.slice 110) := UndI.h
instance uI_127 : UndI Try.prog 127 (.slice 9) := ⟨@Try.underlying127⟩
instance mixI : MixI Try.prog := ⟨by kernel_rfl⟩
@[reducible] def cRules (x : M.Rul) : List Ty := [Ty.int x.pits, Ty.int x.seeds, Ty.bool x.stores, Ty.bool x.skip, Ty.bool x.relay, Ty.bool x.feed, Ty.bool x.again, Ty.int x.capture, Ty.int x.slam]
def lRules (xs : List M.Rul) : List Ty := xs.flatMap cRules
theorem lRules_length (xs : List M.Rul) : (lRules xs).length = xs.length * 9 := flat_len cRules 9 (fun _ => rfl) xs
instance : LenL lRules 9 := ⟨lRules_length⟩
set_option maxRecDepth 100000 in
theorem eqs_Rules (a b : M.Rul) (w : World) : (Op.equalIn 10000 25 (.agg #[.int .i64 a.pits, .int .i64 a.seeds, .bool a.stores, .bool a.skip, .bool a.relay, .bool a.feed, .bool a.again, .int .i64 a.capture, .int .i64 a.slam]) (.agg #[.int .i64 b.pits, .int .i64 b.seeds, .bool b.stores, .bool b.skip, .bool b.relay, .bool b.feed, .bool b.again, .int .i64 b.capture, .int .i64 b.slam])).run Try.prog w = .ok (decide (a = b)) w := by
  have u2 := Try.underlying2
  have u4 := Try.underlying4
  have i2 := run_equalIn_int (P := Try.prog) (d := 9998) (t := 2) (k := .i64) (k' := .i64) (h := u2)
  have i4 := run_equalIn_bool (P := Try.prog) 9998 (t := 4) u4
  rw [show (10000 : Nat) = 9999 + 1 from rfl, run_equalIn_agg w 9999 25 _ _ (by kernel_rfl) (by kernel_rfl)]
  simp only [Program.fieldsOf, Try.underlying25]
  go_simp
  by_cases h : a = b
  · subst h; simp
  rw [decide_eq_false h]
  by_cases h0 : a.pits = b.pits
  case neg => rw [if_neg h0]
  rw [if_pos h0]
  by_cases h1 : a.seeds = b.seeds
  case neg => rw [if_neg h1]
  rw [if_pos h1]
  by_cases h2 : a.stores = b.stores
  case neg => rw [if_neg h2]
  rw [if_pos h2]
  by_cases h3 : a.skip = b.skip
  case neg => rw [if_neg h3]
  rw [if_pos h3]
  by_cases h4 : a.relay = b.relay
  case neg => rw [if_neg h4]
  rw [if_pos h4]
  by_cases h5 : a.feed = b.feed
  case neg => rw [if_neg h5]
  rw [if_pos h5]
  by_cases h6 : a.again = b.again
  case neg => rw [if_neg h6]
  rw [if_pos h6]
  by_cases h7 : a.capture = b.capture
  case neg => rw [if_neg h7]
  rw [if_pos h7]
  by_cases h8 : a.slam = b.slam
  case neg => rw [if_neg h8]
  rw [if_pos h8]
  exact absurd (by cases a; cases b; simp_all) h
@[reducible] def cPosition (x : M.Pos) : List Ty := [Ty.ints 2 x.pits, Ty.ints 2 x.stores, Ty.int x.player]
def lPosition (xs : List M.Pos) : List Ty := xs.flatMap cPosition
theorem lPosition_length (xs : List M.Pos) : (lPosition xs).length = xs.length * 3 := flat_len cPosition 3 (fun _ => rfl) xs
instance : LenL lPosition 3 := ⟨lPosition_length⟩
@[reducible] def cSown (x : M.Sw) : List Ty := [Ty.ints 2 x.pits, Ty.ints 2 x.stores, Ty.int x.last, Ty.int x.laps]
def lSown (xs : List M.Sw) : List Ty := xs.flatMap cSown
theorem lSown_length (xs : List M.Sw) : (lSown xs).length = xs.length * 4 := flat_len cSown 4 (fun _ => rfl) xs
instance : LenL lSown 4 := ⟨lSown_length⟩
@[reducible] def cResult (x : M.Res) : List Ty := [Ty.int x.move, Ty.int x.gain, Ty.bool x.again, Ty.ints 2 x.next.pits, Ty.ints 2 x.next.stores, Ty.int x.next.player]
def lResult (xs : List M.Res) : List Ty := xs.flatMap cResult
theorem lResult_length (xs : List M.Res) : (lResult xs).length = xs.length * 6 := flat_len cResult 6 (fun _ => rfl) xs
instance : LenL lResult 6 := ⟨lResult_length⟩
theorem elem_Result {u : World} {e c i : Nat} {A : Option Addr} {xs : List M.Res} {x : M.Res} (h : (Ty.sl e 6 xs.length (lResult xs)).ok u (.slice A xs.length c)) (hi : xs[i]? = some x) : ∃ b o A3 c3 A4 c4, elemA 6 (.slice A xs.length c) i = some ⟨b, o, none⟩ ∧ RowAt u b o [.int .i64 x.move, .int .i64 x.gain, .bool x.again, .slice A3 x.next.pits.length c3, .slice A4 x.next.stores.length c4, .int .i64 x.next.player] ∧ (Ty.ints 2 x.next.pits).ok u (.slice A3 x.next.pits.length c3) ∧ (Ty.ints 2 x.next.stores).ok u (.slice A4 x.next.stores.length c4) ∧ x.next.pits.length ≤ c3 ∧ c3 ≤ 9223372036854775807 ∧ x.next.stores.length ≤ c4 ∧ c4 ≤ 9223372036854775807 := by
  obtain ⟨b, o, vs, he, h, hr⟩ := sl_elem h (List.getElem?_eq_some_iff.1 hi).1 rfl
  have e := drop_flat cResult 6 (fun _ => rfl) xs i x hi
  unfold lResult at h
  rw [e] at h
  obtain ⟨x0, r, rfl, h0, h⟩ := cellsOk_cons h
  obtain ⟨x1, r, rfl, h1, h⟩ := cellsOk_cons h
  obtain ⟨x2, r, rfl, h2, h⟩ := cellsOk_cons h
  obtain ⟨x3, r, rfl, h3, h⟩ := cellsOk_cons h
  obtain ⟨x4, r, rfl, h4, h⟩ := cellsOk_cons h
  obtain ⟨x5, r, rfl, h5, h⟩ := cellsOk_cons h
  obtain rfl := cellsOk_nil h
  obtain rfl : x0 = .int .i64 x.move := h0
  obtain rfl : x1 = .int .i64 x.gain := h1
  obtain rfl : x2 = .bool x.again := h2
  obtain ⟨A3, c3, rfl, b3, d3⟩ := sl_form h3
  obtain ⟨A4, c4, rfl, b4, d4⟩ := sl_form h4
  obtain rfl : x5 = .int .i64 x.next.player := h5
  exact ⟨b, o, A3, c3, A4, c4, he, hr, h3, h4, b3, d3, b4, d4⟩
theorem elemv_Result {w : World} {i : Nat} {xs : List M.Res} {x : M.Res} {vs : List Value} (h : cellsOk w (lResult xs) vs) (hi : xs[i]? = some x) : ∃ A3 c3 A4 c4, (vs.drop (0 + i * 6)).take 6 = [.int .i64 x.move, .int .i64 x.gain, .bool x.again, .slice A3 x.next.pits.length c3, .slice A4 x.next.stores.length c4, .int .i64 x.next.player] ∧ x.next.pits.length ≤ c3 ∧ c3 ≤ 9223372036854775807 ∧ x.next.stores.length ≤ c4 ∧ c4 ≤ 9223372036854775807 := by
  rw [Nat.zero_add]
  have h := cellsOk.take 6 (cellsOk.drop (i * 6) h)
  rw [lResult, drop_flat cResult 6 (fun _ => rfl) xs i x hi] at h
  generalize (vs.drop (i * 6)).take 6 = vs at h ⊢
  obtain ⟨x0, r, rfl, h0, h⟩ := cellsOk_cons h
  obtain ⟨x1, r, rfl, h1, h⟩ := cellsOk_cons h
  obtain ⟨x2, r, rfl, h2, h⟩ := cellsOk_cons h
  obtain ⟨x3, r, rfl, h3, h⟩ := cellsOk_cons h
  obtain ⟨x4, r, rfl, h4, h⟩ := cellsOk_cons h
  obtain ⟨x5, r, rfl, h5, h⟩ := cellsOk_cons h
  obtain rfl := cellsOk_nil h
  obtain rfl : x0 = .int .i64 x.move := h0
  obtain rfl : x1 = .int .i64 x.gain := h1
  obtain rfl : x2 = .bool x.again := h2
  obtain ⟨A3, c3, rfl, b3, d3⟩ := sl_form h3
  obtain ⟨A4, c4, rfl, b4, d4⟩ := sl_form h4
  obtain rfl : x5 = .int .i64 x.next.player := h5
  exact ⟨A3, c3, A4, c4, rfl, b3, d3, b4, d4⟩
theorem lResult_snoc (xs : List M.Res) (x : M.Res) : lResult xs ++ cResult x = lResult (xs ++ [x]) := by simp [lResult]
theorem pack_Result {w : World} {x : M.Res} {v1 v2 : Value} {f1 f2 : List Nat} (h1 : (Ty.ints 2 x.next.pits).own w v1 f1) (h2 : (Ty.ints 2 x.next.stores).own w v2 f2) : cellsOwn w (cResult x) [.int .i64 x.move, .int .i64 x.gain, .bool x.again, v1, v2, .int .i64 x.next.player] (f1 ++ f2) :=
  ⟨[], f1 ++ f2, rfl, ⟨rfl, rfl⟩, ⟨[], f1 ++ f2, rfl, ⟨rfl, rfl⟩, ⟨[], f1 ++ f2, rfl, ⟨rfl, rfl⟩, ⟨f1, f2, rfl, h1, ⟨f2, [], (List.append_nil _).symm, h2, ⟨[], [], rfl, ⟨rfl, rfl⟩, rfl⟩⟩⟩⟩⟩⟩
theorem unpack_Result {w : World} {x : M.Res} {A3 A4 : Option Addr} {m3 m4 c3 c4 : Nat} {f : List Nat} (h : cellsOwn w (cResult x) [.int .i64 x.move, .int .i64 x.gain, .bool x.again, .slice A3 m3 c3, .slice A4 m4 c4, .int .i64 x.next.player] f) : (rowO 2 1 (.slice A3 m3 c3) m3 (ints_ x.next.pits) []).pr w ∧ (rowO 2 1 (.slice A4 m4 c4) m4 (ints_ x.next.stores) []).pr w ∧ f = (rowO 2 1 (.slice A3 m3 c3) m3 (ints_ x.next.pits) []).fp ++ (rowO 2 1 (.slice A4 m4 c4) m4 (ints_ x.next.stores) []).fp := by
  obtain ⟨g0, r0, rfl, h0, h⟩ := h
  obtain ⟨g1, r1, rfl, h1, h⟩ := h
  obtain ⟨g2, r2, rfl, h2, h⟩ := h
  obtain ⟨g3, r3, rfl, h3, h⟩ := h
  obtain ⟨g4, r4, rfl, h4, h⟩ := h
  obtain ⟨g5, r5, rfl, h5, h⟩ := h
  obtain rfl : _ = [] := h
  obtain ⟨_, rfl⟩ := h0
  obtain ⟨_, rfl⟩ := h1
  obtain ⟨_, rfl⟩ := h2
  obtain ⟨_, rfl⟩ := h5
  have a := ints_open h3
  have b := ints_open h4
  exact ⟨a.1, b.1, by rw [← a.2, ← b.2]; simp⟩
@[reducible] def cResultL (x : M.Res) : List Ty := [Ty.int x.move, Ty.int x.gain, Ty.bool x.again, Ty.any, Ty.any, Ty.any]
def lResultL (xs : List M.Res) : List Ty := xs.flatMap cResultL
theorem lResultL_length (xs : List M.Res) : (lResultL xs).length = xs.length * 6 := flat_len cResultL 6 (fun _ => rfl) xs
instance : LenL lResultL 6 := ⟨lResultL_length⟩
@[reducible] def cSlot (x : M.Slo) : List Ty := [Ty.bool x.used, Ty.ints 2 x.pits, Ty.int x.player, Ty.int x.depth, Ty.int x.value, Ty.int x.bound]
def lSlot (xs : List M.Slo) : List Ty := xs.flatMap cSlot
theorem lSlot_length (xs : List M.Slo) : (lSlot xs).length = xs.length * 6 := flat_len cSlot 6 (fun _ => rfl) xs
instance : LenL lSlot 6 := ⟨lSlot_length⟩
theorem elem_Slot {u : World} {e c i : Nat} {A : Option Addr} {xs : List M.Slo} {x : M.Slo} (h : (Ty.sl e 6 xs.length (lSlot xs)).ok u (.slice A xs.length c)) (hi : xs[i]? = some x) : ∃ b o A1 c1, elemA 6 (.slice A xs.length c) i = some ⟨b, o, none⟩ ∧ RowAt u b o [.bool x.used, .slice A1 x.pits.length c1, .int .i64 x.player, .int .i64 x.depth, .int .i64 x.value, .int .i64 x.bound] ∧ (Ty.ints 2 x.pits).ok u (.slice A1 x.pits.length c1) ∧ x.pits.length ≤ c1 ∧ c1 ≤ 9223372036854775807 := by
  obtain ⟨b, o, vs, he, h, hr⟩ := sl_elem h (List.getElem?_eq_some_iff.1 hi).1 rfl
  have e := drop_flat cSlot 6 (fun _ => rfl) xs i x hi
  unfold lSlot at h
  rw [e] at h
  obtain ⟨x0, r, rfl, h0, h⟩ := cellsOk_cons h
  obtain ⟨x1, r, rfl, h1, h⟩ := cellsOk_cons h
  obtain ⟨x2, r, rfl, h2, h⟩ := cellsOk_cons h
  obtain ⟨x3, r, rfl, h3, h⟩ := cellsOk_cons h
  obtain ⟨x4, r, rfl, h4, h⟩ := cellsOk_cons h
  obtain ⟨x5, r, rfl, h5, h⟩ := cellsOk_cons h
  obtain rfl := cellsOk_nil h
  obtain rfl : x0 = .bool x.used := h0
  obtain ⟨A1, c1, rfl, b1, d1⟩ := sl_form h1
  obtain rfl : x2 = .int .i64 x.player := h2
  obtain rfl : x3 = .int .i64 x.depth := h3
  obtain rfl : x4 = .int .i64 x.value := h4
  obtain rfl : x5 = .int .i64 x.bound := h5
  exact ⟨b, o, A1, c1, he, hr, h1, b1, d1⟩
theorem elemv_Slot {w : World} {i : Nat} {xs : List M.Slo} {x : M.Slo} {vs : List Value} (h : cellsOk w (lSlot xs) vs) (hi : xs[i]? = some x) : ∃ A1 c1, (vs.drop (0 + i * 6)).take 6 = [.bool x.used, .slice A1 x.pits.length c1, .int .i64 x.player, .int .i64 x.depth, .int .i64 x.value, .int .i64 x.bound] ∧ x.pits.length ≤ c1 ∧ c1 ≤ 9223372036854775807 := by
  rw [Nat.zero_add]
  have h := cellsOk.take 6 (cellsOk.drop (i * 6) h)
  rw [lSlot, drop_flat cSlot 6 (fun _ => rfl) xs i x hi] at h
  generalize (vs.drop (i * 6)).take 6 = vs at h ⊢
  obtain ⟨x0, r, rfl, h0, h⟩ := cellsOk_cons h
  obtain ⟨x1, r, rfl, h1, h⟩ := cellsOk_cons h
  obtain ⟨x2, r, rfl, h2, h⟩ := cellsOk_cons h
  obtain ⟨x3, r, rfl, h3, h⟩ := cellsOk_cons h
  obtain ⟨x4, r, rfl, h4, h⟩ := cellsOk_cons h
  obtain ⟨x5, r, rfl, h5, h⟩ := cellsOk_cons h
  obtain rfl := cellsOk_nil h
  obtain rfl : x0 = .bool x.used := h0
  obtain ⟨A1, c1, rfl, b1, d1⟩ := sl_form h1
  obtain rfl : x2 = .int .i64 x.player := h2
  obtain rfl : x3 = .int .i64 x.depth := h3
  obtain rfl : x4 = .int .i64 x.value := h4
  obtain rfl : x5 = .int .i64 x.bound := h5
  exact ⟨A1, c1, rfl, b1, d1⟩
theorem lSlot_snoc (xs : List M.Slo) (x : M.Slo) : lSlot xs ++ cSlot x = lSlot (xs ++ [x]) := by simp [lSlot]
theorem zown_Slot (w : World) : cellsOwn w (cSlot M.Slo.zero) [.bool false, .slice none 0 0, .int .i64 0, .int .i64 0, .int .i64 0, .int .i64 0] [] := ⟨[], [], rfl, ⟨rfl, rfl⟩, ⟨[], [], rfl, nil_own, ⟨[], [], rfl, ⟨rfl, rfl⟩, ⟨[], [], rfl, ⟨rfl, rfl⟩, ⟨[], [], rfl, ⟨rfl, rfl⟩, ⟨[], [], rfl, ⟨rfl, rfl⟩, rfl⟩⟩⟩⟩⟩⟩
@[reducible] def cSlotL (x : M.Slo) : List Ty := [Ty.bool x.used, Ty.any, Ty.int x.player, Ty.int x.depth, Ty.int x.value, Ty.int x.bound]
def lSlotL (xs : List M.Slo) : List Ty := xs.flatMap cSlotL
theorem lSlotL_length (xs : List M.Slo) : (lSlotL xs).length = xs.length * 6 := flat_len cSlotL 6 (fun _ => rfl) xs
instance : LenL lSlotL 6 := ⟨lSlotL_length⟩
@[reducible] def cMemory (x : M.Mem) : List Ty := [Ty.int x.rules.pits, Ty.int x.rules.seeds, Ty.bool x.rules.stores, Ty.bool x.rules.skip, Ty.bool x.rules.relay, Ty.bool x.rules.feed, Ty.bool x.rules.again, Ty.int x.rules.capture, Ty.int x.rules.slam, Ty.sl 45 6 x.slots.length (lSlot x.slots)]
def lMemory (xs : List M.Mem) : List Ty := xs.flatMap cMemory
theorem lMemory_length (xs : List M.Mem) : (lMemory xs).length = xs.length * 10 := flat_len cMemory 10 (fun _ => rfl) xs
instance : LenL lMemory 10 := ⟨lMemory_length⟩
@[reducible] def cl16S (x : M.Vst) : List Ty := [Ty.int x.rules.pits, Ty.int x.rules.seeds, Ty.bool x.rules.stores, Ty.bool x.rules.skip, Ty.bool x.rules.relay, Ty.bool x.rules.feed, Ty.bool x.rules.again, Ty.int x.rules.capture, Ty.int x.rules.slam, Ty.sl 45 6 x.slots.length (lSlot x.slots), Ty.int x.hits]
def ll16S (xs : List M.Vst) : List Ty := xs.flatMap cl16S
theorem ll16S_length (xs : List M.Vst) : (ll16S xs).length = xs.length * 11 := flat_len cl16S 11 (fun _ => rfl) xs
instance : LenL ll16S 11 := ⟨ll16S_length⟩
@[reducible] def cPositionL (x : M.Pos) : List Ty := [Ty.rx 2 x.pits, Ty.ints 2 x.stores, Ty.int x.player]
def lPositionL (xs : List M.Pos) : List Ty := xs.flatMap cPositionL
theorem lPositionL_length (xs : List M.Pos) : (lPositionL xs).length = xs.length * 3 := flat_len cPositionL 3 (fun _ => rfl) xs
instance : LenL lPositionL 3 := ⟨lPositionL_length⟩
open Go.RowKit Go.ChangeShapes Go.WideShapes Go.ChangeAt
theorem cell_of {w : World} {b o : Nat} {x : Value} (h : w.cell? ⟨b, o, none⟩ = some x) : Cell w b o x := by
  unfold World.cell? at h
  split at h
  · rename_i c t f hb
    exact ⟨c, t, f, hb, by simpa using h⟩
  all_goals simp at h
section
variable {H : Type} {enc : TypeId × Value → H} {w : World} {spare : Nat → Bool} {held : Bool} {fuel : Nat} {x : DataW H × List MemPlace} {cs : List Value}
end
section
variable {H : Type} {enc : TypeId × Value → H} {w : World} {spare : Nat → Bool} {held : Bool} {fuel : Nat} {x : DataW H × List MemPlace} {cs : List Value}
theorem byte_wf {n : Int} (h : (Lit.int .u8 n).wf = true) : 0 ≤ n ∧ n ≤ 255 := by
  simp only [Lit.wf, Bool.and_eq_true, decide_eq_true_eq] at h
  first | exact h | (obtain ⟨a, b⟩ := h; constructor <;> simp_all [IntKind.min, IntKind.max] <;> omega)
theorem bytes_ok (w : World) : ∀ (l : List Int), (∀ n ∈ l, 0 ≤ n ∧ n ≤ 255) → cellsOk w (List.replicate l.length Ty.byte) (l.map (fun n => .int .u8 n))
  | [], _ => trivial
  | n :: l, h => ⟨⟨n, rfl, h n (by simp)⟩, bytes_ok w l (fun m hm => h m (by simp [hm]))⟩
theorem rd_bytes {P : Program} {t e : TypeId} (ht : P.underlying t = some (.slice e)) (he : P.underlying e = some (.int .u8)) (hc : P.cellsOf e = 1) (h : DataW.trod enc P w 0 spare held fuel t cs = some x) : ∃ n : Nat, cellsOk w [Ty.bytes e n] cs := by
  rcases open_ints ht he hc h with ⟨rfl, _⟩ | ⟨a, len, cap, zs, rfl, _, hl, hm, hz, _, hcell, hwf⟩
  · exact ⟨0, nil_ok, trivial⟩
  · have hlz : len ≤ zs.length := by rw [hz]; split <;> omega
    have hlen : (zs.take len).length = len := by simp; omega
    refine ⟨len, ⟨by simp, some a, cap, (zs.take len).map (fun n => .int .u8 n), rfl, hl, hm, ?_, fun hp => ?_⟩, trivial⟩
    · have := bytes_ok w (zs.take len) (fun n hn => byte_wf (hwf n (List.mem_of_mem_take hn)))
      rwa [hlen] at this
    have hp : 0 < len := by simpa using hp
    obtain ⟨b, off, spot⟩ := a
    have hspot : spot = none := by simpa [Addr.add] using World.cell?_spot (hcell 0 (by omega))
    subst hspot
    refine ⟨b, off, rfl, fun j v hj => ?_⟩
    simp only [List.getElem?_map, Option.map_eq_some_iff] at hj
    obtain ⟨n, hn, rfl⟩ := hj
    rw [List.getElem?_take] at hn
    split at hn
    · rename_i hjl
      have := hcell j (by omega)
      rw [addr_add] at this
      have e : zs.getD j 0 = n := by simp [List.getD, hn]
      rw [e] at this
      exact cell_of this
    · simp at hn
end
section
variable {H : Type} {enc : TypeId × Value → H} {w : World} {spare : Nat → Bool} {held : Bool} {fuel : Nat} {x : DataW H × List MemPlace} {cs : List Value}
theorem RowAt.app {b o : Nat} {vs us : List Value} (h : RowAt w b o vs) (k : RowAt w b (o + vs.length) us) : RowAt w b o (vs ++ us) := fun j v hj => by
  rw [List.getElem?_append] at hj
  split at hj
  · exact h j v hj
  · rename_i hlt
    have := k (j - vs.length) v hj
    rwa [show o + vs.length + (j - vs.length) = o + j by omega] at this
end
end Go.Proofs.Ytmgnckfhghibeaa
namespace Go.Proofs.Ytmgnckfhghibeaa.M
section
variable {α : Type} (f : Int → α → α) (sz : α → Int)
variable (hf : Int → α → Int)
def heldL : Int → List α → Int
  | k, [] => k
  | k, x :: l => if hf k x < 0 then -1 else heldL (hf k x) l
end
section
variable {α : Type}
end
def hQ (k : Int) (p : Pos) : Int := if held p.pits k < 0 then -1 else if held p.stores (held p.pits k) < 0 then -1 else if p.player ≠ held p.stores (held p.pits k) then -1 else held p.stores (held p.pits k) + 1
def stdNames : List (List UInt8) := [[107, 97, 108, 97, 104], [109, 105, 110, 105], [111, 119, 97, 114, 101], [114, 101, 108, 97, 121]]
def cutG (g : Gam) (n : Nat) : Gam := ⟨g.rules, g.start, g.moves.take n, (playedP g).getD n Pos.zero, -1⟩
theorem cutG_now {g : Gam} {n : Nat} {y : Pos} (h : (playedP g)[n]? = some y) : (cutG g n).now = y := by simp [cutG, List.getD, h]
def undo (g : Gam) : Gam × Int := if okG g = true then (if g.moves.length = 0 ∨ 0 ≤ g.resigned then (Gam.zero, 6) else (cutG g ((g.moves.length : Int) - 1).toNat, 0)) else (Gam.zero, 1)
theorem undo_0 {g : Gam} (h : okG g = true) (h2 : ¬ (g.moves.length = 0 ∨ 0 ≤ g.resigned)) : undo g = (cutG g ((g.moves.length : Int) - 1).toNat, 0) := by unfold undo; rw [if_pos h, if_neg h2]
def Cut (g : Gam) (k : Nat) : Prop := ∀ j, j < k → endOf (cutG g j) = 0
theorem Cut.zero (g : Gam) : Cut g 0 := fun j h => by omega
theorem Cut.step {g : Gam} {k : Nat} (h : Cut g k) (h2 : endOf (cutG g k) = 0) : Cut g (k + 1) := fun j hj => by
  by_cases e : j = k
  · subst e; exact h2
  · exact h j (by omega)
def startP (r : Rul) : Pos := ⟨List.replicate (2 * r.pits).toNat r.seeds, [0, 0], 0⟩
theorem mul01 {a n : Int} (h0 : 0 ≤ a) (h1 : a = 0 ∨ a < 2) (n0 : 0 ≤ n) (n8 : n ≤ 8) : 0 ≤ a * n ∧ a * n ≤ n ∧ (a + 1) * n = a * n + n := by
  have h : a = 0 ∨ a = 1 := by omega
  rcases h with rfl | rfl <;> simp <;> omega
def legal (r : Rul) (p : Pos) : List Int := if okP r p = true then (results r p).map (·.move) else []
end Go.Proofs.Ytmgnckfhghibeaa.M
namespace Go.Proofs.Ytmgnckfhghibeaa
open Go.RowKit
theorem setL_drop {xs : List Value} {o j : Nat} {v : Value} (h : o ≤ xs.length) : (setL xs (o + j) [v]).drop o = setL (xs.drop o) j [v] := by
  simp only [setL, List.length_singleton, List.append_assoc]
  rw [List.drop_append_of_le_length (by simp; omega), List.drop_take, List.drop_drop]
  rw [show o + j - o = j from by omega, show o + (j + 1) = o + j + 1 from rfl]
section
variable {P : Program} {n lo : Nat} {B : List Nat} {l : Fr} {os : List Own} {u : World} {dst : Option Tmp} {ty : TypeId} {pos : String} {af : Array Edge} {gd : Option (Nat × Bool)}
theorem rx_some {i m c : Nat} {e : TypeId} {A : Option Addr} {vs : List Value} (hi : os[i]? = some (rxO e (.slice A m c) m vs)) (hm : 0 < m) : ∀ w, St lo B u w os → ∃ b o, A = some ⟨b, o, none⟩ := fun w hw => by
  have h : RxRow w e (.slice A m c) m vs := hw.prs _ (List.mem_of_getElem? hi)
  rcases h.2 with ⟨h2, h3⟩ | ⟨g, o, cap, cur, h2, _⟩
  · omega
  · cases h2; exact ⟨g, o, rfl⟩
theorem Mem.rx {i b o c m j : Nat} {e : TypeId} {vs : List Value} {x : Value} (hi : os[i]? = some (rxO e (.slice (some ⟨b, o, none⟩) m c) m vs)) (hx : vs[0 + j * 1]? = some x) : Mem lo B u os fun w => Cell w b (o + j * 1) x := fun w hw => by
  have h : RxRow w e (.slice (some ⟨b, o, none⟩) m c) m vs := hw.prs _ (List.mem_of_getElem? hi)
  rcases h.2 with ⟨h2, h3⟩ | ⟨g, o', cap, cur, h2, hg, h4, h5, h7⟩
  · cases h2
  · cases h2
    refine ⟨cur, e, (0, 0), hg, ?_⟩
    rw [← h7, List.getElem?_take] at hx
    split at hx
    · rw [List.getElem?_drop] at hx
      simpa using hx
    · simp at hx
theorem e_storeRx {x y : Operand} {t e : TypeId} {gg : Bool} {i b o c m j : Nat} {xs xs' : List Value} {v : Value} (ht : tyOf P t = some (gg, 1)) (hx : opd l x = some (.pointer (some ⟨b, o + j * 1, none⟩))) (hi : os[i]? = some (rxO e (.slice (some ⟨b, o, none⟩) m c) m xs)) (hy : opd l y = some v)
    (hv : cellsL v = [v]) (h1 : v.oneCell' = true) (hl : (0 + j * 1) + 1 ≤ xs.length) (hc : setL xs (0 + j * 1) [v] = xs') :
    OpE P n lo B l os u ⟨dst, .store t x y, ty, pos, af, gd⟩ false (fun _ os' u' => os' = os.set i (rxO e (.slice (some ⟨b, o, none⟩) m c) m xs') ∧ u = u') := fun a w ha hw K Q hk => by
  subst hc
  simp only [Nat.zero_add, Nat.mul_one] at hx hl ⊢
  have h0 : RxRow w e (.slice (some ⟨b, o, none⟩) m c) m xs := hw.prs _ (List.mem_of_getElem? hi)
  obtain ⟨hown1, hown2⟩ := h0
  rcases hown2 with ⟨h2, _⟩ | ⟨g', o', cap, cur, h2, hg, h4, h5, h7⟩
  · cases h2
  cases h2
  have hle : xs.length ≤ (cur.toList.drop o).length := by rw [← h7, List.length_take]; omega
  have hle2 : o + xs.length ≤ cur.toList.length := by rw [List.length_drop] at hle; omega
  obtain ⟨w', r1, r2, r3, r4, r5, r6, r7⟩ := run_storeCells_box P b e [v] 0 (o + j) cur.toList w (by simpa using hg) (by simp at hle2 ⊢; omega) (by simpa using h1)
  have hsz := (run_isAgg (P := P) w ht).2
  have hr : (execOp a.eval ⟨dst, .store t x y, ty, pos, af, gd⟩).run P w = .ok .skip w' := by
    simp [execOp, ha.eval hx, ha.eval hy, Instr.storeAt, Instr.sureAddr, storeVar, hsz, cellsL_eq, hv, r1]
  unfold Oper.wp
  rw [hr]
  refine hk _ _ u _ ⟨rfl, rfl⟩ (Up.refl lo u) (hw.upd hi r5 r6 r7 (by omega) (fun k _ hk => r3 k (fun e => hk (by simp [rxO, Value.ownBlock, e]))) (fun k hk => .inl hk) ?_ ?_ (fun k hk _ => hk)) (fun h => by cases h)
  · have h9 := nodup_mem hw.dis (List.mem_of_getElem? hi)
    exact h9
  · refine ⟨by simp only [setL, List.length_append, List.length_take, List.length_drop, List.length_singleton]; omega, .inr ⟨b, o, c, (setL cur.toList (o + j) [v]).toArray, rfl, by simpa using r2, h4, h5, ?_⟩⟩
    rw [List.toList_toArray, setL_drop (by omega)]
    simpa only [Nat.zero_add, Nat.mul_one] using setL_prefix (vs := [v]) h7 hown1.symm hl hle
end
theorem St.releaseB {lo : Nat} {B : List Nat} {u w : World} {os : List Own} (h : St lo B u w os) {i : Nat} {o : Own} (hi : os[i]? = some o) (hB : ∀ k ∈ B, k ∈ (os.eraseIdx i).flatMap (·.fp)) :
    ∃ u', Up lo u u' ∧ St lo B u' w (os.eraseIdx i) ∧ (∀ k ∈ o.fp, u'.heap[k]? = w.heap[k]?) := by
  have hlt : i < os.length := (List.getElem?_eq_some_iff.1 hi).1
  have hpart : ∃ pre post, os = pre ++ o :: post ∧ os.eraseIdx i = pre ++ post := by
    refine ⟨os.take i, os.drop (i + 1), ?_, List.eraseIdx_eq_take_drop_succ ..⟩
    have := (List.getElem?_eq_some_iff.1 hi).2
    rw [← this, ← List.drop_eq_getElem_cons hlt, List.take_append_drop]
  obtain ⟨pre, post, e1, e2⟩ := hpart
  rw [e2] at hB
  have hd := h.dis
  rw [e1] at hd
  simp only [List.flatMap_append, List.flatMap_cons] at hd
  rw [List.nodup_append] at hd
  obtain ⟨d1, d2, d3⟩ := hd
  rw [List.nodup_append] at d2
  obtain ⟨d4, d5, d6⟩ := d2
  have hs : (offW w ((pre ++ post).flatMap (·.fp))).heap.size = w.heap.size := by simp [offW]
  have hsz := h.size
  have hlo := h.lo_
  have mem : ∀ x, x ∈ pre ++ post → x ∈ os := fun x hx => by rw [e1]; simp only [List.mem_append, List.mem_cons] at hx ⊢; rcases hx with hx | hx <;> simp [hx]
  have mem' : ∀ x, x ∈ os → x = o ∨ x ∈ pre ++ post := fun x hx => by
    rw [e1] at hx
    simp only [List.mem_append, List.mem_cons] at hx ⊢
    rcases hx with hx | hx | hx
    · exact .inr (.inl hx)
    · exact .inl hx
    · exact .inr (.inr hx)
  have apart : ∀ k ∈ o.fp, k ∉ (pre ++ post).flatMap (·.fp) := fun k hk hm => by
    rw [List.flatMap_append, List.mem_append] at hm
    rcases hm with hm | hm
    · exact d3 k hm k (List.mem_append_left _ hk) rfl
    · exact d6 k hk k hm rfl
  rw [e2]
  refine ⟨offW w ((pre ++ post).flatMap (·.fp)), ⟨⟨by omega, fun k c t f hk => ?_⟩, fun k hk => ?_, h.os_, h.tape, h.output⟩, ⟨rfl, rfl, rfl, by omega, by omega, fun k hk hn => ?_, fun x hx k hk => ⟨(h.hid x (mem x hx) k hk).1, (h.hid x (mem x hx) k hk).2.1, fun hlt' => ?_⟩, fun x hx => h.prs x (mem x hx), ?_, hB⟩, fun k hk => ?_⟩
  · rw [offW_get, if_neg]
    · exact h.vis.vis k c t f hk
    · intro hm
      obtain ⟨x, hx, hm⟩ := List.mem_flatMap.1 hm
      have := (h.hid x (mem x hx) k hm).2.2 (Array.getElem?_eq_some_iff.1 hk).1
      rw [this] at hk
      simp [hidO] at hk
  · by_cases hm : k ∈ (pre ++ post).flatMap (·.fp)
    · rw [offW_get, if_pos hm, if_pos (by omega)]
      obtain ⟨x, hx, hm⟩ := List.mem_flatMap.1 hm
      exact ((h.hid x (mem x hx) k hm).2.2 (by omega)).symm
    · have nh : ∀ x ∈ os, k ∉ x.fp := fun x hx hk' => by
        rcases mem' x hx with rfl | hx'
        · rcases (h.hid x hx k hk').2.1 with h9 | h9
          · omega
          · exact hm (hB k h9)
        · exact hm (List.mem_flatMap.2 ⟨x, hx', hk'⟩)
      rw [offW_get, if_neg hm]
      exact h.pub k (by omega) nh
  · rw [offW_get, if_neg]
    intro hm
    obtain ⟨x, hx, hm⟩ := List.mem_flatMap.1 hm
    exact hn x hx hm
  · rw [offW_get, if_pos (List.mem_flatMap.2 ⟨x, hx, hk⟩), if_pos (by have := (h.hid x (mem x hx) k hk).1; omega)]
  · rw [List.flatMap_append, List.nodup_append]
    exact ⟨d1, d5, fun a ha b hb e => d3 a ha b (List.mem_append_right _ hb) e⟩
  · rw [offW_get, if_neg (apart k hk)]
theorem Js.pubBox {P : Program} {n lo : Nat} {B : List Nat} {Q : Exit → Act → World → Prop} {cs : List Code} {l : Fr} {os : List Own} {u : World} {i j b bs : Nat} {c c2 : List Value} {T T2 : TypeId} (hi : os[i]? = some (boxO b c T)) (hj : (os.eraseIdx i)[j]? = some (boxO bs c2 T2))
    (k : ∀ u', Up lo u u' → RowAt u' b 0 c → Js P n lo B Q cs l (os.eraseIdx i) u') (hB : B = [bs] := by rfl) : Js P n lo B Q cs l os u := fun a w ha hw => by
  obtain ⟨u', h1, h2, h3⟩ := hw.releaseB hi (fun k hk => by
    rw [hB, List.mem_singleton] at hk
    subst hk
    exact List.mem_flatMap.2 ⟨_, List.mem_of_getElem? hj, by simp [boxO]⟩)
  have hp : w.heap[b]? = some (.cells c.toArray T (0, 0)) := hw.prs _ (List.mem_of_getElem? hi)
  refine k u' h1 (fun m x hm => ⟨c.toArray, T, (0, 0), by rw [h3 b (by simp [boxO])]; exact hp, ?_⟩) a w ha h2
  simpa using hm
inductive RowX : List Own → TypeId → Value → List Int → Prop
  | a {e : TypeId} {v : Value} {m : Nat} {xs : List Int} {r : List Own} : RowX (rxO e v m (ints_ xs) :: r) e v xs
  | s {e : TypeId} {v : Value} {xs : List Int} {q : Own} {r : List Own} (h : RowX r e v xs) : RowX (q :: r) e v xs
theorem RowX.get {os : List Own} {e : TypeId} {v : Value} {xs : List Int} (h : RowX os e v xs) {w : World} : (∀ o ∈ os, o.pr w) → (Ty.ints e xs).ok w v := by
  induction h with
  | a => intro hp; exact ints_rxok (hp _ List.mem_cons_self)
  | s _ ih => intro hp; exact ih fun q hq => hp q (by simp [hq])
theorem okx_ {lo : Nat} {B : List Nat} {os : List Own} {u w : World} {T : Ty} {v : Value} (hw : St lo B u w os) (h : St lo B u w os → T.ok w v := by
    intro hw
    repeat' (first
    | exact ok_i | exact ok_b | with_reducible apply ok_c | with_reducible exact ok_n | with_reducible apply ok_agg | exact ok_s | exact Ty.mono _ (by assumption) vis_ | exact nil_ok | (refine RowX.get ?_ (St.prs hw); (repeat (first | with_reducible exact RowX.a | with_reducible apply RowX.s)); done) | (refine Row1.get ?_ (St.prs hw); (repeat (first | with_reducible exact Row1.a | with_reducible exact Row1.b | with_reducible apply Row1.s)); done) | (refine Own1.get ?_ (St.prs hw); (repeat (first | ((with_reducible apply Own1.a); (repeat (first | with_reducible exact Cel.z | with_reducible apply Cel.s)); done) | with_reducible apply Own1.s)); done) | (refine ok_ofro (Own1.get ?_ (St.prs hw)); (repeat (first | ((with_reducible apply Own1.a); (repeat (first | with_reducible exact Cel.z | with_reducible apply Cel.s)); done) | with_reducible apply Own1.s)); done) | apply ok_ro
    | ((with_reducible apply ok_refB (hw := hw)); (repeat (first | with_reducible exact LdB.z | with_reducible apply LdB.s))) | (apply ok_refP; assumption; exact vis_; rfl; exact off_; exact nl) | exact rfl | assumption | fail)) : T.ok w v := h hw
end Go.Proofs.Ytmgnckfhghibeaa
namespace Go.Proofs.Ytmgnckfhghibeaa.M
theorem place_bd {r : Rul} {p : Pos} {m : Int} (h : okP r p = true) (h0 : 0 ≤ m) (h1 : m ≤ r.pits - 1) : 0 ≤ p.player * r.pits ∧ p.player * r.pits ≤ 8 ∧ 0 ≤ p.player * r.pits + m ∧ p.player * r.pits + m < (p.pits.length : Int) := by
  obtain ⟨g1, g2, g3, g4, g5, g6, g7⟩ := okP_bd h
  rw [g3]
  rcases g7 with e | e <;> rw [e] <;> omega
def newM (r : Rul) (n : Int) : Mem × Int := if okR r = true then (if betw n 1 64 = true then (⟨r, List.replicate n.toNat Slo.zero⟩, 0) else (Mem.zero, 2)) else (Mem.zero, 1)
theorem newM_1 {r : Rul} {n : Int} (h : ¬ okR r = true) : newM r n = (Mem.zero, 1) := by unfold newM; rw [if_neg h]
theorem newM_2 {r : Rul} {n : Int} (h : okR r = true) (h2 : ¬ betw n 1 64 = true) : newM r n = (Mem.zero, 2) := by unfold newM; rw [if_pos h, if_neg h2]
theorem newM_0 {r : Rul} {n : Int} (h : okR r = true) (h2 : betw n 1 64 = true) : newM r n = (⟨r, List.replicate n.toNat Slo.zero⟩, 0) := by unfold newM; rw [if_pos h, if_pos h2]
@[reducible] def remB (m : Mem) (p : Pos) : Bool := okM m && okP m.rules p
def remC (m : Mem) (p : Pos) : Int := if remB m p = true then 0 else 1
theorem remC_0 {m : Mem} {p : Pos} (h : remB m p = true) : remC m p = 0 := by unfold remC; rw [if_pos h]
theorem remC_1 {m : Mem} {p : Pos} (h : ¬ remB m p = true) : remC m p = 1 := by unfold remC; rw [if_neg h]
def swS (m : Mem) (p : Pos) (depth : Int) : Int × List Slo × Int := vis m.rules depth.toNat p (-1000) 1000 (m.slots, 0)
def swOk (m : Mem) (p : Pos) (depth : Int) : Bool := betw (swS m p depth).1 (-96) 96 && okM ⟨m.rules, (swS m p depth).2.1⟩
def swM (m : Mem) (p : Pos) (depth : Int) : Int × Int × Mem × Int :=
  if remB m p = true then (if srchC m.rules p depth = 0 then (if swOk m p depth = true then ((swS m p depth).1, (swS m p depth).2.2, ⟨m.rules, (swS m p depth).2.1⟩, 0) else (0, 0, Mem.zero, 6)) else (0, 0, Mem.zero, srchC m.rules p depth)) else (0, 0, Mem.zero, 1)
theorem swM_1 {m : Mem} {p : Pos} {d : Int} (h : ¬ remB m p = true) : swM m p d = (0, 0, Mem.zero, 1) := by unfold swM; rw [if_neg h]
theorem swM_c {m : Mem} {p : Pos} {d : Int} (h : remB m p = true) (h2 : ¬ srchC m.rules p d = 0) : swM m p d = (0, 0, Mem.zero, srchC m.rules p d) := by unfold swM; rw [if_pos h, if_neg h2]
theorem swM_6 {m : Mem} {p : Pos} {d : Int} (h : remB m p = true) (h2 : srchC m.rules p d = 0) (h3 : ¬ swOk m p d = true) : swM m p d = (0, 0, Mem.zero, 6) := by unfold swM; rw [if_pos h, if_pos h2, if_neg h3]
theorem swM_0 {m : Mem} {p : Pos} {d : Int} (h : remB m p = true) (h2 : srchC m.rules p d = 0) (h3 : swOk m p d = true) : swM m p d = ((swS m p d).1, (swS m p d).2.2, ⟨m.rules, (swS m p d).2.1⟩, 0) := by unfold swM; rw [if_pos h, if_pos h2, if_pos h3]
def filM (m : Mem) : Int := if okM m = true then ((m.slots.filter (·.used)).length : Int) else 0
def okMC (m : Mem) : Int := if okM m = true then 0 else 1
def forS (d : Int) (s : Slo) : Slo := if s.used = true ∧ s.depth < d then Slo.zero else s
def forM_ (m : Mem) (d : Int) : Mem × Int := if okM m = true then (if betw d 0 9 = true then (⟨m.rules, m.slots.map (forS d)⟩, 0) else (Mem.zero, 2)) else (Mem.zero, 1)
def mrgS (a b : List Slo) : List Slo := b.foldl (fun l s => if s.used = true then stoS l s else l) a
def mrgM (a b : Mem) : Mem × Int := if okM a = true ∧ okM b = true then (if a.rules = b.rules ∧ a.slots.length = b.slots.length then (⟨a.rules, mrgS a.slots b.slots⟩, 0) else (Mem.zero, 6)) else (Mem.zero, 1)
theorem mrgS_len : ∀ (b a : List Slo), (mrgS a b).length = a.length
  | [], _ => rfl
  | s :: b, a => by
    show (mrgS (if s.used = true then stoS a s else a) b).length = _
    rw [mrgS_len b]; split
    · exact stoS_len a s
    · rfl
theorem mrgS_step {a b : List Slo} {k : Nat} (h : k < b.length) : mrgS a (b.take (k + 1)) = if (slo b k).used = true then stoS (mrgS a (b.take k)) (slo b k) else mrgS a (b.take k) := by
  unfold mrgS; rw [List.take_add_one, slo_get h]; simp
def SzM (n : Nat) (l : List Slo) : Prop := ∀ s ∈ l, s.pits.length ≤ n
theorem SzM.mono {m n : Nat} {l : List Slo} (h : SzM m l) (hm : m ≤ n) : SzM n l := fun s hs => by have := h s hs; omega
theorem SzM.sto {n : Nat} {l : List Slo} {s : Slo} (h : SzM n l) (hs : s.pits.length ≤ n) : SzM n (stoS l s) := fun x hx => by
  unfold stoS at hx
  split at hx
  · rcases List.mem_or_eq_of_mem_set hx with hx | rfl
    · exact h x hx
    · exact hs
  · exact h x hx
theorem okS_16 {r : Rul} {n i : Nat} {s : Slo} (h : okS r n i s = true) : s.pits.length ≤ 16 := by
  unfold okS at h
  split at h
  · simp only [Bool.and_eq_true] at h
    have := okP_bd h.1.1
    have e : (posS s).pits = s.pits := rfl
    rw [e] at this
    omega
  · unfold freeS at h
    simp only [Bool.and_eq_true, decide_eq_true_eq] at h
    omega
theorem okM_16 {m : Mem} (h : okM m = true) : SzM 16 m.slots := fun s hs => by
  obtain ⟨_, _, _, h4⟩ := okM_parts h
  obtain ⟨i, hi⟩ := List.mem_iff_getElem?.1 hs
  have hil := (List.getElem?_eq_some_iff.1 hi).1
  have := h4 i hil
  rw [show slo m.slots i = s by simp [slo, List.getD, hi]] at this
  exact okS_16 this
def BdM (l : List Slo) : Prop := ∀ s ∈ l, s.used = true → -(1000 + 96 * s.depth) ≤ s.value ∧ s.value ≤ 1000 + 96 * s.depth
theorem BdM.sto {l : List Slo} {s : Slo} (h : BdM l) (hs : -(1000 + 96 * s.depth) ≤ s.value ∧ s.value ≤ 1000 + 96 * s.depth) : BdM (stoS l s) := fun x hx hu => by
  unfold stoS at hx
  split at hx
  · rcases List.mem_or_eq_of_mem_set hx with hx | rfl
    · exact h x hx hu
    · exact hs
  · exact h x hx hu
theorem okM_bd {m : Mem} (h : okM m = true) : BdM m.slots := fun s hs hu => by
  obtain ⟨_, _, _, h4⟩ := okM_parts h
  obtain ⟨i, hi⟩ := List.mem_iff_getElem?.1 hs
  have hil := (List.getElem?_eq_some_iff.1 hi).1
  have := h4 i hil
  rw [show slo m.slots i = s by simp [slo, List.getD, hi]] at this
  unfold okS at this
  rw [if_pos hu] at this
  simp only [Bool.and_eq_true, okCt, betw_iff] at this
  omega
structure VB (d : Nat) (l : List Slo) (h : Int) (R : Int × List Slo × Int) : Prop where
  bd : BdM R.2.1
  sz : SzM 4194304 l → SzM 4194304 R.2.1
  v1 : -(1000 + 96 * (d : Int)) ≤ R.1
  v2 : R.1 ≤ 1000 + 96 * (d : Int)
  h1 : h ≤ R.2.2
  h2 : R.2.2 ≤ h + 9 ^ d
theorem visL_vb {r : Rul} {d : Nat} {f : Pos → Int → Int → List Slo × Int → Int × List Slo × Int} (hf : ∀ p a b st, okP r p = true → BdM st.1 → 0 < st.1.length → VB d st.1 st.2 (f p a b st) ∧ (f p a b st).2.1.length = st.1.length) {p : Pos} (low high : Int) :
    ∀ (l : List Res) (b : Int) (st : List Slo × Int), (∀ x ∈ l, x ∈ results r p) → -(1000 + 96 * ((d + 1 : Nat) : Int)) ≤ b → b ≤ 1000 + 96 * ((d + 1 : Nat) : Int) → BdM st.1 → 0 < st.1.length →
      BdM (visL f low high b st l).2.1 ∧ (SzM 4194304 st.1 → SzM 4194304 (visL f low high b st l).2.1) ∧ -(1000 + 96 * ((d + 1 : Nat) : Int)) ≤ (visL f low high b st l).1 ∧ (visL f low high b st l).1 ≤ 1000 + 96 * ((d + 1 : Nat) : Int) ∧ st.2 ≤ (visL f low high b st l).2.2 ∧ (visL f low high b st l).2.2 ≤ st.2 + l.length * 9 ^ d
  | [], b, st, _, h1, h2, hb, _ => by rw [visL]; exact ⟨hb, fun h => h, h1, h2, Int.le_refl _, by simp⟩
  | x :: l, b, st, hx, h1, h2, hb, hn => by
    have h9 : (0 : Int) < 9 ^ d := Int.pow_pos (by decide)
    have hl9 : (0 : Int) ≤ l.length * 9 ^ d := Int.mul_nonneg (by omega) (by omega)
    have el : (((x :: l).length : Nat) : Int) * 9 ^ d = l.length * 9 ^ d + 9 ^ d := by rw [List.length_cons]; push_cast; rw [Int.add_mul, Int.one_mul]
    rw [visL]; split
    · exact ⟨hb, fun h => h, h1, h2, Int.le_refl _, by rw [el]; simp only; omega⟩
    · obtain ⟨hq, hln⟩ := hf x.next (loV x low high b) (hiV x low high b) st (results_ok (hx x (by simp))) hb hn
      obtain ⟨q1, q2, q3, q4, q5, q6⟩ := hq
      have hg := results_gain (hx x (by simp))
      have hm := mx_le b (moveV x (f x.next (loV x low high b) (hiV x low high b) st).1)
      have hmv : -(1000 + 96 * ((d + 1 : Nat) : Int)) ≤ moveV x (f x.next (loV x low high b) (hiV x low high b) st).1 ∧ moveV x (f x.next (loV x low high b) (hiV x low high b) st).1 ≤ 1000 + 96 * ((d + 1 : Nat) : Int) := by
        unfold moveV; split <;> (push_cast; omega)
      obtain ⟨a1, a2, a3, a4, a5, a6⟩ := visL_vb hf low high l (mx b (moveV x (f x.next (loV x low high b) (hiV x low high b) st).1)) (f x.next (loV x low high b) (hiV x low high b) st).2 (fun y hy => hx y (by simp [hy])) (by omega) (by omega) q1 (by rw [hln]; exact hn)
      exact ⟨a1, fun h => a2 (q2 h), a3, a4, by omega, by rw [el]; omega⟩
theorem vis_vb {r : Rul} : ∀ (d : Nat) (p : Pos) (low high : Int) (st : List Slo × Int), okP r p = true → BdM st.1 → 0 < st.1.length → VB d st.1 st.2 (vis r d p low high st)
  | 0, p, low, high, st, hp, hb, hn => by
    have h3 := endV_bd hp
    rw [vis]; split
    · exact ⟨hb, fun h => h, by simp only; omega, by simp only; omega, Int.le_refl _, by simp only; omega⟩
    · exact ⟨hb, fun h => h, by simp only; omega, by simp only; omega, Int.le_refl _, by simp only; omega⟩
  | d + 1, p, low, high, st, hp, hb, hn => by
    have h3 := endV_bd hp
    have h9 : (0 : Int) < 9 ^ d := Int.pow_pos (by decide)
    have e9 : (9 : Int) ^ (d + 1) = 9 * 9 ^ d := by rw [Int.pow_succ, Int.mul_comm]
    have hpb := plc_bd p.pits p.player hn
    have h16 := okP_bd hp
    rw [vis]; split
    · exact ⟨hb, fun h => h, by simp only; omega, by simp only; omega, Int.le_refl _, by rw [e9]; simp only; omega⟩
    · split
      · rename_i hc
        simp only [fndB, Bool.and_eq_true, decide_eq_true_eq] at hc
        have hv := hb _ (slo_mem (l := st.1) (k := (plc st.1.length p.pits p.player).toNat) (by omega)) hc.1.1.1.1
        have e : slo st.1 (plc st.1.length p.pits p.player).toNat = fnd st.1 p := rfl
        rw [e, hc.1.1.1.2] at hv
        exact ⟨hb, fun h => h, hv.1, hv.2, by simp only; omega, by rw [e9]; simp only; omega⟩
      · obtain ⟨a1, a2, a3, a4, a5, a6⟩ := visL_vb (r := r) (d := d) (f := vis r d) (fun p a b st h1 h2 h3 => ⟨vis_vb d p a b st h1 h2 h3, vis_len r d p a b st⟩) (p := p) low high (results r p) (-1000) st (fun x hx => hx) (by omega) (by omega) hb hn
        have h8 := results_8 hp
        have h8' : ((results r p).length : Int) * 9 ^ d ≤ 8 * 9 ^ d := Int.mul_le_mul_of_nonneg_right (by omega) (by omega)
        exact ⟨a1.sto ⟨a3, a4⟩, fun h => (a2 h).sto (by simp only; omega), a3, a4, a5, by rw [e9]; simp only; omega⟩
theorem visL_y {f : Pos → Int → Int → List Slo × Int → Int × List Slo × Int} {low high b : Int} {st X : List Slo × Int} {V : Int × List Slo × Int} {l : List Res} {k : Nat} {y : Res} (h : visL f low high b st (l.drop k) = V) (hy : l[k]? = some y) (hb : ¬ high ≤ b) :
    visL f low high (mx b (moveV y (f y.next (loV y low high b) (hiV y low high b) st).1)) (f y.next (loV y low high b) (hiV y low high b) st).2 (l.drop (k + 1)) = V := by
  rw [drop_some hy, visL, if_neg hb] at h; exact h
theorem visL_b {f : Pos → Int → Int → List Slo × Int → Int × List Slo × Int} {low high b : Int} {st : List Slo × Int} {V : Int × List Slo × Int} {l : List Res} {k : Nat} (h : visL f low high b st (l.drop k) = V) (hb : high ≤ b) : V = (b, st) := by
  cases hl : l.drop k with
  | nil => rw [hl, visL] at h; exact h.symm
  | cons y t => rw [hl, visL, if_pos hb] at h; exact h.symm
theorem visL_e {f : Pos → Int → Int → List Slo × Int → Int × List Slo × Int} {low high b : Int} {st : List Slo × Int} {V : Int × List Slo × Int} {l : List Res} {k : Nat} (h : visL f low high b st (l.drop k) = V) (hk : l.length ≤ k) : V = (b, st) := by
  rw [List.drop_eq_nil_of_le hk, visL] at h; exact h.symm
def okSI (r : Rul) (n : Nat) (i : Int) (s : Slo) : Bool := if s.used = true then okP r (posS s) && okCt s.depth s.value s.bound && decide (plc n s.pits s.player = i) else freeS s
theorem okSI_y {r : Rul} {n : Nat} {i : Int} {s : Slo} (h : s.used = true) : okSI r n i s = (okP r (posS s) && okCt s.depth s.value s.bound && decide (plc n s.pits s.player = i)) := by unfold okSI; rw [if_pos h]
theorem okSI_n {r : Rul} {n : Nat} {i : Int} {s : Slo} (h : s.used = false) : okSI r n i s = freeS s := by unfold okSI; rw [if_neg (by simp [h])]
theorem okM_no {m : Mem} {k : Nat} (h : k < m.slots.length) (hs : okSI m.rules m.slots.length k (slo m.slots k) = false) : okM m = false := by
  cases e : okM m with
  | false => rfl
  | true =>
    have h9 := (okM_parts e).2.2.2 k h
    rw [show okS m.rules m.slots.length k (slo m.slots k) = okSI m.rules m.slots.length k (slo m.slots k) from rfl, hs] at h9
    cases h9
theorem okM_r {m : Mem} (h : okR m.rules = false) : okM m = false := by unfold okM; rw [h]; rfl
theorem okM_l {m : Mem} (h : betw (m.slots.length : Int) 1 64 = false) : okM m = false := by unfold okM; rw [h]; cases okR m.rules <;> rfl
def sameS (a b : Slo) : Bool := (a.used == b.used) && decide (a.pits = b.pits) && decide (a.player = b.player) && decide (a.depth = b.depth) && decide (a.value = b.value) && decide (a.bound = b.bound)
theorem sameS_iff {a b : Slo} : sameS a b = true ↔ a = b := by
  unfold sameS
  simp only [Bool.and_eq_true, decide_eq_true_eq, beq_iff_eq]
  exact ⟨fun h => slo_ext h.1.1.1.1.1 h.1.1.1.1.2 h.1.1.1.2 h.1.1.2 h.1.2 h.2, fun h => by subst h; simp⟩
theorem takeS {l : List Slo} {k : Nat} (h : k < l.length) : l.take (k + 1) = l.take k ++ [slo l k] := by
  rw [List.take_add_one, slo_get h]; rfl
def e9 (d : Nat) : Int := 9 ^ d
theorem e9_pos (d : Nat) : 1 ≤ e9 d := by have : (0 : Int) < 9 ^ d := Int.pow_pos (by decide); unfold e9; omega
theorem e9_step {d : Int} (h : 1 ≤ d) : e9 d.toNat = 9 * e9 (d - 1).toNat := by
  have : d.toNat = (d - 1).toNat + 1 := by omega
  rw [this, e9, Int.pow_succ, Int.mul_comm]; rfl
theorem e9_8 {d : Nat} (h : d ≤ 8) : e9 d ≤ 43046721 := by
  have : d = 0 ∨ d = 1 ∨ d = 2 ∨ d = 3 ∨ d = 4 ∨ d = 5 ∨ d = 6 ∨ d = 7 ∨ d = 8 := by omega
  rcases this with h | h | h | h | h | h | h | h | h <;> subst h <;> decide
def HB (e H : Int) (k : Nat) (h : Int) : Prop := H ≤ h ∧ h ≤ H + k * e
theorem HB.zero (e H : Int) : HB e H 0 H := ⟨Int.le_refl _, by simp⟩
theorem HB.step {e H h h' : Int} {k : Nat} (a : HB e H k h) (h1 : h ≤ h') (h2 : h' ≤ h + e) : HB e H (k + 1) h' :=
  ⟨by have := a.1; omega, by have := a.2; push_cast; rw [Int.add_mul, Int.one_mul]; omega⟩
theorem HB.lim {e H h : Int} {k : Nat} (a : HB e H k h) (hk : k ≤ 8) (he : 1 ≤ e) : H ≤ h ∧ h ≤ H + 8 * e :=
  ⟨a.1, by have := a.2; have : (k : Int) * e ≤ 8 * e := Int.mul_le_mul_of_nonneg_right (by omega) (by omega); omega⟩
def chV (r : Rul) (d : Nat) (y : Res) (low high b : Int) (sl : List Slo) (h : Int) : Int × List Slo × Int := vis r d y.next (loV y low high b) (hiV y low high b) (sl, h)
theorem loV_y {y : Res} {low high b : Int} (h : y.again = true) : loV y low high b = mx low b - y.gain := by unfold loV; rw [if_pos h]
theorem loV_n {y : Res} {low high b : Int} (h : ¬ y.again = true) : loV y low high b = y.gain - high := by unfold loV; rw [if_neg h]
theorem hiV_y {y : Res} {low high b : Int} (h : y.again = true) : hiV y low high b = high - y.gain := by unfold hiV; rw [if_pos h]
theorem hiV_n {y : Res} {low high b : Int} (h : ¬ y.again = true) : hiV y low high b = y.gain - mx low b := by unfold hiV; rw [if_neg h]
theorem chV_y {r : Rul} {d : Nat} {y : Res} {low high b : Int} {sl : List Slo} {h : Int} (a : y.again = true) : vis r d y.next (mx low b - y.gain) (high - y.gain) (sl, h) = chV r d y low high b sl h := by unfold chV; rw [loV_y a, hiV_y a]
theorem chV_n {r : Rul} {d : Nat} {y : Res} {low high b : Int} {sl : List Slo} {h : Int} (a : ¬ y.again = true) : vis r d y.next (y.gain - high) (y.gain - mx low b) (sl, h) = chV r d y low high b sl h := by unfold chV; rw [loV_n a, hiV_n a]
theorem vis_end {r : Rul} {d : Nat} {p : Pos} {low high : Int} {st : List Slo × Int} (h : (results r p).length = 0) : vis r d p low high st = (endV r p, st) := by
  cases d <;> (rw [vis, if_pos h])
theorem vis_0 {r : Rul} {p : Pos} {low high : Int} {st : List Slo × Int} (h : (results r p).length ≠ 0) : vis r 0 p low high st = (0, st) := by rw [vis, if_neg h]
theorem vis_hit {r : Rul} {d : Int} {p : Pos} {low high : Int} {sl : List Slo} {h0 : Int} (hd : 1 ≤ d) (h : (results r p).length ≠ 0) (hf : (fndB sl p d && useS (fnd sl p) low high) = true) : vis r d.toNat p low high (sl, h0) = ((fnd sl p).value, (sl, h0 + 1)) := by
  have e : d.toNat = (d - 1).toNat + 1 := by omega
  have e2 : (((d - 1).toNat + 1 : Nat) : Int) = d := by omega
  rw [e, vis, if_neg h, if_pos (by rw [e2]; exact hf)]
def vlp (r : Rul) (p : Pos) (d low high b : Int) (sl : List Slo) (h : Int) (k : Nat) : Int × List Slo × Int := visL (vis r (d - 1).toNat) low high b (sl, h) ((results r p).drop k)
theorem vis_d {r : Rul} {d : Int} {p : Pos} {low high : Int} {sl : List Slo} {h0 b : Int} {sl' : List Slo} {h' : Int} (hd : 1 ≤ d) (h : (results r p).length ≠ 0) (hf : ¬ (fndB sl p d && useS (fnd sl p) low high) = true) (hv : vlp r p d low high (-1000) sl h0 0 = (b, (sl', h'))) {bd : Int} (hb : bd = bndV b low high) :
    vis r d.toNat p low high (sl, h0) = (b, (stoS sl' ⟨true, p.pits, p.player, d, b, bd⟩, h')) := by
  have e : d.toNat = (d - 1).toNat + 1 := by omega
  have e2 : (((d - 1).toNat + 1 : Nat) : Int) = d := by omega
  rw [e, vis, if_neg h, if_neg (by rw [e2]; exact hf), e2]
  unfold vlp at hv; rw [List.drop_zero] at hv
  rw [hv, hb]
theorem vlp_y {r : Rul} {p : Pos} {d low high b : Int} {sl : List Slo} {h : Int} {k : Nat} {y : Res} {V : Int × List Slo × Int} (a : vlp r p d low high b sl h k = V) (hy : (results r p)[k]? = some y) (hb : ¬ high ≤ b) :
    vlp r p d low high (mx b (moveV y (chV r (d - 1).toNat y low high b sl h).1)) (chV r (d - 1).toNat y low high b sl h).2.1 (chV r (d - 1).toNat y low high b sl h).2.2 (k + 1) = V := visL_y (X := (sl, h)) a hy hb
theorem vlp_b {r : Rul} {p : Pos} {d low high b : Int} {sl : List Slo} {h : Int} {k : Nat} {V : Int × List Slo × Int} (a : vlp r p d low high b sl h k = V) (hb : high ≤ b) : V = (b, (sl, h)) := visL_b a hb
theorem vlp_e {r : Rul} {p : Pos} {d low high b : Int} {sl : List Slo} {h : Int} {k : Nat} {V : Int × List Slo × Int} (a : vlp r p d low high b sl h k = V) (hk : (results r p).length ≤ k) : V = (b, (sl, h)) := visL_e a hk
theorem fnd_b {sl : List Slo} {p : Pos} {d : Int} (hb : BdM sl) (hn : 0 < sl.length) (h : fndB sl p d = true) : -(1000 + 96 * d) ≤ (fnd sl p).value ∧ (fnd sl p).value ≤ 1000 + 96 * d := by
  simp only [fndB, Bool.and_eq_true, decide_eq_true_eq] at h
  have hpb := plc_bd p.pits p.player hn
  have hv := hb _ (slo_mem (l := sl) (k := (plc sl.length p.pits p.player).toNat) (by omega)) h.1.1.1
  have e : slo sl (plc sl.length p.pits p.player).toNat = fnd sl p := rfl
  rw [e, h.1.1.2] at hv
  exact hv
theorem bndV_2 {b low high : Int} (h : b ≤ low) : 2 = bndV b low high := by unfold bndV; rw [if_pos h]
theorem bndV_1 {b low high : Int} (h : ¬ b ≤ low) (h2 : high ≤ b) : 1 = bndV b low high := by unfold bndV; rw [if_neg h, if_pos h2]
theorem bndV_0 {b low high : Int} (h : ¬ b ≤ low) (h2 : ¬ high ≤ b) : 0 = bndV b low high := by unfold bndV; rw [if_neg h, if_neg h2]
theorem okCt_no {r : Rul} {x : Slo} (h : ((okP r ⟨x.pits, [0, 0], x.player⟩ = false ∨ betw x.depth 1 8 = false) ∨ betw x.value (-96) 96 = false) ∨ betw x.bound 0 2 = false) : (okP r (posS x) && okCt x.depth x.value x.bound) = false := by
  have e9 : posS x = ⟨x.pits, [0, 0], x.player⟩ := rfl
  rw [e9]; unfold okCt
  rcases h with ((h | h) | h) | h <;> simp [h]
theorem okCt_yes {r : Rul} {x : Slo} (h : ((okP r ⟨x.pits, [0, 0], x.player⟩ = true ∧ betw x.depth 1 8 = true) ∧ betw x.value (-96) 96 = true) ∧ betw x.bound 0 2 = true) : okP r (posS x) = true ∧ okCt x.depth x.value x.bound = true := ⟨h.1.1.1, by simp [okCt, h.1.1.2, h.1.2, h.2]⟩
def sameM (a b : Mem) : Bool := decide (a.rules = b.rules) && decide (a.slots = b.slots)
theorem slos_ext {a b : List Slo} (h : a.length = b.length) (hx : ∀ i : Nat, i < a.length → slo a i = slo b i) : a = b := by
  apply List.ext_getElem? ; intro i
  by_cases hi : i < a.length
  · rw [slo_get hi, slo_get (by omega), hx i hi]
  · rw [List.getElem?_eq_none (by omega), List.getElem?_eq_none (by omega)]
theorem sameM_y {a b : Mem} (hr : a.rules = b.rules) (h : a.slots.length = b.slots.length) (hx : ∀ i : Nat, i < a.slots.length → slo a.slots i = slo b.slots i) : sameM a b = true := by
  unfold sameM; simp [hr, slos_ext h hx]
theorem sameM_x {a b : Mem} {k : Nat} (h : sameS (slo a.slots k) (slo b.slots k) = false) : sameM a b = false := by
  cases e : sameM a b with
  | false => rfl
  | true => simp only [sameM, Bool.and_eq_true, decide_eq_true_eq] at e; rw [e.2, sameS_iff.2 rfl] at h; cases h
theorem sameM_iff {a b : Mem} : sameM a b = true ↔ a = b := by
  unfold sameM; simp only [Bool.and_eq_true, decide_eq_true_eq]; exact ⟨fun h => mem_ext h.1 h.2, fun h => by subst h; simp⟩
theorem sameM_no {a b : Mem} (h : ¬ a.rules = b.rules ∨ ¬ ((a.slots.length : Nat) : Int) = (b.slots.length : Nat)) : sameM a b = false := by
  cases e : sameM a b with
  | false => rfl
  | true => have := sameM_iff.1 e; subst this; rcases h with h | h <;> exact absurd rfl h
theorem sameM_h {a b : Mem} (h : a.rules = b.rules ∧ ((a.slots.length : Nat) : Int) = (b.slots.length : Nat)) : a.rules = b.rules ∧ a.slots.length = b.slots.length := ⟨h.1, by have := h.2; omega⟩
theorem sto_no {x s : Slo} (h : (x.used && decide (s.depth < x.depth)) = true) : ¬ (x.used = false ∨ x.depth ≤ s.depth) := by
  simp only [Bool.and_eq_true, decide_eq_true_eq] at h
  rintro (h8 | h8)
  · rw [h.1] at h8; cases h8
  · omega
theorem sto_yes {x s : Slo} (h : (x.used && decide (s.depth < x.depth)) = false) : x.used = false ∨ x.depth ≤ s.depth := by
  rcases Bool.eq_false_or_eq_true x.used with h8 | h8
  · rw [h8] at h; simp at h; exact Or.inr h
  · exact Or.inl h8
theorem vlp_t {r : Rul} {p : Pos} {d low high b : Int} {sl : List Slo} {h : Int} {k : Nat} {y : Res} {V : Int × List Slo × Int} (a : vlp r p d low high b sl h k = V) (hy : (results r p)[k]? = some y) (hb : ¬ high ≤ b) (hg : y.again = true) :
    vlp r p d low high (mx b (y.gain + (vis r (d - 1).toNat y.next (mx low b - y.gain) (high - y.gain) (sl, h)).1)) (vis r (d - 1).toNat y.next (mx low b - y.gain) (high - y.gain) (sl, h)).2.1 (vis r (d - 1).toNat y.next (mx low b - y.gain) (high - y.gain) (sl, h)).2.2 (k + 1) = V := by
  have := vlp_y a hy hb
  rw [moveV_y hg, ← chV_y hg] at this; exact this
theorem vlp_f {r : Rul} {p : Pos} {d low high b : Int} {sl : List Slo} {h : Int} {k : Nat} {y : Res} {V : Int × List Slo × Int} (a : vlp r p d low high b sl h k = V) (hy : (results r p)[k]? = some y) (hb : ¬ high ≤ b) (hg : y.again = false) :
    vlp r p d low high (mx b (y.gain - (vis r (d - 1).toNat y.next (y.gain - high) (y.gain - mx low b) (sl, h)).1)) (vis r (d - 1).toNat y.next (y.gain - high) (y.gain - mx low b) (sl, h)).2.1 (vis r (d - 1).toNat y.next (y.gain - high) (y.gain - mx low b) (sl, h)).2.2 (k + 1) = V := by
  have := vlp_y a hy hb
  rw [moveV_n hg, ← chV_n (by simp [hg])] at this; exact this
theorem vis_b {r : Rul} {d : Nat} {p : Pos} {low high : Int} {sl : List Slo} {h : Int} (hp : okP r p = true) (hb : BdM sl) (hn : 0 < sl.length) :
    BdM (vis r d p low high (sl, h)).2.1 ∧ (SzM 4194304 sl → SzM 4194304 (vis r d p low high (sl, h)).2.1) ∧ -(1000 + 96 * (d : Int)) ≤ (vis r d p low high (sl, h)).1 ∧ (vis r d p low high (sl, h)).1 ≤ 1000 + 96 * (d : Int) ∧ h ≤ (vis r d p low high (sl, h)).2.2 ∧ (vis r d p low high (sl, h)).2.2 ≤ h + e9 d ∧ (vis r d p low high (sl, h)).2.1.length = sl.length := by
  obtain ⟨a, b, c, d', e, f⟩ := vis_vb d p low high (sl, h) hp hb hn
  exact ⟨a, b, c, d', e, f, vis_len r d _ _ _ _⟩
theorem use_l {a b : Bool} (h : (a && b) = true) : a = true := by cases a <;> simp_all
theorem swOk_n {m : Mem} {p : Pos} {d : Int} (h : (!(betw (swS m p d).1 (-96) 96) || !(okM ⟨m.rules, (swS m p d).2.1⟩)) = true) : ¬ swOk m p d = true := by
  unfold swOk
  revert h
  cases betw (swS m p d).1 (-96) 96 <;> cases okM ⟨m.rules, (swS m p d).2.1⟩ <;> simp
theorem swOk_y {m : Mem} {p : Pos} {d : Int} (h : (!(betw (swS m p d).1 (-96) 96) || !(okM ⟨m.rules, (swS m p d).2.1⟩)) = false) : swOk m p d = true := by
  unfold swOk
  revert h
  cases betw (swS m p d).1 (-96) 96 <;> cases okM ⟨m.rules, (swS m p d).2.1⟩ <;> simp
theorem remC_eq {m : Mem} {p : Pos} (h : remC m p = 0) : remB m p = true := by
  cases e : remB m p with
  | true => rfl
  | false => rw [remC_1 (by simp [e])] at h; cases h
theorem remC_ne {m : Mem} {p : Pos} (h : ¬ remC m p = 0) : ¬ remB m p = true := fun e => h (remC_0 e)
theorem rem_parts {m : Mem} {p : Pos} (h : remB m p = true) : okM m = true ∧ okP m.rules p = true ∧ 1 ≤ m.slots.length ∧ m.slots.length ≤ 64 ∧ BdM m.slots := by
  simp only [remB, Bool.and_eq_true] at h
  obtain ⟨_, h2, h3, _⟩ := okM_parts h.1
  exact ⟨h.1, h.2, h2, h3, okM_bd h.1⟩
end Go.Proofs.Ytmgnckfhghibeaa.M
namespace Go.Proofs.Ytmgnckfhghibeaa
open Go.RowKit
section
variable {P : Program} {n lo : Nat} {B : List Nat} {Q : Exit → Act → World → Prop} {cs : List Code} {l : Fr} {os os' : List Own} {u : World}
theorem giveL (ks : List Nat) {w w₀ : World} {bs : List Own} {fr : List Own} {m : Nat} (hb : Bw w₀ bs) (x : Up w₀.heap.size (offW w₀ (bs.flatMap (·.fp))) u) (hp : PP os ks os') (hf : NL (os'.take m) fr)
    (hw : St w₀.heap.size (bs.flatMap (·.fp)) u w os) : St w₀.heap.size (bs.flatMap (·.fp)) u w (fr ++ [anyO ((os'.drop m).flatMap (·.fp))]) := by
  have hpm := hp.perm
  have e : os' = fr ++ os'.drop m := by rw [← hf.eq, List.take_append_drop]
  exact hw.conv (fun o ho => by
    rcases List.mem_append.1 ho with ho | ho
    · exact hw.prs o (hpm.mem_iff.2 (by rw [e]; exact List.mem_append_left _ ho))
    · simp at ho; subst ho; trivial) (by
    have := hpm.symm.flatMap_right (fun o : Own => o.fp)
    rw [e, List.flatMap_append] at this
    rw [List.flatMap_append]
    simpa [anyO] using this)
theorem zrbE (ks : List Nat) {fn : Func} {R : Value → List Own → Prop} {w₀ : World} {bs : List Own} {fr : List Own} {m : Nat} (hb : Bw w₀ bs) (x : Up w₀.heap.size (offW w₀ (bs.flatMap (·.fp))) u) (h : R (.tuple #[]) fr)
    (hr : fn.results = #[] := by rfl) (hm : ks.length = m := by rfl) (hp : PP os ks os' := by exact pp_) (hf : NL (os'.take m) fr := by exact nl) :
    Js P n w₀.heap.size (bs.flatMap (·.fp)) (bodyPost P fn (RB w₀ bs R)) [] l os u := Js.end_ fun a w ha hw =>
  ⟨ha.dfr, .tuple #[], by unfold results; rw [hr]; simp, _, fr, _, rfl, h, (giveL ks hb x hp hf hw).giveBack hb x⟩
theorem zrb0 (ks : List Nat) {fn : Func} {R : Value → List Own → Prop} {w₀ : World} {bs : List Own} {fr : List Own} {m : Nat} (hb : Bw w₀ bs) (x : Up w₀.heap.size (offW w₀ (bs.flatMap (·.fp))) u) (h : R (.tuple #[]) fr)
    (hq : RetQ P fn (RB w₀ bs R) Q := by exact rq_) (hr : fn.results = #[] := by rfl) (hm : ks.length = m := by rfl) (hp : PP os ks os' := by exact pp_) (hf : NL (os'.take m) fr := by exact nl) :
    Js P n w₀.heap.size (bs.flatMap (·.fp)) Q (.ret :: cs) l os u := Js.ret_ fun a w ha hw => by
  rw [hq.eq]
  exact ⟨ha.dfr, .tuple #[], by unfold results; rw [hr]; simp, _, fr, _, rfl, h, (giveL ks hb x hp hf hw).giveBack hb x⟩
end
theorem ymkN {P : Program} {n lo : Nat} {B : List Nat} {K : Act → World → Prop} {ops : Array Oper} {l : Fr} {os os₀ : List Own} {u u₀ : World} {ty : TypeId} {pos : String} {af : Array Edge} {d i : Nat} {x y : Operand} {nm : List Nat} {fuel : Nat} {listed : Array Bool} {z : Bool}
    {α : Type} (T : α → List Ty) (x0 : α) {t e sz by' m : Nat} {zz : List Value} {a0 : Int} (hi : ops[i]? = some ⟨some d, .makeSlice t x y, ty, pos, af, none⟩) [ht : ElI P t e sz by' zz] (ha0 : a0 = (m : Int)) (hm : m * sz ≤ 16777216) (h0 : ∀ w, cellsOwn w (T x0) zz [])
    (k : ∀ b, JH P n lo B K ops u₀ os₀ nm fuel (listed.setIfInBounds i true) (z && true) ((d, .slice (some ⟨b, 0, none⟩) m m) :: l) (rowO e sz (.slice (some ⟨b, 0, none⟩) m m) m (repL zz m) [] :: ownC ((List.replicate m x0).flatMap T) (repL zz m) [] :: os) u)
    (hb : Nat.ble by' 64 = true := by rfl) (hzl : Nat.beq zz.length sz = true := by rfl) (hs : Nat.blt 0 sz = true := by rfl) (hx : opd l x = some (.int .i64 a0) := by rfl) (hy : opd l y = some (.int .i64 a0) := by rfl) (hn : Nat.blt d n = true := by rfl) :
    JHo P n lo B K ops u₀ os₀ nm fuel listed z l os u i := JHo.e hi (e_mk ht.h hb hzl hx hy ha0 hm hs) (.inl rfl) (by
      rintro _ _ _ ⟨b, rfl, rfl, rfl⟩ _
      refine JH.conv (fun w h => ?_) (k b)
      have h1 := h.addVals (zeros_own T (h0 w) m)
      exact h1.front (i := 1) (o := rowO e sz (.slice (some ⟨b, 0, none⟩) m m) m (repL zz m) []) rfl) rfl rfl hn
theorem zmkL {P : Program} {n lo : Nat} {B : List Nat} {K : Act → World → Prop} {ops : Array Oper} {rest : List Oper} {l : Fr} {os : List Own} {u : World} {ty : TypeId} {pos : String} {af : Array Edge} {d : Nat} {x y : Operand} {α : Type} (T : α → List Ty) (F : List α → List Ty) (x0 : α) {t e sz by' m : Nat} {zz : List Value} {a0 : Int} [ht : ElI P t e sz by' zz] (ha0 : a0 = (m : Int)) (hm : m * sz ≤ 16777216) (h0 : ∀ w, cellsOwn w (T x0) zz []) (k : ∀ b xs, xs = List.replicate m x0 → JL P n lo B K ops rest ((d, .slice (some ⟨b, 0, none⟩) xs.length xs.length) :: l) (rowO e sz (.slice (some ⟨b, 0, none⟩) xs.length xs.length) xs.length (repL zz xs.length) [] :: ownC (F xs) (repL zz xs.length) [] :: os) u)
    (hb : Nat.ble by' 64 = true := by rfl) (hzl : Nat.beq zz.length sz = true := by rfl) (hs : Nat.blt 0 sz = true := by rfl) (hx : opd l x = some (.int .i64 a0) := by rfl) (hy : opd l y = some (.int .i64 a0) := by rfl) (hn : Nat.blt d n = true := by rfl) (hFe : ∀ l, F l = l.flatMap T := by intro l; rfl) :
    JL P n lo B K ops (⟨some d, .makeSlice t x y, ty, pos, af, none⟩ :: rest) l os u := zmkN T x0 ha0 hm h0 (fun b => by
      have h9 := k b (List.replicate m x0) rfl
      simp only [List.length_replicate, hFe] at h9
      exact h9) hb hzl hs hx hy hn
theorem ymkL {P : Program} {n lo : Nat} {B : List Nat} {K : Act → World → Prop} {ops : Array Oper} {l : Fr} {os os₀ : List Own} {u u₀ : World} {ty : TypeId} {pos : String} {af : Array Edge} {d i : Nat} {x y : Operand} {nm : List Nat} {fuel : Nat} {listed : Array Bool} {z : Bool}
    {α : Type} (T : α → List Ty) (F : List α → List Ty) (x0 : α) {t e sz by' m : Nat} {zz : List Value} {a0 : Int} (hi : ops[i]? = some ⟨some d, .makeSlice t x y, ty, pos, af, none⟩) [ht : ElI P t e sz by' zz] (ha0 : a0 = (m : Int)) (hm : m * sz ≤ 16777216) (h0 : ∀ w, cellsOwn w (T x0) zz [])
    (k : ∀ b xs, xs = List.replicate m x0 → JH P n lo B K ops u₀ os₀ nm fuel (listed.setIfInBounds i true) (z && true) ((d, .slice (some ⟨b, 0, none⟩) xs.length xs.length) :: l) (rowO e sz (.slice (some ⟨b, 0, none⟩) xs.length xs.length) xs.length (repL zz xs.length) [] :: ownC (F xs) (repL zz xs.length) [] :: os) u)
    (hb : Nat.ble by' 64 = true := by rfl) (hzl : Nat.beq zz.length sz = true := by rfl) (hs : Nat.blt 0 sz = true := by rfl) (hx : opd l x = some (.int .i64 a0) := by rfl) (hy : opd l y = some (.int .i64 a0) := by rfl) (hn : Nat.blt d n = true := by rfl) (hFe : ∀ l, F l = l.flatMap T := by intro l; rfl) :
    JHo P n lo B K ops u₀ os₀ nm fuel listed z l os u i := ymkN T x0 hi ha0 hm h0 (fun b => by
      have h9 := k b (List.replicate m x0) rfl
      simp only [List.length_replicate, hFe] at h9
      exact h9) hb hzl hs hx hy hn
theorem own_cut {w : World} {e : TypeId} {sz n c k : Nat} {A : Option Addr} {vs : List Value} (h : w.ownsRow 0 e sz (.slice A n c) n vs) (hk : k ≤ n) :
    w.ownsRow 0 e sz (.slice (cutA sz A 0 c) (k - 0) (c - 0)) (k - 0) (vs.take (k * sz)) ∧ (Value.slice (cutA sz A 0 c) (k - 0) (c - 0)).ownBlock.toList = (Value.slice A n c).ownBlock.toList := by
  obtain ⟨hl, h2⟩ := h
  have hm : k * sz ≤ n * sz := Nat.mul_le_mul_right sz hk
  have hl' : (vs.take (k * sz)).length = (k - 0) * sz := by rw [List.length_take, hl, Nat.sub_zero]; omega
  rcases h2 with ⟨h3, h4⟩ | ⟨g, cap, cur, h3, hg, h5, h6, h7, h8, h9⟩
  · cases h3
    have : k = 0 := by omega
    subst this
    exact ⟨⟨hl', .inl ⟨rfl, rfl⟩⟩, rfl⟩
  · cases h3
    have e1 : cutA sz (some ⟨g, 0, none⟩) 0 c = some ⟨g, 0, none⟩ := by unfold cutA; split <;> simp [addr_add]
    rw [e1]
    refine ⟨⟨hl', .inr ⟨g, c, cur, rfl, hg, h5, by omega, h7, h8, ?_⟩⟩, rfl⟩
    rw [← h9, List.take_take, Nat.sub_zero]
    congr 1; omega
theorem Js.fold2 {P : Program} {n lo : Nat} {B : List Nat} {Q : Exit → Act → World → Prop} {cs : List Code} {l : Fr} {u : World} {os : List Own} {o : Own} {Vs : List Ty} {vs : List Value} {f : List Nat} (Us : List Ty) (e : Us = Vs) (k : Js P n lo B Q cs l (o :: ownC Us vs f :: os) u) : Js P n lo B Q cs l (o :: ownC Vs vs f :: os) u := e ▸ k
theorem St.cutN {α : Type} (F : α → List Ty) {lo : Nat} {B : List Nat} {os : List Own} {u w : World} {i j n c k sz : Nat} {e : TypeId} {A : Option Addr} {xs : List α} {vs : List Value} {g f : List Nat} (hF : ∀ a, (F a).length = sz)
    (hi : os[i]? = some (rowO e sz (.slice A n c) n vs g)) (hj : (os.eraseIdx i)[j]? = some (ownC (xs.flatMap F) vs f)) (hk : k ≤ n) (hw : St lo B u w os) :
    ∃ f1 f2 _f3 : List Nat, St lo B u w (rowO e sz (.slice (cutA sz A 0 c) (k - 0) (c - 0)) (k - 0) (vs.take (k * sz)) g :: ownC ((xs.take k).flatMap F) (vs.take (k * sz)) f1 :: anyO f2 :: (os.eraseIdx i).eraseIdx j) := by
  have h1 := hw.front hi
  have h2 := h1.front (i := j + 1) (o := ownC (xs.flatMap F) vs f) (by simpa using hj)
  have h0 : w.ownsRow 0 e sz (.slice A n c) n vs := h1.prs (rowO e sz (.slice A n c) n vs g) (by simp)
  have hl : vs.length = (xs.flatMap F).length := cellsOwn.length (w := w) (fp := f) (h2.prs (ownC (xs.flatMap F) vs f) (List.mem_cons_self ..))
  have l0 : (xs.flatMap F).length = xs.length * sz := flat_len' F sz hF xs
  have hvl : vs.length = n * sz := h0.1
  have hm : k * sz ≤ n * sz := Nat.mul_le_mul_right sz hk
  have e1 : xs.flatMap F = (xs.take k).flatMap F ++ (xs.drop k).flatMap F := by conv => lhs; rw [← List.take_append_drop k xs, List.flatMap_append]
  have e2 : vs = vs.take (k * sz) ++ vs.drop (k * sz) := (List.take_append_drop _ _).symm
  have l1 : (vs.take (k * sz)).length = ((xs.take k).flatMap F).length := by
    rw [flat_len' F sz hF, List.length_take, List.length_take]
    rcases Nat.le_total k xs.length with h | h
    · have h9 : k * sz ≤ xs.length * sz := Nat.mul_le_mul_right sz h
      rw [Nat.min_eq_left h]; omega
    · have h9 : xs.length * sz ≤ k * sz := Nat.mul_le_mul_right sz h
      rw [Nat.min_eq_right h]; omega
  rw [e1] at h2
  rw [show (ownC ((xs.take k).flatMap F ++ (xs.drop k).flatMap F) vs f) = ownC ((xs.take k).flatMap F ++ (xs.drop k).flatMap F) (vs.take (k * sz) ++ vs.drop (k * sz)) f by rw [← e2]] at h2
  obtain ⟨f1, f2, h3⟩ := h2.part l1
  obtain ⟨k1, k2⟩ := own_cut h0 hk
  refine ⟨f1, f2, [], h3.conv (fun o ho => ?_) ?_⟩
  · simp only [List.mem_cons] at ho
    rcases ho with rfl | rfl | rfl | ho
    · exact k1
    · exact h3.prs _ (by simp)
    · trivial
    · exact h3.prs o (by simp [ho])
  · simp only [List.flatMap_cons, rowO, ownC, anyO, k2, List.eraseIdx_cons_succ]
    exact (List.perm_append_comm_assoc _ _ _).trans (List.Perm.append_left _ (List.perm_append_comm_assoc _ _ _))
def RX (w : World) (R : Value → Prop) (e : Ending) (w' : World) : Prop := ∃ v, e = .returned v ∧ R v ∧ Ext w w'
def RetX (P : Program) (f : FuncId) (args : List Value) (w : World) (R : Value → Prop) : Prop := Calls P f args.toArray w (RX w R)
section
variable {P : Program} {n lo : Nat} {B : List Nat} {Q : Exit → Act → World → Prop} {cs : List Code} {K : Act → World → Prop} {ops : Array Oper} {rest : List Oper} {l : Fr} {os os' os1 : List Own} {u : World} {ty : TypeId} {pos : String} {af : Array Edge} {gd : Option (Nat × Bool)} {dst : Option Tmp} {v : Value} {d : Nat}
theorem e_callX {f : FuncId} {xs : List Operand} {ts : Array TypeId} {vs : List Value} {R : World → Value → Prop} {R' : Value → Prop} (hf : goodF P f = true) (hx : opds l xs = some vs) (hc : ∀ w, St lo B u w os → RetX P f vs w (R w)) (hk : ∀ w v, St lo B u w os → R w v → R' v) :
    OpE P n lo B l os u ⟨dst, .call { callee := .value (.func f), args := xs.toArray, argTypes := ts }, ty, pos, af, gd⟩ true (fun v' os' u' => R' v' ∧ os' = os ∧ u = u') := fun a w ha hw K Q hq => by
  unfold Oper.wp
  rw [run_call hf ha hx, Oper.upon_enter]
  refine Calls.mono (hc w hw) fun e w' h => ?_
  obtain ⟨v, rfl, hR, hxt⟩ := h
  exact hq v _ u w' ⟨hk w v hw hR, rfl, rfl⟩ (Up.refl lo u) (hw.call hxt) (fun _ => hxt)
theorem zxc {f : FuncId} {xs : List Operand} {ts : Array TypeId} {vs : List Value} {R : World → Value → Prop} (R' : Value → Prop) [hf : FnI P f] (hx : opds l xs = some vs) (hc : ∀ w, St lo B u w os → RetX P f vs w (R w)) (hk : ∀ w v, St lo B u w os → R w v → R' v)
    (k : ∀ v, R' v → JL P n lo B K ops rest ((d, v) :: l) os u) (hn : Nat.blt d n = true := by rfl) :
    JL P n lo B K ops (⟨some d, .call { callee := .value (.func f), args := xs.toArray, argTypes := ts }, ty, pos, af, none⟩ :: rest) l os u := JL.e (e_callX hf.h hx hc hk) (by rintro v _ _ ⟨h, rfl, rfl⟩ _; exact k v h) rfl rfl hn
theorem zX {fn : Func} {R : Value → Prop} {w₀ : World} {rs : List ResultVar} {vs : List Value} (x : Up w₀.heap.size w₀ u) (h : R v) (hq : RetQ P fn (RX w₀ R) Q := by exact rq_) (hr : fn.results = rs.toArray := by rfl) (hv : ResOk P n w₀.heap.size [] l os u rs vs := by exact rs_) (ho : OutV vs v := by exact ov_) : Js P n w₀.heap.size [] Q (.ret :: cs) l os u :=
  Js.ret hr hq.eq hv fun w hw => by rw [ho.eq]; exact ⟨v, rfl, h, hw.ext x⟩
end
theorem Js.fold {P : Program} {n lo : Nat} {B : List Nat} {Q : Exit → Act → World → Prop} {cs : List Code} {l : Fr} {u : World} {os : List Own} {Vs : List Ty} {vs : List Value} {f : List Nat} (Us : List Ty) (e : Us = Vs) (k : Js P n lo B Q cs l (ownC Us vs f :: os) u) : Js P n lo B Q cs l (ownC Vs vs f :: os) u := by subst e; exact k
end Go.Proofs.Ytmgnckfhghibeaa
namespace Go.Proofs.Ytmgnckfhghibeaa.M
structure Cho where
  move : Int
  games : Int
  score : Int
  deriving DecidableEq
structure Ent where
  pits : List Int
  choices : List Cho
  deriving DecidableEq
structure Boo where
  rules : Rul
  entries : List Ent
  deriving DecidableEq
def Cho.zero : Cho := ⟨0, 0, 0⟩
def Ent.zero : Ent := ⟨[], []⟩
def Boo.zero : Boo := ⟨Rul.zero, []⟩
def AllB (f : Nat → Bool) (k : Nat) : Prop := ∀ i, i < k → f i = true
theorem AllB.zero (f : Nat → Bool) : AllB f 0 := fun i h => absurd h (by omega)
theorem AllB.step {f : Nat → Bool} {k : Nat} (h : AllB f k) (hk : f k = true) : AllB f (k + 1) := fun i hi => by
  by_cases e : i = k
  · rw [e]; exact hk
  · exact h i (by omega)
section
variable {α : Type}
end
def hC (k : Int) (x : Cho) : Int := if x.move ≠ k then -1 else if x.games ≠ k + 1 then -1 else if x.score ≠ k + 2 then -1 else k + 3
def hE (k : Int) (e : Ent) : Int := if held e.pits k < 0 then -1 else if heldL hC (held e.pits k) e.choices < 0 then -1 else heldL hC (held e.pits k) e.choices
def hS (k : Int) (s : Slo) : Int := if s.used ≠ decide (k % 3 = 0) then -1 else if held s.pits (k + 1) < 0 then -1 else if s.player ≠ held s.pits (k + 1) then -1 else if s.depth ≠ held s.pits (k + 1) + 1 then -1 else if s.value ≠ held s.pits (k + 1) + 1 + 1 then -1 else if s.bound ≠ held s.pits (k + 1) + 1 + 1 + 1 then -1 else held s.pits (k + 1) + 1 + 1 + 1 + 1
theorem SzM.zero (n k : Nat) : SzM n (List.replicate k Slo.zero) := fun x hx => by rw [List.eq_of_mem_replicate hx]; simp [Slo.zero]
theorem SzM.rep {n k : Nat} {l : List Slo} (h : l = List.replicate k Slo.zero) : SzM n l := by rw [h]; exact SzM.zero n k
theorem newM_sz (r : Rul) (n : Int) : (newM r n).1.slots.length ≤ 64 ∧ SzM 16 (newM r n).1.slots := by
  have hz : Mem.zero.slots.length ≤ 64 ∧ SzM 16 Mem.zero.slots := ⟨by decide, fun x hx => by simp [Mem.zero] at hx⟩
  unfold newM
  split
  · split
    · rename_i h; have := betw_iff.1 h; exact ⟨by simp; omega, SzM.zero _ _⟩
    · exact hz
  · exact hz
theorem swM_sz (m : Mem) (p : Pos) (d : Int) : (swM m p d).2.2.1.slots.length ≤ 64 ∧ SzM 16 (swM m p d).2.2.1.slots := by
  have hz : Mem.zero.slots.length ≤ 64 ∧ SzM 16 Mem.zero.slots := ⟨by decide, fun x hx => by simp [Mem.zero] at hx⟩
  unfold swM
  split
  · split
    · split
      · rename_i h9
        simp only [swOk, Bool.and_eq_true] at h9
        have h16 := okM_16 h9.2
        obtain ⟨_, _, h64, _⟩ := okM_parts h9.2
        exact ⟨h64, h16⟩
      · exact hz
    · exact hz
  · exact hz
theorem SzM.set {n : Nat} {l : List Slo} {i : Nat} {x : Slo} (h : SzM n l) (hx : x.pits.length ≤ n) : SzM n (l.set i x) := fun y hy => by
  rcases List.mem_or_eq_of_mem_set hy with hy | rfl
  · exact h y hy
  · exact hx
theorem SzM.take {n : Nat} {l : List Slo} (h : SzM n l) (k : Nat) : SzM n (l.take k) := fun y hy => h y (List.mem_of_mem_take hy)
theorem results_9 {r : Rul} {p : Pos} (h : r.pits ≤ 9) : (results r p).length ≤ 9 := by
  have := resultsTo_len (r := r) (p := p) r.pits.toNat
  unfold results; omega
def cntS (q : Slo → Bool) (l : List Slo) : Int := ((l.filter q).length : Int)
theorem cntS_y {q : Slo → Bool} {l : List Slo} {k : Nat} (h : k < l.length) (hq : q (slo l k) = true) : cntS q (l.take (k + 1)) = cntS q (l.take k) + 1 := by
  unfold cntS; rw [takeS h, List.filter_append]; simp [hq]
theorem cntS_n {q : Slo → Bool} {l : List Slo} {k : Nat} (h : k < l.length) (hq : q (slo l k) = false) : cntS q (l.take (k + 1)) = cntS q (l.take k) := by
  unfold cntS; rw [takeS h, List.filter_append]; simp [hq]
theorem cntS_le (q : Slo → Bool) (l : List Slo) : 0 ≤ cntS q l ∧ cntS q l ≤ l.length := by
  unfold cntS; have := List.length_filter_le q l; omega
theorem cntS_tk (q : Slo → Bool) (l : List Slo) (k : Nat) : 0 ≤ cntS q (l.take k) ∧ cntS q (l.take k) ≤ k := by
  have h := cntS_le q (l.take k); rw [List.length_take] at h; omega
theorem cntS_all {q : Slo → Bool} {l : List Slo} {k : Nat} (h : l.length ≤ k) : cntS q (l.take k) = cntS q l := by rw [List.take_of_length_le h]
theorem filM_1 {m : Mem} (h : okM m = false) : filM m = 0 ∧ okMC m = 1 := by unfold filM okMC; rw [if_neg (by simp [h]), if_neg (by simp [h])]; exact ⟨rfl, rfl⟩
theorem filM_0 {m : Mem} (h : okM m = true) : filM m = cntS (·.used) m.slots ∧ okMC m = 0 := by unfold filM okMC; rw [if_pos h, if_pos h]; exact ⟨rfl, rfl⟩
def forK (d : Int) (l : List Slo) (k : Nat) : List Slo := (l.take k).map (forS d) ++ l.drop k
theorem forK_zero (d : Int) (l : List Slo) : l = forK d l 0 := by simp [forK]
theorem forK_len (d : Int) (l : List Slo) (k : Nat) : (forK d l k).length = l.length := by unfold forK; simp; omega
theorem forK_get {d : Int} {l : List Slo} {k : Nat} (h : k < l.length) : slo (forK d l k) k = slo l k := by
  have h1 : ((l.take k).map (forS d)).length = k := by simp; omega
  unfold slo forK
  rw [List.getD, List.getD, List.getElem?_append_right (by omega), h1, Nat.sub_self, List.getElem?_drop]
  rfl
theorem forK_y {d : Int} {l : List Slo} {k : Nat} {x : Slo} (h : k < l.length) (hx : forS d (slo l k) = x) : (forK d l k).set k x = forK d l (k + 1) := by
  have h1 : ((l.take k).map (forS d)).length = k := by simp; omega
  have e : l.drop k = slo l k :: l.drop (k + 1) := drop_some (slo_get h)
  unfold forK
  rw [List.set_append_right _ _ (by omega), h1, Nat.sub_self, e, List.set_cons_zero, takeS h, List.map_append, List.append_assoc]
  simp [hx]
theorem forK_n {d : Int} {l : List Slo} {k : Nat} (h : k < l.length) (hx : forS d (slo l k) = slo l k) : forK d l k = forK d l (k + 1) := by
  rw [← forK_y h rfl, hx]
  have e := forK_get (d := d) h
  have hk : (forK d l k)[k]? = some (slo l k) := by rw [← e]; exact slo_get (by rw [forK_len]; exact h)
  exact (List.set_getElem?_self' hk).symm
where
  List.set_getElem?_self' {α : Type} {l : List α} {k : Nat} {x : α} (h : l[k]? = some x) : l.set k x = l := by
    obtain ⟨hk, e⟩ := List.getElem?_eq_some_iff.1 h
    rw [← e]; exact List.set_getElem_self hk
theorem forK_all {d : Int} {l : List Slo} {k : Nat} (h : l.length ≤ k) : forK d l k = l.map (forS d) := by unfold forK; rw [List.take_of_length_le h, List.drop_eq_nil_of_le h, List.append_nil]
theorem forS_y {d : Int} {s : Slo} (h : s.used = true) (h2 : s.depth < d) : forS d s = Slo.zero := by unfold forS; rw [if_pos ⟨h, h2⟩]
theorem forS_n {d : Int} {s : Slo} (h : s.used = false ∨ ¬ s.depth < d) : forS d s = s := by unfold forS; rw [if_neg (by rintro ⟨a, b⟩; rcases h with h | h; (rw [a] at h; cases h); exact h b)]
theorem forM_1 {m : Mem} {d : Int} (h : okM m = false) : forM_ m d = (Mem.zero, 1) := by unfold forM_; rw [if_neg (by simp [h])]
theorem forM_2 {m : Mem} {d : Int} (h : okM m = true) (h2 : betw d 0 9 = false) : forM_ m d = (Mem.zero, 2) := by unfold forM_; rw [if_pos h, if_neg (by simp [h2])]
theorem forM_0 {m : Mem} {d : Int} (h : okM m = true) (h2 : betw d 0 9 = true) : forM_ m d = (⟨m.rules, m.slots.map (forS d)⟩, 0) := by unfold forM_; rw [if_pos h, if_pos h2]
theorem free_zero {s : Slo} (h : freeS s = true) (hu : s.used = false) : s = Slo.zero := by
  unfold freeS at h
  simp only [Bool.and_eq_true, decide_eq_true_eq] at h
  exact slo_ext hu (List.length_eq_zero_iff.1 h.1.1.1.1) h.1.1.1.2 h.1.1.2 h.1.2 h.2
theorem okM_at {m : Mem} (h : okM m = true) {k : Nat} (hk : k < m.slots.length) : okSI m.rules m.slots.length k (slo m.slots k) = true := (okM_parts h).2.2.2 k hk
theorem okM_free {m : Mem} (h : okM m = true) {k : Nat} (hk : k < m.slots.length) (hu : (slo m.slots k).used = false) : slo m.slots k = Slo.zero := by
  have h1 := okM_at h hk
  rw [okSI_n hu] at h1
  exact free_zero h1 hu
theorem okM_used {m : Mem} (h : okM m = true) {k : Nat} (hk : k < m.slots.length) (hu : (slo m.slots k).used = true) :
    okP m.rules (posS (slo m.slots k)) = true ∧ okCt (slo m.slots k).depth (slo m.slots k).value (slo m.slots k).bound = true ∧ plc m.slots.length (slo m.slots k).pits (slo m.slots k).player = (k : Int) := by
  have h1 := okM_at h hk
  rw [okSI_y hu] at h1
  simp only [Bool.and_eq_true, decide_eq_true_eq] at h1
  exact ⟨h1.1.1, h1.1.2, h1.2⟩
theorem forS_d {m : Mem} (h : okM m = true) {k : Nat} (hk : k < m.slots.length) {d : Int} (hd : (slo m.slots k).depth < d) : forS d (slo m.slots k) = Slo.zero := by
  cases hu : (slo m.slots k).used with
  | true => exact forS_y hu hd
  | false => rw [forS_n (Or.inl hu)]; exact okM_free h hk hu
theorem mrgM_1 {a b : Mem} (h : okM a = false ∨ okM b = false) : mrgM a b = (Mem.zero, 1) := by unfold mrgM; rw [if_neg (by rintro ⟨h1, h2⟩; rcases h with h | h <;> simp_all)]
theorem mrgM_6 {a b : Mem} (h : okM a = true ∧ okM b = true) (h2 : ¬ a.rules = b.rules ∨ ¬ ((a.slots.length : Nat) : Int) = (b.slots.length : Nat)) : mrgM a b = (Mem.zero, 6) := by unfold mrgM; rw [if_pos h, if_neg (by rintro ⟨h3, h4⟩; rcases h2 with h2 | h2; exact h2 h3; exact h2 (by rw [h4]))]
theorem mrgM_0 {a b : Mem} (h : okM a = true ∧ okM b = true) (h2 : a.rules = b.rules ∧ a.slots.length = b.slots.length) : mrgM a b = (⟨a.rules, mrgS a.slots b.slots⟩, 0) := by unfold mrgM; rw [if_pos h, if_pos h2]
theorem mrgS_y {a b : List Slo} {k : Nat} (h : k < b.length) (hu : (slo b k).used = true) : stoS (mrgS a (b.take k)) (slo b k) = mrgS a (b.take (k + 1)) := by rw [mrgS_step h, if_pos hu]
theorem mrgS_n {a b : List Slo} {k : Nat} (h : k < b.length) (hu : (slo b k).used = false) : mrgS a (b.take k) = mrgS a (b.take (k + 1)) := by rw [mrgS_step h, if_neg (by simp [hu])]
theorem mrgS_all {a b : List Slo} {k : Nat} (h : b.length ≤ k) : mrgS a (b.take k) = mrgS a b := by rw [List.take_of_length_le h]
theorem SzM.app {n : Nat} {a b : List Slo} (h : SzM n a) (hb : ∀ x ∈ b, x.pits.length ≤ n) : SzM n (a ++ b) := fun x hx => by
  rcases List.mem_append.1 hx with hx | hx
  · exact h x hx
  · exact hb x hx
theorem stoS_at {l : List Slo} {s : Slo} (hn : 0 < l.length) (i : Nat) : slo (stoS l s) i = slo l i ∨ (slo (stoS l s) i = s ∧ i = (plc l.length s.pits s.player).toNat) := by
  obtain ⟨p1, p2⟩ := plc_bd s.pits s.player hn
  unfold stoS
  split
  · by_cases hi : (plc l.length s.pits s.player).toNat = i
    · subst hi; exact Or.inr ⟨slo_set (by omega), rfl⟩
    · exact Or.inl (slo_set_ne hi)
  · exact Or.inl rfl
theorem okM_sto {r : Rul} {l : List Slo} {s : Slo} (h : okM ⟨r, l⟩ = true) (hu : s.used = true) (hp : okP r (posS s) = true) (hc : okCt s.depth s.value s.bound = true) : okM ⟨r, stoS l s⟩ = true := by
  obtain ⟨h1, h2, h3, h4⟩ := okM_parts h
  simp only at h1 h2 h3 h4
  refine okM_of h1 (by simp only [stoS_len]; omega) (by simp only [stoS_len]; omega) fun i hi => ?_
  simp only [stoS_len] at hi ⊢
  obtain ⟨p1, p2⟩ := plc_bd s.pits s.player (show 0 < l.length by omega)
  rcases stoS_at (s := s) (show 0 < l.length by omega) i with e | ⟨e, hi2⟩
  · rw [e]; exact h4 i hi
  · rw [e]
    show okSI r l.length i s = true
    rw [okSI_y hu]
    simp only [Bool.and_eq_true, decide_eq_true_eq]
    exact ⟨⟨hp, hc⟩, by omega⟩
theorem okM_mrg {r : Rul} : ∀ (b a : List Slo), okM ⟨r, a⟩ = true → (∀ s ∈ b, s.used = true → okP r (posS s) = true ∧ okCt s.depth s.value s.bound = true) → okM ⟨r, mrgS a b⟩ = true
  | [], a, h, _ => h
  | s :: b, a, h, hb => by
    show okM ⟨r, b.foldl _ _⟩ = true
    cases hu : s.used with
    | true =>
      obtain ⟨q1, q2⟩ := hb s (by simp) hu
      have := okM_mrg b (stoS a s) (okM_sto h hu q1 q2) (fun x hx => hb x (by simp [hx]))
      simpa [mrgS, hu] using this
    | false =>
      have := okM_mrg b a h (fun x hx => hb x (by simp [hx]))
      simpa [mrgS, hu] using this
theorem okM_all {m : Mem} (h : okM m = true) : ∀ s ∈ m.slots, s.used = true → okP m.rules (posS s) = true ∧ okCt s.depth s.value s.bound = true := fun s hs hu => by
  obtain ⟨i, hi⟩ := List.mem_iff_getElem?.1 hs
  have hil := (List.getElem?_eq_some_iff.1 hi).1
  have e : slo m.slots i = s := by simp [slo, List.getD, hi]
  obtain ⟨a, b, _⟩ := okM_used h hil (by rw [e]; exact hu)
  rw [e] at a b
  exact ⟨a, b⟩
theorem stoS_self {m : Mem} (h : okM m = true) {k : Nat} (hk : k < m.slots.length) (hu : (slo m.slots k).used = true) : stoS m.slots (slo m.slots k) = m.slots := by
  obtain ⟨_, _, e⟩ := okM_used h hk hu
  unfold stoS
  rw [e]
  split
  · rw [show ((k : Nat) : Int).toNat = k by omega]
    obtain ⟨hk', e2⟩ := List.getElem?_eq_some_iff.1 (slo_get hk)
    conv => lhs; arg 3; rw [← e2]
    exact List.set_getElem_self hk'
  · rfl
theorem mrgS_self {m : Mem} (h : okM m = true) : ∀ k, k ≤ m.slots.length → mrgS m.slots (m.slots.take k) = m.slots
  | 0, _ => by simp [mrgS]
  | k + 1, hk => by
    have ih := mrgS_self h k (by omega)
    cases hu : (slo m.slots k).used with
    | true => rw [← mrgS_y (by omega) hu, ih, stoS_self h (by omega) hu]
    | false => rw [← mrgS_n (by omega) hu, ih]
theorem mrg_law {a b : Mem} (h : (mrgM a b).2 = 0) : okM (mrgM a b).1 = true ∧ mrgM (mrgM a b).1 (mrgM a b).1 = ((mrgM a b).1, 0) := by
  by_cases h1 : okM a = true ∧ okM b = true
  · by_cases h2 : a.rules = b.rules ∧ a.slots.length = b.slots.length
    · rw [mrgM_0 h1 h2]
      have hb := okM_all h1.2
      rw [← h2.1] at hb
      have ho : okM ⟨a.rules, mrgS a.slots b.slots⟩ = true := okM_mrg b.slots a.slots h1.1 hb
      refine ⟨ho, ?_⟩
      rw [mrgM_0 ⟨ho, ho⟩ ⟨rfl, rfl⟩]
      have := mrgS_self ho _ (Nat.le_refl _)
      rw [List.take_of_length_le (Nat.le_refl _)] at this
      simp only at this ⊢
      rw [this]
    · unfold mrgM at h; rw [if_pos h1, if_neg h2] at h; cases h
  · unfold mrgM at h; rw [if_neg h1] at h; cases h
theorem cnt_map {d : Int} (l : List Slo) : cntS (·.used) (l.map (forS d)) = cntS (fun s => s.used && decide (d ≤ s.depth)) l := by
  unfold cntS
  induction l with
  | nil => rfl
  | cons s l ih =>
    simp only [List.map_cons, List.filter_cons]
    have e : (forS d s).used = (s.used && decide (d ≤ s.depth)) := by
      cases hu : s.used with
      | false => rw [forS_n (Or.inl hu), hu]; rfl
      | true =>
        by_cases h : s.depth < d
        · rw [forS_y hu h]; simp [Slo.zero]; omega
        · rw [forS_n (Or.inr h), hu]; simp; omega
    rw [e]
    cases h9 : (s.used && decide (d ≤ s.depth)) <;> simp_all
theorem okM_for {m : Mem} (h : okM m = true) (d : Int) : okM ⟨m.rules, m.slots.map (forS d)⟩ = true := by
  obtain ⟨h1, h2, h3, h4⟩ := okM_parts h
  refine okM_of h1 (by simpa using h2) (by simpa using h3) fun i hi => ?_
  simp only [List.length_map] at hi ⊢
  have e : slo (m.slots.map (forS d)) i = forS d (slo m.slots i) := by simp [slo, List.getD, hi]
  rw [e]
  show okSI m.rules m.slots.length i _ = true
  by_cases hq : (slo m.slots i).used = true ∧ (slo m.slots i).depth < d
  · rw [forS_y hq.1 hq.2]; rw [okSI_n rfl]; decide
  · have : forS d (slo m.slots i) = slo m.slots i := by unfold forS; rw [if_neg hq]
    rw [this]; exact okM_at h hi
theorem for_law {m : Mem} {d : Int} (h : (forM_ m d).2 = 0) : okM m = true ∧ okM (forM_ m d).1 = true ∧ filM (forM_ m d).1 = cntS (fun s => s.used && decide (d ≤ s.depth)) m.slots ∧ okMC (forM_ m d).1 = 0 := by
  by_cases h1 : okM m = true
  · by_cases h2 : betw d 0 9 = true
    · rw [forM_0 h1 h2]
      have ho := okM_for h1 d
      obtain ⟨q1, q2⟩ := filM_0 ho
      exact ⟨h1, ho, by rw [q1]; exact cnt_map _, q2⟩
    · unfold forM_ at h; rw [if_pos h1, if_neg h2] at h; cases h
  · unfold forM_ at h; rw [if_neg h1] at h; cases h
theorem zero_sz (n k : Nat) : Mem.zero.slots.length ≤ k ∧ SzM n Mem.zero.slots := ⟨Nat.zero_le _, fun x hx => by simp [Mem.zero] at hx⟩
theorem forM_sz {m : Mem} (d : Int) (h1 : m.slots.length ≤ 65) (h2 : SzM 16 m.slots) : (forM_ m d).1.slots.length ≤ 65 ∧ SzM 16 (forM_ m d).1.slots := by
  unfold forM_
  split
  · split
    · refine ⟨by simp; exact h1, fun x hx => ?_⟩
      obtain ⟨y, hy, rfl⟩ := List.mem_map.1 hx
      unfold forS; split
      · simp [Slo.zero]
      · exact h2 y hy
    · exact zero_sz _ _
  · exact zero_sz _ _
theorem mrgS_sz {n : Nat} : ∀ (b a : List Slo), SzM n a → SzM n b → SzM n (mrgS a b)
  | [], a, ha, _ => ha
  | s :: b, a, ha, hb => by
    have hb' : SzM n b := fun x hx => hb x (by simp [hx])
    cases hu : s.used with
    | true => simpa [mrgS, hu] using mrgS_sz b (stoS a s) (SzM.sto ha (hb s (by simp))) hb'
    | false => simpa [mrgS, hu] using mrgS_sz b a ha hb'
theorem mrgM_sz {a b : Mem} (h1 : a.slots.length ≤ 65) (h2 : SzM 16 a.slots) (h3 : SzM 16 b.slots) : (mrgM a b).1.slots.length ≤ 65 ∧ SzM 16 (mrgM a b).1.slots := by
  unfold mrgM
  split
  · split
    · exact ⟨by simp only [mrgS_len]; exact h1, mrgS_sz _ _ h2 h3⟩
    · exact zero_sz _ _
  · exact zero_sz _ _
theorem runs_snoc (r : Rul) (m : Int) : ∀ (a : List Int) (p : Pos), (runs r p a).length = a.length → (make r (lastPos p (runs r p a)) m).2 = 0 → runs r p (a ++ [m]) = runs r p a ++ [(make r (lastPos p (runs r p a)) m).1]
  | [], p, _, h => by
    have h' : (make r p m).2 = 0 := h
    show (if (make r p m).2 = 0 then _ else _) = _
    rw [if_pos h']
    rfl
  | x :: xs, p, hl, h => by
    by_cases hz : (make r p x).2 = 0
    · have e : runs r p (x :: xs) = (make r p x).1 :: runs r (make r p x).1.next xs := by rw [runs, if_pos hz]
      rw [e] at hl h ⊢
      have := runs_snoc r m xs (make r p x).1.next (by simpa using hl) h
      rw [List.cons_append, runs, if_pos hz, this]
      rfl
    · rw [runs, if_neg hz] at hl; simp at hl
structure Played (g : Gam) (move : Int) : Prop where
  ok : okG (play g move).1 = true
  code : (make g.rules g.now move).2 = 0
  now : (play g move).1.now = (make g.rules g.now move).1.next
  back : undo (play g move).1 = (g, 0)
theorem played {g : Gam} {move : Int} (h : okG g = true) (hz : (play g move).2 = 0) : Played g move := by
  obtain ⟨k1, k2, k3, k4, k5, k6, k7, k8, k9⟩ := okG_parts h
  by_cases h1 : 0 ≤ g.resigned
  · rw [play_6 h1] at hz; simp at hz
  by_cases h2 : g.moves.length = 120
  · rw [play_5 h1 h2] at hz; simp at hz
  have h3 : (make g.rules g.now move).2 = 0 := Decidable.byContradiction fun h3 => by rw [play_c h1 h2 h3] at hz; exact h3 hz
  have hp := play_0 h1 h2 h3
  have hs := runs_snoc g.rules move g.moves g.start k8 (by rw [← k9]; exact h3)
  rw [← k9] at hs
  have hr : g.resigned = -1 := by omega
  have hok : okG (play g move).1 = true := by
    rw [hp]
    simp only [okG, Bool.and_eq_true, decide_eq_true_eq, hs]
    refine ⟨⟨⟨⟨k1, ?_⟩, betw_iff.2 ⟨k3, k4⟩⟩, ?_⟩, lastPos_snoc _ _ _⟩
    · simp; omega
    · simp [k8]
  refine ⟨hok, h3, by rw [hp], ?_⟩
  have hl : (play g move).1.moves.length = g.moves.length + 1 := by rw [hp]; simp
  have hrr : (play g move).1.resigned = -1 := by rw [hp]; exact hr
  rw [undo_0 hok (by omega), hl]
  have e : (((g.moves.length + 1 : Nat) : Int) - 1).toNat = g.moves.length := by omega
  rw [e]
  obtain ⟨j1, j2, j3, j4, j5, j6, j7, j8, j9⟩ := okG_parts hok
  have hn : (cutG (play g move).1 g.moves.length).now = g.now := by
    refine cutG_now ?_
    rw [j6, hp]
    show (hist g.start (runs g.rules g.start (g.moves ++ [move])))[g.moves.length]? = _
    rw [hs]
    have e2 : hist g.start (runs g.rules g.start g.moves ++ [(make g.rules g.now move).1]) = hist g.start (runs g.rules g.start g.moves) ++ [(make g.rules g.now move).1.next] := by simp [hist]
    rw [e2, List.getElem?_append_left (by simp [k8]), ← k8, hist_last, ← k9]
  refine Prod.ext (gam_ext ?_ ?_ ?_ hn ?_) rfl
  · rw [hp]; rfl
  · rw [hp]; rfl
  · rw [hp]; simp [cutG]
  · rw [hr]; rfl
end Go.Proofs.Ytmgnckfhghibeaa.M

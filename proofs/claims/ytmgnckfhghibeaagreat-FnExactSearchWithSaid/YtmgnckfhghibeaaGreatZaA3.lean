/- Plain mathematics of searches with a memory. -/
import Derived.Test.YtmgnckfhghibeaaGreatZaA2
import Derived.Test.YtmgnckfhghibeaaGreatProg
import Derived.ProofKit
import Derived.SizedLaws
import Derived.Test.YtmgnckfhghibeaaGreatZaA1
import Derived.Test.YtmgnckfhghibeaaGreatZaA0
set_option linter.unusedSimpArgs false
set_option linter.unusedVariables false
namespace Go.Proofs.YtmgnckfhghibeaaGreat.M
structure Slo where
  used : Bool
  pits : List Int
  player : Int
  depth : Int
  value : Int
  bound : Int
  deriving DecidableEq
structure Mem where
  rules : Rul
  slots : List Slo
  deriving DecidableEq
structure Vst where
  rules : Rul
  slots : List Slo
  hits : Int
  deriving DecidableEq
def Slo.zero : Slo := ⟨false, [], 0, 0, 0, 0⟩
def Mem.zero : Mem := ⟨Rul.zero, []⟩
def slo (l : List Slo) (k : Nat) : Slo := l.getD k Slo.zero
theorem slo_get {l : List Slo} {k : Nat} (h : k < l.length) : l[k]? = some (slo l k) := by simp [slo, List.getD, h]
theorem slo_mem {l : List Slo} {k : Nat} (h : k < l.length) : slo l k ∈ l := List.mem_of_getElem? (slo_get h)
theorem slo_set {l : List Slo} {k : Nat} {y : Slo} (h : k < l.length) : slo (l.set k y) k = y := by simp [slo, List.getD, h]
theorem slo_set_ne {l : List Slo} {k j : Nat} {y : Slo} (h : k ≠ j) : slo (l.set k y) j = slo l j := by simp [slo, List.getD, List.getElem?_set, h]
theorem slo_ext {a b : Slo} (h1 : a.used = b.used) (h2 : a.pits = b.pits) (h3 : a.player = b.player) (h4 : a.depth = b.depth) (h5 : a.value = b.value) (h6 : a.bound = b.bound) : a = b := by cases a; cases b; simp_all
theorem mem_ext {a b : Mem} (h1 : a.rules = b.rules) (h2 : a.slots = b.slots) : a = b := by cases a; cases b; simp_all
def hashF (h x : Int) : Int := (31 * h + x) % 1000003
def hashP (pits : List Int) (player : Int) : Int := pits.foldl hashF (player + 1)
theorem hash_step {pits : List Int} {h0 : Int} {k : Nat} (h : k < pits.length) : (pits.take (k + 1)).foldl hashF h0 = (31 * (pits.take k).foldl hashF h0 + nth pits k) % 1000003 := by
  rw [take_nth h, List.foldl_append]; rfl
theorem hash_all {pits : List Int} {h0 : Int} {k : Nat} (h : pits.length ≤ k) : (pits.take k).foldl hashF h0 = pits.foldl hashF h0 := by rw [List.take_of_length_le h]
def plc (n : Nat) (pits : List Int) (player : Int) : Int := hashP pits player % (n : Int)
theorem plc_bd {n : Nat} (pits : List Int) (player : Int) (h : 0 < n) : 0 ≤ plc n pits player ∧ plc n pits player < n :=
  ⟨Int.emod_nonneg _ (by omega), Int.emod_lt_of_pos _ (by omega)⟩
@[reducible] def posS (s : Slo) : Pos := ⟨s.pits, [0, 0], s.player⟩
def okCt (d v b : Int) : Bool := betw d 1 8 && betw v (-96) 96 && betw b 0 2
def freeS (s : Slo) : Bool := decide (s.pits.length = 0) && decide (s.player = 0) && decide (s.depth = 0) && decide (s.value = 0) && decide (s.bound = 0)
def okS (r : Rul) (n i : Nat) (s : Slo) : Bool := if s.used = true then okP r (posS s) && okCt s.depth s.value s.bound && decide (plc n s.pits s.player = (i : Int)) else freeS s
def okM (m : Mem) : Bool := okR m.rules && betw (m.slots.length : Int) 1 64 && (List.range m.slots.length).all fun i => okS m.rules m.slots.length i (slo m.slots i)
theorem okM_parts {m : Mem} (h : okM m = true) : okR m.rules = true ∧ 1 ≤ m.slots.length ∧ m.slots.length ≤ 64 ∧ ∀ i, i < m.slots.length → okS m.rules m.slots.length i (slo m.slots i) = true := by
  unfold okM at h
  simp only [Bool.and_eq_true, betw_iff, List.all_eq_true, List.mem_range] at h
  exact ⟨h.1.1, by omega, by omega, h.2⟩
theorem okM_of {m : Mem} (h1 : okR m.rules = true) (h2 : 1 ≤ m.slots.length) (h3 : m.slots.length ≤ 64) (h4 : ∀ i, i < m.slots.length → okS m.rules m.slots.length i (slo m.slots i) = true) : okM m = true := by
  unfold okM
  simp only [Bool.and_eq_true, betw_iff, List.all_eq_true, List.mem_range]
  exact ⟨⟨h1, by omega, by omega⟩, h4⟩
def stoS (l : List Slo) (s : Slo) : List Slo := if (slo l (plc l.length s.pits s.player).toNat).used = false ∨ (slo l (plc l.length s.pits s.player).toNat).depth ≤ s.depth then l.set (plc l.length s.pits s.player).toNat s else l
theorem stoS_len (l : List Slo) (s : Slo) : (stoS l s).length = l.length := by unfold stoS; split <;> simp
def fnd (l : List Slo) (p : Pos) : Slo := slo l (plc l.length p.pits p.player).toNat
def fndB (l : List Slo) (p : Pos) (d : Int) : Bool := (fnd l p).used && decide ((fnd l p).depth = d) && decide ((fnd l p).player = p.player) && decide ((fnd l p).pits = p.pits)
def mx (a b : Int) : Int := if a < b then b else a
def useS (s : Slo) (low high : Int) : Bool := decide (s.bound = 0) || decide (s.bound = 1) && decide (high ≤ s.value) || decide (s.bound = 2) && decide (s.value ≤ low)
def bndV (best low high : Int) : Int := if best ≤ low then 2 else if high ≤ best then 1 else 0
def loV (x : Res) (low high b : Int) : Int := if x.again = true then mx low b - x.gain else x.gain - high
def hiV (x : Res) (low high b : Int) : Int := if x.again = true then high - x.gain else x.gain - mx low b
def visL (f : Pos → Int → Int → List Slo × Int → Int × List Slo × Int) (low high : Int) : Int → List Slo × Int → List Res → Int × List Slo × Int
  | b, st, [] => (b, st)
  | b, st, x :: l => if high ≤ b then (b, st) else visL f low high (mx b (moveV x (f x.next (loV x low high b) (hiV x low high b) st).1)) (f x.next (loV x low high b) (hiV x low high b) st).2 l
def vis (r : Rul) : Nat → Pos → Int → Int → List Slo × Int → Int × List Slo × Int
  | 0, p, _, _, st => if (results r p).length = 0 then (endV r p, st) else (0, st)
  | d + 1, p, low, high, st =>
    if (results r p).length = 0 then (endV r p, st)
    else if (fndB st.1 p (d + 1 : Nat) && useS (fnd st.1 p) low high) = true then ((fnd st.1 p).value, st.1, st.2 + 1)
    else ((visL (vis r d) low high (-1000) st (results r p)).1, stoS (visL (vis r d) low high (-1000) st (results r p)).2.1 ⟨true, p.pits, p.player, (d + 1 : Nat), (visL (vis r d) low high (-1000) st (results r p)).1, bndV (visL (vis r d) low high (-1000) st (results r p)).1 low high⟩, (visL (vis r d) low high (-1000) st (results r p)).2.2)
theorem visL_len {f : Pos → Int → Int → List Slo × Int → Int × List Slo × Int} (hf : ∀ p a b st, (f p a b st).2.1.length = st.1.length) (low high : Int) : ∀ (l : List Res) (b : Int) (st : List Slo × Int), (visL f low high b st l).2.1.length = st.1.length
  | [], _, _ => rfl
  | x :: l, b, st => by
    rw [visL]; split
    · rfl
    · rw [visL_len hf low high l, hf]
theorem vis_len (r : Rul) : ∀ (d : Nat) (p : Pos) (low high : Int) (st : List Slo × Int), (vis r d p low high st).2.1.length = st.1.length
  | 0, p, _, _, st => by rw [vis]; split <;> rfl
  | d + 1, p, low, high, st => by
    rw [vis]; split
    · rfl
    · split
      · rfl
      · rw [stoS_len, visL_len (vis_len r d)]
structure SndS (r : Rul) (s : Slo) : Prop where
  ok : okP r (posS s) = true
  d1 : 1 ≤ s.depth
  d2 : s.depth ≤ 8
  sz : size r s.depth.toNat (posS s) ≤ 3000
  v1 : -isum s.pits ≤ s.value
  v2 : s.value ≤ isum s.pits
  bd : (s.bound = 0 ∧ s.value = val r s.depth.toNat (posS s)) ∨ (s.bound = 1 ∧ s.value ≤ val r s.depth.toNat (posS s)) ∨ (s.bound = 2 ∧ val r s.depth.toNat (posS s) ≤ s.value)
structure SndM (r : Rul) (D : Int) (l : List Slo) : Prop where
  us : ∀ i, i < l.length → (slo l i).used = true → SndS r (slo l i) ∧ plc l.length (slo l i).pits (slo l i).player = (i : Int) ∧ (slo l i).depth ≤ D
  fr : ∀ i, i < l.length → (slo l i).used = false → freeS (slo l i) = true
theorem SndM.empty (r : Rul) (D : Int) (n : Nat) : SndM r D (List.replicate n Slo.zero) := by
  have e : ∀ i, slo (List.replicate n Slo.zero) i = Slo.zero := fun i => by
    unfold slo
    rw [List.getD_eq_getElem?_getD, List.getElem?_replicate]
    split <;> rfl
  exact ⟨fun i _ h => by rw [e] at h; simp [Slo.zero] at h, fun i _ _ => by rw [e]; decide⟩
theorem SndM.sto {r : Rul} {D : Int} {l : List Slo} {s : Slo} (h : SndM r D l) (hl : 0 < l.length) (hs : SndS r s) (hus : s.used = true) (hd : s.depth ≤ D) : SndM r D (stoS l s) := by
  have hp := plc_bd s.pits s.player hl
  unfold stoS
  split
  · refine ⟨fun i hi hu => ?_, fun i hi hu => ?_⟩
    · rw [List.length_set] at hi ⊢
      by_cases e : (plc l.length s.pits s.player).toNat = i
      · subst e
        rw [slo_set hi] at hu ⊢
        exact ⟨hs, by omega, hd⟩
      · rw [slo_set_ne e] at hu ⊢
        exact h.us i hi hu
    · rw [List.length_set] at hi
      by_cases e : (plc l.length s.pits s.player).toNat = i
      · subst e
        rw [slo_set hi, hus] at hu; cases hu
      · rw [slo_set_ne e] at hu ⊢
        exact h.fr i hi hu
  · exact h
def AB (low high v V : Int) : Prop := (v ≤ low → V ≤ v) ∧ (high ≤ v → v ≤ V) ∧ (low < v → v < high → v = V)
theorem AB.refl (low high v : Int) : AB low high v v := ⟨fun _ => Int.le_refl _, fun _ => Int.le_refl _, fun _ _ => rfl⟩
theorem mx_le (a b : Int) : a ≤ mx a b ∧ b ≤ mx a b ∧ (mx a b = a ∨ mx a b = b) := by unfold mx; split <;> omega
end Go.Proofs.YtmgnckfhghibeaaGreat.M
namespace Go.Proofs.YtmgnckfhghibeaaGreat
open Go.RowKit
theorem cellsOk_cons {w : World} {T : Ty} {Ts : List Ty} : ∀ {vs : List Value}, cellsOk w (T :: Ts) vs → ∃ x r, vs = x :: r ∧ T.ok w x ∧ cellsOk w Ts r
  | x :: r, h => ⟨x, r, rfl, h.1, h.2⟩
theorem cellsOk_nil {w : World} : ∀ {vs : List Value}, cellsOk w [] vs → vs = []
  | [], _ => rfl
theorem drop_flat {α β : Type} (f : α → List β) (k : Nat) (hf : ∀ a, (f a).length = k) : ∀ (l : List α) (i : Nat) (a : α), l[i]? = some a → ((l.flatMap f).drop (i * k)).take k = f a
  | x :: l, 0, a, h => by
    simp at h; subst h
    simp [List.flatMap_cons, hf, List.take_append]
  | x :: l, i + 1, a, h => by
    simp at h
    rw [List.flatMap_cons, Nat.succ_mul, Nat.add_comm, ← List.drop_drop, List.drop_left' (hf x)]
    exact drop_flat f k hf l i a h
  | [], _, _, h => by simp at h
theorem flat_len {α β : Type} (f : α → List β) (k : Nat) (hf : ∀ a, (f a).length = k) : ∀ (l : List α), (l.flatMap f).length = l.length * k
  | [] => by simp
  | x :: l => by rw [List.flatMap_cons, List.length_append, hf, flat_len f k hf l, List.length_cons, Nat.succ_mul, Nat.add_comm]
instance ty_2 : TyI Tryz.prog 2 false 1 := ⟨by kernel_rfl⟩
instance ty_4 : TyI Tryz.prog 4 false 1 := ⟨by kernel_rfl⟩
instance ty_25 : TyI Tryz.prog 25 true 9 := ⟨by kernel_rfl⟩
instance ty_26 : TyI Tryz.prog 26 false 1 := ⟨by kernel_rfl⟩
instance ty_28 : TyI Tryz.prog 28 true 10 := ⟨by kernel_rfl⟩
instance ty_29 : TyI Tryz.prog 29 false 1 := ⟨by kernel_rfl⟩
instance ty_31 : TyI Tryz.prog 31 true 3 := ⟨by kernel_rfl⟩
instance ty_49 : TyI Tryz.prog 49 true 6 := ⟨by kernel_rfl⟩
instance ty_64 : TyI Tryz.prog 64 true 9 := ⟨by kernel_rfl⟩
instance ty_65 : TyI Tryz.prog 65 false 1 := ⟨by kernel_rfl⟩
instance ty_67 : TyI Tryz.prog 67 true 10 := ⟨by kernel_rfl⟩
instance ty_68 : TyI Tryz.prog 68 true 3 := ⟨by kernel_rfl⟩
instance ty_87 : TyI Tryz.prog 87 true 11 := ⟨by kernel_rfl⟩
instance ty_95 : TyI Tryz.prog 95 false 1 := ⟨by kernel_rfl⟩
instance ty_99 : TyI Tryz.prog 99 true 11 := ⟨by kernel_rfl⟩
instance ty_114 : TyI Tryz.prog 114 true 6 := ⟨by kernel_rfl⟩
instance ty_150 : TyI Tryz.prog 150 true 2 := ⟨by kernel_rfl⟩
instance ty_175 : TyI Tryz.prog 175 true 6 := ⟨by kernel_rfl⟩
instance ty_181 : TyI Tryz.prog 181 true 4 := ⟨by kernel_rfl⟩
instance ty_201 : TyI Tryz.prog 201 true 15 := ⟨by kernel_rfl⟩
instance fld_25_0 : FldI Tryz.prog 25 0 0 2 false 1 := ⟨by kernel_rfl⟩
instance fld_25_1 : FldI Tryz.prog 25 1 1 2 false 1 := ⟨by kernel_rfl⟩
instance fld_25_2 : FldI Tryz.prog 25 2 2 4 false 1 := ⟨by kernel_rfl⟩
instance fld_25_3 : FldI Tryz.prog 25 3 3 4 false 1 := ⟨by kernel_rfl⟩
instance fld_25_4 : FldI Tryz.prog 25 4 4 4 false 1 := ⟨by kernel_rfl⟩
instance fld_25_5 : FldI Tryz.prog 25 5 5 4 false 1 := ⟨by kernel_rfl⟩
instance fld_25_6 : FldI Tryz.prog 25 6 6 4 false 1 := ⟨by kernel_rfl⟩
instance fld_25_7 : FldI Tryz.prog 25 7 7 2 false 1 := ⟨by kernel_rfl⟩
instance fld_25_8 : FldI Tryz.prog 25 8 8 2 false 1 := ⟨by kernel_rfl⟩
instance fld_28_0 : FldI Tryz.prog 28 0 0 25 true 9 := ⟨by kernel_rfl⟩
instance fld_28_1 : FldI Tryz.prog 28 1 9 26 false 1 := ⟨by kernel_rfl⟩
instance fld_31_0 : FldI Tryz.prog 31 0 0 29 false 1 := ⟨by kernel_rfl⟩
instance fld_31_1 : FldI Tryz.prog 31 1 1 29 false 1 := ⟨by kernel_rfl⟩
instance fld_31_2 : FldI Tryz.prog 31 2 2 2 false 1 := ⟨by kernel_rfl⟩
instance fld_49_0 : FldI Tryz.prog 49 0 0 4 false 1 := ⟨by kernel_rfl⟩
instance fld_49_1 : FldI Tryz.prog 49 1 1 29 false 1 := ⟨by kernel_rfl⟩
instance fld_49_2 : FldI Tryz.prog 49 2 2 2 false 1 := ⟨by kernel_rfl⟩
instance fld_49_3 : FldI Tryz.prog 49 3 3 2 false 1 := ⟨by kernel_rfl⟩
instance fld_49_4 : FldI Tryz.prog 49 4 4 2 false 1 := ⟨by kernel_rfl⟩
instance fld_49_5 : FldI Tryz.prog 49 5 5 2 false 1 := ⟨by kernel_rfl⟩
instance fld_64_0 : FldI Tryz.prog 64 0 0 2 false 1 := ⟨by kernel_rfl⟩
instance fld_64_1 : FldI Tryz.prog 64 1 1 2 false 1 := ⟨by kernel_rfl⟩
instance fld_64_2 : FldI Tryz.prog 64 2 2 4 false 1 := ⟨by kernel_rfl⟩
instance fld_64_3 : FldI Tryz.prog 64 3 3 4 false 1 := ⟨by kernel_rfl⟩
instance fld_64_4 : FldI Tryz.prog 64 4 4 4 false 1 := ⟨by kernel_rfl⟩
instance fld_64_5 : FldI Tryz.prog 64 5 5 4 false 1 := ⟨by kernel_rfl⟩
instance fld_64_6 : FldI Tryz.prog 64 6 6 4 false 1 := ⟨by kernel_rfl⟩
instance fld_64_7 : FldI Tryz.prog 64 7 7 2 false 1 := ⟨by kernel_rfl⟩
instance fld_64_8 : FldI Tryz.prog 64 8 8 2 false 1 := ⟨by kernel_rfl⟩
instance fld_67_0 : FldI Tryz.prog 67 0 0 64 true 9 := ⟨by kernel_rfl⟩
instance fld_67_1 : FldI Tryz.prog 67 1 9 65 false 1 := ⟨by kernel_rfl⟩
instance fld_68_0 : FldI Tryz.prog 68 0 0 29 false 1 := ⟨by kernel_rfl⟩
instance fld_68_1 : FldI Tryz.prog 68 1 1 29 false 1 := ⟨by kernel_rfl⟩
instance fld_68_2 : FldI Tryz.prog 68 2 2 2 false 1 := ⟨by kernel_rfl⟩
instance fld_87_0 : FldI Tryz.prog 87 0 0 28 true 10 := ⟨by kernel_rfl⟩
instance fld_87_1 : FldI Tryz.prog 87 1 10 2 false 1 := ⟨by kernel_rfl⟩
instance fld_99_0 : FldI Tryz.prog 99 0 0 28 true 10 := ⟨by kernel_rfl⟩
instance fld_99_1 : FldI Tryz.prog 99 1 10 2 false 1 := ⟨by kernel_rfl⟩
instance fld_114_1 : FldI Tryz.prog 114 1 1 2 false 1 := ⟨by kernel_rfl⟩
instance fld_114_2 : FldI Tryz.prog 114 2 2 4 false 1 := ⟨by kernel_rfl⟩
instance fld_114_3 : FldI Tryz.prog 114 3 3 31 true 3 := ⟨by kernel_rfl⟩
instance fld_150_0 : FldI Tryz.prog 150 0 0 95 false 1 := ⟨by kernel_rfl⟩
instance fld_150_1 : FldI Tryz.prog 150 1 1 2 false 1 := ⟨by kernel_rfl⟩
instance fld_175_0 : FldI Tryz.prog 175 0 0 4 false 1 := ⟨by kernel_rfl⟩
instance fld_175_1 : FldI Tryz.prog 175 1 1 29 false 1 := ⟨by kernel_rfl⟩
instance fld_175_2 : FldI Tryz.prog 175 2 2 2 false 1 := ⟨by kernel_rfl⟩
instance fld_175_3 : FldI Tryz.prog 175 3 3 2 false 1 := ⟨by kernel_rfl⟩
instance fld_175_4 : FldI Tryz.prog 175 4 4 2 false 1 := ⟨by kernel_rfl⟩
instance fld_175_5 : FldI Tryz.prog 175 5 5 2 false 1 := ⟨by kernel_rfl⟩
instance fld_181_0 : FldI Tryz.prog 181 0 0 29 false 1 := ⟨by kernel_rfl⟩
instance fld_181_1 : FldI Tryz.prog 181 1 1 29 false 1 := ⟨by kernel_rfl⟩
instance fld_181_2 : FldI Tryz.prog 181 2 2 2 false 1 := ⟨by kernel_rfl⟩
instance fld_181_3 : FldI Tryz.prog 181 3 3 2 false 1 := ⟨by kernel_rfl⟩
instance fld_201_0 : FldI Tryz.prog 201 0 0 25 true 9 := ⟨by kernel_rfl⟩
instance fld_201_1 : FldI Tryz.prog 201 1 9 2 false 1 := ⟨by kernel_rfl⟩
instance fld_201_2 : FldI Tryz.prog 201 2 10 181 true 4 := ⟨by kernel_rfl⟩
instance fld_201_3 : FldI Tryz.prog 201 3 14 29 false 1 := ⟨by kernel_rfl⟩
instance eI_26 : ElI Tryz.prog 26 49 6 64 [.bool false, .slice none 0 0, .int .i64 0, .int .i64 0, .int .i64 0, .int .i64 0] := ⟨by kernel_rfl⟩
theorem el_26 : elOf Tryz.prog 26 = some (49, 6, 64, [.bool false, .slice none 0 0, .int .i64 0, .int .i64 0, .int .i64 0, .int .i64 0]) := ElI.h
instance eI_29 : ElI Tryz.prog 29 2 1 8 [.int .i64 0] := ⟨by kernel_rfl⟩
theorem el_29 : elOf Tryz.prog 29 = some (2, 1, 8, [.int .i64 0]) := ElI.h
instance eI_65 : ElI Tryz.prog 65 175 6 64 [.bool false, .slice none 0 0, .int .i64 0, .int .i64 0, .int .i64 0, .int .i64 0] := ⟨by kernel_rfl⟩
theorem el_65 : elOf Tryz.prog 65 = some (175, 6, 64, [.bool false, .slice none 0 0, .int .i64 0, .int .i64 0, .int .i64 0, .int .i64 0]) := ElI.h
instance eI_111 : ElI Tryz.prog 111 114 6 80 [.int .i64 0, .int .i64 0, .bool false, .slice none 0 0, .slice none 0 0, .int .i64 0] := ⟨by kernel_rfl⟩
theorem el_111 : elOf Tryz.prog 111 = some (114, 6, 80, [.int .i64 0, .int .i64 0, .bool false, .slice none 0 0, .slice none 0 0, .int .i64 0]) := ElI.h
instance zero_25 : ZeroI Tryz.prog 25 [.int .i64 0, .int .i64 0, .bool false, .bool false, .bool false, .bool false, .bool false, .int .i64 0, .int .i64 0] := ⟨by kernel_rfl⟩
instance zero_28 : ZeroI Tryz.prog 28 [.int .i64 0, .int .i64 0, .bool false, .bool false, .bool false, .bool false, .bool false, .int .i64 0, .int .i64 0, .slice none 0 0] := ⟨by kernel_rfl⟩
instance zero_31 : ZeroI Tryz.prog 31 [.slice none 0 0, .slice none 0 0, .int .i64 0] := ⟨by kernel_rfl⟩
instance zero_49 : ZeroI Tryz.prog 49 [.bool false, .slice none 0 0, .int .i64 0, .int .i64 0, .int .i64 0, .int .i64 0] := ⟨by kernel_rfl⟩
instance zero_87 : ZeroI Tryz.prog 87 [.int .i64 0, .int .i64 0, .bool false, .bool false, .bool false, .bool false, .bool false, .int .i64 0, .int .i64 0, .slice none 0 0, .int .i64 0] := ⟨by kernel_rfl⟩
instance zero_99 : ZeroI Tryz.prog 99 [.int .i64 0, .int .i64 0, .bool false, .bool false, .bool false, .bool false, .bool false, .int .i64 0, .int .i64 0, .slice none 0 0, .int .i64 0] := ⟨by kernel_rfl⟩
instance zero_114 : ZeroI Tryz.prog 114 [.int .i64 0, .int .i64 0, .bool false, .slice none 0 0, .slice none 0 0, .int .i64 0] := ⟨by kernel_rfl⟩
instance zero_150 : ZeroI Tryz.prog 150 [.pointer none, .int .i64 0] := ⟨by kernel_rfl⟩
instance zero_181 : ZeroI Tryz.prog 181 [.slice none 0 0, .slice none 0 0, .int .i64 0, .int .i64 0] := ⟨by kernel_rfl⟩
instance zero_201 : ZeroI Tryz.prog 201 [.int .i64 0, .int .i64 0, .bool false, .bool false, .bool false, .bool false, .bool false, .int .i64 0, .int .i64 0, .int .i64 0, .slice none 0 0, .slice none 0 0, .int .i64 0, .int .i64 0, .slice none 0 0] := ⟨by kernel_rfl⟩
instance flds_28 : FldsI Tryz.prog 28 [(0, 9), (9, 1)] := ⟨by kernel_rfl⟩
instance flds_31 : FldsI Tryz.prog 31 [(0, 1), (1, 1), (2, 1)] := ⟨by kernel_rfl⟩
instance flds_49 : FldsI Tryz.prog 49 [(0, 1), (1, 1), (2, 1), (3, 1), (4, 1), (5, 1)] := ⟨by kernel_rfl⟩
instance flds_87 : FldsI Tryz.prog 87 [(0, 10), (10, 1)] := ⟨by kernel_rfl⟩
instance flds_99 : FldsI Tryz.prog 99 [(0, 10), (10, 1)] := ⟨by kernel_rfl⟩
instance flds_114 : FldsI Tryz.prog 114 [(0, 1), (1, 1), (2, 1), (3, 3)] := ⟨by kernel_rfl⟩
instance flds_150 : FldsI Tryz.prog 150 [(0, 1), (1, 1)] := ⟨by kernel_rfl⟩
instance flds_181 : FldsI Tryz.prog 181 [(0, 1), (1, 1), (2, 1), (3, 1)] := ⟨by kernel_rfl⟩
instance flds_201 : FldsI Tryz.prog 201 [(0, 9), (9, 1), (10, 4), (14, 1)] := ⟨by kernel_rfl⟩
instance fn_8 : FnI Tryz.prog 8 := ⟨by kernel_rfl⟩
instance fn_9 : FnI Tryz.prog 9 := ⟨by kernel_rfl⟩
instance fn_11 : FnI Tryz.prog 11 := ⟨by kernel_rfl⟩
instance fn_31 : FnI Tryz.prog 31 := ⟨by kernel_rfl⟩
instance fn_32 : FnI Tryz.prog 32 := ⟨by kernel_rfl⟩
instance fn_33 : FnI Tryz.prog 33 := ⟨by kernel_rfl⟩
instance fn_34 : FnI Tryz.prog 34 := ⟨by kernel_rfl⟩
instance fn_35 : FnI Tryz.prog 35 := ⟨by kernel_rfl⟩
instance fn_36 : FnI Tryz.prog 36 := ⟨by kernel_rfl⟩
instance fn_37 : FnI Tryz.prog 37 := ⟨by kernel_rfl⟩
instance fn_38 : FnI Tryz.prog 38 := ⟨by kernel_rfl⟩
instance fn_39 : FnI Tryz.prog 39 := ⟨by kernel_rfl⟩
instance fn_43 : FnI Tryz.prog 43 := ⟨by kernel_rfl⟩
instance fn_44 : FnI Tryz.prog 44 := ⟨by kernel_rfl⟩
instance fn_45 : FnI Tryz.prog 45 := ⟨by kernel_rfl⟩
instance fn_46 : FnI Tryz.prog 46 := ⟨by kernel_rfl⟩
instance fn_47 : FnI Tryz.prog 47 := ⟨by kernel_rfl⟩
instance fn_48 : FnI Tryz.prog 48 := ⟨by kernel_rfl⟩
instance fn_49 : FnI Tryz.prog 49 := ⟨by kernel_rfl⟩
instance fn_50 : FnI Tryz.prog 50 := ⟨by kernel_rfl⟩
instance fn_51 : FnI Tryz.prog 51 := ⟨by kernel_rfl⟩
instance fn_52 : FnI Tryz.prog 52 := ⟨by kernel_rfl⟩
instance fn_53 : FnI Tryz.prog 53 := ⟨by kernel_rfl⟩
instance fn_55 : FnI Tryz.prog 55 := ⟨by kernel_rfl⟩
instance fn_56 : FnI Tryz.prog 56 := ⟨by kernel_rfl⟩
instance fn_57 : FnI Tryz.prog 57 := ⟨by kernel_rfl⟩
instance fn_58 : FnI Tryz.prog 58 := ⟨by kernel_rfl⟩
instance fn_74 : FnI Tryz.prog 74 := ⟨by kernel_rfl⟩
instance fn_75 : FnI Tryz.prog 75 := ⟨by kernel_rfl⟩
instance fn_76 : FnI Tryz.prog 76 := ⟨by kernel_rfl⟩
instance fn_77 : FnI Tryz.prog 77 := ⟨by kernel_rfl⟩
instance fn_78 : FnI Tryz.prog 78 := ⟨by kernel_rfl⟩
instance fn_79 : FnI Tryz.prog 79 := ⟨by kernel_rfl⟩
instance fn_80 : FnI Tryz.prog 80 := ⟨by kernel_rfl⟩
instance fn_81 : FnI Tryz.prog 81 := ⟨by kernel_rfl⟩
instance fn_82 : FnI Tryz.prog 82 := ⟨by kernel_rfl⟩
instance fn_83 : FnI Tryz.prog 83 := ⟨by kernel_rfl⟩
instance fn_84 : FnI Tryz.prog 84 := ⟨by kernel_rfl⟩
instance fn_88 : FnI Tryz.prog 88 := ⟨by kernel_rfl⟩
instance fn_89 : FnI Tryz.prog 89 := ⟨by kernel_rfl⟩
instance fn_90 : FnI Tryz.prog 90 := ⟨by kernel_rfl⟩
instance fn_91 : FnI Tryz.prog 91 := ⟨by kernel_rfl⟩
instance fn_92 : FnI Tryz.prog 92 := ⟨by kernel_rfl⟩
instance fn_93 : FnI Tryz.prog 93 := ⟨by kernel_rfl⟩
instance fn_94 : FnI Tryz.prog 94 := ⟨by kernel_rfl⟩
instance fn_95 : FnI Tryz.prog 95 := ⟨by kernel_rfl⟩
instance fn_96 : FnI Tryz.prog 96 := ⟨by kernel_rfl⟩
instance fn_97 : FnI Tryz.prog 97 := ⟨by kernel_rfl⟩
instance fn_98 : FnI Tryz.prog 98 := ⟨by kernel_rfl⟩
instance fn_99 : FnI Tryz.prog 99 := ⟨by kernel_rfl⟩
instance fn_100 : FnI Tryz.prog 100 := ⟨by kernel_rfl⟩
instance fn_101 : FnI Tryz.prog 101 := ⟨by kernel_rfl⟩
instance fn_102 : FnI Tryz.prog 102 := ⟨by kernel_rfl⟩
instance fn_103 : FnI Tryz.prog 103 := ⟨by kernel_rfl⟩
instance fn_104 : FnI Tryz.prog 104 := ⟨by kernel_rfl⟩
instance fn_105 : FnI Tryz.prog 105 := ⟨by kernel_rfl⟩
instance fn_106 : FnI Tryz.prog 106 := ⟨by kernel_rfl⟩
instance fn_107 : FnI Tryz.prog 107 := ⟨by kernel_rfl⟩
instance fn_108 : FnI Tryz.prog 108 := ⟨by kernel_rfl⟩
instance fn_109 : FnI Tryz.prog 109 := ⟨by kernel_rfl⟩
instance fn_110 : FnI Tryz.prog 110 := ⟨by kernel_rfl⟩
instance fn_114 : FnI Tryz.prog 114 := ⟨by kernel_rfl⟩
instance fn_119 : FnI Tryz.prog 119 := ⟨by kernel_rfl⟩
instance fn_122 : FnI Tryz.prog 122 := ⟨by kernel_rfl⟩
instance fn_123 : FnI Tryz.prog 123 := ⟨by kernel_rfl⟩
instance fn_124 : FnI Tryz.prog 124 := ⟨by kernel_rfl⟩
instance fn_125 : FnI Tryz.prog 125 := ⟨by kernel_rfl⟩
instance fn_127 : FnI Tryz.prog 127 := ⟨by kernel_rfl⟩
instance fn_128 : FnI Tryz.prog 128 := ⟨by kernel_rfl⟩
instance fn_129 : FnI Tryz.prog 129 := ⟨by kernel_rfl⟩
instance fn_130 : FnI Tryz.prog 130 := ⟨by kernel_rfl⟩
instance fn_131 : FnI Tryz.prog 131 := ⟨by kernel_rfl⟩
instance fn_132 : FnI Tryz.prog 132 := ⟨by kernel_rfl⟩
instance fn_133 : FnI Tryz.prog 133 := ⟨by kernel_rfl⟩
instance fn_134 : FnI Tryz.prog 134 := ⟨by kernel_rfl⟩
instance fn_135 : FnI Tryz.prog 135 := ⟨by kernel_rfl⟩
instance fn_136 : FnI Tryz.prog 136 := ⟨by kernel_rfl⟩
instance fn_137 : FnI Tryz.prog 137 := ⟨by kernel_rfl⟩
instance fn_138 : FnI Tryz.prog 138 := ⟨by kernel_rfl⟩
instance fn_139 : FnI Tryz.prog 139 := ⟨by kernel_rfl⟩
instance fn_144 : FnI Tryz.prog 144 := ⟨by kernel_rfl⟩
instance fn_145 : FnI Tryz.prog 145 := ⟨by kernel_rfl⟩
instance fn_146 : FnI Tryz.prog 146 := ⟨by kernel_rfl⟩
instance fn_147 : FnI Tryz.prog 147 := ⟨by kernel_rfl⟩
instance fn_148 : FnI Tryz.prog 148 := ⟨by kernel_rfl⟩
instance fn_149 : FnI Tryz.prog 149 := ⟨by kernel_rfl⟩
instance fn_150 : FnI Tryz.prog 150 := ⟨by kernel_rfl⟩
instance fn_151 : FnI Tryz.prog 151 := ⟨by kernel_rfl⟩
instance fn_152 : FnI Tryz.prog 152 := ⟨by kernel_rfl⟩
instance fn_153 : FnI Tryz.prog 153 := ⟨by kernel_rfl⟩
instance fn_158 : FnI Tryz.prog 158 := ⟨by kernel_rfl⟩
instance fn_159 : FnI Tryz.prog 159 := ⟨by kernel_rfl⟩
instance fn_160 : FnI Tryz.prog 160 := ⟨by kernel_rfl⟩
instance fn_161 : FnI Tryz.prog 161 := ⟨by kernel_rfl⟩
instance fn_162 : FnI Tryz.prog 162 := ⟨by kernel_rfl⟩
instance fn_163 : FnI Tryz.prog 163 := ⟨by kernel_rfl⟩
instance fn_164 : FnI Tryz.prog 164 := ⟨by kernel_rfl⟩
instance fn_165 : FnI Tryz.prog 165 := ⟨by kernel_rfl⟩
instance fn_166 : FnI Tryz.prog 166 := ⟨by kernel_rfl⟩
instance fn_168 : FnI Tryz.prog 168 := ⟨by kernel_rfl⟩
instance fn_169 : FnI Tryz.prog 169 := ⟨by kernel_rfl⟩
instance fn_170 : FnI Tryz.prog 170 := ⟨by kernel_rfl⟩
instance fn_171 : FnI Tryz.prog 171 := ⟨by kernel_rfl⟩
instance fn_175 : FnI Tryz.prog 175 := ⟨by kernel_rfl⟩
instance fn_176 : FnI Tryz.prog 176 := ⟨by kernel_rfl⟩
instance uI_4 : UndI Tryz.prog 4 (.bool) := ⟨@Tryz.underlying4⟩
theorem und_4 : Tryz.prog.underlying 4 = some (.bool) := UndI.h
instance uI_9 : UndI Tryz.prog 9 (.string) := ⟨@Tryz.underlying9⟩
instance uI_10 : UndI Tryz.prog 10 (.string) := ⟨@Tryz.underlying10⟩
instance uI_11 : UndI Tryz.prog 11 (.string) := ⟨@Tryz.underlying11⟩
instance uI_22 : UndI Tryz.prog 22 (.slice 5) := ⟨@Tryz.underlying22⟩
instance uI_26 : UndI Tryz.prog 26 (.slice 49) := ⟨@Tryz.underlying26⟩
theorem und_26 : Tryz.prog.underlying 26 = some (.slice 49) := UndI.h
instance uI_29 : UndI Tryz.prog 29 (.slice 2) := ⟨@Tryz.underlying29⟩
theorem und_29 : Tryz.prog.underlying 29 = some (.slice 2) := UndI.h
instance uI_65 : UndI Tryz.prog 65 (.slice 175) := ⟨@Tryz.underlying65⟩
instance uI_111 : UndI Tryz.prog 111 (.slice 114) := ⟨@Tryz.underlying111⟩
theorem und_111 : Tryz.prog.underlying 111 = some (.slice 114) := UndI.h
instance uI_164 : UndI Tryz.prog 164 (.slice 168) := ⟨@Tryz.underlying164⟩
instance uI_212 : UndI Tryz.prog 212 (.slice 9) := ⟨@Tryz.underlying212⟩
instance mixI : MixI Tryz.prog := ⟨by kernel_rfl⟩
@[reducible] def cRules (x : M.Rul) : List Ty := [Ty.int x.pits, Ty.int x.seeds, Ty.bool x.stores, Ty.bool x.skip, Ty.bool x.relay, Ty.bool x.feed, Ty.bool x.again, Ty.int x.capture, Ty.int x.slam]
def lRules (xs : List M.Rul) : List Ty := xs.flatMap cRules
theorem lRules_length (xs : List M.Rul) : (lRules xs).length = xs.length * 9 := flat_len cRules 9 (fun _ => rfl) xs
instance : LenL lRules 9 := ⟨lRules_length⟩
@[reducible] def cPosition (x : M.Pos) : List Ty := [Ty.ints 2 x.pits, Ty.ints 2 x.stores, Ty.int x.player]
def lPosition (xs : List M.Pos) : List Ty := xs.flatMap cPosition
theorem lPosition_length (xs : List M.Pos) : (lPosition xs).length = xs.length * 3 := flat_len cPosition 3 (fun _ => rfl) xs
instance : LenL lPosition 3 := ⟨lPosition_length⟩
@[reducible] def cSown (x : M.Sw) : List Ty := [Ty.ints 2 x.pits, Ty.ints 2 x.stores, Ty.int x.last, Ty.int x.laps]
def lSown (xs : List M.Sw) : List Ty := xs.flatMap cSown
theorem lSown_length (xs : List M.Sw) : (lSown xs).length = xs.length * 4 := flat_len cSown 4 (fun _ => rfl) xs
instance : LenL lSown 4 := ⟨lSown_length⟩
@[reducible] def csowing (x : M.Sow) : List Ty := [Ty.int x.rules.pits, Ty.int x.rules.seeds, Ty.bool x.rules.stores, Ty.bool x.rules.skip, Ty.bool x.rules.relay, Ty.bool x.rules.feed, Ty.bool x.rules.again, Ty.int x.rules.capture, Ty.int x.rules.slam, Ty.int x.player, Ty.ints 2 x.sown.pits, Ty.ints 2 x.sown.stores, Ty.int x.sown.last, Ty.int x.sown.laps, Ty.ints 2 x.path]
theorem ref_sowing {u : World} {v : Value} {x : M.Sow} (h : (Ty.ref (csowing x)).ok u v) : ∃ b o A10 c10 A11 c11 A14 c14, v = .pointer (some ⟨b, o, none⟩) ∧ RowAt u b o [.int .i64 x.rules.pits, .int .i64 x.rules.seeds, .bool x.rules.stores, .bool x.rules.skip, .bool x.rules.relay, .bool x.rules.feed, .bool x.rules.again, .int .i64 x.rules.capture, .int .i64 x.rules.slam, .int .i64 x.player, .slice A10 x.sown.pits.length c10, .slice A11 x.sown.stores.length c11, .int .i64 x.sown.last, .int .i64 x.sown.laps, .slice A14 x.path.length c14] ∧ (Ty.ints 2 x.sown.pits).ok u (.slice A10 x.sown.pits.length c10) ∧ (Ty.ints 2 x.sown.stores).ok u (.slice A11 x.sown.stores.length c11) ∧ (Ty.ints 2 x.path).ok u (.slice A14 x.path.length c14) ∧ x.sown.pits.length ≤ c10 ∧ c10 ≤ 9223372036854775807 ∧ x.sown.stores.length ≤ c11 ∧ c11 ≤ 9223372036854775807 ∧ x.path.length ≤ c14 ∧ c14 ≤ 9223372036854775807 := by
  obtain ⟨b, o, vs, rfl, h, hr⟩ := h
  obtain ⟨x0, r, rfl, h0, h⟩ := cellsOk_cons h
  obtain ⟨x1, r, rfl, h1, h⟩ := cellsOk_cons h
  obtain ⟨x2, r, rfl, h2, h⟩ := cellsOk_cons h
  obtain ⟨x3, r, rfl, h3, h⟩ := cellsOk_cons h
  obtain ⟨x4, r, rfl, h4, h⟩ := cellsOk_cons h
  obtain ⟨x5, r, rfl, h5, h⟩ := cellsOk_cons h
  obtain ⟨x6, r, rfl, h6, h⟩ := cellsOk_cons h
  obtain ⟨x7, r, rfl, h7, h⟩ := cellsOk_cons h
  obtain ⟨x8, r, rfl, h8, h⟩ := cellsOk_cons h
  obtain ⟨x9, r, rfl, h9, h⟩ := cellsOk_cons h
  obtain ⟨x10, r, rfl, h10, h⟩ := cellsOk_cons h
  obtain ⟨x11, r, rfl, h11, h⟩ := cellsOk_cons h
  obtain ⟨x12, r, rfl, h12, h⟩ := cellsOk_cons h
  obtain ⟨x13, r, rfl, h13, h⟩ := cellsOk_cons h
  obtain ⟨x14, r, rfl, h14, h⟩ := cellsOk_cons h
  obtain rfl := cellsOk_nil h
  obtain rfl : x0 = .int .i64 x.rules.pits := h0
  obtain rfl : x1 = .int .i64 x.rules.seeds := h1
  obtain rfl : x2 = .bool x.rules.stores := h2
  obtain rfl : x3 = .bool x.rules.skip := h3
  obtain rfl : x4 = .bool x.rules.relay := h4
  obtain rfl : x5 = .bool x.rules.feed := h5
  obtain rfl : x6 = .bool x.rules.again := h6
  obtain rfl : x7 = .int .i64 x.rules.capture := h7
  obtain rfl : x8 = .int .i64 x.rules.slam := h8
  obtain rfl : x9 = .int .i64 x.player := h9
  obtain ⟨A10, c10, rfl, b10, d10⟩ := sl_form h10
  obtain ⟨A11, c11, rfl, b11, d11⟩ := sl_form h11
  obtain rfl : x12 = .int .i64 x.sown.last := h12
  obtain rfl : x13 = .int .i64 x.sown.laps := h13
  obtain ⟨A14, c14, rfl, b14, d14⟩ := sl_form h14
  exact ⟨b, o, A10, c10, A11, c11, A14, c14, rfl, hr, h10, h11, h14, b10, d10, b11, d11, b14, d14⟩
def lsowing (xs : List M.Sow) : List Ty := xs.flatMap csowing
theorem lsowing_length (xs : List M.Sow) : (lsowing xs).length = xs.length * 15 := flat_len csowing 15 (fun _ => rfl) xs
instance : LenL lsowing 15 := ⟨lsowing_length⟩
@[reducible] def cResult (x : M.Res) : List Ty := [Ty.int x.move, Ty.int x.gain, Ty.bool x.again, Ty.ints 2 x.next.pits, Ty.ints 2 x.next.stores, Ty.int x.next.player]
def lResult (xs : List M.Res) : List Ty := xs.flatMap cResult
theorem lResult_length (xs : List M.Res) : (lResult xs).length = xs.length * 6 := flat_len cResult 6 (fun _ => rfl) xs
instance : LenL lResult 6 := ⟨lResult_length⟩
theorem elem_Result {u : World} {e c i : Nat} {A : Option Addr} {xs : List M.Res} {x : M.Res} (h : (Ty.sl e 6 xs.length (lResult xs)).ok u (.slice A xs.length c)) (hi : xs[i]? = some x) : ∃ b o A3 c3 A4 c4, elemA 6 (.slice A xs.length c) i = some ⟨b, o, none⟩ ∧ RowAt u b o [.int .i64 x.move, .int .i64 x.gain, .bool x.again, .slice A3 x.next.pits.length c3, .slice A4 x.next.stores.length c4, .int .i64 x.next.player] ∧ (Ty.ints 2 x.next.pits).ok u (.slice A3 x.next.pits.length c3) ∧ (Ty.ints 2 x.next.stores).ok u (.slice A4 x.next.stores.length c4) ∧ x.next.pits.length ≤ c3 ∧ c3 ≤ 9223372036854775807 ∧ x.next.stores.length ≤ c4 ∧ c4 ≤ 9223372036854775807 := by
  obtain ⟨b, o, vs, he, h, hr⟩ := sl_elem h (List.getElem?_eq_some_iff.1 hi).1 rfl
  have e := drop_flat cResult 6 (fun _ => rfl) xs i x hi
  unfold lResult at h
  rw [e] at h
  obtain ⟨x0, r, rfl, h0, h⟩ := cellsOk_cons h
  obtain ⟨x1, r, rfl, h1, h⟩ := cellsOk_cons h
  obtain ⟨x2, r, rfl, h2, h⟩ := cellsOk_cons h
  obtain ⟨x3, r, rfl, h3, h⟩ := cellsOk_cons h
  obtain ⟨x4, r, rfl, h4, h⟩ := cellsOk_cons h
  obtain ⟨x5, r, rfl, h5, h⟩ := cellsOk_cons h
  obtain rfl := cellsOk_nil h
  obtain rfl : x0 = .int .i64 x.move := h0
  obtain rfl : x1 = .int .i64 x.gain := h1
  obtain rfl : x2 = .bool x.again := h2
  obtain ⟨A3, c3, rfl, b3, d3⟩ := sl_form h3
  obtain ⟨A4, c4, rfl, b4, d4⟩ := sl_form h4
  obtain rfl : x5 = .int .i64 x.next.player := h5
  exact ⟨b, o, A3, c3, A4, c4, he, hr, h3, h4, b3, d3, b4, d4⟩
theorem lResult_snoc (xs : List M.Res) (x : M.Res) : lResult xs ++ cResult x = lResult (xs ++ [x]) := by simp [lResult]
theorem pack_Result {w : World} {x : M.Res} {v1 v2 : Value} {f1 f2 : List Nat} (h1 : (Ty.ints 2 x.next.pits).own w v1 f1) (h2 : (Ty.ints 2 x.next.stores).own w v2 f2) : cellsOwn w (cResult x) [.int .i64 x.move, .int .i64 x.gain, .bool x.again, v1, v2, .int .i64 x.next.player] (f1 ++ f2) :=
  ⟨[], f1 ++ f2, rfl, ⟨rfl, rfl⟩, ⟨[], f1 ++ f2, rfl, ⟨rfl, rfl⟩, ⟨[], f1 ++ f2, rfl, ⟨rfl, rfl⟩, ⟨f1, f2, rfl, h1, ⟨f2, [], (List.append_nil _).symm, h2, ⟨[], [], rfl, ⟨rfl, rfl⟩, rfl⟩⟩⟩⟩⟩⟩
@[reducible] def cResultL (x : M.Res) : List Ty := [Ty.int x.move, Ty.int x.gain, Ty.bool x.again, Ty.any, Ty.any, Ty.any]
def lResultL (xs : List M.Res) : List Ty := xs.flatMap cResultL
theorem lResultL_length (xs : List M.Res) : (lResultL xs).length = xs.length * 6 := flat_len cResultL 6 (fun _ => rfl) xs
instance : LenL lResultL 6 := ⟨lResultL_length⟩
@[reducible] def cOption (x : M.Opt) : List Ty := [Ty.int x.move, Ty.int x.value]
def lOption (xs : List M.Opt) : List Ty := xs.flatMap cOption
theorem lOption_length (xs : List M.Opt) : (lOption xs).length = xs.length * 2 := flat_len cOption 2 (fun _ => rfl) xs
instance : LenL lOption 2 := ⟨lOption_length⟩
@[reducible] def cPuzzle (x : M.Puz) : List Ty := [Ty.int x.rules.pits, Ty.int x.rules.seeds, Ty.bool x.rules.stores, Ty.bool x.rules.skip, Ty.bool x.rules.relay, Ty.bool x.rules.feed, Ty.bool x.rules.again, Ty.int x.rules.capture, Ty.int x.rules.slam, Ty.ints 2 x.position.pits, Ty.ints 2 x.position.stores, Ty.int x.position.player, Ty.int x.depth, Ty.int x.move, Ty.int x.value, Ty.int x.margin]
def lPuzzle (xs : List M.Puz) : List Ty := xs.flatMap cPuzzle
theorem lPuzzle_length (xs : List M.Puz) : (lPuzzle xs).length = xs.length * 16 := flat_len cPuzzle 16 (fun _ => rfl) xs
instance : LenL lPuzzle 16 := ⟨lPuzzle_length⟩
@[reducible] def cSlot (x : M.Slo) : List Ty := [Ty.bool x.used, Ty.ints 2 x.pits, Ty.int x.player, Ty.int x.depth, Ty.int x.value, Ty.int x.bound]
def lSlot (xs : List M.Slo) : List Ty := xs.flatMap cSlot
theorem lSlot_length (xs : List M.Slo) : (lSlot xs).length = xs.length * 6 := flat_len cSlot 6 (fun _ => rfl) xs
instance : LenL lSlot 6 := ⟨lSlot_length⟩
theorem elem_Slot {u : World} {e c i : Nat} {A : Option Addr} {xs : List M.Slo} {x : M.Slo} (h : (Ty.sl e 6 xs.length (lSlot xs)).ok u (.slice A xs.length c)) (hi : xs[i]? = some x) : ∃ b o A1 c1, elemA 6 (.slice A xs.length c) i = some ⟨b, o, none⟩ ∧ RowAt u b o [.bool x.used, .slice A1 x.pits.length c1, .int .i64 x.player, .int .i64 x.depth, .int .i64 x.value, .int .i64 x.bound] ∧ (Ty.ints 2 x.pits).ok u (.slice A1 x.pits.length c1) ∧ x.pits.length ≤ c1 ∧ c1 ≤ 9223372036854775807 := by
  obtain ⟨b, o, vs, he, h, hr⟩ := sl_elem h (List.getElem?_eq_some_iff.1 hi).1 rfl
  have e := drop_flat cSlot 6 (fun _ => rfl) xs i x hi
  unfold lSlot at h
  rw [e] at h
  obtain ⟨x0, r, rfl, h0, h⟩ := cellsOk_cons h
  obtain ⟨x1, r, rfl, h1, h⟩ := cellsOk_cons h
  obtain ⟨x2, r, rfl, h2, h⟩ := cellsOk_cons h
  obtain ⟨x3, r, rfl, h3, h⟩ := cellsOk_cons h
  obtain ⟨x4, r, rfl, h4, h⟩ := cellsOk_cons h
  obtain ⟨x5, r, rfl, h5, h⟩ := cellsOk_cons h
  obtain rfl := cellsOk_nil h
  obtain rfl : x0 = .bool x.used := h0
  obtain ⟨A1, c1, rfl, b1, d1⟩ := sl_form h1
  obtain rfl : x2 = .int .i64 x.player := h2
  obtain rfl : x3 = .int .i64 x.depth := h3
  obtain rfl : x4 = .int .i64 x.value := h4
  obtain rfl : x5 = .int .i64 x.bound := h5
  exact ⟨b, o, A1, c1, he, hr, h1, b1, d1⟩
theorem elemv_Slot {w : World} {i : Nat} {xs : List M.Slo} {x : M.Slo} {vs : List Value} (h : cellsOk w (lSlot xs) vs) (hi : xs[i]? = some x) : ∃ A1 c1, (vs.drop (0 + i * 6)).take 6 = [.bool x.used, .slice A1 x.pits.length c1, .int .i64 x.player, .int .i64 x.depth, .int .i64 x.value, .int .i64 x.bound] ∧ x.pits.length ≤ c1 ∧ c1 ≤ 9223372036854775807 := by
  rw [Nat.zero_add]
  have h := cellsOk.take 6 (cellsOk.drop (i * 6) h)
  rw [lSlot, drop_flat cSlot 6 (fun _ => rfl) xs i x hi] at h
  generalize (vs.drop (i * 6)).take 6 = vs at h ⊢
  obtain ⟨x0, r, rfl, h0, h⟩ := cellsOk_cons h
  obtain ⟨x1, r, rfl, h1, h⟩ := cellsOk_cons h
  obtain ⟨x2, r, rfl, h2, h⟩ := cellsOk_cons h
  obtain ⟨x3, r, rfl, h3, h⟩ := cellsOk_cons h
  obtain ⟨x4, r, rfl, h4, h⟩ := cellsOk_cons h
  obtain ⟨x5, r, rfl, h5, h⟩ := cellsOk_cons h
  obtain rfl := cellsOk_nil h
  obtain rfl : x0 = .bool x.used := h0
  obtain ⟨A1, c1, rfl, b1, d1⟩ := sl_form h1
  obtain rfl : x2 = .int .i64 x.player := h2
  obtain rfl : x3 = .int .i64 x.depth := h3
  obtain rfl : x4 = .int .i64 x.value := h4
  obtain rfl : x5 = .int .i64 x.bound := h5
  exact ⟨A1, c1, rfl, b1, d1⟩
theorem lSlot_snoc (xs : List M.Slo) (x : M.Slo) : lSlot xs ++ cSlot x = lSlot (xs ++ [x]) := by simp [lSlot]
theorem zown_Slot (w : World) : cellsOwn w (cSlot M.Slo.zero) [.bool false, .slice none 0 0, .int .i64 0, .int .i64 0, .int .i64 0, .int .i64 0] [] := ⟨[], [], rfl, ⟨rfl, rfl⟩, ⟨[], [], rfl, nil_own, ⟨[], [], rfl, ⟨rfl, rfl⟩, ⟨[], [], rfl, ⟨rfl, rfl⟩, ⟨[], [], rfl, ⟨rfl, rfl⟩, ⟨[], [], rfl, ⟨rfl, rfl⟩, rfl⟩⟩⟩⟩⟩⟩
@[reducible] def cSlotL (x : M.Slo) : List Ty := [Ty.bool x.used, Ty.any, Ty.int x.player, Ty.int x.depth, Ty.int x.value, Ty.int x.bound]
def lSlotL (xs : List M.Slo) : List Ty := xs.flatMap cSlotL
theorem lSlotL_length (xs : List M.Slo) : (lSlotL xs).length = xs.length * 6 := flat_len cSlotL 6 (fun _ => rfl) xs
instance : LenL lSlotL 6 := ⟨lSlotL_length⟩
@[reducible] def cMemory (x : M.Mem) : List Ty := [Ty.int x.rules.pits, Ty.int x.rules.seeds, Ty.bool x.rules.stores, Ty.bool x.rules.skip, Ty.bool x.rules.relay, Ty.bool x.rules.feed, Ty.bool x.rules.again, Ty.int x.rules.capture, Ty.int x.rules.slam, Ty.sl 49 6 x.slots.length (lSlot x.slots)]
def lMemory (xs : List M.Mem) : List Ty := xs.flatMap cMemory
theorem lMemory_length (xs : List M.Mem) : (lMemory xs).length = xs.length * 10 := flat_len cMemory 10 (fun _ => rfl) xs
instance : LenL lMemory 10 := ⟨lMemory_length⟩
@[reducible] def cvisitor (x : M.Vst) : List Ty := [Ty.int x.rules.pits, Ty.int x.rules.seeds, Ty.bool x.rules.stores, Ty.bool x.rules.skip, Ty.bool x.rules.relay, Ty.bool x.rules.feed, Ty.bool x.rules.again, Ty.int x.rules.capture, Ty.int x.rules.slam, Ty.sl 49 6 x.slots.length (lSlot x.slots), Ty.int x.hits]
def lvisitor (xs : List M.Vst) : List Ty := xs.flatMap cvisitor
theorem lvisitor_length (xs : List M.Vst) : (lvisitor xs).length = xs.length * 11 := flat_len cvisitor 11 (fun _ => rfl) xs
instance : LenL lvisitor 11 := ⟨lvisitor_length⟩
@[reducible] def cl16S (x : M.Vst) : List Ty := [Ty.int x.rules.pits, Ty.int x.rules.seeds, Ty.bool x.rules.stores, Ty.bool x.rules.skip, Ty.bool x.rules.relay, Ty.bool x.rules.feed, Ty.bool x.rules.again, Ty.int x.rules.capture, Ty.int x.rules.slam, Ty.sl 49 6 x.slots.length (lSlot x.slots), Ty.int x.hits]
def ll16S (xs : List M.Vst) : List Ty := xs.flatMap cl16S
theorem ll16S_length (xs : List M.Vst) : (ll16S xs).length = xs.length * 11 := flat_len cl16S 11 (fun _ => rfl) xs
instance : LenL ll16S 11 := ⟨ll16S_length⟩
@[reducible] def cPositionL (x : M.Pos) : List Ty := [Ty.rx 2 x.pits, Ty.ints 2 x.stores, Ty.int x.player]
def lPositionL (xs : List M.Pos) : List Ty := xs.flatMap cPositionL
theorem lPositionL_length (xs : List M.Pos) : (lPositionL xs).length = xs.length * 3 := flat_len cPositionL 3 (fun _ => rfl) xs
instance : LenL lPositionL 3 := ⟨lPositionL_length⟩
open Go.RowKit Go.ChangeShapes Go.WideShapes Go.ChangeAt
theorem cell_of {w : World} {b o : Nat} {x : Value} (h : w.cell? ⟨b, o, none⟩ = some x) : Cell w b o x := by
  unfold World.cell? at h
  split at h
  · rename_i c t f hb
    exact ⟨c, t, f, hb, by simpa using h⟩
  all_goals simp at h
section
variable {H : Type} {enc : TypeId × Value → H} {w : World} {spare : Nat → Bool} {held : Bool} {fuel : Nat} {x : DataW H × List MemPlace} {cs : List Value}
theorem rd_cat {Ts Us : List Ty} (a s : Nat) (h1 : cellsOk w Ts ((cs.drop a).take s)) (h2 : cellsOk w Us (cs.drop (a + s))) : cellsOk w (Ts ++ Us) (cs.drop a) := by
  have := h1.append h2
  rwa [← List.drop_drop, List.take_append_drop] at this
theorem rd_end {n : Nat} (h : cs.length = n) : cellsOk w [] (cs.drop n) := by rw [List.drop_eq_nil_of_le (by omega)]; trivial
theorem rd_int {P : Program} {t : TypeId} (ht : P.underlying t = some (.int .i64)) (h : DataW.trod enc P w 0 spare held fuel t cs = some x) : ∃ n : Int, cellsOk w [Ty.int n] cs := by
  obtain ⟨n, rfl, _, _⟩ := DataW.trod_int ht h
  exact ⟨n, rfl, trivial⟩
theorem rd_bool {P : Program} {t : TypeId} (ht : P.underlying t = some .bool) (h : DataW.trod enc P w 0 spare held fuel t cs = some x) : ∃ b : Bool, cellsOk w [Ty.bool b] cs := by
  obtain ⟨b, rfl, _⟩ := DataW.trod_bool ht h
  exact ⟨b, rfl, trivial⟩
theorem rd_ints {P : Program} {t e : TypeId} (ht : P.underlying t = some (.slice e)) (he : P.underlying e = some (.int .i64)) (hc : P.cellsOf e = 1) (h : DataW.trod enc P w 0 spare held fuel t cs = some x) : ∃ xs : List Int, cellsOk w [Ty.ints e xs] cs := by
  rcases open_ints ht he hc h with ⟨rfl, _⟩ | ⟨a, len, cap, zs, rfl, _, hl, hm, hz, _, hcell, _⟩
  · exact ⟨[], nil_ok, trivial⟩
  · have hlz : len ≤ zs.length := by rw [hz]; split <;> omega
    have hlen : (zs.take len).length = len := by simp; omega
    refine ⟨zs.take len, ⟨by simp, some a, cap, ints_ (zs.take len), by rw [hlen], by rw [hlen]; exact hl, hm, (ints_own w _).ok, fun hp => ?_⟩, trivial⟩
    have hp : 0 < len := by rw [List.length_map, hlen] at hp; exact hp
    obtain ⟨b, off, spot⟩ := a
    have hspot : spot = none := by simpa [Addr.add] using World.cell?_spot (hcell 0 (by omega))
    subst hspot
    refine ⟨b, off, rfl, fun j v hj => ?_⟩
    simp only [ints_, List.getElem?_map, Option.map_eq_some_iff] at hj
    obtain ⟨n, hn, rfl⟩ := hj
    rw [List.getElem?_take] at hn
    split at hn
    · rename_i hjl
      have := hcell j (by omega)
      rw [addr_add] at this
      have e : zs.getD j 0 = n := by simp [List.getD, hn]
      rw [e] at this
      exact cell_of this
    · simp at hn
end
section
variable {H : Type} {enc : TypeId × Value → H} {w : World} {spare : Nat → Bool} {held : Bool} {fuel : Nat} {x : DataW H × List MemPlace} {cs : List Value}
end
section
variable {H : Type} {enc : TypeId × Value → H} {w : World} {spare : Nat → Bool} {held : Bool} {fuel : Nat} {x : DataW H × List MemPlace} {cs : List Value}
theorem RowAt.app {b o : Nat} {vs us : List Value} (h : RowAt w b o vs) (k : RowAt w b (o + vs.length) us) : RowAt w b o (vs ++ us) := fun j v hj => by
  rw [List.getElem?_append] at hj
  split at hj
  · exact h j v hj
  · rename_i hlt
    have := k (j - vs.length) v hj
    rwa [show o + vs.length + (j - vs.length) = o + j by omega] at this
theorem rd_sl {P : Program} {t e e' : TypeId} {α : Type} (F : α → List Ty) {sz : Nat} (ht : P.underlying t = some (.slice e)) (hc : P.cellsOf e = sz) (hsz : 0 < sz) (hF : ∀ x, (F x).length = sz)
    (rd : ∀ {fuel : Nat} {cs : List Value} {x : DataW H × List MemPlace}, DataW.trod enc P w 0 spare held fuel e cs = some x → ∃ m : α, cellsOk w (F m) cs)
    (h : DataW.trod enc P w 0 spare held fuel t cs = some x) : ∃ xs : List α, cellsOk w [Ty.sl e' sz xs.length (xs.flatMap F)] cs := by
  rcases DataW.trod_slice ht h with ⟨rfl, _⟩ | ⟨a, len, cap, elems, rest, n, _, rfl, _, _, hl, hm, hlen, hel, _, _⟩
  · exact ⟨[], ⟨by simp, none, 0, [], rfl, Nat.le_refl _, by unfold maxLen; omega, trivial, fun hp => by simp at hp⟩, trivial⟩
  · rw [hc] at hel
    have each : ∀ i, i < len → ∃ (m : α) (vs : List Value), cellsOk w (F m) vs ∧ vs.length = sz ∧ ∀ j v, vs[j]? = some v → w.cell? ((a.add (i * sz)).add j) = some v := fun i hi => by
      have h1 := hel i hi
      obtain ⟨y, hy⟩ : ∃ y, elems[i]? = some y := ⟨_, List.getElem?_eq_getElem (by omega)⟩
      rw [hy, Option.bind_eq_some_iff] at h1
      obtain ⟨vs, hvs, htr⟩ := h1
      obtain ⟨m, hmv⟩ := rd htr
      obtain ⟨_, hlv, hg⟩ := World.cells?_some hvs
      exact ⟨m, vs, hmv, hlv, fun j v hj => by
        have hjl := (List.getElem?_eq_some_iff.1 hj).1
        rw [hg j (by omega)]; exact hj⟩
    by_cases h0 : len = 0
    · subst h0
      exact ⟨[], ⟨by simp, some a, cap, [], rfl, Nat.zero_le _, hm, trivial, fun hp => by simp at hp⟩, trivial⟩
    · obtain ⟨b, off, spot⟩ := a
      obtain ⟨m0, v0, _, hl0, hc0⟩ := each 0 (by omega)
      have hspot : spot = none := by
        obtain ⟨y, hy⟩ : ∃ y, v0[0]? = some y := ⟨_, List.getElem?_eq_getElem (by omega)⟩
        have := World.cell?_spot (hc0 0 y hy)
        simpa [Addr.add] using this
      subst hspot
      have all : ∀ k, k ≤ len → ∃ (xs : List α) (vs : List Value), xs.length = k ∧ cellsOk w (xs.flatMap F) vs ∧ vs.length = k * sz ∧ RowAt w b off vs := fun k => by
        induction k with
        | zero => exact fun _ => ⟨[], [], rfl, trivial, by simp, RowAt.nil⟩
        | succ k ih =>
          intro hk
          obtain ⟨xs, vs, hx, hcs, hvl, hr⟩ := ih (by omega)
          obtain ⟨m, us, hmu, hul, hcu⟩ := each k (by omega)
          refine ⟨xs ++ [m], vs ++ us, by simp [hx], ?_, by rw [List.length_append, hvl, hul, Nat.succ_mul], hr.app fun j v hj => ?_⟩
          · rw [List.flatMap_append]
            exact hcs.append (by simpa using hmu)
          · have := hcu j v hj
            rw [addr_add, addr_add] at this
            rw [hvl]
            exact cell_of this
      obtain ⟨xs, vs, hx, hcs, hvl, hr⟩ := all len (Nat.le_refl _)
      subst hx
      exact ⟨xs, ⟨flat_len' F sz hF xs, some ⟨b, off, none⟩, cap, vs, rfl, hl, hm, hcs, fun _ => ⟨b, off, rfl, hr⟩⟩, trivial⟩
end
end Go.Proofs.YtmgnckfhghibeaaGreat
namespace Go.Proofs.YtmgnckfhghibeaaGreat.M
@[reducible] def remB (m : Mem) (p : Pos) : Bool := okM m && okP m.rules p
def remC (m : Mem) (p : Pos) : Int := if remB m p = true then 0 else 1
theorem remC_0 {m : Mem} {p : Pos} (h : remB m p = true) : remC m p = 0 := by unfold remC; rw [if_pos h]
theorem remC_1 {m : Mem} {p : Pos} (h : ¬ remB m p = true) : remC m p = 1 := by unfold remC; rw [if_neg h]
def swS (m : Mem) (p : Pos) (depth : Int) : Int × List Slo × Int := vis m.rules depth.toNat p (-1000) 1000 (m.slots, 0)
def swOk (m : Mem) (p : Pos) (depth : Int) : Bool := betw (swS m p depth).1 (-96) 96 && okM ⟨m.rules, (swS m p depth).2.1⟩
def swM (m : Mem) (p : Pos) (depth : Int) : Int × Int × Mem × Int :=
  if remB m p = true then (if srchC m.rules p depth = 0 then (if swOk m p depth = true then ((swS m p depth).1, (swS m p depth).2.2, ⟨m.rules, (swS m p depth).2.1⟩, 0) else (0, 0, Mem.zero, 6)) else (0, 0, Mem.zero, srchC m.rules p depth)) else (0, 0, Mem.zero, 1)
theorem swM_1 {m : Mem} {p : Pos} {d : Int} (h : ¬ remB m p = true) : swM m p d = (0, 0, Mem.zero, 1) := by unfold swM; rw [if_neg h]
theorem swM_c {m : Mem} {p : Pos} {d : Int} (h : remB m p = true) (h2 : ¬ srchC m.rules p d = 0) : swM m p d = (0, 0, Mem.zero, srchC m.rules p d) := by unfold swM; rw [if_pos h, if_neg h2]
theorem swM_6 {m : Mem} {p : Pos} {d : Int} (h : remB m p = true) (h2 : srchC m.rules p d = 0) (h3 : ¬ swOk m p d = true) : swM m p d = (0, 0, Mem.zero, 6) := by unfold swM; rw [if_pos h, if_pos h2, if_neg h3]
theorem swM_0 {m : Mem} {p : Pos} {d : Int} (h : remB m p = true) (h2 : srchC m.rules p d = 0) (h3 : swOk m p d = true) : swM m p d = ((swS m p d).1, (swS m p d).2.2, ⟨m.rules, (swS m p d).2.1⟩, 0) := by unfold swM; rw [if_pos h, if_pos h2, if_pos h3]
def totM : List Slo → Nat
  | [] => 0
  | s :: l => s.pits.length + totM l
theorem totM_mem {l : List Slo} {s : Slo} (h : s ∈ l) : s.pits.length ≤ totM l := by
  induction l with
  | nil => simp at h
  | cons x l ih =>
    rcases List.mem_cons.1 h with rfl | h
    · rw [totM]; omega
    · have := ih h; rw [totM]; omega
theorem totM_small {l : List Slo} {n : Nat} (h : totM l ≤ n) : ∀ s ∈ l, s.pits.length ≤ n := fun s hs => by have := totM_mem hs; omega
theorem totM_le {n : Nat} : ∀ l : List Slo, (∀ s ∈ l, s.pits.length ≤ n) → totM l ≤ l.length * n
  | [], _ => by simp [totM]
  | s :: l, h => by
    have h1 := totM_le l (fun x hx => h x (by simp [hx]))
    have h2 := h s (by simp)
    rw [totM, List.length_cons, Nat.succ_mul]; omega
def SzM (n : Nat) (l : List Slo) : Prop := ∀ s ∈ l, s.pits.length ≤ n
theorem SzM.mono {m n : Nat} {l : List Slo} (h : SzM m l) (hm : m ≤ n) : SzM n l := fun s hs => by have := h s hs; omega
theorem SzM.sto {n : Nat} {l : List Slo} {s : Slo} (h : SzM n l) (hs : s.pits.length ≤ n) : SzM n (stoS l s) := fun x hx => by
  unfold stoS at hx
  split at hx
  · rcases List.mem_or_eq_of_mem_set hx with hx | rfl
    · exact h x hx
    · exact hs
  · exact h x hx
theorem okS_16 {r : Rul} {n i : Nat} {s : Slo} (h : okS r n i s = true) : s.pits.length ≤ 16 := by
  unfold okS at h
  split at h
  · simp only [Bool.and_eq_true] at h
    have := okP_bd h.1.1
    have e : (posS s).pits = s.pits := rfl
    rw [e] at this
    omega
  · unfold freeS at h
    simp only [Bool.and_eq_true, decide_eq_true_eq] at h
    omega
theorem okM_16 {m : Mem} (h : okM m = true) : SzM 16 m.slots := fun s hs => by
  obtain ⟨_, _, _, h4⟩ := okM_parts h
  obtain ⟨i, hi⟩ := List.mem_iff_getElem?.1 hs
  have hil := (List.getElem?_eq_some_iff.1 hi).1
  have := h4 i hil
  rw [show slo m.slots i = s by simp [slo, List.getD, hi]] at this
  exact okS_16 this
def BdM (l : List Slo) : Prop := ∀ s ∈ l, s.used = true → -(1000 + 96 * s.depth) ≤ s.value ∧ s.value ≤ 1000 + 96 * s.depth
theorem BdM.sto {l : List Slo} {s : Slo} (h : BdM l) (hs : -(1000 + 96 * s.depth) ≤ s.value ∧ s.value ≤ 1000 + 96 * s.depth) : BdM (stoS l s) := fun x hx hu => by
  unfold stoS at hx
  split at hx
  · rcases List.mem_or_eq_of_mem_set hx with hx | rfl
    · exact h x hx hu
    · exact hs
  · exact h x hx hu
theorem okM_bd {m : Mem} (h : okM m = true) : BdM m.slots := fun s hs hu => by
  obtain ⟨_, _, _, h4⟩ := okM_parts h
  obtain ⟨i, hi⟩ := List.mem_iff_getElem?.1 hs
  have hil := (List.getElem?_eq_some_iff.1 hi).1
  have := h4 i hil
  rw [show slo m.slots i = s by simp [slo, List.getD, hi]] at this
  unfold okS at this
  rw [if_pos hu] at this
  simp only [Bool.and_eq_true, okCt, betw_iff] at this
  omega
structure VB (d : Nat) (l : List Slo) (h : Int) (R : Int × List Slo × Int) : Prop where
  bd : BdM R.2.1
  sz : SzM 4194304 l → SzM 4194304 R.2.1
  v1 : -(1000 + 96 * (d : Int)) ≤ R.1
  v2 : R.1 ≤ 1000 + 96 * (d : Int)
  h1 : h ≤ R.2.2
  h2 : R.2.2 ≤ h + 9 ^ d
theorem visL_vb {r : Rul} {d : Nat} {f : Pos → Int → Int → List Slo × Int → Int × List Slo × Int} (hf : ∀ p a b st, okP r p = true → BdM st.1 → 0 < st.1.length → VB d st.1 st.2 (f p a b st) ∧ (f p a b st).2.1.length = st.1.length) {p : Pos} (low high : Int) :
    ∀ (l : List Res) (b : Int) (st : List Slo × Int), (∀ x ∈ l, x ∈ results r p) → -(1000 + 96 * ((d + 1 : Nat) : Int)) ≤ b → b ≤ 1000 + 96 * ((d + 1 : Nat) : Int) → BdM st.1 → 0 < st.1.length →
      BdM (visL f low high b st l).2.1 ∧ (SzM 4194304 st.1 → SzM 4194304 (visL f low high b st l).2.1) ∧ -(1000 + 96 * ((d + 1 : Nat) : Int)) ≤ (visL f low high b st l).1 ∧ (visL f low high b st l).1 ≤ 1000 + 96 * ((d + 1 : Nat) : Int) ∧ st.2 ≤ (visL f low high b st l).2.2 ∧ (visL f low high b st l).2.2 ≤ st.2 + l.length * 9 ^ d
  | [], b, st, _, h1, h2, hb, _ => by rw [visL]; exact ⟨hb, fun h => h, h1, h2, Int.le_refl _, by simp⟩
  | x :: l, b, st, hx, h1, h2, hb, hn => by
    have h9 : (0 : Int) < 9 ^ d := Int.pow_pos (by decide)
    have hl9 : (0 : Int) ≤ l.length * 9 ^ d := Int.mul_nonneg (by omega) (by omega)
    have el : (((x :: l).length : Nat) : Int) * 9 ^ d = l.length * 9 ^ d + 9 ^ d := by rw [List.length_cons]; push_cast; rw [Int.add_mul, Int.one_mul]
    rw [visL]; split
    · exact ⟨hb, fun h => h, h1, h2, Int.le_refl _, by rw [el]; simp only; omega⟩
    · obtain ⟨hq, hln⟩ := hf x.next (loV x low high b) (hiV x low high b) st (results_ok (hx x (by simp))) hb hn
      obtain ⟨q1, q2, q3, q4, q5, q6⟩ := hq
      have hg := results_gain (hx x (by simp))
      have hm := mx_le b (moveV x (f x.next (loV x low high b) (hiV x low high b) st).1)
      have hmv : -(1000 + 96 * ((d + 1 : Nat) : Int)) ≤ moveV x (f x.next (loV x low high b) (hiV x low high b) st).1 ∧ moveV x (f x.next (loV x low high b) (hiV x low high b) st).1 ≤ 1000 + 96 * ((d + 1 : Nat) : Int) := by
        unfold moveV; split <;> (push_cast; omega)
      obtain ⟨a1, a2, a3, a4, a5, a6⟩ := visL_vb hf low high l (mx b (moveV x (f x.next (loV x low high b) (hiV x low high b) st).1)) (f x.next (loV x low high b) (hiV x low high b) st).2 (fun y hy => hx y (by simp [hy])) (by omega) (by omega) q1 (by rw [hln]; exact hn)
      exact ⟨a1, fun h => a2 (q2 h), a3, a4, by omega, by rw [el]; omega⟩
theorem vis_vb {r : Rul} : ∀ (d : Nat) (p : Pos) (low high : Int) (st : List Slo × Int), okP r p = true → BdM st.1 → 0 < st.1.length → VB d st.1 st.2 (vis r d p low high st)
  | 0, p, low, high, st, hp, hb, hn => by
    have h3 := endV_bd hp
    rw [vis]; split
    · exact ⟨hb, fun h => h, by simp only; omega, by simp only; omega, Int.le_refl _, by simp only; omega⟩
    · exact ⟨hb, fun h => h, by simp only; omega, by simp only; omega, Int.le_refl _, by simp only; omega⟩
  | d + 1, p, low, high, st, hp, hb, hn => by
    have h3 := endV_bd hp
    have h9 : (0 : Int) < 9 ^ d := Int.pow_pos (by decide)
    have e9 : (9 : Int) ^ (d + 1) = 9 * 9 ^ d := by rw [Int.pow_succ, Int.mul_comm]
    have hpb := plc_bd p.pits p.player hn
    have h16 := okP_bd hp
    rw [vis]; split
    · exact ⟨hb, fun h => h, by simp only; omega, by simp only; omega, Int.le_refl _, by rw [e9]; simp only; omega⟩
    · split
      · rename_i hc
        simp only [fndB, Bool.and_eq_true, decide_eq_true_eq] at hc
        have hv := hb _ (slo_mem (l := st.1) (k := (plc st.1.length p.pits p.player).toNat) (by omega)) hc.1.1.1.1
        have e : slo st.1 (plc st.1.length p.pits p.player).toNat = fnd st.1 p := rfl
        rw [e, hc.1.1.1.2] at hv
        exact ⟨hb, fun h => h, hv.1, hv.2, by simp only; omega, by rw [e9]; simp only; omega⟩
      · obtain ⟨a1, a2, a3, a4, a5, a6⟩ := visL_vb (r := r) (d := d) (f := vis r d) (fun p a b st h1 h2 h3 => ⟨vis_vb d p a b st h1 h2 h3, vis_len r d p a b st⟩) (p := p) low high (results r p) (-1000) st (fun x hx => hx) (by omega) (by omega) hb hn
        have h8 := results_8 hp
        have h8' : ((results r p).length : Int) * 9 ^ d ≤ 8 * 9 ^ d := Int.mul_le_mul_of_nonneg_right (by omega) (by omega)
        exact ⟨a1.sto ⟨a3, a4⟩, fun h => (a2 h).sto (by simp only; omega), a3, a4, a5, by rw [e9]; simp only; omega⟩
theorem visL_y {f : Pos → Int → Int → List Slo × Int → Int × List Slo × Int} {low high b : Int} {st X : List Slo × Int} {V : Int × List Slo × Int} {l : List Res} {k : Nat} {y : Res} (h : visL f low high b st (l.drop k) = V) (hy : l[k]? = some y) (hb : ¬ high ≤ b) :
    visL f low high (mx b (moveV y (f y.next (loV y low high b) (hiV y low high b) st).1)) (f y.next (loV y low high b) (hiV y low high b) st).2 (l.drop (k + 1)) = V := by
  rw [drop_some hy, visL, if_neg hb] at h; exact h
theorem visL_b {f : Pos → Int → Int → List Slo × Int → Int × List Slo × Int} {low high b : Int} {st : List Slo × Int} {V : Int × List Slo × Int} {l : List Res} {k : Nat} (h : visL f low high b st (l.drop k) = V) (hb : high ≤ b) : V = (b, st) := by
  cases hl : l.drop k with
  | nil => rw [hl, visL] at h; exact h.symm
  | cons y t => rw [hl, visL, if_pos hb] at h; exact h.symm
theorem visL_e {f : Pos → Int → Int → List Slo × Int → Int × List Slo × Int} {low high b : Int} {st : List Slo × Int} {V : Int × List Slo × Int} {l : List Res} {k : Nat} (h : visL f low high b st (l.drop k) = V) (hk : l.length ≤ k) : V = (b, st) := by
  rw [List.drop_eq_nil_of_le hk, visL] at h; exact h.symm
def okSI (r : Rul) (n : Nat) (i : Int) (s : Slo) : Bool := if s.used = true then okP r (posS s) && okCt s.depth s.value s.bound && decide (plc n s.pits s.player = i) else freeS s
theorem okSI_y {r : Rul} {n : Nat} {i : Int} {s : Slo} (h : s.used = true) : okSI r n i s = (okP r (posS s) && okCt s.depth s.value s.bound && decide (plc n s.pits s.player = i)) := by unfold okSI; rw [if_pos h]
theorem okSI_n {r : Rul} {n : Nat} {i : Int} {s : Slo} (h : s.used = false) : okSI r n i s = freeS s := by unfold okSI; rw [if_neg (by simp [h])]
theorem okM_no {m : Mem} {k : Nat} (h : k < m.slots.length) (hs : okSI m.rules m.slots.length k (slo m.slots k) = false) : okM m = false := by
  cases e : okM m with
  | false => rfl
  | true =>
    have h9 := (okM_parts e).2.2.2 k h
    rw [show okS m.rules m.slots.length k (slo m.slots k) = okSI m.rules m.slots.length k (slo m.slots k) from rfl, hs] at h9
    cases h9
theorem okM_r {m : Mem} (h : okR m.rules = false) : okM m = false := by unfold okM; rw [h]; rfl
theorem okM_l {m : Mem} (h : betw (m.slots.length : Int) 1 64 = false) : okM m = false := by unfold okM; rw [h]; cases okR m.rules <;> rfl
theorem takeS {l : List Slo} {k : Nat} (h : k < l.length) : l.take (k + 1) = l.take k ++ [slo l k] := by
  rw [List.take_add_one, slo_get h]; rfl
end Go.Proofs.YtmgnckfhghibeaaGreat.M
namespace Go.Proofs.YtmgnckfhghibeaaGreat
open Go.RowKit
section
variable {P : Program} {n lo : Nat} {B : List Nat} {Q : Exit → Act → World → Prop} {cs : List Code} {l : Fr} {os os' : List Own} {u : World}
theorem giveL (ks : List Nat) {w w₀ : World} {bs : List Own} {fr : List Own} {m : Nat} (hb : Bw w₀ bs) (x : Up w₀.heap.size (offW w₀ (bs.flatMap (·.fp))) u) (hp : PP os ks os') (hf : NL (os'.take m) fr)
    (hw : St w₀.heap.size (bs.flatMap (·.fp)) u w os) : St w₀.heap.size (bs.flatMap (·.fp)) u w (fr ++ [anyO ((os'.drop m).flatMap (·.fp))]) := by
  have hpm := hp.perm
  have e : os' = fr ++ os'.drop m := by rw [← hf.eq, List.take_append_drop]
  exact hw.conv (fun o ho => by
    rcases List.mem_append.1 ho with ho | ho
    · exact hw.prs o (hpm.mem_iff.2 (by rw [e]; exact List.mem_append_left _ ho))
    · simp at ho; subst ho; trivial) (by
    have := hpm.symm.flatMap_right (fun o : Own => o.fp)
    rw [e, List.flatMap_append] at this
    rw [List.flatMap_append]
    simpa [anyO] using this)
theorem zrbE (ks : List Nat) {fn : Func} {R : Value → List Own → Prop} {w₀ : World} {bs : List Own} {fr : List Own} {m : Nat} (hb : Bw w₀ bs) (x : Up w₀.heap.size (offW w₀ (bs.flatMap (·.fp))) u) (h : R (.tuple #[]) fr)
    (hr : fn.results = #[] := by rfl) (hm : ks.length = m := by rfl) (hp : PP os ks os' := by exact pp_) (hf : NL (os'.take m) fr := by exact nl) :
    Js P n w₀.heap.size (bs.flatMap (·.fp)) (bodyPost P fn (RB w₀ bs R)) [] l os u := Js.end_ fun a w ha hw =>
  ⟨ha.dfr, .tuple #[], by unfold results; rw [hr]; simp, _, fr, _, rfl, h, (giveL ks hb x hp hf hw).giveBack hb x⟩
theorem zrb0 (ks : List Nat) {fn : Func} {R : Value → List Own → Prop} {w₀ : World} {bs : List Own} {fr : List Own} {m : Nat} (hb : Bw w₀ bs) (x : Up w₀.heap.size (offW w₀ (bs.flatMap (·.fp))) u) (h : R (.tuple #[]) fr)
    (hq : RetQ P fn (RB w₀ bs R) Q := by exact rq_) (hr : fn.results = #[] := by rfl) (hm : ks.length = m := by rfl) (hp : PP os ks os' := by exact pp_) (hf : NL (os'.take m) fr := by exact nl) :
    Js P n w₀.heap.size (bs.flatMap (·.fp)) Q (.ret :: cs) l os u := Js.ret_ fun a w ha hw => by
  rw [hq.eq]
  exact ⟨ha.dfr, .tuple #[], by unfold results; rw [hr]; simp, _, fr, _, rfl, h, (giveL ks hb x hp hf hw).giveBack hb x⟩
end
end Go.Proofs.YtmgnckfhghibeaaGreat
namespace Go.Proofs.YtmgnckfhghibeaaGreat.M
def e9 (d : Nat) : Int := 9 ^ d
theorem e9_pos (d : Nat) : 1 ≤ e9 d := by have : (0 : Int) < 9 ^ d := Int.pow_pos (by decide); unfold e9; omega
theorem e9_step {d : Int} (h : 1 ≤ d) : e9 d.toNat = 9 * e9 (d - 1).toNat := by
  have : d.toNat = (d - 1).toNat + 1 := by omega
  rw [this, e9, Int.pow_succ, Int.mul_comm]; rfl
theorem e9_8 {d : Nat} (h : d ≤ 8) : e9 d ≤ 43046721 := by
  have : d = 0 ∨ d = 1 ∨ d = 2 ∨ d = 3 ∨ d = 4 ∨ d = 5 ∨ d = 6 ∨ d = 7 ∨ d = 8 := by omega
  rcases this with h | h | h | h | h | h | h | h | h <;> subst h <;> decide
def HB (e H : Int) (k : Nat) (h : Int) : Prop := H ≤ h ∧ h ≤ H + k * e
theorem HB.zero (e H : Int) : HB e H 0 H := ⟨Int.le_refl _, by simp⟩
theorem HB.step {e H h h' : Int} {k : Nat} (a : HB e H k h) (h1 : h ≤ h') (h2 : h' ≤ h + e) : HB e H (k + 1) h' :=
  ⟨by have := a.1; omega, by have := a.2; push_cast; rw [Int.add_mul, Int.one_mul]; omega⟩
theorem HB.lim {e H h : Int} {k : Nat} (a : HB e H k h) (hk : k ≤ 8) (he : 1 ≤ e) : H ≤ h ∧ h ≤ H + 8 * e :=
  ⟨a.1, by have := a.2; have : (k : Int) * e ≤ 8 * e := Int.mul_le_mul_of_nonneg_right (by omega) (by omega); omega⟩
def chV (r : Rul) (d : Nat) (y : Res) (low high b : Int) (sl : List Slo) (h : Int) : Int × List Slo × Int := vis r d y.next (loV y low high b) (hiV y low high b) (sl, h)
theorem loV_y {y : Res} {low high b : Int} (h : y.again = true) : loV y low high b = mx low b - y.gain := by unfold loV; rw [if_pos h]
theorem loV_n {y : Res} {low high b : Int} (h : ¬ y.again = true) : loV y low high b = y.gain - high := by unfold loV; rw [if_neg h]
theorem hiV_y {y : Res} {low high b : Int} (h : y.again = true) : hiV y low high b = high - y.gain := by unfold hiV; rw [if_pos h]
theorem hiV_n {y : Res} {low high b : Int} (h : ¬ y.again = true) : hiV y low high b = y.gain - mx low b := by unfold hiV; rw [if_neg h]
theorem chV_y {r : Rul} {d : Nat} {y : Res} {low high b : Int} {sl : List Slo} {h : Int} (a : y.again = true) : vis r d y.next (mx low b - y.gain) (high - y.gain) (sl, h) = chV r d y low high b sl h := by unfold chV; rw [loV_y a, hiV_y a]
theorem chV_n {r : Rul} {d : Nat} {y : Res} {low high b : Int} {sl : List Slo} {h : Int} (a : ¬ y.again = true) : vis r d y.next (y.gain - high) (y.gain - mx low b) (sl, h) = chV r d y low high b sl h := by unfold chV; rw [loV_n a, hiV_n a]
theorem vis_end {r : Rul} {d : Nat} {p : Pos} {low high : Int} {st : List Slo × Int} (h : (results r p).length = 0) : vis r d p low high st = (endV r p, st) := by
  cases d <;> (rw [vis, if_pos h])
theorem vis_0 {r : Rul} {p : Pos} {low high : Int} {st : List Slo × Int} (h : (results r p).length ≠ 0) : vis r 0 p low high st = (0, st) := by rw [vis, if_neg h]
theorem vis_hit {r : Rul} {d : Int} {p : Pos} {low high : Int} {sl : List Slo} {h0 : Int} (hd : 1 ≤ d) (h : (results r p).length ≠ 0) (hf : (fndB sl p d && useS (fnd sl p) low high) = true) : vis r d.toNat p low high (sl, h0) = ((fnd sl p).value, (sl, h0 + 1)) := by
  have e : d.toNat = (d - 1).toNat + 1 := by omega
  have e2 : (((d - 1).toNat + 1 : Nat) : Int) = d := by omega
  rw [e, vis, if_neg h, if_pos (by rw [e2]; exact hf)]
def vlp (r : Rul) (p : Pos) (d low high b : Int) (sl : List Slo) (h : Int) (k : Nat) : Int × List Slo × Int := visL (vis r (d - 1).toNat) low high b (sl, h) ((results r p).drop k)
theorem vis_d {r : Rul} {d : Int} {p : Pos} {low high : Int} {sl : List Slo} {h0 b : Int} {sl' : List Slo} {h' : Int} (hd : 1 ≤ d) (h : (results r p).length ≠ 0) (hf : ¬ (fndB sl p d && useS (fnd sl p) low high) = true) (hv : vlp r p d low high (-1000) sl h0 0 = (b, (sl', h'))) {bd : Int} (hb : bd = bndV b low high) :
    vis r d.toNat p low high (sl, h0) = (b, (stoS sl' ⟨true, p.pits, p.player, d, b, bd⟩, h')) := by
  have e : d.toNat = (d - 1).toNat + 1 := by omega
  have e2 : (((d - 1).toNat + 1 : Nat) : Int) = d := by omega
  rw [e, vis, if_neg h, if_neg (by rw [e2]; exact hf), e2]
  unfold vlp at hv; rw [List.drop_zero] at hv
  rw [hv, hb]
theorem vlp_y {r : Rul} {p : Pos} {d low high b : Int} {sl : List Slo} {h : Int} {k : Nat} {y : Res} {V : Int × List Slo × Int} (a : vlp r p d low high b sl h k = V) (hy : (results r p)[k]? = some y) (hb : ¬ high ≤ b) :
    vlp r p d low high (mx b (moveV y (chV r (d - 1).toNat y low high b sl h).1)) (chV r (d - 1).toNat y low high b sl h).2.1 (chV r (d - 1).toNat y low high b sl h).2.2 (k + 1) = V := visL_y (X := (sl, h)) a hy hb
theorem vlp_b {r : Rul} {p : Pos} {d low high b : Int} {sl : List Slo} {h : Int} {k : Nat} {V : Int × List Slo × Int} (a : vlp r p d low high b sl h k = V) (hb : high ≤ b) : V = (b, (sl, h)) := visL_b a hb
theorem vlp_e {r : Rul} {p : Pos} {d low high b : Int} {sl : List Slo} {h : Int} {k : Nat} {V : Int × List Slo × Int} (a : vlp r p d low high b sl h k = V) (hk : (results r p).length ≤ k) : V = (b, (sl, h)) := visL_e a hk
theorem fnd_b {sl : List Slo} {p : Pos} {d : Int} (hb : BdM sl) (hn : 0 < sl.length) (h : fndB sl p d = true) : -(1000 + 96 * d) ≤ (fnd sl p).value ∧ (fnd sl p).value ≤ 1000 + 96 * d := by
  simp only [fndB, Bool.and_eq_true, decide_eq_true_eq] at h
  have hpb := plc_bd p.pits p.player hn
  have hv := hb _ (slo_mem (l := sl) (k := (plc sl.length p.pits p.player).toNat) (by omega)) h.1.1.1
  have e : slo sl (plc sl.length p.pits p.player).toNat = fnd sl p := rfl
  rw [e, h.1.1.2] at hv
  exact hv
theorem bndV_2 {b low high : Int} (h : b ≤ low) : 2 = bndV b low high := by unfold bndV; rw [if_pos h]
theorem bndV_1 {b low high : Int} (h : ¬ b ≤ low) (h2 : high ≤ b) : 1 = bndV b low high := by unfold bndV; rw [if_neg h, if_pos h2]
theorem bndV_0 {b low high : Int} (h : ¬ b ≤ low) (h2 : ¬ high ≤ b) : 0 = bndV b low high := by unfold bndV; rw [if_neg h, if_neg h2]
theorem okCt_no {r : Rul} {x : Slo} (h : ((okP r ⟨x.pits, [0, 0], x.player⟩ = false ∨ betw x.depth 1 8 = false) ∨ betw x.value (-96) 96 = false) ∨ betw x.bound 0 2 = false) : (okP r (posS x) && okCt x.depth x.value x.bound) = false := by
  have e9 : posS x = ⟨x.pits, [0, 0], x.player⟩ := rfl
  rw [e9]; unfold okCt
  rcases h with ((h | h) | h) | h <;> simp [h]
theorem okCt_yes {r : Rul} {x : Slo} (h : ((okP r ⟨x.pits, [0, 0], x.player⟩ = true ∧ betw x.depth 1 8 = true) ∧ betw x.value (-96) 96 = true) ∧ betw x.bound 0 2 = true) : okP r (posS x) = true ∧ okCt x.depth x.value x.bound = true := ⟨h.1.1.1, by simp [okCt, h.1.1.2, h.1.2, h.2]⟩
theorem sto_no {x s : Slo} (h : (x.used && decide (s.depth < x.depth)) = true) : ¬ (x.used = false ∨ x.depth ≤ s.depth) := by
  simp only [Bool.and_eq_true, decide_eq_true_eq] at h
  rintro (h8 | h8)
  · rw [h.1] at h8; cases h8
  · omega
theorem sto_yes {x s : Slo} (h : (x.used && decide (s.depth < x.depth)) = false) : x.used = false ∨ x.depth ≤ s.depth := by
  rcases Bool.eq_false_or_eq_true x.used with h8 | h8
  · rw [h8] at h; simp at h; exact Or.inr h
  · exact Or.inl h8
theorem vlp_t {r : Rul} {p : Pos} {d low high b : Int} {sl : List Slo} {h : Int} {k : Nat} {y : Res} {V : Int × List Slo × Int} (a : vlp r p d low high b sl h k = V) (hy : (results r p)[k]? = some y) (hb : ¬ high ≤ b) (hg : y.again = true) :
    vlp r p d low high (mx b (y.gain + (vis r (d - 1).toNat y.next (mx low b - y.gain) (high - y.gain) (sl, h)).1)) (vis r (d - 1).toNat y.next (mx low b - y.gain) (high - y.gain) (sl, h)).2.1 (vis r (d - 1).toNat y.next (mx low b - y.gain) (high - y.gain) (sl, h)).2.2 (k + 1) = V := by
  have := vlp_y a hy hb
  rw [moveV_y hg, ← chV_y hg] at this; exact this
theorem vlp_f {r : Rul} {p : Pos} {d low high b : Int} {sl : List Slo} {h : Int} {k : Nat} {y : Res} {V : Int × List Slo × Int} (a : vlp r p d low high b sl h k = V) (hy : (results r p)[k]? = some y) (hb : ¬ high ≤ b) (hg : y.again = false) :
    vlp r p d low high (mx b (y.gain - (vis r (d - 1).toNat y.next (y.gain - high) (y.gain - mx low b) (sl, h)).1)) (vis r (d - 1).toNat y.next (y.gain - high) (y.gain - mx low b) (sl, h)).2.1 (vis r (d - 1).toNat y.next (y.gain - high) (y.gain - mx low b) (sl, h)).2.2 (k + 1) = V := by
  have := vlp_y a hy hb
  rw [moveV_n hg, ← chV_n (by simp [hg])] at this; exact this
theorem vis_b {r : Rul} {d : Nat} {p : Pos} {low high : Int} {sl : List Slo} {h : Int} (hp : okP r p = true) (hb : BdM sl) (hn : 0 < sl.length) :
    BdM (vis r d p low high (sl, h)).2.1 ∧ (SzM 4194304 sl → SzM 4194304 (vis r d p low high (sl, h)).2.1) ∧ -(1000 + 96 * (d : Int)) ≤ (vis r d p low high (sl, h)).1 ∧ (vis r d p low high (sl, h)).1 ≤ 1000 + 96 * (d : Int) ∧ h ≤ (vis r d p low high (sl, h)).2.2 ∧ (vis r d p low high (sl, h)).2.2 ≤ h + e9 d ∧ (vis r d p low high (sl, h)).2.1.length = sl.length := by
  obtain ⟨a, b, c, d', e, f⟩ := vis_vb d p low high (sl, h) hp hb hn
  exact ⟨a, b, c, d', e, f, vis_len r d _ _ _ _⟩
theorem use_l {a b : Bool} (h : (a && b) = true) : a = true := by cases a <;> simp_all
theorem swOk_n {m : Mem} {p : Pos} {d : Int} (h : (!(betw (swS m p d).1 (-96) 96) || !(okM ⟨m.rules, (swS m p d).2.1⟩)) = true) : ¬ swOk m p d = true := by
  unfold swOk
  revert h
  cases betw (swS m p d).1 (-96) 96 <;> cases okM ⟨m.rules, (swS m p d).2.1⟩ <;> simp
theorem swOk_y {m : Mem} {p : Pos} {d : Int} (h : (!(betw (swS m p d).1 (-96) 96) || !(okM ⟨m.rules, (swS m p d).2.1⟩)) = false) : swOk m p d = true := by
  unfold swOk
  revert h
  cases betw (swS m p d).1 (-96) 96 <;> cases okM ⟨m.rules, (swS m p d).2.1⟩ <;> simp
theorem remC_eq {m : Mem} {p : Pos} (h : remC m p = 0) : remB m p = true := by
  cases e : remB m p with
  | true => rfl
  | false => rw [remC_1 (by simp [e])] at h; cases h
theorem remC_ne {m : Mem} {p : Pos} (h : ¬ remC m p = 0) : ¬ remB m p = true := fun e => h (remC_0 e)
theorem rem_parts {m : Mem} {p : Pos} (h : remB m p = true) : okM m = true ∧ okP m.rules p = true ∧ 1 ≤ m.slots.length ∧ m.slots.length ≤ 64 ∧ BdM m.slots := by
  simp only [remB, Bool.and_eq_true] at h
  obtain ⟨_, h2, h3, _⟩ := okM_parts h.1
  exact ⟨h.1, h.2, h2, h3, okM_bd h.1⟩
theorem rem_no {m : Mem} {p : Pos} (h : okM m = false ∨ okP m.rules p = false) : ¬ remB m p = true := by
  unfold remB; rcases h with h | h <;> simp [h]
end Go.Proofs.YtmgnckfhghibeaaGreat.M
namespace Go.Proofs.YtmgnckfhghibeaaGreat
open Go.RowKit
def RX (w : World) (R : Value → Prop) (e : Ending) (w' : World) : Prop := ∃ v, e = .returned v ∧ R v ∧ Ext w w'
def RetX (P : Program) (f : FuncId) (args : List Value) (w : World) (R : Value → Prop) : Prop := Calls P f args.toArray w (RX w R)
section
variable {P : Program} {n lo : Nat} {B : List Nat} {Q : Exit → Act → World → Prop} {cs : List Code} {K : Act → World → Prop} {ops : Array Oper} {rest : List Oper} {l : Fr} {os os' os1 : List Own} {u : World} {ty : TypeId} {pos : String} {af : Array Edge} {gd : Option (Nat × Bool)} {dst : Option Tmp} {v : Value} {d : Nat}
theorem e_callX {f : FuncId} {xs : List Operand} {ts : Array TypeId} {vs : List Value} {R : World → Value → Prop} {R' : Value → Prop} (hf : goodF P f = true) (hx : opds l xs = some vs) (hc : ∀ w, St lo B u w os → RetX P f vs w (R w)) (hk : ∀ w v, St lo B u w os → R w v → R' v) :
    OpE P n lo B l os u ⟨dst, .call { callee := .value (.func f), args := xs.toArray, argTypes := ts }, ty, pos, af, gd⟩ true (fun v' os' u' => R' v' ∧ os' = os ∧ u = u') := fun a w ha hw K Q hq => by
  unfold Oper.wp
  rw [run_call hf ha hx, Oper.upon_enter]
  refine Calls.mono (hc w hw) fun e w' h => ?_
  obtain ⟨v, rfl, hR, hxt⟩ := h
  exact hq v _ u w' ⟨hk w v hw hR, rfl, rfl⟩ (Up.refl lo u) (hw.call hxt) (fun _ => hxt)
theorem zxc {f : FuncId} {xs : List Operand} {ts : Array TypeId} {vs : List Value} {R : World → Value → Prop} (R' : Value → Prop) [hf : FnI P f] (hx : opds l xs = some vs) (hc : ∀ w, St lo B u w os → RetX P f vs w (R w)) (hk : ∀ w v, St lo B u w os → R w v → R' v)
    (k : ∀ v, R' v → JL P n lo B K ops rest ((d, v) :: l) os u) (hn : Nat.blt d n = true := by rfl) :
    JL P n lo B K ops (⟨some d, .call { callee := .value (.func f), args := xs.toArray, argTypes := ts }, ty, pos, af, none⟩ :: rest) l os u := JL.e (e_callX hf.h hx hc hk) (by rintro v _ _ ⟨h, rfl, rfl⟩ _; exact k v h) rfl rfl hn
theorem zX {fn : Func} {R : Value → Prop} {w₀ : World} {rs : List ResultVar} {vs : List Value} (x : Up w₀.heap.size w₀ u) (h : R v) (hq : RetQ P fn (RX w₀ R) Q := by exact rq_) (hr : fn.results = rs.toArray := by rfl) (hv : ResOk P n w₀.heap.size [] l os u rs vs := by exact rs_) (ho : OutV vs v := by exact ov_) : Js P n w₀.heap.size [] Q (.ret :: cs) l os u :=
  Js.ret hr hq.eq hv fun w hw => by rw [ho.eq]; exact ⟨v, rfl, h, hw.ext x⟩
end
end Go.Proofs.YtmgnckfhghibeaaGreat
namespace Go.Proofs.YtmgnckfhghibeaaGreat.M
structure Cho where
  move : Int
  games : Int
  score : Int
  deriving DecidableEq
structure Ent where
  pits : List Int
  choices : List Cho
  deriving DecidableEq
structure Boo where
  rules : Rul
  entries : List Ent
  deriving DecidableEq
def Cho.zero : Cho := ⟨0, 0, 0⟩
def Ent.zero : Ent := ⟨[], []⟩
def Boo.zero : Boo := ⟨Rul.zero, []⟩
def AllB (f : Nat → Bool) (k : Nat) : Prop := ∀ i, i < k → f i = true
theorem AllB.zero (f : Nat → Bool) : AllB f 0 := fun i h => absurd h (by omega)
theorem AllB.step {f : Nat → Bool} {k : Nat} (h : AllB f k) (hk : f k = true) : AllB f (k + 1) := fun i hi => by
  by_cases e : i = k
  · rw [e]; exact hk
  · exact h i (by omega)
section
variable {α : Type} (f : Int → α → α) (sz : α → Int)
def mkL : Int → List α → List α
  | _, [] => []
  | k, x :: l => f k x :: mkL (k + sz x) l
def szs : List α → Int
  | [] => 0
  | x :: l => sz x + szs l
theorem mkL_len : ∀ (k : Int) (l : List α), (mkL f sz k l).length = l.length
  | _, [] => rfl
  | k, x :: l => by rw [mkL, List.length_cons, mkL_len, List.length_cons]
theorem mkL_get : ∀ (l : List α) (k : Int) (i : Nat) (y : α), l[i]? = some y → (mkL f sz k l)[i]? = some (f (k + szs sz (l.take i)) y)
  | x :: l, k, 0, y, h => by simp at h; subst h; simp [mkL, szs]
  | x :: l, k, i + 1, y, h => by
    simp at h
    rw [mkL, List.getElem?_cons_succ, mkL_get l _ i y h, List.take_succ_cons, szs, Int.add_assoc]
  | [], _, _, _, h => by simp at h
theorem szs_step : ∀ (l : List α) (i : Nat) (y : α), l[i]? = some y → szs sz (l.take (i + 1)) = szs sz (l.take i) + sz y
  | x :: l, 0, y, h => by simp at h; subst h; simp [szs]
  | x :: l, i + 1, y, h => by
    simp at h
    rw [List.take_succ_cons, szs, szs_step l i y h, List.take_succ_cons, szs, Int.add_assoc]
  | [], _, _, h => by simp at h
def mkd2 (k : Int) (l : List α) (i : Nat) : List α := (mkL f sz k l).take i ++ l.drop i
theorem mkd2_zero (k : Int) (l : List α) : l = mkd2 f sz k l 0 := by simp [mkd2]
theorem mkd2_step {k : Int} {l : List α} {i : Nat} {y : α} (h : l[i]? = some y) : (mkd2 f sz k l i).set i (f (k + szs sz (l.take i)) y) = mkd2 f sz k l (i + 1) := by
  obtain ⟨hi, hy⟩ := List.getElem?_eq_some_iff.1 h
  have h1 : ((mkL f sz k l).take i).length = i := by rw [List.length_take, mkL_len]; omega
  unfold mkd2
  rw [List.set_append_right _ _ (by omega), h1, Nat.sub_self, List.drop_eq_getElem_cons hi, List.set_cons_zero, List.take_add_one, mkL_get f sz l k i y h]
  simp
theorem mkd2_get {k : Int} {l : List α} {i : Nat} {y : α} (h : (mkd2 f sz k l i)[i]? = some y) : l[i]? = some y := by
  by_cases hi : i < l.length
  · have h1 : ((mkL f sz k l).take i).length = i := by rw [List.length_take, mkL_len]; omega
    unfold mkd2 at h
    rw [List.getElem?_append_right (by omega), h1, Nat.sub_self, List.getElem?_drop] at h
    exact h
  · unfold mkd2 at h
    rw [List.getElem?_eq_none (by rw [List.length_append, List.length_take, mkL_len, List.length_drop]; omega)] at h
    cases h
theorem mkd2_end {k : Int} {l : List α} {i : Nat} (h : i = l.length) : mkd2 f sz k l i = mkL f sz k l := by
  subst h; unfold mkd2; rw [List.drop_length, List.append_nil, List.take_of_length_le (by rw [mkL_len]; omega)]
variable (hf : Int → α → Int)
def heldL : Int → List α → Int
  | k, [] => k
  | k, x :: l => if hf k x < 0 then -1 else heldL (hf k x) l
theorem heldL_mk (h : ∀ k x, 0 ≤ k → hf k (f k x) = k + sz x) (h0 : ∀ x, 0 ≤ sz x) : ∀ (l : List α) (k : Int), 0 ≤ k → heldL hf k (mkL f sz k l) = k + szs sz l
  | [], k, hk => by simp [mkL, heldL, szs]
  | x :: l, k, hk => by
    have := h0 x
    rw [mkL, heldL, h k x hk, if_neg (by omega), heldL_mk h h0 l _ (by omega), szs, Int.add_assoc]
theorem szs_nn (h0 : ∀ x, 0 ≤ sz x) : ∀ l : List α, 0 ≤ szs sz l
  | [] => by simp [szs]
  | x :: l => by have := szs_nn h0 l; have := h0 x; rw [szs]; omega
theorem heldL_step {l : List α} {kk X : Int} {i : Nat} {y : α} (h : heldL hf kk (l.drop i) = X) (hy : l[i]? = some y) (hn : ¬ hf kk y < 0) : heldL hf (hf kk y) (l.drop (i + 1)) = X := by
  rw [drop_some hy, heldL, if_neg hn] at h; exact h
theorem heldL_no {l : List α} {kk X : Int} {i : Nat} {y : α} (h : heldL hf kk (l.drop i) = X) (hy : l[i]? = some y) (hn : hf kk y < 0) : X = -1 := by
  rw [drop_some hy, heldL, if_pos hn] at h; exact h.symm
theorem heldL_end {l : List α} {kk X : Int} {i : Nat} (h : heldL hf kk (l.drop i) = X) (hi : l.length ≤ i) : X = kk := by
  rw [List.drop_eq_nil_of_le hi, heldL] at h; exact h.symm
end
section
variable {α : Type}
theorem upto_step {a b : List α} {k : Nat} {x : α} (h : a.take k = b.take k) (ha : a[k]? = some x) (hb : b[k]? = some x) : a.take (k + 1) = b.take (k + 1) := by
  rw [List.take_add_one, List.take_add_one, h, ha, hb]
theorem upto_done {a b : List α} {k : Nat} (h : a.take k = b.take k) (ha : a.length ≤ k) (hb : b.length ≤ k) : a = b := by
  rwa [List.take_of_length_le ha, List.take_of_length_le hb] at h
theorem upto_ne {a b : List α} {k : Nat} {x y : α} (ha : a[k]? = some x) (hb : b[k]? = some y) (h : x ≠ y) : a ≠ b := by
  rintro rfl; rw [ha] at hb; cases hb; exact h rfl
end
def hQ (k : Int) (p : Pos) : Int := if held p.pits k < 0 then -1 else if held p.stores (held p.pits k) < 0 then -1 else if p.player ≠ held p.stores (held p.pits k) then -1 else held p.stores (held p.pits k) + 1
section
variable {α : Type}
def cpS (z : α) (a : List α) (k : Nat) : List α := a.take k ++ List.replicate (a.length - k) z
theorem cpS_zero (z : α) (a : List α) : List.replicate a.length z = cpS z a 0 := by simp [cpS]
theorem cpS_step {z y : α} {a : List α} {k : Nat} (h : a[k]? = some y) : (cpS z a k).set k y = cpS z a (k + 1) := by
  obtain ⟨hk, rfl⟩ := List.getElem?_eq_some_iff.1 h
  have h1 : (a.take k).length = k := by rw [List.length_take]; omega
  unfold cpS
  have e : a.take (k + 1) = a.take k ++ [a[k]] := by rw [List.take_add_one, List.getElem?_eq_getElem hk]; rfl
  rw [List.set_append_right _ _ (by omega), h1, Nat.sub_self, e, show a.length - k = (a.length - (k + 1)) + 1 by omega, List.replicate_succ, List.set_cons_zero, List.append_assoc]
  rfl
theorem cpS_all {z : α} {a : List α} {k : Nat} (h : a.length ≤ k) : cpS z a k = a := by
  unfold cpS; rw [List.take_of_length_le h, show a.length - k = 0 by omega]; simp
end
def hC (k : Int) (x : Cho) : Int := if x.move ≠ k then -1 else if x.games ≠ k + 1 then -1 else if x.score ≠ k + 2 then -1 else k + 3
def hE (k : Int) (e : Ent) : Int := if held e.pits k < 0 then -1 else if heldL hC (held e.pits k) e.choices < 0 then -1 else heldL hC (held e.pits k) e.choices
theorem totM_app : ∀ (a b : List Slo), totM (a ++ b) = totM a + totM b
  | [], b => by simp [totM]
  | e :: a, b => by rw [List.cons_append, totM, totM_app a b, totM]; omega
theorem totM_step {l : List Slo} {i : Nat} (h : i < l.length) : totM (l.take (i + 1)) = totM (l.take i) + (slo l i).pits.length := by
  rw [List.take_add_one, slo_get h, totM_app]; simp [totM]
theorem totM_le' (l : List Slo) (i : Nat) : totM (l.take i) ≤ totM l := by
  conv => rhs; rw [← List.take_append_drop i l, totM_app]
  omega
def fS (k : Int) (s : Slo) : Slo := ⟨decide (k % 3 = 0), up (k + 1) s.pits.length, k + 1 + s.pits.length, k + 1 + s.pits.length + 1, k + 1 + s.pits.length + 1 + 1, k + 1 + s.pits.length + 1 + 1 + 1⟩
def sS (s : Slo) : Int := s.pits.length + 5
def hS (k : Int) (s : Slo) : Int := if s.used ≠ decide (k % 3 = 0) then -1 else if held s.pits (k + 1) < 0 then -1 else if s.player ≠ held s.pits (k + 1) then -1 else if s.depth ≠ held s.pits (k + 1) + 1 then -1 else if s.value ≠ held s.pits (k + 1) + 1 + 1 then -1 else if s.bound ≠ held s.pits (k + 1) + 1 + 1 + 1 then -1 else held s.pits (k + 1) + 1 + 1 + 1 + 1
theorem sS_nn (s : Slo) : 0 ≤ sS s := by unfold sS; omega
theorem hS_fS (k : Int) (s : Slo) (h : 0 ≤ k) : hS k (fS k s) = k + sS s := by
  unfold hS fS sS
  have e : held (up (k + 1) s.pits.length) (k + 1) = k + 1 + s.pits.length := held_up _ _
  simp only [e]
  rw [if_neg (by simp), if_neg (by omega), if_neg (by simp), if_neg (by simp), if_neg (by simp), if_neg (by simp)]; omega
theorem hS_1 {k : Int} {s : Slo} (h : s.used ≠ decide (k % 3 = 0)) : hS k s = -1 := by unfold hS; rw [if_pos h]
theorem hS_2 {k : Int} {s : Slo} (h : s.used = decide (k % 3 = 0)) (h2 : held s.pits (k + 1) < 0) : hS k s = -1 := by unfold hS; rw [if_neg (by simpa using h), if_pos h2]
theorem hS_3 {k : Int} {s : Slo} (h : s.used = decide (k % 3 = 0)) (h2 : ¬ held s.pits (k + 1) < 0) (h3 : s.player ≠ held s.pits (k + 1)) : hS k s = -1 := by unfold hS; rw [if_neg (by simpa using h), if_neg h2, if_pos h3]
theorem hS_4 {k : Int} {s : Slo} (h : s.used = decide (k % 3 = 0)) (h2 : ¬ held s.pits (k + 1) < 0) (h3 : s.player = held s.pits (k + 1)) (h4 : s.depth ≠ held s.pits (k + 1) + 1) : hS k s = -1 := by unfold hS; rw [if_neg (by simpa using h), if_neg h2, if_neg (by simpa using h3), if_pos h4]
theorem hS_5 {k : Int} {s : Slo} (h : s.used = decide (k % 3 = 0)) (h2 : ¬ held s.pits (k + 1) < 0) (h3 : s.player = held s.pits (k + 1)) (h4 : s.depth = held s.pits (k + 1) + 1) (h5 : s.value ≠ held s.pits (k + 1) + 1 + 1) : hS k s = -1 := by unfold hS; rw [if_neg (by simpa using h), if_neg h2, if_neg (by simpa using h3), if_neg (by simpa using h4), if_pos h5]
theorem hS_6 {k : Int} {s : Slo} (h : s.used = decide (k % 3 = 0)) (h2 : ¬ held s.pits (k + 1) < 0) (h3 : s.player = held s.pits (k + 1)) (h4 : s.depth = held s.pits (k + 1) + 1) (h5 : s.value = held s.pits (k + 1) + 1 + 1) (h6 : s.bound ≠ held s.pits (k + 1) + 1 + 1 + 1) : hS k s = -1 := by unfold hS; rw [if_neg (by simpa using h), if_neg h2, if_neg (by simpa using h3), if_neg (by simpa using h4), if_neg (by simpa using h5), if_pos h6]
theorem hS_0 {k : Int} {s : Slo} (h : s.used = decide (k % 3 = 0)) (h2 : ¬ held s.pits (k + 1) < 0) (h3 : s.player = held s.pits (k + 1)) (h4 : s.depth = held s.pits (k + 1) + 1) (h5 : s.value = held s.pits (k + 1) + 1 + 1) (h6 : s.bound = held s.pits (k + 1) + 1 + 1 + 1) : hS k s = held s.pits (k + 1) + 1 + 1 + 1 + 1 := by unfold hS; rw [if_neg (by simpa using h), if_neg h2, if_neg (by simpa using h3), if_neg (by simpa using h4), if_neg (by simpa using h5), if_neg (by simpa using h6)]
theorem held_S (l : List Slo) {k : Int} (h : 0 ≤ k) : heldL hS k (mkL fS sS k l) = k + szs sS l := heldL_mk fS sS hS hS_fS sS_nn l k h
theorem szs_S (l : List Slo) : szs sS l = (totM l : Int) + 5 * (l.length : Int) := by
  induction l with
  | nil => simp [szs, totM]
  | cons e l ih => rw [szs, totM, sS, List.length_cons]; omega
theorem szs_S_take (l : List Slo) (i : Nat) : szs sS (l.take i) ≤ (totM l : Int) + 5 * (l.length : Int) := by
  have := szs_S (l.take i); have := totM_le' l i; have h : (l.take i).length ≤ l.length := by rw [List.length_take]; omega
  omega
theorem szs_S_nn (l : List Slo) : 0 ≤ szs sS l := szs_nn sS sS_nn l
theorem heldS_bd : ∀ (l : List Slo) {k : Int}, 0 ≤ k → -1 ≤ heldL hS k l
  | [], k, h => by simp [heldL]; omega
  | x :: l, k, h => by
    rw [heldL]; split
    · omega
    · rename_i hn; exact heldS_bd l (by omega)
theorem totM_mk (l : List Slo) (k : Int) : totM (mkL fS sS k l) = totM l := by
  induction l generalizing k with
  | nil => rfl
  | cons e l ih => rw [mkL, totM, totM, ih]; simp [fS]
theorem SzM_tot {n : Nat} {l : List Slo} (h : SzM n l) : totM l ≤ l.length * n := totM_le l h
theorem swM_tot (m : Mem) (p : Pos) (d : Int) : (swM m p d).2.2.1.slots.length ≤ 64 ∧ totM (swM m p d).2.2.1.slots ≤ 1024 := by
  have hz : Mem.zero.slots.length ≤ 64 ∧ totM Mem.zero.slots ≤ 1024 := by decide
  unfold swM
  split
  · split
    · split
      · rename_i h9
        simp only [swOk, Bool.and_eq_true] at h9
        have h16 := okM_16 h9.2
        obtain ⟨_, _, h64, _⟩ := okM_parts h9.2
        have := SzM_tot h16
        exact ⟨h64, by simp only at this h64 ⊢; omega⟩
      · exact hz
    · exact hz
  · exact hz
end Go.Proofs.YtmgnckfhghibeaaGreat.M

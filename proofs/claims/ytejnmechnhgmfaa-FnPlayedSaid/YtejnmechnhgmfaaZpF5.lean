/- A framework for walks: slices, aggregates, appends, the ends of calls. -/
import Derived.Test.YtejnmechnhgmfaaZpF4
import Derived.Test.YtejnmechnhgmfaaZpM
set_option linter.unusedSimpArgs false
set_option linter.unusedVariables false
namespace Go.Proofs.Ytejnmechnhgmfaa
open Go.RowKit
theorem sl_form {e : TypeId} {sz n : Nat} {Ts : List Ty} {u : World} {v : Value} (h : (Ty.sl e sz n Ts).ok u v) : ∃ A c, v = .slice A n c ∧ n ≤ c ∧ c ≤ 9223372036854775807 := by
  obtain ⟨_, A, c, vs, h1, h2, h3, _⟩ := h
  exact ⟨A, c, h1, h2, by unfold maxLen at h3; omega⟩
theorem ints_form {e : TypeId} {xs : List Int} {u : World} {v : Value} (h : (Ty.ints e xs).ok u v) : ∃ A c, v = .slice A xs.length c ∧ xs.length ≤ c ∧ c ≤ 9223372036854775807 := sl_form h
theorem sl_elem {e : TypeId} {sz n c i : Nat} {A : Option Addr} {Ts : List Ty} {u : World} (h : (Ty.sl e sz n Ts).ok u (.slice A n c)) (hi : i < n) (hsz : Nat.blt 0 sz = true) :
    ∃ b o vs, elemA sz (.slice A n c) i = some ⟨b, o, none⟩ ∧ cellsOk u ((Ts.drop (i * sz)).take sz) vs ∧ RowAt u b o vs := by
  have hsz : 0 < sz := by simpa [Nat.blt_eq] using hsz
  obtain ⟨hl, A', c', vs, h1, h2, h3, h4, h5⟩ := h
  injection h1 with e1 e2 e3
  subst e1; subst e3
  have hpos : 0 < Ts.length := by rw [hl]; exact Nat.mul_pos (by omega) hsz
  obtain ⟨b, o, rfl, hr⟩ := h5 hpos
  exact ⟨b, o + i * sz, (vs.drop (i * sz)).take sz, by simp [elemA], (h4.drop (i * sz)).take sz, hr.sub _ _⟩
theorem ints_elem {e : TypeId} {c i : Nat} {A : Option Addr} {xs : List Int} {u : World} (h : (Ty.ints e xs).ok u (.slice A xs.length c)) (hi : i < xs.length) :
    ∃ b o, elemA 1 (.slice A xs.length c) i = some ⟨b, o, none⟩ ∧ Cell u b o (.int .i64 (M.nth xs i)) := by
  obtain ⟨b, o, vs, h1, h2, h3⟩ := sl_elem h hi rfl
  refine ⟨b, o, h1, ?_⟩
  have e1 : ((xs.map Ty.int).drop (i * 1)).take 1 = [Ty.int (M.nth xs i)] := by
    rw [Nat.mul_one, List.drop_eq_getElem_cons (by simpa using hi)]
    simp [M.nth, List.getD, hi]
  rw [e1] at h2
  cases vs with
  | nil => exact h2.elim
  | cons v r =>
    obtain ⟨h4, _⟩ := h2
    have h4 : v = .int .i64 (M.nth xs i) := h4
    subst h4
    exact (RowAt.cons.1 h3).1
theorem sl_cut {e : TypeId} {sz n c a b m : Nat} {A : Option Addr} {Ts : List Ty} {u : World} (h : (Ty.sl e sz n Ts).ok u (.slice A n c)) (h1 : a ≤ b) (h2 : b ≤ n) (h3 : b ≤ m) (h4 : m ≤ c) :
    (Ty.sl e sz (b - a) ((Ts.drop (a * sz)).take ((b - a) * sz))).ok u (.slice (cutA sz A a m) (b - a) (m - a)) := by
  obtain ⟨hl, A', c', vs, e1, h5, h6, h7, h8⟩ := h
  injection e1 with e1 e2 e3
  subst e1; subst e3
  have hlen : ((Ts.drop (a * sz)).take ((b - a) * sz)).length = (b - a) * sz := by
    rw [List.length_take, List.length_drop, hl, ← Nat.sub_mul]
    exact Nat.min_eq_left (Nat.mul_le_mul_right _ (by omega))
  refine ⟨hlen, _, _, (vs.drop (a * sz)).take ((b - a) * sz), rfl, by omega, by omega, (h7.drop _).take _, fun hp => ?_⟩
  rw [hlen] at hp
  have hba : 0 < b - a := Nat.pos_of_mul_pos_right hp
  have hsz : 0 < sz := Nat.pos_of_mul_pos_left hp
  obtain ⟨b', o, rfl, hr⟩ := h8 (by rw [hl]; exact Nat.mul_pos (by omega) hsz)
  refine ⟨b', o + a * sz, ?_, hr.sub _ _⟩
  unfold cutA
  rw [if_neg (by omega)]
  simp [addr_add]
theorem ints_cut {e : TypeId} {c a b m : Nat} {A : Option Addr} {xs : List Int} {u : World} (h : (Ty.ints e xs).ok u (.slice A xs.length c)) (h1 : a ≤ b) (h2 : b ≤ xs.length) (h3 : b ≤ m) (h4 : m ≤ c) :
    (Ty.ints e ((xs.drop a).take (b - a))).ok u (.slice (cutA 1 A a m) (b - a) (m - a)) := by
  have := sl_cut h h1 h2 h3 h4
  have hlen : ((xs.drop a).take (b - a)).length = b - a := by rw [List.length_take, List.length_drop]; omega
  unfold Ty.ints
  rw [hlen]
  simpa [List.map_take, List.map_drop] using this
def fldsOf (P : Program) (t : TypeId) : Option (List (Nat × Nat)) := match P.underlying t with
  | some (.struct fs) => fs.toList.mapM fun f => match tyOf P f.type with
    | some (_, s) => some (f.offset, s)
    | none => none
  | _ => none
def fillL (pl : List (Nat × Nat)) : List Value → List (Nat × Value) → Option (List Value)
  | c, [] => some c
  | c, (i, v) :: r => match pl[i]? with
    | none => none
    | some (off, s) => bif Nat.beq (cellsL v).length s && Nat.ble (off + (cellsL v).length) c.length then fillL pl (setL c off (cellsL v)) r else none
theorem foldl_set (vs : List Value) : ∀ (off j : Nat) (c : List Value), off + j + vs.length ≤ c.length →
    ((vs.zipIdx j).foldl (fun cs (x : Value × Nat) => cs.setIfInBounds (off + x.2) x.1) c.toArray) = (setL c (off + j) vs).toArray := by
  induction vs with
  | nil => intro off j c _; simp [setL]
  | cons v r ih =>
    intro off j c h
    simp only [List.length_cons] at h
    simp only [List.zipIdx_cons, List.foldl_cons]
    have e1 : c.toArray.setIfInBounds (off + j) v = (c.set (off + j) v).toArray := by simp
    rw [e1, ih off (j + 1) _ (by rw [List.length_set]; omega)]
    congr 1
    simp only [setL, List.length_cons]
    have e1 : (c.set (off + j) v).take (off + (j + 1)) = c.take (off + j) ++ [v] := by
      rw [show off + (j + 1) = (off + j) + 1 by omega, List.take_succ_eq_append_getElem (by rw [List.length_set]; omega), List.take_set_of_le (by omega)]
      simp
    have e2 : (c.set (off + j) v).drop (off + (j + 1) + r.length) = c.drop (off + j + (r.length + 1)) := by
      rw [List.drop_set_of_lt (by omega)]
      congr 1
      omega
    rw [e1, e2]
    simp
theorem fill_eq (pl : List (Nat × Nat)) : ∀ (parts : List (Nat × Value)) (c vs : List Value), fillL pl c parts = some vs → Instr.fill (pl.toArray[·]?) c.toArray parts = some vs.toArray := by
  intro parts
  induction parts with
  | nil => intro c vs h; simp [fillL] at h; subst h; rfl
  | cons p r ih =>
    obtain ⟨i, v⟩ := p
    intro c vs h
    simp only [fillL] at h
    simp only [Instr.fill, List.getElem?_toArray]
    cases hp : pl[i]? with
    | none => simp [hp] at h
    | some q =>
      obtain ⟨off, s⟩ := q
      simp only [hp] at h
      cases hb : (Nat.beq (cellsL v).length s && Nat.ble (off + (cellsL v).length) c.length) with
      | false => rw [hb] at h; simp at h
      | true =>
        rw [hb] at h
        simp only [Bool.and_eq_true, Nat.beq_eq, Nat.ble_eq] at hb
        obtain ⟨h1, h2⟩ := hb
        have hz := foldl_set (cellsL v) off 0 c (by simpa using h2)
        simp only [Nat.add_zero] at hz
        have e : (v.cells.zipIdx.foldl (fun cs (x : Value × Nat) => cs.setIfInBounds (off + x.2) x.1) c.toArray) = (setL c off (cellsL v)).toArray := by
          rw [cellsL_eq, ← hz]
          simp
        have hs : ¬ (v.cells.size ≠ s) := by rw [cellsL_eq]; simpa using h1
        have hs2 : ¬ (off + v.cells.size > c.toArray.size) := by rw [cellsL_eq]; simpa using h2
        simp only [hs, hs2, decide_false, Bool.or_false, Bool.false_eq_true, if_false]
        rw [e]
        have := ih _ _ (by simpa using h)
        simpa only [List.getElem?_toArray] using this
section
variable {P : Program} {n lo : Nat} {B : List Nat} {l : Fr} {os : List Own} {u : World} {dst : Option Tmp} {ty : TypeId} {pos : String} {af : Array Edge} {gd : Option (Nat × Bool)}
def opdP (l : Fr) : List (Nat × Operand) → Option (List (Nat × Value))
  | [] => some []
  | (i, x) :: r => match opd l x, opdP l r with
    | some v, some vs => some ((i, v) :: vs)
    | _, _ => none
theorem Has.evalP {a : Act} (h : Has n a l) : ∀ {xs : List (Nat × Operand)} {vs : List (Nat × Value)}, opdP l xs = some vs → xs.map (fun (i, x) => (i, a.eval x)) = vs
  | [], vs, ho => by simp [opdP] at ho; subst ho; rfl
  | (i, x) :: r, vs, ho => by
    simp only [opdP] at ho
    cases h1 : opd l x with
    | none => simp [h1] at ho
    | some v =>
      cases h2 : opdP l r with
      | none => simp [h1, h2] at ho
      | some us =>
        simp [h1, h2] at ho
        subst ho
        have := h.evalP h2
        simp only [List.map_cons, h.eval h1, this]
theorem run_zero {t : TypeId} {z : List Value} (hz : zeroOf P t = some z) (w : World) : ∃ zv : Value, (zeroValue t).run P w = .ok zv w ∧ zv.cells = z.toArray := by
  unfold zeroOf at hz
  split at hz
  · rename_i i hi
    split at hz
    · rename_i zv hzz
      simp at hz
      subst hz
      exact ⟨zv, by simp [zeroValue, typeInfo, hi, hzz], by simp⟩
    · simp at hz
  · simp at hz
theorem run_mapPlaces (w : World) : ∀ (fs : List Field) (pl : List (Nat × Nat)), fs.mapM (fun f => match tyOf P f.type with | some (_, s) => some (f.offset, s) | none => none) = some pl →
    (fs.mapM (m := Sem) fun f => do pure (f.offset, ← sizeOf f.type)).run P w = .ok pl w := by
  intro fs
  induction fs with
  | nil => intro pl h; simp at h; subst h; simp
  | cons f r ih =>
    intro pl h
    simp only [List.mapM_cons] at h
    cases ht : tyOf P f.type with
    | none => simp [ht] at h
    | some q =>
      obtain ⟨b, s⟩ := q
      simp only [ht] at h
      cases hr : r.mapM (fun f => match tyOf P f.type with | some (_, s) => some (f.offset, s) | none => none) with
      | none => simp [hr] at h
      | some pl' =>
        simp [hr] at h
        subst h
        have h1 := (run_isAgg (P := P) w ht).2
        simp only [List.mapM_cons, Sem.run_bind, Sem.run_pure, h1, Result.andThen_ok, ih _ hr]
theorem p_build {t : TypeId} {parts : List (Nat × Operand)} {pv : List (Nat × Value)} {pl : List (Nat × Nat)} {z vs : List Value} (hz : zeroOf P t = some z) (hp : fldsOf P t = some pl) (hv : opdP l parts = some pv) (hf : fillL pl z pv = some vs) :
    OpP P n l ⟨dst, .build t parts.toArray, ty, pos, af, gd⟩ (.agg vs.toArray) := fun a w ha => by
  obtain ⟨zv, hz1, hz2⟩ := run_zero hz w
  unfold fldsOf at hp
  split at hp
  · rename_i fs hu
    have h1 := run_mapPlaces (P := P) w fs.toList pl hp
    have h2 : (fs.mapM (m := Sem) fun f => do pure (f.offset, ← sizeOf f.type)).run P w = .ok pl.toArray w := by
      rw [Array.mapM_eq_mapM_toList]; simp only [Sem.run_map, h1, Result.andThen_ok]
    have h3 := fill_eq pl pv z vs hf
    have h4 := ha.evalP hv
    have h5 : (parts.toArray.map fun (i, x) => (i, a.eval x)).toList = pv := by simpa using h4
    simp only [execOp, Instr.build, Sem.run_bind, hz1, Result.andThen_ok, run_underlying hu, h2, hz2, h5, h3, Sem.run_pure]
  · simp at hp
def rowO (e : TypeId) (sz : Nat) (v : Value) (n : Nat) (vs : List Value) (g : List Nat) : Own := ⟨v.ownBlock.toList ++ g, fun w => w.ownsRow 0 e sz v n vs, fun {w w'} h k => by
  refine ⟨k.1, ?_⟩
  rcases k.2 with hn | ⟨g, cap, cur, rfl, hb, hg, r⟩
  · exact .inl hn
  · exact .inr ⟨g, cap, cur, rfl, hb, by rw [h g (by simp [Value.ownBlock])]; exact hg, r⟩⟩
theorem St.newRow {w : World} (h : St lo B u w os) (e : TypeId) (sz m : Nat) (vs : List Value) (hl : vs.length = m * sz) (hm : m ≤ maxLen) :
    St lo B u (w.alloc (.cells vs.toArray e)) (rowO e sz (.slice (some ⟨w.heap.size, 0, none⟩) m m) m vs [] :: os) := by
  refine h.new ((Ext.refl w).alloc _) (o := rowO e sz (.slice (some ⟨w.heap.size, 0, none⟩) m m) m vs []) (fun k hk => ?_) (by simp [rowO, Value.ownBlock]) ?_
  · simp only [rowO, Value.ownBlock, Option.toList_some, List.append_nil, List.mem_singleton] at hk
    subst hk
    simp
  · refine ⟨hl, .inr ⟨w.heap.size, m, vs.toArray, rfl, Nat.zero_le _, heap_alloc_new w _, Nat.le_refl _, hm, by simpa using hl, ?_⟩⟩
    simp [← hl]
def elPl (sz : Nat) : Nat → List (Nat × Nat)
  | 0 => []
  | m + 1 => elPl sz m ++ [(m * sz, sz)]
theorem elPl_get (sz : Nat) : ∀ (m i : Nat), i < m → (elPl sz m)[i]? = some (i * sz, sz)
  | m + 1, i, h => by
    have hl : ∀ m, (elPl sz m).length = m := fun m => by induction m with
      | zero => rfl
      | succ m ih => simp [elPl, ih]
    by_cases e : i = m
    · subst e; simp [elPl, List.getElem?_append, hl]
    · simp only [elPl]
      rw [List.getElem?_append_left (by rw [hl]; omega)]
      exact elPl_get sz m i (by omega)
theorem fill_congr {f g : Nat → Option (Nat × Nat)} : ∀ (parts : List (Nat × Value)) (c : Array Value), (∀ i v, (i, v) ∈ parts → f i = g i) → Instr.fill f c parts = Instr.fill g c parts
  | [], _, _ => rfl
  | (i, v) :: r, c, h => by
    simp only [Instr.fill, h i v (by simp)]
    split
    · rfl
    · split
      · rfl
      · exact fill_congr r _ fun j x hj => h j x (by simp [hj])
def repL (z : List Value) : Nat → List Value
  | 0 => []
  | m + 1 => repL z m ++ z
theorem repL_length (z : List Value) : ∀ m, (repL z m).length = m * z.length
  | 0 => by simp [repL]
  | m + 1 => by simp [repL, repL_length z m, Nat.succ_mul]
theorem zeros_eq (z : List Value) (hz : 0 < z.length) : ∀ m, ((Array.range (m * z.length)).map (z.toArray[· % z.toArray.size]!)) = (repL z m).toArray := by
  intro m
  apply Array.ext'
  simp only [Array.toList_map, Array.toList_range]
  induction m with
  | zero => simp [repL]
  | succ m ih =>
    rw [Nat.succ_mul, List.range_add, List.map_append, ih]
    simp only [repL, List.map_map]
    congr 1
    apply List.ext_getElem
    · simp
    · intro i h1 h2
      simp only [List.length_map, List.length_range] at h1
      simp only [List.getElem_map, List.getElem_range, Function.comp]
      have : (m * z.length + i) % z.length = i := by rw [Nat.mul_comm, Nat.mul_add_mod]; exact Nat.mod_eq_of_lt h1
      simp [this, h1]
theorem e_buildSlice {t e : TypeId} {sz by' m : Nat} {z vs : List Value} {parts : List (Nat × Operand)} {pv : List (Nat × Value)} (ht : elOf P t = some (e, sz, by', z)) (hzl : Nat.beq z.length sz = true) (hz0 : Nat.blt 0 sz = true) (hm : Nat.ble (m * sz) 16777216 = true) (hv : opdP l parts = some pv)
    (hi : pv.all (fun p => Nat.blt p.1 m) = true) (hf : fillL (elPl sz m) (repL z m) pv = some vs) :
    OpE P n lo B l os u ⟨dst, .buildSlice t m parts.toArray, ty, pos, af, gd⟩ true (fun v os' u' => ∃ b, v = .slice (some ⟨b, 0, none⟩) m m ∧ os' = rowO e sz (.slice (some ⟨b, 0, none⟩) m m) m vs [] :: os ∧ vs.length = m * sz ∧ u = u') := fun a w ha hw K Q hk => by
  have hzl : z.length = sz := by simpa [Nat.beq_eq] using hzl
  have hz0 : 0 < sz := by simpa [Nat.blt_eq] using hz0
  have hm : m * sz ≤ 16777216 := by simpa [Nat.ble_eq] using hm
  subst hzl
  unfold elOf at ht
  split at ht
  · rename_i e' hu
    split at ht
    · rename_i i' hi'
      split at ht
      · rename_i zv hzz
        simp only [Option.some.injEq, Prod.mk.injEq] at ht
        obtain ⟨rfl, hs1, rfl, rfl⟩ := ht
        have h4 := ha.evalP hv
        have h5 : (parts.toArray.map fun (i, x) => (i, a.eval x)).toList = pv := by simpa using h4
        have h6 : Instr.fill (fun i => some (i * zv.cells.toList.length, zv.cells.toList.length)) (repL zv.cells.toList m).toArray pv = some vs.toArray := by
          rw [← fill_eq _ _ _ _ hf]
          refine fill_congr pv _ fun i v hiv => ?_
          have := List.all_eq_true.1 hi _ hiv
          rw [List.getElem?_toArray, elPl_get _ _ _ (by simpa [Nat.blt_eq] using this)]
        have hlen : vs.length = m * zv.cells.toList.length := by
          have : ∀ (parts : List (Nat × Value)) (c d : List Value), fillL (elPl zv.cells.toList.length m) c parts = some d → d.length = c.length := by
            intro parts
            induction parts with
            | nil => intro c d h; simp [fillL] at h; rw [h]
            | cons p r ih =>
              obtain ⟨i, v⟩ := p
              intro c d h
              simp only [fillL] at h
              split at h
              · simp at h
              · rename_i off s _
                cases hb : (Nat.beq (cellsL v).length s && Nat.ble (off + (cellsL v).length) c.length) with
                | false => rw [hb] at h; simp at h
                | true =>
                  rw [hb] at h
                  simp only [Bool.and_eq_true, Nat.ble_eq] at hb
                  rw [ih _ _ (by simpa using h)]
                  simp only [setL, List.length_append, List.length_take, List.length_drop]
                  have := hb.2
                  omega
          rw [this _ _ _ hf, repL_length]
        have hbig : ¬ (m * zv.cells.toList.length > 2 ^ 24) := by omega
        have hrep : ((Array.range (m * zv.cells.toList.length)).map ((if m * zv.cells.toList.length = 0 then #[] else zv.cells)[· % (if m * zv.cells.toList.length = 0 then #[] else zv.cells).size]!)) = (repL zv.cells.toList m).toArray := by
          split
          · rename_i h0
            have : m = 0 := by rcases Nat.mul_eq_zero.1 h0 with h | h <;> omega
            subst this
            simp [repL]
          · have := zeros_eq zv.cells.toList hz0 m
            simpa using this
        have hr : (execOp a.eval ⟨dst, .buildSlice t m parts.toArray, ty, pos, af, gd⟩).run P w = .ok (.value (.slice (some ⟨w.heap.size, 0, none⟩) m m)) (w.alloc (.cells vs.toArray e')) := by
          simp only [execOp, Instr.buildSlice, Sem.run_bind, run_underlying hu, Result.andThen_ok, sizeOf, typeInfo, run_program, hi', Sem.run_pure, hs1, hbig, if_false, h5]
          by_cases h0 : m * zv.cells.toList.length = 0
          · rw [if_pos h0] at hrep ⊢
            simp only [Sem.run_bind, Sem.run_pure, Result.andThen_ok, hrep, h6, newRow, run_newObj]
            rfl
          · rw [if_neg h0] at hrep ⊢
            simp only [zeroValue, typeInfo, Sem.run_bind, run_program, hi', hzz, Sem.run_pure, Result.andThen_ok, hrep, h6, newRow, run_newObj]
            rfl
        unfold Oper.wp
        rw [hr]
        exact hk _ _ u _ ⟨_, rfl, rfl, hlen, rfl⟩ (Up.refl lo u) (hw.newRow e' zv.cells.toList.length m vs hlen (by unfold maxLen; have : m ≤ m * zv.cells.toList.length := Nat.le_mul_of_pos_right _ hz0; omega)) (fun _ => (Ext.refl w).alloc _)
      · simp at ht
    · simp at ht
  · simp at ht
end
end Go.Proofs.Ytejnmechnhgmfaa

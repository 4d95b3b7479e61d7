/- A framework for walks: slices, aggregates, appends, the ends of calls. -/
import Derived.Test.YtjklnidbndopiaaGreatDoorZbA0
import Derived.Laws.MakeOwn
import Derived.Laws.StructEq
set_option linter.unusedSimpArgs false
set_option linter.unusedVariables false
namespace Go.Proofs.YtjklnidbndopiaaGreatDoor
open Go.RowKit
theorem sl_form {e : TypeId} {sz n : Nat} {Ts : List Ty} {u : World} {v : Value} (h : (Ty.sl e sz n Ts).ok u v) : ∃ A c, v = .slice A n c ∧ n ≤ c ∧ c ≤ 9223372036854775807 := by
  obtain ⟨_, A, c, vs, h1, h2, h3, _⟩ := h
  exact ⟨A, c, h1, h2, by unfold maxLen at h3; omega⟩
theorem ints_form {e : TypeId} {xs : List Int} {u : World} {v : Value} (h : (Ty.ints e xs).ok u v) : ∃ A c, v = .slice A xs.length c ∧ xs.length ≤ c ∧ c ≤ 9223372036854775807 := sl_form h
theorem sl_elem {e : TypeId} {sz n c i : Nat} {A : Option Addr} {Ts : List Ty} {u : World} (h : (Ty.sl e sz n Ts).ok u (.slice A n c)) (hi : i < n) (hsz : Nat.blt 0 sz = true) :
    ∃ b o vs, elemA sz (.slice A n c) i = some ⟨b, o, none⟩ ∧ cellsOk u ((Ts.drop (i * sz)).take sz) vs ∧ RowAt u b o vs := by
  have hsz : 0 < sz := by simpa [Nat.blt_eq] using hsz
  obtain ⟨hl, A', c', vs, h1, h2, h3, h4, h5⟩ := h
  injection h1 with e1 e2 e3
  subst e1; subst e3
  have hpos : 0 < Ts.length := by rw [hl]; exact Nat.mul_pos (by omega) hsz
  obtain ⟨b, o, rfl, hr⟩ := h5 hpos
  exact ⟨b, o + i * sz, (vs.drop (i * sz)).take sz, by simp [elemA], (h4.drop (i * sz)).take sz, hr.sub _ _⟩
theorem ints_elem {e : TypeId} {c i : Nat} {A : Option Addr} {xs : List Int} {u : World} (h : (Ty.ints e xs).ok u (.slice A xs.length c)) (hi : i < xs.length) :
    ∃ b o, elemA 1 (.slice A xs.length c) i = some ⟨b, o, none⟩ ∧ Cell u b o (.int .i64 (M.nth xs i)) := by
  obtain ⟨b, o, vs, h1, h2, h3⟩ := sl_elem h hi rfl
  refine ⟨b, o, h1, ?_⟩
  have e1 : ((xs.map Ty.int).drop (i * 1)).take 1 = [Ty.int (M.nth xs i)] := by
    rw [Nat.mul_one, List.drop_eq_getElem_cons (by simpa using hi)]
    simp [M.nth, List.getD, hi]
  rw [e1] at h2
  cases vs with
  | nil => exact h2.elim
  | cons v r =>
    obtain ⟨h4, _⟩ := h2
    have h4 : v = .int .i64 (M.nth xs i) := h4
    subst h4
    exact (RowAt.cons.1 h3).1
theorem sl_cut {e : TypeId} {sz n c a b m : Nat} {A : Option Addr} {Ts : List Ty} {u : World} (h : (Ty.sl e sz n Ts).ok u (.slice A n c)) (h1 : a ≤ b) (h2 : b ≤ n) (h3 : b ≤ m) (h4 : m ≤ c) :
    (Ty.sl e sz (b - a) ((Ts.drop (a * sz)).take ((b - a) * sz))).ok u (.slice (cutA sz A a m) (b - a) (m - a)) := by
  obtain ⟨hl, A', c', vs, e1, h5, h6, h7, h8⟩ := h
  injection e1 with e1 e2 e3
  subst e1; subst e3
  have hlen : ((Ts.drop (a * sz)).take ((b - a) * sz)).length = (b - a) * sz := by
    rw [List.length_take, List.length_drop, hl, ← Nat.sub_mul]
    exact Nat.min_eq_left (Nat.mul_le_mul_right _ (by omega))
  refine ⟨hlen, _, _, (vs.drop (a * sz)).take ((b - a) * sz), rfl, by omega, by omega, (h7.drop _).take _, fun hp => ?_⟩
  rw [hlen] at hp
  have hba : 0 < b - a := Nat.pos_of_mul_pos_right hp
  have hsz : 0 < sz := Nat.pos_of_mul_pos_left hp
  obtain ⟨b', o, rfl, hr⟩ := h8 (by rw [hl]; exact Nat.mul_pos (by omega) hsz)
  refine ⟨b', o + a * sz, ?_, hr.sub _ _⟩
  unfold cutA
  rw [if_neg (by omega)]
  simp [addr_add]
theorem ints_cut {e : TypeId} {c a b m : Nat} {A : Option Addr} {xs : List Int} {u : World} (h : (Ty.ints e xs).ok u (.slice A xs.length c)) (h1 : a ≤ b) (h2 : b ≤ xs.length) (h3 : b ≤ m) (h4 : m ≤ c) :
    (Ty.ints e ((xs.drop a).take (b - a))).ok u (.slice (cutA 1 A a m) (b - a) (m - a)) := by
  have := sl_cut h h1 h2 h3 h4
  have hlen : ((xs.drop a).take (b - a)).length = b - a := by rw [List.length_take, List.length_drop]; omega
  unfold Ty.ints
  rw [hlen]
  simpa [List.map_take, List.map_drop] using this
def fldsOf (P : Program) (t : TypeId) : Option (List (Nat × Nat)) := match P.underlying t with
  | some (.struct fs) => fs.toList.mapM fun f => match tyOf P f.type with
    | some (_, s) => some (f.offset, s)
    | none => none
  | _ => none
def fillL (pl : List (Nat × Nat)) : List Value → List (Nat × Value) → Option (List Value)
  | c, [] => some c
  | c, (i, v) :: r => match pl[i]? with
    | none => none
    | some (off, s) => bif Nat.beq (cellsL v).length s && Nat.ble (off + (cellsL v).length) c.length then fillL pl (setL c off (cellsL v)) r else none
theorem foldl_set (vs : List Value) : ∀ (off j : Nat) (c : List Value), off + j + vs.length ≤ c.length →
    ((vs.zipIdx j).foldl (fun cs (x : Value × Nat) => cs.setIfInBounds (off + x.2) x.1) c.toArray) = (setL c (off + j) vs).toArray := by
  induction vs with
  | nil => intro off j c _; simp [setL]
  | cons v r ih =>
    intro off j c h
    simp only [List.length_cons] at h
    simp only [List.zipIdx_cons, List.foldl_cons]
    have e1 : c.toArray.setIfInBounds (off + j) v = (c.set (off + j) v).toArray := by simp
    rw [e1, ih off (j + 1) _ (by rw [List.length_set]; omega)]
    congr 1
    simp only [setL, List.length_cons]
    have e1 : (c.set (off + j) v).take (off + (j + 1)) = c.take (off + j) ++ [v] := by
      rw [show off + (j + 1) = (off + j) + 1 by omega, List.take_succ_eq_append_getElem (by rw [List.length_set]; omega), List.take_set_of_le (by omega)]
      simp
    have e2 : (c.set (off + j) v).drop (off + (j + 1) + r.length) = c.drop (off + j + (r.length + 1)) := by
      rw [List.drop_set_of_lt (by omega)]
      congr 1
      omega
    rw [e1, e2]
    simp
theorem fill_eq (pl : List (Nat × Nat)) : ∀ (parts : List (Nat × Value)) (c vs : List Value), fillL pl c parts = some vs → Instr.fill (pl.toArray[·]?) c.toArray parts = some vs.toArray := by
  intro parts
  induction parts with
  | nil => intro c vs h; simp [fillL] at h; subst h; rfl
  | cons p r ih =>
    obtain ⟨i, v⟩ := p
    intro c vs h
    simp only [fillL] at h
    simp only [Instr.fill, List.getElem?_toArray]
    cases hp : pl[i]? with
    | none => simp [hp] at h
    | some q =>
      obtain ⟨off, s⟩ := q
      simp only [hp] at h
      cases hb : (Nat.beq (cellsL v).length s && Nat.ble (off + (cellsL v).length) c.length) with
      | false => rw [hb] at h; simp at h
      | true =>
        rw [hb] at h
        simp only [Bool.and_eq_true, Nat.beq_eq, Nat.ble_eq] at hb
        obtain ⟨h1, h2⟩ := hb
        have hz := foldl_set (cellsL v) off 0 c (by simpa using h2)
        simp only [Nat.add_zero] at hz
        have e : (v.cells.zipIdx.foldl (fun cs (x : Value × Nat) => cs.setIfInBounds (off + x.2) x.1) c.toArray) = (setL c off (cellsL v)).toArray := by
          rw [cellsL_eq, ← hz]
          simp
        have hs : ¬ (v.cells.size ≠ s) := by rw [cellsL_eq]; simpa using h1
        have hs2 : ¬ (off + v.cells.size > c.toArray.size) := by rw [cellsL_eq]; simpa using h2
        simp only [hs, hs2, decide_false, Bool.or_false, Bool.false_eq_true, if_false]
        rw [e]
        have := ih _ _ (by simpa using h)
        simpa only [List.getElem?_toArray] using this
section
variable {P : Program} {n lo : Nat} {B : List Nat} {l : Fr} {os : List Own} {u : World} {dst : Option Tmp} {ty : TypeId} {pos : String} {af : Array Edge} {gd : Option (Nat × Bool)}
def opdP (l : Fr) : List (Nat × Operand) → Option (List (Nat × Value))
  | [] => some []
  | (i, x) :: r => match opd l x, opdP l r with
    | some v, some vs => some ((i, v) :: vs)
    | _, _ => none
theorem Has.evalP {a : Act} (h : Has n a l) : ∀ {xs : List (Nat × Operand)} {vs : List (Nat × Value)}, opdP l xs = some vs → xs.map (fun (i, x) => (i, a.eval x)) = vs
  | [], vs, ho => by simp [opdP] at ho; subst ho; rfl
  | (i, x) :: r, vs, ho => by
    simp only [opdP] at ho
    cases h1 : opd l x with
    | none => simp [h1] at ho
    | some v =>
      cases h2 : opdP l r with
      | none => simp [h1, h2] at ho
      | some us =>
        simp [h1, h2] at ho
        subst ho
        have := h.evalP h2
        simp only [List.map_cons, h.eval h1, this]
theorem run_zero {t : TypeId} {z : List Value} (hz : zeroOf P t = some z) (w : World) : ∃ zv : Value, (zeroValue t).run P w = .ok zv w ∧ zv.cells = z.toArray := by
  unfold zeroOf at hz
  split at hz
  · rename_i i hi
    split at hz
    · rename_i zv hzz
      simp at hz
      subst hz
      exact ⟨zv, by simp [zeroValue, typeInfo, hi, hzz], by simp⟩
    · simp at hz
  · simp at hz
theorem run_mapPlaces (w : World) : ∀ (fs : List Field) (pl : List (Nat × Nat)), fs.mapM (fun f => match tyOf P f.type with | some (_, s) => some (f.offset, s) | none => none) = some pl →
    (fs.mapM (m := Sem) fun f => do pure (f.offset, ← sizeOf f.type)).run P w = .ok pl w := by
  intro fs
  induction fs with
  | nil => intro pl h; simp at h; subst h; simp
  | cons f r ih =>
    intro pl h
    simp only [List.mapM_cons] at h
    cases ht : tyOf P f.type with
    | none => simp [ht] at h
    | some q =>
      obtain ⟨b, s⟩ := q
      simp only [ht] at h
      cases hr : r.mapM (fun f => match tyOf P f.type with | some (_, s) => some (f.offset, s) | none => none) with
      | none => simp [hr] at h
      | some pl' =>
        simp [hr] at h
        subst h
        have h1 := (run_isAgg (P := P) w ht).2
        simp only [List.mapM_cons, Sem.run_bind, Sem.run_pure, h1, Result.andThen_ok, ih _ hr]
theorem p_build {t : TypeId} {parts : List (Nat × Operand)} {pv : List (Nat × Value)} {pl : List (Nat × Nat)} {z vs : List Value} (hz : zeroOf P t = some z) (hp : fldsOf P t = some pl) (hv : opdP l parts = some pv) (hf : fillL pl z pv = some vs) :
    OpP P n l ⟨dst, .build t parts.toArray, ty, pos, af, gd⟩ (.agg vs.toArray) := fun a w ha => by
  obtain ⟨zv, hz1, hz2⟩ := run_zero hz w
  unfold fldsOf at hp
  split at hp
  · rename_i fs hu
    have h1 := run_mapPlaces (P := P) w fs.toList pl hp
    have h2 : (fs.mapM (m := Sem) fun f => do pure (f.offset, ← sizeOf f.type)).run P w = .ok pl.toArray w := by
      rw [Array.mapM_eq_mapM_toList]; simp only [Sem.run_map, h1, Result.andThen_ok]
    have h3 := fill_eq pl pv z vs hf
    have h4 := ha.evalP hv
    have h5 : (parts.toArray.map fun (i, x) => (i, a.eval x)).toList = pv := by simpa using h4
    simp only [execOp, Instr.build, Sem.run_bind, hz1, Result.andThen_ok, run_underlying hu, h2, hz2, h5, h3, Sem.run_pure]
  · simp at hp
def rowO (e : TypeId) (sz : Nat) (v : Value) (n : Nat) (vs : List Value) (g : List Nat) : Own := ⟨v.ownBlock.toList ++ g, fun w => w.ownsRow 0 e sz v n vs, fun {w w'} h k => by
  refine ⟨k.1, ?_⟩
  rcases k.2 with hn | ⟨g, cap, cur, rfl, hb, hg, r⟩
  · exact .inl hn
  · exact .inr ⟨g, cap, cur, rfl, hb, by rw [h g (by simp [Value.ownBlock])]; exact hg, r⟩⟩
theorem St.newRow {w : World} (h : St lo B u w os) (e : TypeId) (sz m : Nat) (vs : List Value) (hl : vs.length = m * sz) (hm : m ≤ maxLen) :
    St lo B u (w.alloc (.cells vs.toArray e)) (rowO e sz (.slice (some ⟨w.heap.size, 0, none⟩) m m) m vs [] :: os) := by
  refine h.new ((Ext.refl w).alloc _) (o := rowO e sz (.slice (some ⟨w.heap.size, 0, none⟩) m m) m vs []) (fun k hk => ?_) (by simp [rowO, Value.ownBlock]) ?_
  · simp only [rowO, Value.ownBlock, Option.toList_some, List.append_nil, List.mem_singleton] at hk
    subst hk
    simp
  · refine ⟨hl, .inr ⟨w.heap.size, m, vs.toArray, rfl, Nat.zero_le _, heap_alloc_new w _, Nat.le_refl _, hm, by simpa using hl, ?_⟩⟩
    simp [← hl]
def elPl (sz : Nat) : Nat → List (Nat × Nat)
  | 0 => []
  | m + 1 => elPl sz m ++ [(m * sz, sz)]
theorem elPl_get (sz : Nat) : ∀ (m i : Nat), i < m → (elPl sz m)[i]? = some (i * sz, sz)
  | m + 1, i, h => by
    have hl : ∀ m, (elPl sz m).length = m := fun m => by induction m with
      | zero => rfl
      | succ m ih => simp [elPl, ih]
    by_cases e : i = m
    · subst e; simp [elPl, List.getElem?_append, hl]
    · simp only [elPl]
      rw [List.getElem?_append_left (by rw [hl]; omega)]
      exact elPl_get sz m i (by omega)
theorem fill_congr {f g : Nat → Option (Nat × Nat)} : ∀ (parts : List (Nat × Value)) (c : Array Value), (∀ i v, (i, v) ∈ parts → f i = g i) → Instr.fill f c parts = Instr.fill g c parts
  | [], _, _ => rfl
  | (i, v) :: r, c, h => by
    simp only [Instr.fill, h i v (by simp)]
    split
    · rfl
    · split
      · rfl
      · exact fill_congr r _ fun j x hj => h j x (by simp [hj])
def repL (z : List Value) : Nat → List Value
  | 0 => []
  | m + 1 => repL z m ++ z
theorem repL_length (z : List Value) : ∀ m, (repL z m).length = m * z.length
  | 0 => by simp [repL]
  | m + 1 => by simp [repL, repL_length z m, Nat.succ_mul]
theorem zeros_eq (z : List Value) (hz : 0 < z.length) : ∀ m, ((Array.range (m * z.length)).map (z.toArray[· % z.toArray.size]!)) = (repL z m).toArray := by
  intro m
  apply Array.ext'
  simp only [Array.toList_map, Array.toList_range]
  induction m with
  | zero => simp [repL]
  | succ m ih =>
    rw [Nat.succ_mul, List.range_add, List.map_append, ih]
    simp only [repL, List.map_map]
    congr 1
    apply List.ext_getElem
    · simp
    · intro i h1 h2
      simp only [List.length_map, List.length_range] at h1
      simp only [List.getElem_map, List.getElem_range, Function.comp]
      have : (m * z.length + i) % z.length = i := by rw [Nat.mul_comm, Nat.mul_add_mod]; exact Nat.mod_eq_of_lt h1
      simp [this, h1]
theorem e_buildSlice {t e : TypeId} {sz by' m : Nat} {z vs : List Value} {parts : List (Nat × Operand)} {pv : List (Nat × Value)} (ht : elOf P t = some (e, sz, by', z)) (hzl : Nat.beq z.length sz = true) (hz0 : Nat.blt 0 sz = true) (hm : Nat.ble (m * sz) 16777216 = true) (hv : opdP l parts = some pv)
    (hi : pv.all (fun p => Nat.blt p.1 m) = true) (hf : fillL (elPl sz m) (repL z m) pv = some vs) :
    OpE P n lo B l os u ⟨dst, .buildSlice t m parts.toArray, ty, pos, af, gd⟩ true (fun v os' u' => ∃ b, v = .slice (some ⟨b, 0, none⟩) m m ∧ os' = rowO e sz (.slice (some ⟨b, 0, none⟩) m m) m vs [] :: os ∧ vs.length = m * sz ∧ u = u') := fun a w ha hw K Q hk => by
  have hzl : z.length = sz := by simpa [Nat.beq_eq] using hzl
  have hz0 : 0 < sz := by simpa [Nat.blt_eq] using hz0
  have hm : m * sz ≤ 16777216 := by simpa [Nat.ble_eq] using hm
  subst hzl
  unfold elOf at ht
  split at ht
  · rename_i e' hu
    split at ht
    · rename_i i' hi'
      split at ht
      · rename_i zv hzz
        simp only [Option.some.injEq, Prod.mk.injEq] at ht
        obtain ⟨rfl, hs1, rfl, rfl⟩ := ht
        have h4 := ha.evalP hv
        have h5 : (parts.toArray.map fun (i, x) => (i, a.eval x)).toList = pv := by simpa using h4
        have h6 : Instr.fill (fun i => some (i * zv.cells.toList.length, zv.cells.toList.length)) (repL zv.cells.toList m).toArray pv = some vs.toArray := by
          rw [← fill_eq _ _ _ _ hf]
          refine fill_congr pv _ fun i v hiv => ?_
          have := List.all_eq_true.1 hi _ hiv
          rw [List.getElem?_toArray, elPl_get _ _ _ (by simpa [Nat.blt_eq] using this)]
        have hlen : vs.length = m * zv.cells.toList.length := by
          have : ∀ (parts : List (Nat × Value)) (c d : List Value), fillL (elPl zv.cells.toList.length m) c parts = some d → d.length = c.length := by
            intro parts
            induction parts with
            | nil => intro c d h; simp [fillL] at h; rw [h]
            | cons p r ih =>
              obtain ⟨i, v⟩ := p
              intro c d h
              simp only [fillL] at h
              split at h
              · simp at h
              · rename_i off s _
                cases hb : (Nat.beq (cellsL v).length s && Nat.ble (off + (cellsL v).length) c.length) with
                | false => rw [hb] at h; simp at h
                | true =>
                  rw [hb] at h
                  simp only [Bool.and_eq_true, Nat.ble_eq] at hb
                  rw [ih _ _ (by simpa using h)]
                  simp only [setL, List.length_append, List.length_take, List.length_drop]
                  have := hb.2
                  omega
          rw [this _ _ _ hf, repL_length]
        have hbig : ¬ (m * zv.cells.toList.length > 2 ^ 24) := by omega
        have hrep : ((Array.range (m * zv.cells.toList.length)).map ((if m * zv.cells.toList.length = 0 then #[] else zv.cells)[· % (if m * zv.cells.toList.length = 0 then #[] else zv.cells).size]!)) = (repL zv.cells.toList m).toArray := by
          split
          · rename_i h0
            have : m = 0 := by rcases Nat.mul_eq_zero.1 h0 with h | h <;> omega
            subst this
            simp [repL]
          · have := zeros_eq zv.cells.toList hz0 m
            simpa using this
        have hr : (execOp a.eval ⟨dst, .buildSlice t m parts.toArray, ty, pos, af, gd⟩).run P w = .ok (.value (.slice (some ⟨w.heap.size, 0, none⟩) m m)) (w.alloc (.cells vs.toArray e')) := by
          simp only [execOp, Instr.buildSlice, Sem.run_bind, run_underlying hu, Result.andThen_ok, sizeOf, typeInfo, run_program, hi', Sem.run_pure, hs1, hbig, if_false, h5]
          by_cases h0 : m * zv.cells.toList.length = 0
          · rw [if_pos h0] at hrep ⊢
            simp only [Sem.run_bind, Sem.run_pure, Result.andThen_ok, hrep, h6, newRow, run_newObj]
            rfl
          · rw [if_neg h0] at hrep ⊢
            simp only [zeroValue, typeInfo, Sem.run_bind, run_program, hi', hzz, Sem.run_pure, Result.andThen_ok, hrep, h6, newRow, run_newObj]
            rfl
        unfold Oper.wp
        rw [hr]
        exact hk _ _ u _ ⟨_, rfl, rfl, hlen, rfl⟩ (Up.refl lo u) (hw.newRow e' zv.cells.toList.length m vs hlen (by unfold maxLen; have : m ≤ m * zv.cells.toList.length := Nat.le_mul_of_pos_right _ hz0; omega)) (fun _ => (Ext.refl w).alloc _)
      · simp at ht
    · simp at ht
  · simp at ht
end
section
variable {P : Program} {n lo : Nat} {B : List Nat} {Q : Exit → Act → World → Prop} {cs : List Code} {K : Act → World → Prop} {ops : Array Oper} {rest : List Oper} {l : Fr} {os : List Own} {u : World} {dst : Option Tmp} {ty : TypeId} {pos : String} {af : Array Edge} {gd : Option (Nat × Bool)}
theorem nodup_mem : ∀ {os : List Own} {o : Own}, (os.flatMap (·.fp)).Nodup → o ∈ os → o.fp.Nodup
  | x :: r, o, h, ho => by
    rw [List.flatMap_cons, List.nodup_append] at h
    rcases List.mem_cons.1 ho with rfl | ho
    · exact h.1
    · exact nodup_mem h.2.1 ho
theorem Js.fact {φ : Prop} (h : ∀ w, St lo B u w os → φ) (k : φ → Js P n lo B Q cs l os u) : Js P n lo B Q cs l os u := fun a w ha hw => k (h w hw) a w ha hw
theorem JL.fact {φ : Prop} (h : ∀ w, St lo B u w os → φ) (k : φ → JL P n lo B K ops rest l os u) : JL P n lo B K ops rest l os u := fun a w ha hw => k (h w hw) a w ha hw
theorem JH.fact {u₀ : World} {os₀ : List Own} {nm : List Nat} {fuel : Nat} {listed : Array Bool} {z : Bool} {φ : Prop} (h : ∀ w, St lo B u w os → φ) (k : φ → JH P n lo B K ops u₀ os₀ nm fuel listed z l os u) : JH P n lo B K ops u₀ os₀ nm fuel listed z l os u := fun a w ha hw hz hv => k (h w hw) a w ha hw hz hv
theorem JH.conv {u₀ : World} {os₀ os' : List Own} {nm : List Nat} {fuel : Nat} {listed : Array Bool} {z : Bool} (ho : ∀ w, St lo B u w os → St lo B u w os') (k : JH P n lo B K ops u₀ os₀ nm fuel listed z l os' u) : JH P n lo B K ops u₀ os₀ nm fuel listed z l os u := fun a w ha hw hz hv => k a w ha (ho w hw) hz hv
theorem JHo.fact {u₀ : World} {os₀ : List Own} {nm : List Nat} {fuel i : Nat} {listed : Array Bool} {z : Bool} {φ : Prop} (h : ∀ w, St lo B u w os → φ) (k : φ → JHo P n lo B K ops u₀ os₀ nm fuel listed z l os u i) : JHo P n lo B K ops u₀ os₀ nm fuel listed z l os u i := fun a w ha hw hz hv => k (h w hw) a w ha hw hz hv
theorem JHo.conv {u₀ : World} {os₀ os' : List Own} {nm : List Nat} {fuel i : Nat} {listed : Array Bool} {z : Bool} (ho : ∀ w, St lo B u w os → St lo B u w os') (k : JHo P n lo B K ops u₀ os₀ nm fuel listed z l os' u i) : JHo P n lo B K ops u₀ os₀ nm fuel listed z l os u i := fun a w ha hw hz hv => k a w ha (ho w hw) hz hv
theorem Js.release {i : Nat} {o : Own} {φ : World → Prop} (hB : B = []) (hi : os[i]? = some o) (hφ : ∀ w u', o.pr w → u'.heap.size = w.heap.size → (∀ k ∈ o.fp, u'.heap[k]? = w.heap[k]?) → φ u')
    (k : ∀ u', Up lo u u' → φ u' → Js P n lo B Q cs l (os.eraseIdx i) u') : Js P n lo B Q cs l os u := fun a w ha hw => by
  obtain ⟨u', h1, h2, h3, h4⟩ := hw.release hi hB
  exact k u' h1 (hφ w u' (hw.prs _ (List.mem_of_getElem? hi)) h3 h4) a w ha h2
theorem Js.drop {i : Nat} {o : Own} (hB : B = []) (hi : os[i]? = some o) (k : ∀ u', Up lo u u' → Js P n lo B Q cs l (os.eraseIdx i) u') : Js P n lo B Q cs l os u :=
  Js.release (φ := fun _ => True) hB hi (fun _ _ _ _ _ => trivial) (fun u' h _ => k u' h)
theorem Js.condT {c : Operand} {b : Bool} {x y : Code} (hc : opd l c = some (.bool b)) (hb : b = true) (h : Js P n lo B Q (x :: cs) l os u) : Js P n lo B Q (.cond c x y :: cs) l os u := by
  subst hb; exact Js.cond hc (fun _ => h) (fun e => by cases e)
theorem Js.condF {c : Operand} {b : Bool} {x y : Code} (hc : opd l c = some (.bool b)) (hb : b = false) (h : Js P n lo B Q (y :: cs) l os u) : Js P n lo B Q (.cond c x y :: cs) l os u := by
  subst hb; exact Js.cond hc (fun e => by cases e) (fun _ => h)
theorem Js.blockEnd {i : Nat} (h : Js P n lo B Q cs l os u) : Js P n lo B (BQ i (seqs P Q cs) Q) [] l os u := h
def ownC (Ts : List Ty) (vs : List Value) (f : List Nat) : Own := ⟨f, fun w => cellsOwn w Ts vs f, fun h k => k.loc h⟩
theorem Mem.ownC {i : Nat} {Ts : List Ty} {vs : List Value} {f : List Nat} (hi : os[i]? = some (ownC Ts vs f)) : Mem lo B u os fun w => cellsOk w Ts vs := fun _ hw => (hw.prs _ (List.mem_of_getElem? hi)).ok
theorem St.swap {w : World} (h : St lo B u w os) {os' : List Own} (hp : os'.Perm os) : St lo B u w os' :=
  h.conv (fun o ho => h.prs o (hp.mem_iff.1 ho)) (hp.flatMap_right _)
theorem St.front {w : World} (h : St lo B u w os) {i : Nat} {o : Own} (hi : os[i]? = some o) : St lo B u w (o :: os.eraseIdx i) := by
  refine h.swap ?_
  have hlt := (List.getElem?_eq_some_iff.1 hi).1
  have he := (List.getElem?_eq_some_iff.1 hi).2
  rw [List.eraseIdx_eq_take_drop_succ]
  have e : os = os.take i ++ o :: os.drop (i + 1) := by rw [← he, ← List.drop_eq_getElem_cons hlt, List.take_append_drop]
  refine List.Perm.trans (List.perm_middle (a := o) (l₁ := os.take i) (l₂ := os.drop (i + 1))).symm ?_
  exact List.Perm.of_eq e.symm
theorem St.join {w : World} {Ts Us : List Ty} {vs us : List Value} {f g : List Nat} (h : St lo B u w (ownC Ts vs f :: ownC Us us g :: os)) : St lo B u w (ownC (Ts ++ Us) (vs ++ us) (f ++ g) :: os) := by
  refine h.conv (fun o ho => ?_) ?_
  · rcases List.mem_cons.1 ho with rfl | ho
    · exact cellsOwn.append (h.prs (Go.Proofs.YtjklnidbndopiaaGreatDoor.ownC Ts vs f) (by simp)) (h.prs (Go.Proofs.YtjklnidbndopiaaGreatDoor.ownC Us us g) (by simp))
    · exact h.prs o (by simp [ho])
  · simp [Go.Proofs.YtjklnidbndopiaaGreatDoor.ownC]
theorem St.part {w : World} {Ts Us : List Ty} {vs us : List Value} {f : List Nat} (h : St lo B u w (ownC (Ts ++ Us) (vs ++ us) f :: os)) (hl : vs.length = Ts.length) : ∃ f1 f2, St lo B u w (ownC Ts vs f1 :: ownC Us us f2 :: os) := by
  have key : ∀ (Ts : List Ty) (vs : List Value) (f : List Nat), vs.length = Ts.length → cellsOwn w (Ts ++ Us) (vs ++ us) f → ∃ f1 f2, f = f1 ++ f2 ∧ cellsOwn w Ts vs f1 ∧ cellsOwn w Us us f2 := by
    intro Ts
    induction Ts with
    | nil => intro vs f hl h; cases vs with
      | nil => exact ⟨[], f, rfl, rfl, h⟩
      | cons v r => simp at hl
    | cons T r ih => intro vs f hl h; cases vs with
      | nil => simp at hl
      | cons v vr =>
        obtain ⟨f1, f2, rfl, h1, h2⟩ := h
        obtain ⟨g1, g2, rfl, h3, h4⟩ := ih vr f2 (by simpa using hl) h2
        exact ⟨f1 ++ g1, g2, by simp, ⟨f1, g1, rfl, h1, h3⟩, h4⟩
  obtain ⟨f1, f2, rfl, h1, h2⟩ := key Ts vs f hl (h.prs (Go.Proofs.YtjklnidbndopiaaGreatDoor.ownC (Ts ++ Us) (vs ++ us) f) (by simp))
  refine ⟨f1, f2, h.conv (fun o ho => ?_) ?_⟩
  · simp only [List.mem_cons] at ho
    rcases ho with rfl | rfl | ho
    · exact h1
    · exact h2
    · exact h.prs o (by simp [ho])
  · simp [Go.Proofs.YtjklnidbndopiaaGreatDoor.ownC]
theorem St.addVals {w : World} (h : St lo B u w os) {Ts : List Ty} {vs : List Value} (hc : cellsOwn w Ts vs []) : St lo B u w (ownC Ts vs [] :: os) := by
  refine h.conv (fun o ho => ?_) (by simp [Go.Proofs.YtjklnidbndopiaaGreatDoor.ownC])
  rcases List.mem_cons.1 ho with rfl | ho
  · exact hc
  · exact h.prs o ho
theorem Mem.row {i b o c m sz : Nat} {e : TypeId} {vs : List Value} {g : List Nat} {x : Value} (hi : os[i]? = some (rowO e sz (.slice (some ⟨b, 0, none⟩) m c) m vs g)) (hx : vs[o]? = some x) : Mem lo B u os fun w => Cell w b o x := fun w hw => by
  obtain ⟨h1, h2⟩ := hw.prs _ (List.mem_of_getElem? hi)
  rcases h2 with ⟨h2, _⟩ | ⟨g', cap, cur, h2, _, hg, _, _, _, ht⟩
  · cases h2
  · injection h2 with h2 _ _
    injection h2 with h2
    injection h2 with h2 _ _
    subst h2
    refine ⟨cur, e, (0, 0), hg, ?_⟩
    rw [← ht, List.getElem?_take] at hx
    split at hx
    · simpa using hx
    · simp at hx
theorem Mem.rowR {i b c m sz : Nat} {e : TypeId} {vs : List Value} {g : List Nat} (hi : os[i]? = some (rowO e sz (.slice (some ⟨b, 0, none⟩) m c) m vs g)) (o s : Nat) : Mem lo B u os fun w => RowAt w b o ((vs.drop o).take s) := fun w hw j x hj => by
  rw [List.getElem?_take] at hj
  split at hj
  · rw [List.getElem?_drop] at hj
    exact Mem.row hi hj w hw
  · simp at hj
theorem row_form {i m sz : Nat} {e : TypeId} {v : Value} {vs : List Value} {g : List Nat} (hi : os[i]? = some (rowO e sz v m vs g)) : ∀ w, St lo B u w os → (∃ c, v = .slice none m c ∧ m = 0 ∧ c = 0) ∨ ∃ b c, v = .slice (some ⟨b, 0, none⟩) m c ∧ m ≤ c ∧ c ≤ 9223372036854775807 := fun w hw => by
  obtain ⟨h1, h2⟩ := hw.prs _ (List.mem_of_getElem? hi)
  rcases h2 with ⟨h2, h3⟩ | ⟨g', cap, cur, h2, _, hg, h4, h5, _, ht⟩
  · exact .inl ⟨0, by rw [h3]; exact h2, h3, rfl⟩
  · exact .inr ⟨g', cap, h2, h4, by unfold maxLen at h5; omega⟩
theorem row_len {i m sz : Nat} {e : TypeId} {v : Value} {vs : List Value} {g : List Nat} (hi : os[i]? = some (rowO e sz v m vs g)) : ∀ w, St lo B u w os → vs.length = m * sz := fun w hw => (hw.prs _ (List.mem_of_getElem? hi)).1
theorem row_own {w : World} {e : TypeId} {sz m : Nat} {v : Value} {vs : List Value} {Ts : List Ty} {f : List Nat} (h : w.ownsRow 0 e sz v m vs) (hc : cellsOwn w Ts vs f) : (Ty.sl e sz m Ts).own w v (v.ownBlock.toList ++ f) :=
  ⟨by rw [← hc.length, h.1], vs, f, h, rfl, hc⟩
def ints_ (xs : List Int) : List Value := xs.map (Value.int .i64)
theorem ints_own (w : World) : ∀ xs : List Int, cellsOwn w (xs.map Ty.int) (ints_ xs) []
  | [] => rfl
  | x :: xs => ⟨[], [], rfl, ⟨rfl, rfl⟩, ints_own w xs⟩
theorem src_of {w : World} {tx e' : TypeId} (hk : P.underlying tx = some (.slice e')) {sz m c : Nat} {A : Option Addr} {vs : List Value} (hl : vs.length = m * sz) (h : 0 < vs.length → ∃ b o, A = some ⟨b, o, none⟩ ∧ RowAt w b o vs) (h1 : vs.all (·.oneCell') = true) (hm : vs.length = 0 → m = 0) :
    Src P sz tx (.slice A m c) m vs w := by
  by_cases hp : 0 < vs.length
  · obtain ⟨b, o, rfl, hr⟩ := h hp
    exact Src.ofSlice w hk _ _ _ _ hl (fun j v hj => by rw [addr_add]; exact (hr j v hj).get) (fun v hv => List.all_eq_true.1 h1 v hv)
  · have hv : vs = [] := List.eq_nil_of_length_eq_zero (by omega)
    subst hv
    have := hm rfl
    subst this
    cases A with
    | none => exact Src.ofNil w hk c
    | some a => exact Src.ofSlice w hk a 0 c [] (by simp) (fun j v hj => by simp at hj) (fun v hv => by simp at hv)
theorem src_row {tx e' e : TypeId} {sz i b m : Nat} {vs : List Value} {g : List Nat} (hk : P.underlying tx = some (.slice e')) (hi : os[i]? = some (rowO e sz (.slice (some ⟨b, 0, none⟩) m m) m vs g)) (h1 : vs.all (·.oneCell') = true) :
    ∀ w, St lo B u w os → Src P sz tx (.slice (some ⟨b, 0, none⟩) m m) m vs w := fun w hw => by
  have hl := row_len hi w hw
  refine Src.ofSlice w hk _ _ _ _ hl (fun j v hj => ?_) (fun v hv => List.all_eq_true.1 h1 v hv)
  rw [addr_add, Nat.zero_add]
  exact (Mem.row hi hj w hw).get
theorem src_ints {tx e' e : TypeId} {c : Nat} {A : Option Addr} {xs : List Int} (hk : P.underlying tx = some (.slice e')) (h : (Ty.ints e xs).ok u (.slice A xs.length c)) : ∀ w, St lo B u w os → Src P 1 tx (.slice A xs.length c) xs.length (ints_ xs) w := fun w hw => by
  obtain ⟨hl, A', c', vs, e1, h2, h3, h4, h5⟩ := Ty.mono _ h hw.vis
  injection e1 with e1 _ e3
  subst e1; subst e3
  have hv : vs = ints_ xs := by
    have key : ∀ (xs : List Int) (vs : List Value), cellsOk w (xs.map Ty.int) vs → vs = ints_ xs := by
      intro xs
      induction xs with
      | nil => intro vs h; cases vs with
        | nil => rfl
        | cons v r => exact h.elim
      | cons x r ih => intro vs h; cases vs with
        | nil => exact h.elim
        | cons v vr => obtain ⟨h1, h2⟩ := h; rw [ih vr h2]; have h1 : v = .int .i64 x := h1; rw [h1]; rfl
    exact key xs vs h4
  subst hv
  have hlen : (ints_ xs).length = xs.length := by simp [ints_]
  refine src_of hk (by rw [hlen]; omega) (fun hp => h5 (by simpa [ints_] using hp)) ?_ (fun h => by rw [hlen] at h; exact h)
  rw [List.all_eq_true]
  intro v hv
  obtain ⟨x, _, rfl⟩ := List.mem_map.1 hv
  rfl
theorem row_form' {i m sz : Nat} {e : TypeId} {v : Value} {vs : List Value} {g : List Nat} (hi : os[i]? = some (rowO e sz v m vs g)) : ∀ w, St lo B u w os → ∃ A c, v = .slice A m c ∧ m ≤ c ∧ c ≤ 9223372036854775807 := fun w hw => by
  rcases row_form hi w hw with ⟨c, rfl, rfl, rfl⟩ | ⟨b, c, rfl, h1, h2⟩
  · exact ⟨_, _, rfl, Nat.le_refl _, by omega⟩
  · exact ⟨_, _, rfl, h1, h2⟩
def anyO (f : List Nat) : Own := ⟨f, fun _ => True, fun _ _ => trivial⟩
theorem e_append {x y : Operand} {t tx e : TypeId} {sz by' i m k n' : Nat} {z xs news vs' : List Value} {v yv : Value} {g : List Nat} (ht : elOf P t = some (e, sz, by', z)) (hzl : Nat.beq z.length sz = true) (hx : opd l x = some v) (hi : os[i]? = some (rowO e sz v m xs g)) (hy : opd l y = some yv)
    (hs : ∀ w, St lo B u w os → Src P sz tx yv k news w) (h63 : m + k ≤ 9223372036854775807) (hb : (m + k) * by' ≤ 140737488355328) (hn' : m + k = n') (hvs : xs ++ news = vs') :
    OpE P n lo B l os u ⟨dst, .call { callee := .builtin .append, args := #[x, y], argTypes := #[t, tx] }, ty, pos, af, gd⟩ false
      (fun v' os' u' => (∃ g', os' = os.set i (rowO e sz v' n' vs' g')) ∧ u = u') := fun a w ha hw K Q hk => by
  subst hn'; subst hvs
  unfold elOf at ht
  split at ht
  · rename_i e' hu
    split at ht
    · rename_i i' hi'
      split at ht
      · rename_i zv hzz
        simp only [Option.some.injEq, Prod.mk.injEq] at ht
        obtain ⟨rfl, rfl, rfl, rfl⟩ := ht
        have hzl : zv.cells.size = i'.size := by simpa [Nat.beq_eq] using hzl
        have hown : w.ownsRow 0 e' i'.size v m xs := hw.prs _ (List.mem_of_getElem? hi)
        refine wp_append_own_src (P := P) (w := w) (o := ⟨dst, .call { callee := .builtin .append, args := #[x, y], argTypes := #[t, tx] }, ty, pos, af, gd⟩) x y t tx rfl 0 e' i' zv i'.size i'.bytes hu hi' hzz rfl rfl hzl v m xs (ha.eval hx) hown yv k news (ha.eval hy) (hs w hw) (by unfold maxLen; omega) hb (Nat.zero_le _) _ rfl ?_
        intro v' w' ho' hgr hat
        have hdis : (v.ownBlock.toList ++ g).Nodup := by
          exact nodup_mem hw.dis (List.mem_of_getElem? hi)
        have hlt := ho'.lt
        -- the blocks behind
        rcases Classical.em (v'.ownBlock = v.ownBlock) with he | he
        · refine hk v' _ u w' ⟨⟨g, rfl⟩, rfl⟩ (Up.refl lo u) (hw.upd hi hgr.os hgr.tape hgr.output hgr.size (fun k hk hn => hgr.block k hk fun e => hn (by simp [rowO, ← e])) (fun k hk => .inl (by simpa [rowO, he] using hk)) (by simpa [rowO, he] using hdis) ho' (fun k hk _ => by simpa [rowO, he] using hk)) (fun h => by cases h)
        · have hnew : v'.ownBlock = some w.heap.size := hat.resolve_left he
          refine hk v' _ u w' ⟨⟨v.ownBlock.toList ++ g, rfl⟩, rfl⟩ (Up.refl lo u) (hw.upd hi hgr.os hgr.tape hgr.output hgr.size (fun k hk hn => hgr.block k hk fun e => hn (by simp [rowO, ← e])) (fun k hk => ?_) ?_ ho' (fun k hk _ => by simp only [rowO] at hk ⊢; exact List.mem_append_right _ hk)) (fun h => by cases h)
          · simp only [rowO, hnew, Option.toList_some, List.mem_append, List.mem_singleton] at hk ⊢
            rcases hk with rfl | hk
            · exact .inr ⟨Nat.le_refl _, (hlt _ hnew).2⟩
            · exact .inl hk
          · simp only [rowO, hnew, Option.toList_some]
            rw [List.nodup_append]
            refine ⟨by simp, hdis, fun a' ha' b' hb' e => ?_⟩
            simp only [List.mem_singleton] at ha'
            subst ha'; subst e
            have := (hw.hid _ (List.mem_of_getElem? hi) _ (by simpa [rowO] using hb')).1
            omega
      · simp at ht
    · simp at ht
  · simp at ht
theorem e_storeRow {x y : Operand} {t e : TypeId} {gg : Bool} {s i b o c m sz : Nat} {vs xs xs' : List Value} {v : Value} {g : List Nat} (ht : tyOf P t = some (gg, s)) (hx : opd l x = some (.pointer (some ⟨b, o, none⟩))) (hi : os[i]? = some (rowO e sz (.slice (some ⟨b, 0, none⟩) m c) m xs g)) (hy : opd l y = some v)
    (hv : cellsL v = vs) (hs : vs.length = s) (h1 : vs.all (·.oneCell') = true) (hl : o + s ≤ xs.length) (hc : setL xs o vs = xs') :
    OpE P n lo B l os u ⟨dst, .store t x y, ty, pos, af, gd⟩ false (fun _ os' u' => os' = os.set i (rowO e sz (.slice (some ⟨b, 0, none⟩) m c) m xs' g) ∧ u = u') := fun a w ha hw K Q hk => by
  subst hs; subst hc
  obtain ⟨hown1, hown2⟩ := hw.prs _ (List.mem_of_getElem? hi)
  rcases hown2 with ⟨h2, _⟩ | ⟨g', cap, cur, h2, _, hg, h4, h5, h6, h7⟩
  · cases h2
  injection h2 with h2 _ h3
  injection h2 with h2
  injection h2 with h2 _ _
  subst h2; subst h3
  have hle : xs.length ≤ cur.toList.length := by rw [← h7, List.length_take]; omega
  obtain ⟨w', r1, r2, r3, r4, r5, r6, r7⟩ := run_storeCells_box P b e vs 0 o cur.toList w (by simpa using hg) (by omega) h1
  have hsz := (run_isAgg (P := P) w ht).2
  have hr : (execOp a.eval ⟨dst, .store t x y, ty, pos, af, gd⟩).run P w = .ok .skip w' := by
    simp [execOp, ha.eval hx, ha.eval hy, Instr.storeAt, Instr.sureAddr, storeVar, hsz, cellsL_eq, hv, r1]
  unfold Oper.wp
  rw [hr]
  have hset : (setL cur.toList o vs).length = cur.toList.length := by
    simp only [setL, List.length_append, List.length_take, List.length_drop]; omega
  refine hk _ _ u _ ⟨rfl, rfl⟩ (Up.refl lo u) (hw.upd hi r5 r6 r7 (by omega) (fun k _ hk => r3 k (fun e => hk (by simp [rowO, Value.ownBlock, e]))) (fun k hk => .inl hk) ?_ ?_ (fun k hk _ => hk)) (fun h => by cases h)
  · have h9 := nodup_mem hw.dis (List.mem_of_getElem? hi)
    exact h9
  · refine ⟨?_, .inr ⟨b, c, _, rfl, Nat.zero_le _, by simpa using r2, h4, h5, ?_, ?_⟩⟩
    · simp only [setL, List.length_append, List.length_take, List.length_drop]; omega
    · simp only [List.size_toArray]; simpa using hset.trans (by simpa using h6)
    · rw [List.toList_toArray]
      have e0 : m * sz = xs.length := hown1.symm
      have ex : xs = cur.toList.take xs.length := by rw [← e0]; exact h7.symm
      rw [e0]
      apply List.ext_getElem?
      intro j
      simp only [Nat.add_zero, setL, List.getElem?_take]
      by_cases hj : j < xs.length
      · rw [if_pos hj]
        rw [List.append_assoc, List.append_assoc]
        have l1 : (cur.toList.take o).length = o := by rw [List.length_take]; omega
        have l2 : (xs.take o).length = o := by rw [List.length_take]; omega
        by_cases h1' : j < o
        · rw [List.getElem?_append_left (l₁ := cur.toList.take o) (by rw [l1]; omega), List.getElem?_append_left (l₁ := xs.take o) (by rw [l2]; omega)]
          simp only [List.getElem?_take, h1', if_true]
          conv => rhs; rw [ex]
          rw [List.getElem?_take, if_pos hj]
        · rw [List.getElem?_append_right (l₁ := cur.toList.take o) (by rw [l1]; omega), List.getElem?_append_right (l₁ := xs.take o) (by rw [l2]; omega)]
          simp only [l1, l2]
          by_cases h2' : j - o < vs.length
          · rw [List.getElem?_append_left (l₂ := cur.toList.drop _) h2', List.getElem?_append_left (l₂ := xs.drop _) h2']
          · rw [List.getElem?_append_right (l₂ := cur.toList.drop _) (by omega), List.getElem?_append_right (l₂ := xs.drop _) (by omega)]
            simp only [List.getElem?_drop]
            conv => rhs; rw [ex]
            rw [List.getElem?_take, if_pos (by omega)]
      · rw [if_neg hj, List.getElem?_eq_none]
        simp only [List.length_append, List.length_take, List.length_drop]; omega
def ResOk (P : Program) (n lo : Nat) (B : List Nat) (l : Fr) (os : List Own) (u : World) : List ResultVar → List Value → Prop
  | [], [] => True
  | .tmp t :: r, v :: vs => look l t = some v ∧ ResOk P n lo B l os u r vs
  | .cell t T :: r, v :: vs => (∃ b o, look l t = some (.pointer (some ⟨b, o, none⟩)) ∧ ∀ w, St lo B u w os → (loadVar T ⟨b, o, none⟩).run P w = .ok v w) ∧ ResOk P n lo B l os u r vs
  | _, _ => False
theorem ResOk.nil : ResOk P n lo B l os u [] [] := trivial
theorem ResOk.tmp {t : Tmp} {r : List ResultVar} {v : Value} {vs : List Value} (h : look l t = some v) (k : ResOk P n lo B l os u r vs) : ResOk P n lo B l os u (.tmp t :: r) (v :: vs) := ⟨h, k⟩
theorem ResOk.cell {t : Tmp} {T : TypeId} {r : List ResultVar} {v : Value} {vs : List Value} (h : ∃ b o, look l t = some (.pointer (some ⟨b, o, none⟩)) ∧ ∀ w, St lo B u w os → (loadVar T ⟨b, o, none⟩).run P w = .ok v w) (k : ResOk P n lo B l os u r vs) :
    ResOk P n lo B l os u (.cell t T :: r) (v :: vs) := ⟨h, k⟩
theorem run_results {a : Act} {w : World} (ha : Has n a l) (hw : St lo B u w os) : ∀ {rs : List ResultVar} {vs : List Value}, ResOk P n lo B l os u rs vs →
    (rs.mapM (m := Sem) fun | .tmp t => pure (a.tmps.getD t undef) | .cell x t => do loadVar t (← asAddr (a.tmps.getD x undef))).run P w = .ok vs w
  | [], [], _ => by simp
  | .tmp t :: r, v :: vs, h => by
    have := run_results ha hw h.2
    simp only [List.mapM_cons, Sem.run_bind, Sem.run_pure, Result.andThen_ok, ha.get _ _ h.1, this]
  | .cell t T :: r, v :: vs, h => by
    have := run_results ha hw h.2
    obtain ⟨⟨b, o, h1, h2⟩, _⟩ := h
    have h3 : (asAddr (.pointer (some ⟨b, o, none⟩))).run P w = .ok ⟨b, o, none⟩ w := rfl
    simp only [List.mapM_cons, Sem.run_bind, Sem.run_pure, Result.andThen_ok, ha.get _ _ h1, h3, h2 w hw, this]
def outV : List Value → Value
  | [v] => v
  | vs => .tuple vs.toArray
theorem Js.ret {fn : Func} {R : Ending → World → Prop} {rs : List ResultVar} {vs : List Value} (hr : fn.results = rs.toArray) (hQ : ∀ a w, Q .ret a w = bodyPost P fn R .ret a w) (hv : ResOk P n lo B l os u rs vs) (h : ∀ w, St lo B u w os → R (.returned (outV vs)) w) :
    Js P n lo B Q (.ret :: cs) l os u := Js.ret_ fun a w ha hw => by
  rw [hQ]
  refine ⟨ha.dfr, outV vs, ?_, h w hw⟩
  have h1 := run_results ha hw hv
  have h2 : (results fn a.tmps).run P w = .ok (outV vs) w := by
    have h3 : (fn.results.mapM (m := Sem) fun | .tmp t => pure (a.tmps.getD t undef) | .cell x t => do loadVar t (← asAddr (a.tmps.getD x undef))).run P w = .ok vs.toArray w := by
      rw [hr, Array.mapM_eq_mapM_toList]
      simp only [Sem.run_map, h1, Result.andThen_ok]
    have h4 : (results fn a.tmps).run P w = (Result.ok vs.toArray w).andThen (fun vs w' => (Pure.pure (if h : vs.size = 1 then vs[0] else .tuple vs) : Sem Value).run P w') := by
      unfold results
      rw [Sem.run_bind]
      exact congrArg (fun r => Result.andThen r _) h3
    rw [h4]
    simp only [Result.andThen_ok, Sem.run_pure]
    congr 1
    match vs with
    | [] => rfl
    | [v] => rfl
    | v :: v' :: r => rfl
  exact h2
theorem Spl.val (x : Value) : Spl (Ty.val x) (fun v ow => v = x ∧ ow = []) := fun w v fp h => ⟨[], ⟨h.1, rfl⟩, by simpa using h.2, fun _ h => by simp at h⟩
theorem Spl.any : Spl Ty.any (fun v ow => ow = [] ∧ v.oneCell' = true) := fun w v fp h => ⟨[], ⟨rfl, h.2⟩, by simpa using h.1, fun _ h => by simp at h⟩
def RL : List (Value → List Own → Prop) → List Value → List Own → Prop
  | [], [], ow => ow = []
  | R :: Rs, v :: vs, ow => ∃ o1 o2, R v o1 ∧ RL Rs vs o2 ∧ ow = o1 ++ o2
  | _, _, _ => False
def Spls : List Ty → List (Value → List Own → Prop) → Prop
  | [], [] => True
  | T :: Ts, R :: Rs => Spl T R ∧ Spls Ts Rs
  | _, _ => False
theorem Spls.cells {w : World} : ∀ {Ts : List Ty} {Rs : List (Value → List Own → Prop)} {vs : List Value} {fp : List Nat}, Spls Ts Rs → cellsOwn w Ts vs fp → ∃ ow, RL Rs vs ow ∧ fp = ow.flatMap (·.fp) ∧ ∀ o ∈ ow, o.pr w
  | [], [], [], fp, _, h => ⟨[], rfl, by simpa [cellsOwn] using h, fun _ h => by simp at h⟩
  | T :: Ts, R :: Rs, v :: vs, fp, hs, h => by
    obtain ⟨f1, f2, rfl, h1, h2⟩ := h
    obtain ⟨o1, r1, e1, p1⟩ := hs.1 w v f1 h1
    obtain ⟨o2, r2, e2, p2⟩ := Spls.cells hs.2 h2
    exact ⟨o1 ++ o2, ⟨o1, o2, r1, r2, rfl⟩, by rw [List.flatMap_append, e1, e2], fun o ho => by rcases List.mem_append.1 ho with ho | ho; exact p1 o ho; exact p2 o ho⟩
theorem Spl.tup {Ts : List Ty} {Rs : List (Value → List Own → Prop)} (hs : Spls Ts Rs) : Spl (Ty.tup Ts) (fun v ow => ∃ vs, v = .tuple vs.toArray ∧ RL Rs vs ow) := fun w v fp h => by
  obtain ⟨vs, rfl, hc⟩ := h
  obtain ⟨ow, h1, h2, h3⟩ := hs.cells hc
  exact ⟨ow, ⟨vs, rfl, h1⟩, h2, h3⟩
theorem ints_cells {w : World} : ∀ {xs : List Int} {vs : List Value} {f : List Nat}, cellsOwn w (xs.map Ty.int) vs f → vs = ints_ xs ∧ f = []
  | [], [], f, h => ⟨rfl, h⟩
  | x :: xs, v :: vs, f, h => by
    obtain ⟨f1, f2, rfl, h1, h2⟩ := h
    obtain ⟨rfl, rfl⟩ := ints_cells h2
    obtain ⟨h1, rfl⟩ := h1
    subst h1
    exact ⟨rfl, rfl⟩
theorem Spl.ints (e : TypeId) (xs : List Int) : Spl (Ty.ints e xs) (fun v ow => ∃ A c, v = .slice A xs.length c ∧ ow = [rowO e 1 (.slice A xs.length c) xs.length (ints_ xs) []] ∧ xs.length ≤ c ∧ c ≤ 9223372036854775807) := fun w v fp h => by
  obtain ⟨A, c, rfl, h1, h2⟩ := sl_form ((Ty.ints e xs).ownok h)
  obtain ⟨_, vs, f, h3, h4, h5⟩ := h
  obtain ⟨rfl, rfl⟩ := ints_cells h5
  exact ⟨_, ⟨A, c, rfl, rfl, h1, h2⟩, by simpa [rowO] using h4, fun o ho => by simp at ho; subst ho; exact h3⟩
theorem Spl.sl (e : TypeId) (sz n : Nat) (Ts : List Ty) : Spl (Ty.sl e sz n Ts) (fun v ow => ∃ A c vs f, v = .slice A n c ∧ ow = [rowO e sz (.slice A n c) n vs [], ownC Ts vs f] ∧ n ≤ c ∧ c ≤ 9223372036854775807) := fun w v fp h => by
  obtain ⟨A, c, rfl, h1, h2⟩ := sl_form ((Ty.sl e sz n Ts).ownok h)
  obtain ⟨_, vs, f, h3, h4, h5⟩ := h
  exact ⟨_, ⟨A, c, vs, f, rfl, rfl, h1, h2⟩, by simpa [rowO, ownC] using h4, fun o ho => by
    simp only [List.mem_cons, List.not_mem_nil, or_false] at ho
    rcases ho with rfl | rfl
    · exact h3
    · exact h5⟩
end
def Pick (os : List Own) : List (Nat × List Nat) → Prop
  | [] => True
  | (j, f) :: r => (∃ o, os[j]? = some o ∧ f.Sublist o.fp) ∧ (∀ p ∈ r, p.1 ≠ j) ∧ Pick os r
theorem Pick.nil {os : List Own} : Pick os [] := trivial
theorem Pick.cons {os : List Own} {j : Nat} {f : List Nat} {o : Own} {r : List (Nat × List Nat)} (h1 : os[j]? = some o) (h2 : f.Sublist o.fp) (h3 : r.all (fun p => !Nat.beq p.1 j) = true) (h4 : Pick os r) : Pick os ((j, f) :: r) :=
  ⟨⟨o, h1, h2⟩, fun p hp e => by
    have := List.all_eq_true.1 h3 p hp
    rw [e] at this
    simp at this, h4⟩
theorem St.pr {lo : Nat} {B : List Nat} {u w : World} {os : List Own} (hw : St lo B u w os) {i : Nat} {o : Own} (hi : os[i]? = some o) : o.pr w := hw.prs o (List.mem_of_getElem? hi)
theorem p_cast {P : Program} {n : Nat} {l : Fr} {o : Oper} {v v' : Value} (h : OpP P n l o v) (e : v = v') : OpP P n l o v' := e ▸ h
theorem flat_cut {α β : Type} (f : α → List β) (k : Nat) (hf : ∀ a, (f a).length = k) : ∀ (l : List α) (a n : Nat), ((l.flatMap f).drop (a * k)).take (n * k) = ((l.drop a).take n).flatMap f
  | [], a, n => by simp
  | x :: l, 0, 0 => by simp
  | x :: l, 0, n + 1 => by
    have ih := flat_cut f k hf l 0 n
    simp only [Nat.zero_mul, List.drop_zero] at ih ⊢
    rw [List.flatMap_cons, List.take_succ_cons, List.flatMap_cons, ← ih, Nat.succ_mul, Nat.add_comm, List.take_append, hf]
    rw [List.take_of_length_le (by rw [hf]; omega)]
    congr 2
    omega
  | x :: l, a + 1, n => by
    rw [List.flatMap_cons, Nat.succ_mul, Nat.add_comm, ← List.drop_drop, List.drop_left' (hf x), List.drop_succ_cons]
    exact flat_cut f k hf l a n
theorem gvl {l : Fr} {x : Operand} {c b : Bool} {v : Value} (h : opd l x = some (gv (c && b) v)) (hc : c = true) : opd l x = some (gv b v) := by subst hc; simpa using h
theorem p_pickAnd2 {P : Program} {n : Nat} {l : Fr} {dst : Option Tmp} {ty : TypeId} {pos : String} {af : Array Edge} {gd : Option (Nat × Bool)} {c x y : Operand} {b b' : Bool} (hc : opd l c = some (.bool b)) (h1 : opd l x = some (.bool b')) (h2 : opd l y = some (.bool false)) :
    OpP P n l ⟨dst, .pick c x y, ty, pos, af, gd⟩ (.bool (b && b')) := p_pick hc h1 h2 (by cases b <;> rfl)
theorem p_pickOr2 {P : Program} {n : Nat} {l : Fr} {dst : Option Tmp} {ty : TypeId} {pos : String} {af : Array Edge} {gd : Option (Nat × Bool)} {c x y : Operand} {b b' : Bool} (hc : opd l c = some (.bool b)) (h1 : opd l x = some (.bool true)) (h2 : opd l y = some (.bool b')) :
    OpP P n l ⟨dst, .pick c x y, ty, pos, af, gd⟩ (.bool (b || b')) := p_pick hc h1 h2 (by cases b <;> rfl)
theorem p_pickAnd {P : Program} {n : Nat} {l : Fr} {dst : Option Tmp} {ty : TypeId} {pos : String} {af : Array Edge} {gd : Option (Nat × Bool)} {c x y : Operand} {b b' : Bool} (hc : opd l c = some (.bool b)) (h1 : opd l x = some (gv b (.bool b'))) (h2 : opd l y = some (.bool false)) :
    OpP P n l ⟨dst, .pick c x y, ty, pos, af, gd⟩ (.bool (b && b')) := fun a w ha => by
  cases b <;> simp [execOp, ha.eval hc, ha.eval h1, ha.eval h2, asBool, gv]
theorem p_pickOr {P : Program} {n : Nat} {l : Fr} {dst : Option Tmp} {ty : TypeId} {pos : String} {af : Array Edge} {gd : Option (Nat × Bool)} {c x y : Operand} {b b' : Bool} (hc : opd l c = some (.bool b)) (h1 : opd l x = some (.bool true)) (h2 : opd l y = some (gv (!b) (.bool b'))) :
    OpP P n l ⟨dst, .pick c x y, ty, pos, af, gd⟩ (.bool (b || b')) := fun a w ha => by
  cases b <;> simp [execOp, ha.eval hc, ha.eval h1, ha.eval h2, asBool, gv]
section
variable {ops : Array Oper} {l : Fr} {o : Oper} {j t : Nat} {b c : Bool}
theorem Gd.t1 (h : o.guard = Option.some (j, true)) (hj : (ops[j]?).bind (·.dst) = Option.some t) (hl : look l t = Option.some (.bool b)) : Gd ops l o b := Gd.some' h hj hl b (by simp)
theorem Gd.f1 (h : o.guard = Option.some (j, false)) (hj : (ops[j]?).bind (·.dst) = Option.some t) (hl : look l t = Option.some (.bool b)) : Gd ops l o (!b) := Gd.some' h hj hl (!b) (by simp)
theorem Gd.t2 (h : o.guard = Option.some (j, true)) (hj : (ops[j]?).bind (·.dst) = Option.some t) (hl : look l t = Option.some (gv c (.bool b))) : Gd ops l o (c && b) := Gd.some h hj hl (c && b) (by simp)
theorem Gd.f2 (h : o.guard = Option.some (j, false)) (hj : (ops[j]?).bind (·.dst) = Option.some t) (hl : look l t = Option.some (gv c (.bool b))) : Gd ops l o (c && !b) := Gd.some h hj hl (c && !b) (by simp)
end
theorem opds_1 {l : Fr} {x1 : Operand} {v1 : Value} (h1 : opd l x1 = some v1) : opds l [x1] = some [v1] := by simp [opds, h1]
theorem opds_2 {l : Fr} {x1 x2 : Operand} {v1 v2 : Value} (h1 : opd l x1 = some v1) (h2 : opd l x2 = some v2) : opds l [x1, x2] = some [v1, v2] := by simp [opds, h1, h2]
theorem opds_3 {l : Fr} {x1 x2 x3 : Operand} {v1 v2 v3 : Value} (h1 : opd l x1 = some v1) (h2 : opd l x2 = some v2) (h3 : opd l x3 = some v3) : opds l [x1, x2, x3] = some [v1, v2, v3] := by simp [opds, h1, h2, h3]
theorem wrap_quo {i j : Int} (h0 : 0 ≤ i) (h1 : i ≤ 9223372036854775807) (hj : 0 < j) : IntKind.i64.wrap (i.tdiv j) = i / j := by
  rw [Int.tdiv_eq_ediv_of_nonneg h0]
  have a := Int.ediv_nonneg h0 (Int.le_of_lt hj)
  have b := Int.ediv_le_self j h0
  exact IntWalk.i64_in _ (by omega)
theorem nil_ok {e : TypeId} {u : World} : (Ty.ints e []).ok u (.slice none 0 0) := ⟨rfl, none, 0, [], rfl, Nat.le_refl _, by unfold maxLen; omega, trivial, fun h => by simp at h⟩
theorem nil_own {e : TypeId} {u : World} : (Ty.ints e []).own u (.slice none 0 0) [] := ⟨rfl, [], [], ⟨rfl, .inl ⟨rfl, rfl⟩⟩, rfl, rfl⟩
structure Bw (w : World) (bs : List Own) : Prop where
  prs : ∀ o ∈ bs, o.pr w
  dis : (bs.flatMap (·.fp)).Nodup
  lt : ∀ k ∈ bs.flatMap (·.fp), k < w.heap.size
structure Bor (w w' : World) (bs bs' : List Own) : Prop where
  os_ : w'.os = w.os
  tape : w'.tape = w.tape
  output : w'.output = w.output
  size : w.heap.size ≤ w'.heap.size
  rest : ∀ k, k < w.heap.size → k ∉ bs.flatMap (·.fp) → w'.heap[k]? = w.heap[k]?
  prs : ∀ o ∈ bs', o.pr w'
  dis : (bs'.flatMap (·.fp)).Nodup
  frm : ∀ k ∈ bs'.flatMap (·.fp), k ∈ bs.flatMap (·.fp) ∨ (w.heap.size ≤ k ∧ k < w'.heap.size)
  keep : ∀ k ∈ bs.flatMap (·.fp), k ∈ bs'.flatMap (·.fp)
def RB (w : World) (bs : List Own) (R : Value → List Own → Prop) (e : Ending) (w' : World) : Prop := ∃ v bs' G, e = .returned v ∧ R v bs' ∧ Bor w w' bs (bs' ++ [anyO G])
def RetB (P : Program) (f : FuncId) (args : List Value) (w : World) (bs : List Own) (R : Value → List Own → Prop) : Prop := Calls P f args.toArray w (RB w bs R)
theorem St.lend {lo : Nat} {B : List Nat} {u w : World} {bs rest : List Own} (h : St lo B u w (bs ++ rest)) (hB : ∀ k ∈ B, k ∉ bs.flatMap (·.fp)) : St lo B u (offW w (bs.flatMap (·.fp))) rest := by
  have hd := h.dis
  rw [List.flatMap_append, List.nodup_append] at hd
  have hsz := h.size
  have apart : ∀ o ∈ rest, ∀ k ∈ o.fp, k ∉ bs.flatMap (·.fp) := fun o ho k hk hm => hd.2.2 k hm k (List.mem_flatMap.2 ⟨o, ho, hk⟩) rfl
  have hs : (offW w (bs.flatMap (·.fp))).heap.size = w.heap.size := by simp [offW]
  refine ⟨h.os_, h.tape, h.output, h.lo_, by omega, fun k hk hn => ?_, fun o ho k hk => ?_, fun o ho => ?_, hd.2.1, fun k hk => ?_⟩
  · rw [offW_get]
    by_cases hm : k ∈ bs.flatMap (·.fp)
    · rw [if_pos hm, if_pos (by omega)]
      obtain ⟨o, ho, hm⟩ := List.mem_flatMap.1 hm
      exact ((h.hid o (by simp [ho]) k hm).2.2 hk).symm
    · rw [if_neg hm]
      refine h.pub k hk fun o ho hk' => ?_
      rcases List.mem_append.1 ho with ho | ho
      · exact hm (List.mem_flatMap.2 ⟨o, ho, hk'⟩)
      · exact hn o ho hk'
  · obtain ⟨a, b, c⟩ := h.hid o (by simp [ho]) k hk
    exact ⟨by omega, b, c⟩
  · refine o.loc (fun k hk => ?_) (h.prs o (by simp [ho]))
    rw [offW_get, if_neg (apart o ho k hk)]
  · have := h.keep k hk
    rw [List.flatMap_append, List.mem_append] at this
    rcases this with h1 | h1
    · exact (hB k hk h1).elim
    · exact h1
theorem St.back {lo : Nat} {B : List Nat} {u w w' : World} {bs bs' rest : List Own} (h : St lo B u w (bs ++ rest)) (x : Bor w w' bs bs') : St lo B u w' (bs' ++ rest) := by
  have hd := h.dis
  rw [List.flatMap_append, List.nodup_append] at hd
  have hsz := h.size
  have hxs := x.size
  have apart : ∀ o ∈ rest, ∀ k ∈ o.fp, k ∉ bs.flatMap (·.fp) := fun o ho k hk hm => hd.2.2 k hm k (List.mem_flatMap.2 ⟨o, ho, hk⟩) rfl
  refine ⟨x.os_.trans h.os_, x.tape.trans h.tape, x.output.trans h.output, h.lo_, by omega, fun k hk hn => ?_, fun o ho k hk => ?_, fun o ho => ?_, ?_, fun k hk => ?_⟩
  · have hm : k ∉ bs.flatMap (·.fp) := fun hm => by
      obtain ⟨o, ho, hk'⟩ := List.mem_flatMap.1 (x.keep k hm)
      exact hn o (by simp [ho]) hk'
    rw [x.rest k (by omega) hm]
    refine h.pub k hk fun o ho hk' => ?_
    rcases List.mem_append.1 ho with ho | ho
    · exact hm (List.mem_flatMap.2 ⟨o, ho, hk'⟩)
    · exact hn o (by simp [ho]) hk'
  · rcases List.mem_append.1 ho with ho | ho
    · rcases x.frm k (List.mem_flatMap.2 ⟨o, ho, hk⟩) with hm | ⟨h1, h2⟩
      · obtain ⟨o', ho', hk'⟩ := List.mem_flatMap.1 hm
        obtain ⟨a, b, c⟩ := h.hid o' (by simp [ho']) k hk'
        exact ⟨by omega, b, c⟩
      · exact ⟨h2, .inl (by have := h.lo_; omega), fun hlt => by omega⟩
    · obtain ⟨a, b, c⟩ := h.hid o (by simp [ho]) k hk
      exact ⟨by omega, b, c⟩
  · rcases List.mem_append.1 ho with ho | ho
    · exact x.prs o ho
    · exact o.loc (fun k hk => x.rest k (h.hid o (by simp [ho]) k hk).1 (apart o ho k hk)) (h.prs o (by simp [ho]))
  · rw [List.flatMap_append, List.nodup_append]
    refine ⟨x.dis, hd.2.1, fun a ha b hb e => ?_⟩
    subst e
    obtain ⟨o, ho, hk⟩ := List.mem_flatMap.1 hb
    rcases x.frm a ha with hm | ⟨h1, h2⟩
    · exact apart o ho a hk hm
    · have := (h.hid o (by simp [ho]) a hk).1; omega
  · have := h.keep k hk
    rw [List.flatMap_append, List.mem_append] at this ⊢
    rcases this with h1 | h1
    · exact .inl (x.keep k h1)
    · exact .inr h1
theorem St.bw {lo : Nat} {B : List Nat} {u w : World} {bs rest : List Own} (h : St lo B u w (bs ++ rest)) : Bw w bs := by
  have hd := h.dis
  rw [List.flatMap_append, List.nodup_append] at hd
  exact ⟨fun o ho => h.prs o (by simp [ho]), hd.1, fun k hk => by obtain ⟨o, ho, hm⟩ := List.mem_flatMap.1 hk; exact (h.hid o (by simp [ho]) k hm).1⟩
section
variable {P : Program} {n lo : Nat} {B : List Nat} {Q : Exit → Act → World → Prop} {cs : List Code} {l : Fr} {os : List Own} {u : World} {dst : Option Tmp} {ty : TypeId} {pos : String} {af : Array Edge} {gd : Option (Nat × Bool)}
theorem e_callB {f : FuncId} {xs : List Operand} {ts : Array TypeId} {vs : List Value} {bs rest : List Own} {R : Value → List Own → Prop} (hf : goodF P f = true) (hx : opds l xs = some vs)
    (hc : ∀ w, Bw w bs → St lo [] u (offW w (bs.flatMap (·.fp))) rest → RetB P f vs w bs R) (hB : B = []) :
    OpE P n lo B l (bs ++ rest) u ⟨dst, .call { callee := .value (.func f), args := xs.toArray, argTypes := ts }, ty, pos, af, gd⟩ false (fun v' os' u' => ∃ bs' G, R v' bs' ∧ os' = bs' ++ anyO G :: rest ∧ u = u') := fun a w ha hw K Q hk => by
  subst hB
  unfold Oper.wp
  rw [run_call hf ha hx, Oper.upon_enter]
  refine Calls.mono (hc w hw.bw (hw.lend (fun _ h => by simp at h))) fun e w' h => ?_
  obtain ⟨v, bs', G, rfl, hR, hb⟩ := h
  have := hw.back hb
  rw [List.append_assoc, List.singleton_append] at this
  exact hk _ _ u w' ⟨bs', G, hR, rfl, rfl⟩ (Up.refl lo u) this (fun h => by cases h)
theorem e_callBB {f : FuncId} {xs : List Operand} {ts : Array TypeId} {vs : List Value} {bs rest : List Own} {R : Value → List Own → Prop} (hf : goodF P f = true) (hx : opds l xs = some vs)
    (hc : ∀ w, Bw w bs → (∃ B', St lo B' u (offW w (bs.flatMap (·.fp))) rest) → RetB P f vs w bs R) :
    OpE P n lo B l (bs ++ rest) u ⟨dst, .call { callee := .value (.func f), args := xs.toArray, argTypes := ts }, ty, pos, af, gd⟩ false (fun v' os' u' => ∃ bs' G, R v' bs' ∧ os' = bs' ++ anyO G :: rest ∧ u = u') := fun a w ha hw K Q hk => by
  unfold Oper.wp
  rw [run_call hf ha hx, Oper.upon_enter]
  have hl : ∃ B', St lo B' u (offW w (bs.flatMap (·.fp))) rest := by
    refine ⟨rest.flatMap (·.fp), ?_⟩
    have hw' : St lo (rest.flatMap (·.fp)) u w (bs ++ rest) → St lo (rest.flatMap (·.fp)) u (offW w (bs.flatMap (·.fp))) rest := fun h => h.lend fun k hk hm => by
      have hd := h.dis
      rw [List.flatMap_append, List.nodup_append] at hd
      exact hd.2.2 k hm k hk rfl
    have hd := hw.dis
    rw [List.flatMap_append, List.nodup_append] at hd
    have hsz := hw.size
    have apart : ∀ o ∈ rest, ∀ k ∈ o.fp, k ∉ bs.flatMap (·.fp) := fun o ho k hk hm => hd.2.2 k hm k (List.mem_flatMap.2 ⟨o, ho, hk⟩) rfl
    have hs : (offW w (bs.flatMap (·.fp))).heap.size = w.heap.size := by simp [offW]
    refine ⟨hw.os_, hw.tape, hw.output, hw.lo_, by omega, fun k hk hn => ?_, fun o ho k hk => ?_, fun o ho => ?_, hd.2.1, fun k hk => hk⟩
    · rw [offW_get]
      by_cases hm : k ∈ bs.flatMap (·.fp)
      · rw [if_pos hm, if_pos (by omega)]
        obtain ⟨o, ho, hm⟩ := List.mem_flatMap.1 hm
        exact ((hw.hid o (by simp [ho]) k hm).2.2 hk).symm
      · rw [if_neg hm]
        refine hw.pub k hk fun o ho hk' => ?_
        rcases List.mem_append.1 ho with ho | ho
        · exact hm (List.mem_flatMap.2 ⟨o, ho, hk'⟩)
        · exact hn o ho hk'
    · obtain ⟨a, b, c⟩ := hw.hid o (by simp [ho]) k hk
      exact ⟨by omega, .inr (List.mem_flatMap.2 ⟨o, ho, hk⟩), c⟩
    · refine o.loc (fun k hk => ?_) (hw.prs o (by simp [ho]))
      rw [offW_get, if_neg (apart o ho k hk)]
  refine Calls.mono (hc w hw.bw hl) fun e w' h => ?_
  obtain ⟨v, bs', G, rfl, hR, hb⟩ := h
  have := hw.back hb
  rw [List.append_assoc, List.singleton_append] at this
  exact hk _ _ u w' ⟨bs', G, hR, rfl, rfl⟩ (Up.refl lo u) this (fun h => by cases h)
theorem St.startB {w : World} {bs : List Own} (h : Bw w bs) : St w.heap.size (bs.flatMap (·.fp)) (offW w (bs.flatMap (·.fp))) w bs := by
  have hs : (offW w (bs.flatMap (·.fp))).heap.size = w.heap.size := by simp [offW]
  refine ⟨rfl, rfl, rfl, by omega, by omega, fun k hk hn => ?_, fun o ho k hk => ⟨h.lt k (List.mem_flatMap.2 ⟨o, ho, hk⟩), .inr (List.mem_flatMap.2 ⟨o, ho, hk⟩), fun hlt => ?_⟩, h.prs, h.dis, fun _ h => h⟩
  · rw [offW_get, if_neg]
    intro hm
    obtain ⟨o, ho, hk'⟩ := List.mem_flatMap.1 hm
    exact hn o ho hk'
  · rw [offW_get, if_pos (List.mem_flatMap.2 ⟨o, ho, hk⟩), if_pos (by omega)]
theorem enterB {f : FuncId} {fn : Func} {c : Code} {vs : List Value} {w : World} {bs : List Own} {R : Ending → World → Prop} (hb' : Bw w bs) (hf : P.funcs[f]? = some fn) (hn : fn.ntmps = n) (hb : fn.body = some c)
    (hs : Nat.ble vs.length n = true) (h : Js P n w.heap.size (bs.flatMap (·.fp)) (bodyPost P fn R) [c] (entryFr 0 vs) bs (offW w (bs.flatMap (·.fp)))) : Calls P f vs.toArray w R := by
  have hs : vs.length ≤ n := by simpa [Nat.ble_eq] using hs
  refine calls_of_wp hf hb ?_
  refine wp_mono (h _ w ⟨rfl, by simp [hn]; omega, fun k v hk => ?_⟩ (St.startB hb')) fun e a w k => by cases e <;> exact k
  obtain ⟨_, h2⟩ := entryFr_look vs 0 k v hk
  simp only [Nat.sub_zero] at h2
  have hlt : k < vs.length := (List.getElem?_eq_some_iff.1 h2).1
  have h3 := (List.getElem?_eq_some_iff.1 h2).2
  simp [Array.getD_eq_getD_getElem?, Array.getElem?_append, hlt, h3]
theorem St.giveBack {w w' : World} {bs bs' : List Own} {G : List Nat} (hb : Bw w bs) {u : World} (h : St w.heap.size (bs.flatMap (·.fp)) u w' (bs' ++ [anyO G])) (x : Up w.heap.size (offW w (bs.flatMap (·.fp))) u) : Bor w w' bs (bs' ++ [anyO G]) := by
  have hs : (offW w (bs.flatMap (·.fp))).heap.size = w.heap.size := by simp [offW]
  have hsz := h.size
  have hlo := h.lo_
  refine ⟨h.os_.trans x.os_, h.tape.trans x.tape, h.output.trans x.output, by omega, fun k hk hn => ?_, h.prs, h.dis, fun k hk => ?_, h.keep⟩
  · have h1 := x.low k hk
    rw [offW_get, if_neg hn] at h1
    rw [← h1]
    refine h.pub k (by omega) fun o ho hm => ?_
    rcases (h.hid o ho k hm).2.1 with h2 | h2
    · omega
    · exact hn h2
  · obtain ⟨o, ho, hm⟩ := List.mem_flatMap.1 hk
    obtain ⟨a, b, _⟩ := h.hid o ho k hm
    rcases b with b | b
    · exact .inr ⟨b, a⟩
    · exact .inl b
end
theorem ints_get {xs : List Int} {i : Nat} (h : i < xs.length) : (ints_ xs)[0 + i * 1]? = some (.int .i64 (M.nth xs i)) := by
  rw [Nat.zero_add, Nat.mul_one]
  simp [ints_, List.getElem?_map, M.nth, List.getD, h]
theorem ints_setL {xs : List Int} {i : Nat} {v : Int} (h : i < xs.length) : setL (ints_ xs) (0 + i * 1) [.int .i64 v] = ints_ (xs.set i v) := by
  rw [Nat.zero_add, Nat.mul_one]
  simp only [setL, ints_, List.map_set]
  rw [List.set_eq_take_append_cons_drop, if_pos (by simpa using h)]
  simp
theorem row_some {lo : Nat} {B : List Nat} {u : World} {os : List Own} {i m c sz : Nat} {e : TypeId} {A : Option Addr} {vs : List Value} {g : List Nat} (hi : os[i]? = some (rowO e sz (.slice A m c) m vs g)) (hm : 0 < m) : ∀ w, St lo B u w os → ∃ b, A = some ⟨b, 0, none⟩ := fun w hw => by
  rcases row_form hi w hw with ⟨c', h1, h2, _⟩ | ⟨b, c', h1, _⟩
  · omega
  · injection h1 with h1 _ _
    exact ⟨b, h1⟩
end Go.Proofs.YtjklnidbndopiaaGreatDoor
namespace Go.Proofs.YtjklnidbndopiaaGreatDoor.M
theorem nth_getI (l : List Int) (k : Nat) : getI l (k : Int) = nth l k := by simp [getI]
theorem Good.ok {r : Rul} {ps ss : List Int} {n : Int} (h : Good r ps ss n) : allOk ps = true ∧ allOk ss = true := by
  unfold allOk
  rw [List.all_eq_true, List.all_eq_true]
  refine ⟨fun x hx => ?_, fun x hx => ?_⟩
  · obtain ⟨k, hk, rfl⟩ := List.getElem_of_mem hx
    have := h.pit (k : Int)
    rw [nth_getI] at this
    simp [nth, List.getD, hk] at this
    exact betw_iff.2 this
  · obtain ⟨k, hk, rfl⟩ := List.getElem_of_mem hx
    have := h.store (k : Int)
    rw [nth_getI] at this
    simp [nth, List.getD, hk] at this
    exact betw_iff.2 this
theorem takeL_keeps {r : Rul} {player : Int} (p0 : 0 ≤ player) (p1 : player < 2) : ∀ (l ps ss : List Int), Good r ps ss 0 → (∀ x ∈ l, 0 ≤ x ∧ x < 2 * r.pits) →
    Good r (takeL player l ps ss).1 (takeL player l ps ss).2 0 ∧ isum (takeL player l ps ss).1 + isum (takeL player l ps ss).2 = isum ps + isum ss
  | [], ps, ss, h, _ => ⟨h, rfl⟩
  | x :: l, ps, ss, h, hl => by
    obtain ⟨x0, x1⟩ := hl x (by simp)
    have g := h.takeStep x0 x1 p0 p1
    obtain ⟨a, b⟩ := takeL_keeps p0 p1 l _ _ g (fun y hy => hl y (by simp [hy]))
    have lp := h.lp
    have ls := h.ls
    refine ⟨a, ?_⟩
    rw [takeL, b, isum_setI x0 (by omega), isum_setI p0 (by omega)]
    omega
theorem take_keeps {r : Rul} {s : Sw} {player : Int} (hp : player = 0 ∨ player = 1) (hG : Good r s.pits s.stores 0) (h1 : s.last < 2 * r.pits) :
    Good r (take r s player).pits (take r s player).stores 0 ∧ isum (take r s player).pits + isum (take r s player).stores = isum s.pits + isum s.stores := by
  have e := take_eq (r := r) (s := s) (player := player) h1 (by omega) (by have := hG.ls; omega)
  have k := takeL_keeps (r := r) (player := player) (by omega) (by omega) (captured r s player) s.pits s.stores hG (fun x hx => captured_mem h1 hx)
  rw [e] at k
  exact k
theorem sowMove_ok {r : Rul} {p : Pos} {move : Int} (h : (sowMove r p move).1 = 0) :
    okP r p = true ∧ 0 ≤ move ∧ move < r.pits ∧ Good r (sowMove r p move).2.1.pits (sowMove r p move).2.1.stores 0 ∧ -1 ≤ (sowMove r p move).2.1.last ∧ (sowMove r p move).2.1.last < 2 * r.pits ∧
      isum (sowMove r p move).2.1.pits + isum (sowMove r p move).2.1.stores = isum p.pits + isum p.stores := by
  unfold sowMove at *
  by_cases hc : sowCode r p move = 0
  case neg => rw [if_pos hc] at h; exact absurd h hc
  rw [if_neg (by simpa using hc)] at h ⊢
  have ho : okP r p = true := by
    cases h : okP r p
    · simp [sowCode, h] at hc
    · rfl
  have hm : betw move 0 (r.pits - 1) = true := by
    cases h : betw move 0 (r.pits - 1)
    · simp [sowCode, h, ho] at hc
    · rfl
  obtain ⟨m0, m1⟩ := betw_iff.1 hm
  obtain ⟨r1, r2, g1, g2, g3, g4, g5⟩ := okP_bd ho
  have q : 0 ≤ p.player * r.pits ∧ p.player * r.pits ≤ r.pits := by
    rcases g5 with e | e <;> rw [e] <;> omega
  cases hmv : mv r p.player 100 (p.player * r.pits + move) ⟨p.pits, p.stores, 0, 0⟩ [] with
  | none => rw [hmv] at h; simp at h
  | some x =>
    obtain ⟨a, b, c, d, f⟩ := mv_keeps r r2 r1 g5 100 _ _ _ x (by omega) (by omega) (Good.of_ok ho) hmv
    exact ⟨ho, m0, by omega, a, b, c, f⟩
theorem done_ok {r : Rul} {p : Pos} {move : Int} (h : (done r p move).2 = 0) :
    (sowMove r p move).1 = 0 ∧ (done r p move).1 = take r (sowMove r p move).2.1 p.player := by
  unfold done at *
  by_cases hc : (sowMove r p move).1 = 0
  case neg => rw [if_pos hc] at h; exact absurd h hc
  refine ⟨hc, ?_⟩
  rw [if_neg (by simpa using hc)] at h ⊢
  split at h
  · simp at h
  · rename_i hh; rw [if_neg hh]
theorem okP_of {r : Rul} {p : Pos} (h : okR r = true) (hp : p.player = 0 ∨ p.player = 1) (hG : Good r p.pits p.stores 0) : okP r p = true := by
  obtain ⟨a, b⟩ := hG.ok
  have c := hG.all
  unfold okP
  simp only [Bool.and_eq_true, decide_eq_true_eq, Bool.or_eq_true]
  exact ⟨⟨⟨⟨⟨⟨h, hG.lp⟩, by have := hG.ls; omega⟩, hp⟩, a⟩, b⟩, by omega⟩
theorem make_ok {r : Rul} {p : Pos} {move : Int} (h : (make r p move).2 = 0) :
    okP r p = true ∧ 0 ≤ move ∧ move < r.pits ∧ okP r (make r p move).1.next = true ∧ (make r p move).1.move = move ∧
      isum (make r p move).1.next.pits + isum (make r p move).1.next.stores = isum p.pits + isum p.stores := by
  unfold make at *
  by_cases hc : (done r p move).2 = 0
  case neg => rw [if_pos hc] at h; exact absurd h hc
  rw [if_neg (by simpa using hc)]
  obtain ⟨hs, e⟩ := done_ok hc
  obtain ⟨ho, m0, m1, hG, l0, l1, hi⟩ := sowMove_ok hs
  obtain ⟨r1, r2, g1, g2, g3, g4, g5⟩ := okP_bd ho
  obtain ⟨k, hk⟩ := take_keeps g5 hG l1
  rw [← e] at k hk
  refine ⟨ho, m0, m1, okP_of (okP_okR ho) ?_ k, rfl, by show isum (done r p move).1.pits + isum (done r p move).1.stores = _; rw [hk, hi]⟩
  simp only [resOf]
  split <;> omega
def mvT (r : Rul) (player : Int) : Nat → Int → Sw → List Int → Bool × Sw × List Int
  | 0, _, s, path => (false, s, path)
  | n + 1, frm, s, path =>
    if more r (lap r player frm s path).1 = true then mvT r player n (lap r player frm s path).1.last (lap r player frm s path).1 (lap r player frm s path).2
    else (true, lap r player frm s path)
theorem mvT_yes {r : Rul} {player frm : Int} {n : Nat} {s : Sw} {path : List Int} (h : more r (lap r player frm s path).1 = true) :
    mvT r player (n + 1) frm s path = mvT r player n (lap r player frm s path).1.last (lap r player frm s path).1 (lap r player frm s path).2 := by rw [mvT, if_pos h]
theorem mvT_no {r : Rul} {player frm : Int} {n : Nat} {s : Sw} {path : List Int} (h : more r (lap r player frm s path).1 = false) :
    mvT r player (n + 1) frm s path = (true, lap r player frm s path) := by rw [mvT, if_neg (by simp [h])]
theorem mv_T (r : Rul) (player : Int) : ∀ (n : Nat) (frm : Int) (s : Sw) (path : List Int), mv r player n frm s path = if (mvT r player n frm s path).1 = true then some (mvT r player n frm s path).2 else none
  | 0, _, _, _ => rfl
  | n + 1, frm, s, path => by
    rw [mv]
    split
    · rename_i h; rw [mvT_yes h]; exact mv_T r player n _ _ _
    · rename_i h; rw [mvT_no (by simpa using h)]; rfl
theorem more_get {r : Rul} {s : Sw} (h : more r s = true) : 0 ≤ s.last ∧ 1 < getI s.pits s.last := by
  simp [more] at h; exact ⟨h.1.2, h.2⟩
theorem sowMove_code {r : Rul} {p : Pos} {move : Int} (h : sowCode r p move ≠ 0) : sowMove r p move = (sowCode r p move, Sw.zero, []) := by unfold sowMove; rw [if_pos h]
theorem sowMove_end {r : Rul} {p : Pos} {move : Int} (h : sowCode r p move = 0) (hm : (mvT r p.player 100 (p.player * r.pits + move) ⟨p.pits, p.stores, 0, 0⟩ []).1 = false) : sowMove r p move = (10, Sw.zero, []) := by
  unfold sowMove; rw [if_neg (by simp [h]), mv_T, if_neg (by simp [hm])]
theorem sowMove_yes {r : Rul} {p : Pos} {move : Int} (h : sowCode r p move = 0) (hm : (mvT r p.player 100 (p.player * r.pits + move) ⟨p.pits, p.stores, 0, 0⟩ []).1 = true) :
    sowMove r p move = (0, (mvT r p.player 100 (p.player * r.pits + move) ⟨p.pits, p.stores, 0, 0⟩ []).2.1, (mvT r p.player 100 (p.player * r.pits + move) ⟨p.pits, p.stores, 0, 0⟩ []).2.2) := by
  unfold sowMove; rw [if_neg (by simp [h]), mv_T, if_pos hm]
theorem sowCode_ok {r : Rul} {p : Pos} {move : Int} (hc : sowCode r p move = 0) : okP r p = true ∧ 0 ≤ move ∧ move < r.pits ∧ 0 < getI p.pits (p.player * r.pits + move) := by
  have ho : okP r p = true := by
    cases h : okP r p
    · simp [sowCode, h] at hc
    · rfl
  have hm : betw move 0 (r.pits - 1) = true := by
    cases h : betw move 0 (r.pits - 1)
    · simp [sowCode, h, ho] at hc
    · rfl
  have hn : getI p.pits (p.player * r.pits + move) ≠ 0 := fun h => by simp [sowCode, ho, hm, h] at hc
  obtain ⟨m0, m1⟩ := betw_iff.1 hm
  have hg := (Good.of_ok ho).pit (p.player * r.pits + move)
  exact ⟨ho, m0, by omega, by omega⟩
theorem make_yes {r : Rul} {p : Pos} {move : Int} (h : (done r p move).2 = 0) : make r p move = (resOf r p move (done r p move).1, 0) := by unfold make; rw [if_neg (by simp [h])]
theorem make_no {r : Rul} {p : Pos} {move : Int} (h : (done r p move).2 ≠ 0) : make r p move = (Res.zero, (done r p move).2) := by unfold make; rw [if_pos h]
theorem make_code {r : Rul} {p : Pos} {move : Int} : (make r p move).2 = (done r p move).2 := by
  by_cases hd : (done r p move).2 = 0
  · rw [make_yes hd, hd]
  · rw [make_no hd]
theorem resultsTo_mem {r : Rul} {p : Pos} {x : Res} : ∀ {n : Nat}, x ∈ resultsTo r p n ↔ ∃ m : Nat, m < n ∧ (make r p m).2 = 0 ∧ x = (make r p m).1
  | 0 => by simp [resultsTo]
  | n + 1 => by
    rw [resultsTo, List.mem_append, resultsTo_mem]
    constructor
    · rintro (⟨m, h1, h2, h3⟩ | h)
      · exact ⟨m, by omega, h2, h3⟩
      · split at h
        · rename_i hz
          exact ⟨n, by omega, hz, by simpa using h⟩
        · simp at h
    · rintro ⟨m, h1, h2, h3⟩
      by_cases e : m = n
      · subst e; right; rw [if_pos h2]; simp [h3]
      · exact .inl ⟨m, by omega, h2, h3⟩
theorem runs_append (r : Rul) : ∀ (a b : List Int) (p : Pos), (runs r p a).length = a.length → runs r p (a ++ b) = runs r p a ++ runs r (lastPos p (runs r p a)) b
  | [], b, p, _ => by simp [runs, lastPos]
  | m :: a, b, p, h => by
    simp only [List.cons_append, runs] at h ⊢
    by_cases hm : (make r p m).2 = 0
    · rw [if_pos hm] at h ⊢
      rw [if_pos hm, runs_append r a b _ (by simpa using h)]
      simp [lastPos]
    · rw [if_neg hm] at h; simp at h
theorem lastPos_snoc (p : Pos) : ∀ (l : List Res) (x : Res), lastPos p (l ++ [x]) = x.next
  | [], x => rfl
  | y :: l, x => by simp only [List.cons_append, lastPos]; exact lastPos_snoc y.next l x
@[simp] theorem hist_length (p : Pos) (l : List Res) : (hist p l).length = l.length + 1 := by simp [hist]
theorem hist_last (p : Pos) : ∀ (l : List Res), (hist p l)[l.length]? = some (lastPos p l)
  | [] => rfl
  | x :: l => by have := hist_last x.next l; simp only [hist, List.map_cons, List.length_cons, List.getElem?_cons_succ] at this ⊢; exact this
structure Run (r : Rul) (p : Pos) (moves : List Int) (k : Nat) (now : Pos) (made : List Res) : Prop where
  eq : runs r p (moves.take k) = made
  len : made.length = k
  le : k ≤ moves.length
  now_ : now = lastPos p made
theorem Run.zero (r : Rul) (p : Pos) (moves : List Int) : Run r p moves 0 p [] := ⟨rfl, rfl, Nat.zero_le _, rfl⟩
theorem Run.step {r : Rul} {p now : Pos} {moves : List Int} {k : Nat} {made : List Res} (h : Run r p moves k now made) (hk : k < moves.length) (hm : (make r now (nth moves k)).2 = 0) :
    Run r p moves (k + 1) (make r now (nth moves k)).1.next (made ++ [(make r now (nth moves k)).1]) := by
  obtain ⟨e, l, _, n⟩ := h
  refine ⟨?_, by simp [l], hk, (lastPos_snoc _ _ _).symm⟩
  rw [take_nth hk, runs_append r _ _ _ (by rw [e, l, List.length_take]; omega), e, ← n, runs, if_pos hm]
  rfl
theorem Run.fail {r : Rul} {p now : Pos} {moves : List Int} {k : Nat} {made : List Res} (h : Run r p moves k now made) (hk : k < moves.length) (hm : (make r now (nth moves k)).2 ≠ 0) :
    runs r p moves = made ∧ (runs r p moves).length ≠ moves.length := by
  obtain ⟨e, l, _, n⟩ := h
  have : runs r p moves = made := by
    conv => lhs; rw [← List.take_append_drop k moves]
    rw [runs_append r _ _ _ (by rw [e, l, List.length_take]; omega), e, ← n, drop_nth hk, runs, if_neg hm, List.append_nil]
  exact ⟨this, by rw [this, l]; omega⟩
theorem Run.done {r : Rul} {p now : Pos} {moves : List Int} {k : Nat} {made : List Res} (h : Run r p moves k now made) (hk : moves.length ≤ k) : runs r p moves = made ∧ made.length = moves.length ∧ now = lastPos p made := by
  obtain ⟨e, l, l2, n⟩ := h
  rw [List.take_of_length_le hk] at e
  exact ⟨e, by omega, n⟩
def playedOk (g : Gam) : Bool := decide ((runs g.rules g.start g.moves).length = g.moves.length)
def playedP (g : Gam) : List Pos := if playedOk g = true then hist g.start (runs g.rules g.start g.moves) else []
def playedR (g : Gam) : List Res := if playedOk g = true then runs g.rules g.start g.moves else []
theorem Run.played {g : Gam} {now : Pos} {k : Nat} {made : List Res} (h : Run g.rules g.start g.moves k now made) (hk : g.moves.length ≤ k) : playedOk g = true ∧ playedP g = hist g.start made ∧ playedR g = made := by
  obtain ⟨a, b, _⟩ := h.done hk
  have : playedOk g = true := by simp [playedOk, a, b]
  exact ⟨this, by unfold playedP; rw [if_pos this, a], by unfold playedR; rw [if_pos this, a]⟩
theorem okG_parts {g : Gam} (h : okG g = true) : okP g.rules g.start = true ∧ g.moves.length ≤ 120 ∧ -1 ≤ g.resigned ∧ g.resigned ≤ 1 ∧ playedOk g = true ∧ playedP g = hist g.start (runs g.rules g.start g.moves) ∧ playedR g = runs g.rules g.start g.moves ∧
    (runs g.rules g.start g.moves).length = g.moves.length ∧ g.now = lastPos g.start (runs g.rules g.start g.moves) := by
  simp only [okG, Bool.and_eq_true, decide_eq_true_eq] at h
  obtain ⟨⟨⟨⟨a, b⟩, c⟩, d⟩, e⟩ := h
  obtain ⟨c0, c1⟩ := betw_iff.1 c
  have ho : playedOk g = true := by simp [playedOk, d]
  exact ⟨a, b, c0, c1, ho, by unfold playedP; rw [if_pos ho], by unfold playedR; rw [if_pos ho], d, e.symm⟩
theorem runs_ok {r : Rul} : ∀ (a : List Int) (p : Pos), okP r p = true → ∀ x ∈ runs r p a, okP r x.next = true
  | [], p, _, x, hx => by simp [runs] at hx
  | m :: a, p, h, x, hx => by
    simp only [runs] at hx
    split at hx
    · rename_i hm
      have hn := (make_ok hm).2.2.2.1
      rcases List.mem_cons.1 hx with rfl | hx
      · exact hn
      · exact runs_ok a _ hn x hx
    · simp at hx
theorem lastPos_ok {r : Rul} : ∀ (l : List Res) (p : Pos), okP r p = true → (∀ x ∈ l, okP r x.next = true) → okP r (lastPos p l) = true
  | [], p, h, _ => h
  | x :: l, p, h, hx => lastPos_ok l x.next (hx x (by simp)) (fun y hy => hx y (by simp [hy]))
theorem okG_now {g : Gam} (h : okG g = true) : okP g.rules g.now = true := by
  obtain ⟨a, _, _, _, _, _, _, _, e⟩ := okG_parts h
  rw [e]
  exact lastPos_ok _ _ a (runs_ok _ _ a)
theorem okP_len {r : Rul} {p : Pos} (h : okP r p = true) : p.pits.length ≤ 4194304 ∧ p.stores.length ≤ 4194304 := by
  obtain ⟨_, b, c, d, _⟩ := okP_bd h
  omega
def count (p : Pos) (l : List Pos) : Int := (l.filter (fun q => sameP q p)).length
def gains (l : List Res) : List Int := l.map fun x => x.gain
@[simp] theorem gains_length (l : List Res) : (gains l).length = l.length := by simp [gains]
theorem betw01 {n : Int} : betw n 0 1 = isPl n := by
  rw [Bool.eq_iff_iff, betw_iff]; simp [isPl]; omega
theorem okP_no {r : Rul} {p : Pos} (h : okR r = false ∨ (p.pits.length : Int) ≠ 2 * r.pits ∨ (p.stores.length : Int) ≠ 2 ∨ betw p.player 0 1 = false) : okP r p = false := by
  rw [Bool.eq_false_iff]
  intro hx
  obtain ⟨g1, g2, g3, g4, -, -, g7⟩ := okP_bd hx
  have g8 := okP_okR hx
  rw [betw01] at h
  rcases h with h | h | h | h
  · rw [g8] at h; cases h
  · exact h g3
  · omega
  · simp [isPl] at h; omega
theorem okP_yes4 {r : Rul} {p : Pos} (h1 : okR r = true) (h2 : (p.pits.length : Int) = 2 * r.pits) (h3 : (p.stores.length : Int) = 2) (h4 : betw p.player 0 1 = true) :
    okP r p = (decide (0 ≤ sum4 p.pits) && decide (0 ≤ sum4 p.stores) && decide (sum4 p.pits + sum4 p.stores ≤ 96)) := okP_sum4 h1 h2 (by omega) (by obtain ⟨a, b⟩ := betw_iff.1 h4; omega)
theorem sum4_no {l : List Int} (h : allOk l = false) : sum4 l = -1 := by simp [sum4, h]
theorem sum4_big {l : List Int} (h : 96 < isum l) : sum4 l = -1 := by unfold sum4; rw [if_neg (by omega)]
theorem sum4_ok {l : List Int} (h : allOk l = true) (h2 : isum l ≤ 96) : sum4 l = isum l := by unfold sum4; rw [if_pos ⟨h, h2⟩]
def part (ps : List Int) (a b : Int) : Int := isum ((ps.drop a.toNat).take (b - a).toNat)
theorem part_step {ps : List Int} {a b : Int} (h0 : 0 ≤ a) (h1 : a < b) (h2 : b ≤ ps.length) : part ps a b = getI ps a + part ps (a + 1) b := by
  unfold part
  rw [drop_nth (by omega), show (b - a).toNat = (b - (a + 1)).toNat + 1 by omega, List.take_succ_cons, isum_cons, show (a + 1).toNat = a.toNat + 1 by omega]
  rfl
theorem part_end {ps : List Int} {a b : Int} (h : b ≤ a) : part ps a b = 0 := by
  unfold part
  rw [show (b - a).toNat = 0 by omega]; rfl
theorem side_part {r : Rul} {ps : List Int} {player : Int} (h : (player + 1) * r.pits = player * r.pits + r.pits) : side r ps player = part ps (player * r.pits) ((player + 1) * r.pits) := by
  unfold side part
  rw [show ((player + 1) * r.pits - player * r.pits).toNat = r.pits.toNat by omega]
theorem after_m1 {r : Rul} {player place : Int} (h : place = -1) (h0 : 0 ≤ (player + 1) * r.pits - 1) : after r player place = ((player + 1) * r.pits - 1 + 1) % (2 * r.pits) := by
  unfold after
  rw [if_neg (by omega), if_pos h]
  congr 1; omega
theorem after_end {r : Rul} {player place : Int} (h : r.stores = true ∧ place = (player + 1) * r.pits - 1) : after r player place = -1 := by unfold after; rw [if_pos ⟨h.2, h.1⟩]
theorem after_else {r : Rul} {player place : Int} (h : r.stores = true → ¬ place = (player + 1) * r.pits - 1) (h0 : place ≠ -1) : after r player place = (place + 1) % (2 * r.pits) := by
  unfold after
  rw [if_neg (fun e => h e.2 e.1), if_neg h0]
theorem sow_skip {r : Rul} {player frm place : Int} {n : Nat} {ps ss path : List Int} (hb : r.pits ≤ 8) (hc : 2 ≤ r.pits) (f0 : 0 ≤ frm) (f1 : frm < 2 * r.pits) (h : r.skip = true ∧ after r player place = frm) (hn : 0 < n) :
    sow r player frm n place ps ss path = sow r player frm n frm ps ss path := by
  obtain ⟨m, rfl⟩ : ∃ m, n = m + 1 := ⟨n - 1, by omega⟩
  have h1 := nxt_yes h
  have h2 := nxt_no (r := r) (player := player) (frm := frm) (place := frm) (fun e => after_ne r hb hc f0 f1 e.2)
  rw [sow_succ h1, sow_succ h2]
def ms (k place frm : Int) : Nat := 2 * k.toNat + (if place = frm then 0 else 1)
theorem ms_lt {k a b frm : Int} (h : 0 < k) : ms (k - 1) a frm < ms k b frm := by unfold ms; split <;> split <;> omega
theorem ms_skip {r : Rul} {player frm place k : Int} (hb : r.pits ≤ 8) (hc : 2 ≤ r.pits) (f0 : 0 ≤ frm) (f1 : frm < 2 * r.pits) (h : after r player place = frm) : ms k (after r player place) frm < ms k place frm := by
  have : place ≠ frm := fun e => after_ne r hb hc f0 f1 (player := player) (by rw [e] at h; exact h)
  unfold ms
  rw [if_pos h, if_neg this]; omega
def sowT (r : Rul) (p : Pos) (frm : Int) : Sw × List Int × Bool :=
  if (mvT r p.player 100 frm ⟨p.pits, p.stores, 0, 0⟩ []).1 = true then ((mvT r p.player 100 frm ⟨p.pits, p.stores, 0, 0⟩ []).2.1, (mvT r p.player 100 frm ⟨p.pits, p.stores, 0, 0⟩ []).2.2, true) else (Sw.zero, [], false)
theorem sowT_yes {r : Rul} {p : Pos} {frm : Int} (h : (mvT r p.player 100 frm ⟨p.pits, p.stores, 0, 0⟩ []).1 = true) : sowT r p frm = ((mvT r p.player 100 frm ⟨p.pits, p.stores, 0, 0⟩ []).2.1, (mvT r p.player 100 frm ⟨p.pits, p.stores, 0, 0⟩ []).2.2, true) := by unfold sowT; rw [if_pos h]
theorem sowT_no {r : Rul} {p : Pos} {frm : Int} (h : (mvT r p.player 100 frm ⟨p.pits, p.stores, 0, 0⟩ []).1 = false) : sowT r p frm = (Sw.zero, [], false) := by unfold sowT; rw [if_neg (by simp [h])]
theorem sowMove_T {r : Rul} {p : Pos} {move : Int} (h : sowCode r p move = 0) :
    sowMove r p move = (if (sowT r p (p.player * r.pits + move)).2.2 = true then 0 else 10, (sowT r p (p.player * r.pits + move)).1, (sowT r p (p.player * r.pits + move)).2.1) := by
  cases hm : (mvT r p.player 100 (p.player * r.pits + move) ⟨p.pits, p.stores, 0, 0⟩ []).1
  · rw [sowMove_end h hm, sowT_no hm]; rfl
  · rw [sowMove_yes h hm, sowT_yes hm]; rfl
def moreT (r : Rul) (player : Int) (s : Sw) (path : List Int) : Bool × Sw × List Int := if more r s = true then mvT r player (100 - s.laps).toNat s.last s path else (true, s, path)
theorem mvT_moreT {r : Rul} {player frm : Int} {s : Sw} {path : List Int} (h0 : 0 ≤ s.laps) (h1 : s.laps ≤ 99) : mvT r player (100 - s.laps).toNat frm s path = moreT r player (lap r player frm s path).1 (lap r player frm s path).2 := by
  have hl : (lap r player frm s path).1.laps = s.laps + 1 := rfl
  rw [show (100 - s.laps).toNat = (99 - s.laps).toNat + 1 by omega]
  unfold moreT
  rw [hl, show (100 - (s.laps + 1)).toNat = (99 - s.laps).toNat by omega]
  cases hm : more r (lap r player frm s path).1
  · rw [mvT_no hm, if_neg (by simp)]
  · rw [mvT_yes hm, if_pos rfl]
theorem moreT_yes {r : Rul} {player : Int} {s : Sw} {path : List Int} (h : more r s = true) : moreT r player s path = mvT r player (100 - s.laps).toNat s.last s path := by unfold moreT; rw [if_pos h]
theorem moreT_no {r : Rul} {player : Int} {s : Sw} {path : List Int} (h : more r s = false) : moreT r player s path = (true, s, path) := by unfold moreT; rw [if_neg (by simp [h])]
theorem sowT_done {r : Rul} {p : Pos} {frm : Int} {s : Sw} {path : List Int} (h : mvT r p.player 100 frm ⟨p.pits, p.stores, 0, 0⟩ [] = (true, s, path)) : sowT r p frm = (s, path, true) := by rw [sowT_yes (by rw [h]), h]
theorem sowMove_fail {r : Rul} {p : Pos} {move : Int} (h : sowCode r p move = 0) (h2 : (sowT r p (p.player * r.pits + move)).2.2 = false) : sowMove r p move = (10, Sw.zero, []) := by
  refine sowMove_end h ?_
  cases hm : (mvT r p.player 100 (p.player * r.pits + move) ⟨p.pits, p.stores, 0, 0⟩ []).1
  · rfl
  · rw [sowT_yes hm] at h2; cases h2
theorem sowMove_T2 {r : Rul} {p : Pos} {move : Int} (h : sowCode r p move = 0) (h2 : (sowT r p (p.player * r.pits + move)).2.2 = true) : sowMove r p move = (0, (sowT r p (p.player * r.pits + move)).1, (sowT r p (p.player * r.pits + move)).2.1) := by
  rw [sowMove_T h, if_pos h2]
theorem zeros_step {l : List Int} {k : Nat} (h : k < l.length) (ps : List Int) : zeros (l.take (k + 1)) ps = setI (zeros (l.take k) ps) (nth l k) 0 := by
  rw [take_nth h]; simp [zeros]
theorem cap_sum {r : Rul} {s : Sw} {player : Int} (hG : Good r s.pits s.stores 0) (h1 : s.last < 2 * r.pits) : 0 ≤ isum ((captured r s player).map (getI s.pits)) ∧ isum ((captured r s player).map (getI s.pits)) ≤ 96 * (captured r s player).length := by
  have : ∀ l : List Int, 0 ≤ isum (l.map (getI s.pits)) ∧ isum (l.map (getI s.pits)) ≤ 96 * l.length := by
    intro l
    induction l with
    | nil => simp
    | cons x l ih => have := hG.pit x; simp only [List.map_cons, isum_cons, List.length_cons]; omega
  exact this _
theorem make_sow {r : Rul} {p : Pos} {move : Int} (h : (sowMove r p move).1 ≠ 0) : make r p move = (Res.zero, (sowMove r p move).1) := by
  have hd : done r p move = (Sw.zero, (sowMove r p move).1) := by unfold done; rw [if_pos h]
  rw [make_no (by rw [hd]; exact h), hd]
theorem make_slam {r : Rul} {p : Pos} {move : Int} (h : (sowMove r p move).1 = 0) (h2 : r.slam = 1 ∧ slams r (sowMove r p move).2.1 p.player = true) : make r p move = (Res.zero, 9) := by
  have hd : done r p move = (Sw.zero, 9) := by unfold done; rw [if_neg (by simpa using h), if_pos (by simp [h2])]
  rw [make_no (by rw [hd]; decide), hd]
theorem make_feed {r : Rul} {p : Pos} {move : Int} (h : (sowMove r p move).1 = 0) (h2 : ¬ (r.slam = 1 ∧ slams r (sowMove r p move).2.1 p.player = true)) (h3 : mustFeed r p = true ∧ side r (take r (sowMove r p move).2.1 p.player).pits (1 - p.player) = 0) : make r p move = (Res.zero, 9) := by
  have hd : done r p move = (Sw.zero, 9) := by unfold done; rw [if_neg (by simpa using h), if_pos (by simp [h3])]
  rw [make_no (by rw [hd]; decide), hd]
theorem make_go {r : Rul} {p : Pos} {move : Int} (h : (sowMove r p move).1 = 0) (h2 : ¬ (r.slam = 1 ∧ slams r (sowMove r p move).2.1 p.player = true)) (h3 : mustFeed r p = true → ¬ side r (take r (sowMove r p move).2.1 p.player).pits (1 - p.player) = 0) : make r p move = (resOf r p move (take r (sowMove r p move).2.1 p.player), 0) := by
  have hd : done r p move = (take r (sowMove r p move).2.1 p.player, 0) := by
    unfold done
    rw [if_neg (by simpa using h), if_neg]
    simp only [Bool.or_eq_true, Bool.and_eq_true, decide_eq_true_eq, not_or]
    exact ⟨h2, fun e => h3 e.1 e.2⟩
  rw [make_yes (by rw [hd]), hd]
theorem rul_ext {a b : Rul} (h1 : a.pits = b.pits) (h2 : a.seeds = b.seeds) (h3 : a.stores = b.stores) (h4 : a.skip = b.skip) (h5 : a.relay = b.relay) (h6 : a.feed = b.feed) (h7 : a.again = b.again) (h8 : a.capture = b.capture) (h9 : a.slam = b.slam) : a = b := by cases a; cases b; simp_all
theorem gam_ext {a b : Gam} (h1 : a.rules = b.rules) (h2 : a.start = b.start) (h3 : a.moves = b.moves) (h4 : a.now = b.now) (h5 : a.resigned = b.resigned) : a = b := by cases a; cases b; simp_all
def up (k : Int) (n : Nat) : List Int := (List.range n).map fun (i : Nat) => k + (i : Int)
@[simp] theorem up_length (k : Int) (n : Nat) : (up k n).length = n := by simp [up]
theorem nth_up {k : Int} {n i : Nat} (h : i < n) : nth (up k n) i = k + i := by simp [nth, up, List.getD, h]
def all (p : Pos) : Int := isum p.pits + isum p.stores
def majority (p : Pos) : Int := if all p < 2 * getI p.stores 0 then 0 else if all p < 2 * getI p.stores 1 then 1 else -1
def setT (r : Rul) (p : Pos) : Nat → List Int
  | 0 => p.stores
  | k + 1 => setI (setT r p k) k (getI (setT r p k) k + side r p.pits k)
@[simp] theorem setT_length (r : Rul) (p : Pos) : ∀ k, (setT r p k).length = p.stores.length
  | 0 => rfl
  | k + 1 => by rw [setT, setI_length]; exact setT_length r p k
def settle (r : Rul) (p : Pos) : Pos := ⟨List.replicate p.pits.length 0, setT r p 2, p.player⟩
def give (p : Pos) (player : Int) : Pos := ⟨List.replicate p.pits.length 0, setI p.stores player (getI p.stores player + isum p.pits), p.player⟩
def endOf (g : Gam) : Int :=
  if 0 ≤ g.resigned then 1 else if 0 ≤ majority g.now then 2 else if (results g.rules g.now).length = 0 then 3 else if 3 ≤ count g.now (playedP g) then 4 else if g.moves.length = 120 then 5 else 0
theorem endOf_1 {g : Gam} (h : 0 ≤ g.resigned) : endOf g = 1 := by unfold endOf; rw [if_pos h]
def final (g : Gam) : Pos := if 0 ≤ g.resigned then give g.now (1 - g.resigned) else settle g.rules g.now
def endC (g : Gam) : Int := if okG g = true then (if endOf g = 0 then 6 else 0) else 1
theorem endC_0 {g : Gam} (h : okG g = true) (h2 : endOf g ≠ 0) : endC g = 0 := by unfold endC; rw [if_pos h, if_neg h2]
def winner (g : Gam) : Int :=
  if endC g ≠ 0 then 0 else if 0 ≤ g.resigned then 1 - g.resigned else if nth (final g).stores 1 < nth (final g).stores 0 then 0 else if nth (final g).stores 0 < nth (final g).stores 1 then 1 else -1
theorem winner_r {g : Gam} (h : endC g = 0) (h1 : 0 ≤ g.resigned) : winner g = 1 - g.resigned := by unfold winner; rw [if_neg (by simp [h]), if_pos h1]
def resign (g : Gam) (player : Int) : Gam × Int :=
  if okG g = true then (if isPl player = true then (if 0 ≤ g.resigned then (Gam.zero, 6) else (⟨g.rules, g.start, g.moves, g.now, player⟩, 0)) else (Gam.zero, 2)) else (Gam.zero, 1)
theorem resign_1 {g : Gam} {player : Int} (h : okG g = false) : resign g player = (Gam.zero, 1) := by unfold resign; rw [if_neg (by simp [h])]
theorem resign_2 {g : Gam} {player : Int} (h : okG g = true) (h2 : isPl player = false) : resign g player = (Gam.zero, 2) := by unfold resign; rw [if_pos h, if_neg (by simp [h2])]
theorem resign_6 {g : Gam} {player : Int} (h : okG g = true) (h2 : isPl player = true) (h3 : 0 ≤ g.resigned) : resign g player = (Gam.zero, 6) := by unfold resign; rw [if_pos h, if_pos h2, if_pos h3]
theorem resign_0 {g : Gam} {player : Int} (h : okG g = true) (h2 : isPl player = true) (h3 : ¬ 0 ≤ g.resigned) : resign g player = (⟨g.rules, g.start, g.moves, g.now, player⟩, 0) := by unfold resign; rw [if_pos h, if_pos h2, if_neg h3]
theorem play_6 {g : Gam} {move : Int} (h : 0 ≤ g.resigned) : play g move = (Gam.zero, 6) := by unfold play; rw [if_pos h]
theorem play_5 {g : Gam} {move : Int} (h : ¬ 0 ≤ g.resigned) (h2 : g.moves.length = 120) : play g move = (Gam.zero, 5) := by unfold play; rw [if_neg h, if_pos h2]
theorem play_c {g : Gam} {move : Int} (h : ¬ 0 ≤ g.resigned) (h2 : g.moves.length ≠ 120) (h3 : (make g.rules g.now move).2 ≠ 0) : play g move = (Gam.zero, (make g.rules g.now move).2) := by unfold play; rw [if_neg h, if_neg h2, if_pos h3]
theorem play_0 {g : Gam} {move : Int} (h : ¬ 0 ≤ g.resigned) (h2 : g.moves.length ≠ 120) (h3 : (make g.rules g.now move).2 = 0) : play g move = (⟨g.rules, g.start, g.moves ++ [move], (make g.rules g.now move).1.next, g.resigned⟩, 0) := by unfold play; rw [if_neg h, if_neg h2, if_neg (by simp [h3])]
def playR (g : Gam) (move : Int) : Gam × Int := if okG g = true then play g move else (Gam.zero, 1)
theorem playR_yes {g : Gam} {move : Int} (h : okG g = true) : playR g move = play g move := by unfold playR; rw [if_pos h]
def plays : Gam → List Int → Gam × Nat
  | g, [] => (g, 0)
  | g, m :: ms => if (play g m).2 = 0 then ((plays (play g m).1 ms).1, (plays (play g m).1 ms).2 + 1) else (g, 0)
def Plays (g : Gam) (moves : List Int) (k : Nat) (gk : Gam) : Prop := plays g moves = ((plays gk (moves.drop k)).1, (plays gk (moves.drop k)).2 + k)
theorem Plays.zero (g : Gam) (moves : List Int) : Plays g moves 0 g := by simp [Plays]
theorem Plays.step {g gk : Gam} {moves : List Int} {k : Nat} (h : Plays g moves k gk) (hk : k < moves.length) (hz : (play gk (nth moves k)).2 = 0) : Plays g moves (k + 1) (play gk (nth moves k)).1 := by
  unfold Plays at *
  rw [drop_nth hk, plays, if_pos hz] at h
  rw [h]
  simp; omega
theorem Plays.end_ {g gk : Gam} {moves : List Int} {k : Nat} (h : Plays g moves k gk) (hk : moves.length ≤ k) : plays g moves = (gk, k) := by
  unfold Plays at h
  rw [List.drop_eq_nil_of_le hk, plays] at h
  rw [h]; simp
structure Small (g : Gam) : Prop where
  sp : g.start.pits.length ≤ 4194304
  ss : g.start.stores.length ≤ 4194304
  m : g.moves.length ≤ 120
  np : g.now.pits.length ≤ 4194304
  ns : g.now.stores.length ≤ 4194304
theorem Small.ok {g : Gam} (h : okG g = true) : Small g := by
  obtain ⟨a, b, _⟩ := okG_parts h
  have c := okP_len a
  have d := okP_len (okG_now h)
  exact ⟨c.1, c.2, b, d.1, d.2⟩
theorem Small.play {g : Gam} {move : Int} (h : Small g) (hz : (play g move).2 = 0) : Small (play g move).1 := by
  have q1 : ¬ 0 ≤ g.resigned := fun e => by rw [play_6 e] at hz; simp at hz
  have q2 : g.moves.length ≠ 120 := fun e => by rw [play_5 q1 e] at hz; simp at hz
  have q3 : (make g.rules g.now move).2 = 0 := by
    apply Classical.byContradiction
    intro e
    rw [play_c q1 q2 e] at hz
    exact e hz
  rw [play_0 q1 q2 q3]
  have l := okP_len (make_ok q3).2.2.2.1
  have := h.m
  exact ⟨h.sp, h.ss, by simp; omega, l.1, l.2⟩
theorem up_succ (k : Int) (n : Nat) : up k (n + 1) = up k n ++ [k + (n : Int)] := by simp [up, List.range_succ]
def mkd (a : List Int) (k : Int) (i : Nat) : List Int := up k i ++ a.drop i
theorem mkd_zero (a : List Int) (k : Int) : a = mkd a k 0 := by simp [mkd, up]
theorem mkd_step {a : List Int} {k : Int} {i : Nat} (h : i < a.length) : (mkd a k i).set i (k + (i : Int)) = mkd a k (i + 1) := by
  unfold mkd
  rw [List.set_append_right _ _ (by simp)]
  rw [drop_nth h, up_succ]
  simp
theorem mkd_end {a : List Int} {k : Int} {i : Nat} (h : i = a.length) : mkd a k i = up k a.length := by subst h; simp [mkd]
def held (a : List Int) (k : Int) : Int := if a = up k a.length then k + a.length else -1
theorem held_up (k : Int) (n : Nat) : held (up k n) k = k + n := by unfold held; rw [if_pos (by simp)]; simp
theorem held_no {a : List Int} {k : Int} {i : Nat} (h : i < a.length) (hn : nth a i ≠ k + (i : Int)) : held a k = -1 := by
  unfold held
  rw [if_neg]
  intro e
  rw [e, nth_up h] at hn
  exact hn rfl
theorem held_yes {a : List Int} {k : Int} {i : Nat} (h : i = a.length) (hu : a.take i = up k i) : held a k = k + (i : Int) := by
  subst h
  unfold held
  rw [List.take_length] at hu
  rw [if_pos hu]
theorem held_step {a : List Int} {k : Int} {i : Nat} (h : i < a.length) (hu : a.take i = up k i) (he : nth a i = k + (i : Int)) : a.take (i + 1) = up k (i + 1) := by rw [take_nth h, hu, he, up_succ]
theorem held_bd (a : List Int) {k : Int} (h : 0 ≤ k) : -1 ≤ held a k ∧ held a k ≤ k + a.length := by unfold held; split <;> omega
theorem Small.zero : Small Gam.zero := ⟨by decide, by decide, by decide, by decide, by decide⟩
end Go.Proofs.YtjklnidbndopiaaGreatDoor.M
namespace Go.Proofs.YtjklnidbndopiaaGreatDoor
open Go.RowKit
def Ty.opt (c : Bool) (T : Ty) : Ty :=
  ⟨fun w v => if c = true then T.ok w v else v = .pointer none, fun w v fp => if c = true then T.own w v fp else v = .pointer none ∧ fp = [],
   fun {_ _ _} h x => by split at h <;> rename_i hc <;> simp only [hc, if_true, if_false, Bool.false_eq_true]; exact T.mono h x; exact h,
   fun {_ _ _ _} h x => by split at h <;> rename_i hc <;> simp only [hc, if_true, if_false, Bool.false_eq_true]; exact T.loc h x; exact h,
   fun {_ _ _} h => by split at h <;> rename_i hc <;> simp only [hc, if_true, if_false, Bool.false_eq_true]; exact T.ownok h; exact h.1⟩
theorem opt_yes {c : Bool} {T : Ty} {u : World} {v : Value} (h : (Ty.opt c T).ok u v) (hc : c = true) : T.ok u v := by
  subst hc; exact h
theorem opt_own {c : Bool} {T : Ty} {u : World} {v : Value} {fp : List Nat} (h : T.own u v fp) (hc : c = true) : (Ty.opt c T).own u v fp := by
  subst hc; exact h
theorem opt_nil {c : Bool} {T : Ty} {u : World} (hc : c = false) : (Ty.opt c T).own u (.pointer none) [] := by
  subst hc; exact ⟨rfl, rfl⟩
theorem box_ref {T : TypeId} {Ts : List Ty} {u : World} {v : Value} (h : (Ty.box T Ts).ok u v) : (Ty.ref Ts).ok u v := h
section
theorem Spl.agg {Ts : List Ty} {Rs : List (Value → List Own → Prop)} (hs : Spls Ts Rs) : Spl (Ty.agg Ts) (fun v ow => ∃ vs, v = .agg vs.toArray ∧ RL Rs vs ow) := fun w v fp h => by
  obtain ⟨vs, rfl, hc⟩ := h
  obtain ⟨ow, h1, h2, h3⟩ := hs.cells hc
  exact ⟨ow, ⟨vs, rfl, h1⟩, h2, h3⟩
theorem Spl.box {T : TypeId} {Ts : List Ty} {Rs : List (Value → List Own → Prop)} (hs : Spls Ts Rs) : Spl (Ty.box T Ts) (fun v ow => ∃ b vs o2, v = .pointer (some ⟨b, 0, none⟩) ∧ RL Rs vs o2 ∧ ow = boxO b vs T :: o2) := fun w v fp h => by
  obtain ⟨b, vs, f, rfl, rfl, hb, hc⟩ := h
  obtain ⟨ow, h1, h2, h3⟩ := hs.cells hc
  refine ⟨_, ⟨b, vs, ow, rfl, h1, rfl⟩, by simp [boxO, h2], fun o ho => ?_⟩
  rcases List.mem_cons.1 ho with rfl | ho
  · exact hb
  · exact h3 o ho
end
theorem box_own {w : World} {b : Nat} {vs : List Value} {T : TypeId} {Ts : List Ty} {f : List Nat} (hb : (boxO b vs T).pr w) (hc : cellsOwn w Ts vs f) : (Ty.box T Ts).own w (.pointer (some ⟨b, 0, none⟩)) (b :: f) := ⟨b, vs, f, rfl, rfl, hb, hc⟩
section
variable {P : Program} {n lo : Nat} {B : List Nat} {Q : Exit → Act → World → Prop} {cs : List Code} {l : Fr} {os : List Own} {u : World} {dst : Option Tmp} {ty : TypeId} {pos : String} {af : Array Edge} {gd : Option (Nat × Bool)}
theorem Js.trashE (k : Js P n lo B Q cs l (os ++ [anyO []]) u) : Js P n lo B Q cs l os u := Js.conv (fun w h => h.conv (fun o ho => by
    rcases List.mem_append.1 ho with ho | ho
    · exact h.prs o ho
    · simp at ho; subst ho; trivial) (by simp [anyO])) k
theorem St.move {w : World} (h : St lo B u w os) {i : Nat} {o : Own} (hi : os[i]? = some o) : St lo B u w (os.eraseIdx i ++ [o]) := by
  refine (h.front hi).swap ?_
  exact List.perm_append_singleton _ _
theorem St.join2 {w : World} {i j : Nat} {Ts Us : List Ty} {vs us : List Value} {f g : List Nat} (h : St lo B u w os) (hi : os[i]? = some (ownC Ts vs f)) (hj : (os.eraseIdx i)[j]? = some (ownC Us us g)) :
    St lo B u w (ownC (Ts ++ Us) (vs ++ us) (f ++ g) :: (os.eraseIdx i).eraseIdx j) := by
  have h1 := h.front hi
  have h2 := h1.front (i := j + 1) (o := ownC Us us g) (by simpa using hj)
  refine St.join (h2.swap ?_)
  simp only [List.eraseIdx_cons_succ]
  exact List.Perm.swap _ _ _
theorem Js.join2 {i j : Nat} {Ts Us : List Ty} {vs us : List Value} {f g : List Nat} (hi : os[i]? = some (ownC Ts vs f)) (hj : (os.eraseIdx i)[j]? = some (ownC Us us g))
    (k : Js P n lo B Q cs l (ownC (Ts ++ Us) (vs ++ us) (f ++ g) :: (os.eraseIdx i).eraseIdx j) u) : Js P n lo B Q cs l os u := Js.conv (fun _ h => h.join2 hi hj) k
theorem Js.front {i : Nat} {o : Own} (hi : os[i]? = some o) (k : Js P n lo B Q cs l (o :: os.eraseIdx i) u) : Js P n lo B Q cs l os u := Js.conv (fun _ h => h.front hi) k
theorem Js.vals {Ts : List Ty} {vs : List Value} (hc : ∀ w, cellsOwn w Ts vs []) (k : Js P n lo B Q cs l (ownC Ts vs [] :: os) u) : Js P n lo B Q cs l os u := Js.conv (fun w h => h.addVals (hc w)) k
theorem e_makeI {x y : Operand} {t e : TypeId} {by' : Nat} {m : Nat} {a0 : Int} (ht : elOf P t = some (e, 1, by', [.int .i64 0])) (hb : Nat.ble by' 64 = true) (hx : opd l x = some (.int .i64 a0)) (hy : opd l y = some (.int .i64 a0)) (ha0 : a0 = (m : Int)) (hm : m ≤ 16777216) :
    OpE P n lo B l os u ⟨dst, .makeSlice t x y, ty, pos, af, gd⟩ true (fun v' os' u' => ∃ b, v' = .slice (some ⟨b, 0, none⟩) m m ∧ os' = rowO e 1 (.slice (some ⟨b, 0, none⟩) m m) m (ints_ (List.replicate m 0)) [] :: os ∧ u = u') := fun a w ha hw K Q hk => by
  subst ha0
  have hb : by' ≤ 64 := by simpa [Nat.ble_eq] using hb
  unfold elOf at ht
  split at ht
  · rename_i e' hu
    split at ht
    · rename_i i' hi'
      split at ht
      · rename_i zv hzz
        simp only [Option.some.injEq, Prod.mk.injEq] at ht
        obtain ⟨rfl, hs1, rfl, hz⟩ := ht
        have hz' : zv.cells = #[.int .i64 0] := by
          have := congrArg List.toArray hz
          simpa using this
        have hbm : i'.bytes * m ≤ 281474976710656 := by
          have : i'.bytes * m ≤ 64 * m := Nat.mul_le_mul_right m hb
          omega
        have hb63 : (i'.bytes : Int) * (m : Int) ≤ 281474976710656 := by
          have h9 : ((i'.bytes * m : Nat) : Int) ≤ 281474976710656 := by omega
          rwa [Int.natCast_mul] at h9
        have hr := run_makeSlice (P := P) w t e' i' zv hu hi' hzz .i64 .i64 (m : Int) (m : Int) (by omega) (by omega) (by rw [hs1, Int.toNat_natCast, Nat.mul_one]; exact hm) hb63 (by omega)
        have hcells : madeCells zv.cells ((m : Int).toNat * i'.size) = (ints_ (List.replicate m 0)).toArray := by
          rw [hs1, hz']
          apply Array.ext'
          simp only [madeCells, ints_, List.map_replicate, Int.toNat_natCast, Nat.mul_one, List.size_toArray, List.length_cons, List.length_nil, Nat.zero_add, Nat.mod_one]
          simp only [Array.toList_map, Array.toList_range]
          refine List.ext_getElem? fun k => ?_
          simp only [List.getElem?_map, List.getElem?_replicate]
          by_cases hk : k < m
          · rw [List.getElem?_range hk]; simp [hk]
          · rw [List.getElem?_eq_none (by simpa using hk)]; simp [hk]
        rw [hcells] at hr
        have hr' : (execOp a.eval ⟨dst, .makeSlice t x y, ty, pos, af, gd⟩).run P w = .ok (.value (.slice (some ⟨w.heap.size, 0, none⟩) m m)) (w.alloc (.cells (ints_ (List.replicate m 0)).toArray e')) := by
          simp [execOp, ha.eval hx, ha.eval hy, hr]
        unfold Oper.wp
        rw [hr']
        refine hk _ _ u _ ⟨_, rfl, rfl, rfl⟩ (Up.refl lo u) (hw.newRow e' 1 m _ (by simp [ints_]) (by unfold maxLen; omega)) (fun _ => (Ext.refl w).alloc _)
      · simp at ht
    · simp at ht
  · simp at ht
end
theorem ints_some {e : TypeId} {c : Nat} {A : Option Addr} {xs : List Int} {u : World} (h : (Ty.ints e xs).ok u (.slice A xs.length c)) (hp : 0 < xs.length) : ∃ b o, A = some ⟨b, o, none⟩ := by
  obtain ⟨b, o, h1, _⟩ := ints_elem h hp
  unfold elemA at h1
  split at h1
  · rename_i h2; injection h2 with h2 _ _; exact ⟨_, _, h2⟩
  · simp at h1
theorem ints_cell {e : TypeId} {c b o i : Nat} {xs : List Int} {u : World} (h : (Ty.ints e xs).ok u (.slice (some ⟨b, o, none⟩) xs.length c)) (hi : i < xs.length) : Cell u b (o + i * 1) (.int .i64 (M.nth xs i)) := by
  obtain ⟨b', o', h1, h2⟩ := ints_elem h hi
  have h3 : some (⟨b, o + i * 1, none⟩ : Addr) = some ⟨b', o', none⟩ := h1
  injection h3 with h3
  injection h3 with h3 h4
  subst h3; subst h4; exact h2
theorem ints_cellI {e : TypeId} {c b o : Nat} {i : Int} {xs : List Int} {u : World} (h : (Ty.ints e xs).ok u (.slice (some ⟨b, o, none⟩) xs.length c)) (hi : i.toNat < xs.length) : Cell u b (o + i.toNat * 1) (.int .i64 (M.getI xs i)) := ints_cell h hi
theorem ints_row {e : TypeId} {n : Nat} {xs ys : List Int} {w : World} {v : Value} (hr : w.ownsRow 0 e 1 v n (ints_ xs)) (h : xs = ys) : (Ty.ints e ys).own w v (v.ownBlock.toList ++ []) := by
  subst h
  have hn : n = xs.length := by have := hr.1; simp [ints_] at this; omega
  subst hn
  exact row_own hr (ints_own _ _)
theorem ints_rowok {e : TypeId} {n : Nat} {xs : List Int} {w : World} {v : Value} (hr : w.ownsRow 0 e 1 v n (ints_ xs)) : (Ty.ints e xs).ok w v := (Ty.ints e xs).ownok (ints_row hr rfl)
theorem Spls.nil : Spls [] [] := trivial
theorem Spls.cons {T : Ty} {Ts : List Ty} {R : Value → List Own → Prop} {Rs : List (Value → List Own → Prop)} (h : Spl T R) (k : Spls Ts Rs) : Spls (T :: Ts) (R :: Rs) := ⟨h, k⟩
theorem ints_getI {xs : List Int} {i : Int} (h : i.toNat < xs.length) : (ints_ xs)[0 + i.toNat * 1]? = some (.int .i64 (M.getI xs i)) := ints_get h
theorem ints_lt {xs : List Int} {i : Nat} (h : i < xs.length) : 0 + i * 1 + 1 ≤ (ints_ xs).length := by simp only [ints_, List.length_map]; omega
def RoRow (w : World) (e : TypeId) (v : Value) (n : Nat) (vs : List Value) : Prop :=
  vs.length = n ∧ ((v = .slice none 0 0 ∧ n = 0) ∨ ∃ g c cur, v = .slice (some ⟨g, 0, none⟩) n c ∧ w.heap[g]? = some (.cells cur e (0, 0)) ∧ n ≤ c ∧ c ≤ maxLen ∧ c ≤ cur.size ∧ cur.toList.take n = vs)
theorem RoRow.loc {w w' : World} {e : TypeId} {v : Value} {n : Nat} {vs : List Value} (h : RoRow w e v n vs) (k : ∀ b ∈ v.ownBlock.toList, w'.heap[b]? = w.heap[b]?) : RoRow w' e v n vs := by
  refine ⟨h.1, ?_⟩
  rcases h.2 with h2 | ⟨g, c, cur, rfl, hg, r⟩
  · exact .inl h2
  · exact .inr ⟨g, c, cur, rfl, by rw [k g (by simp [Value.ownBlock])]; exact hg, r⟩
theorem RoRow.form {w : World} {e : TypeId} {v : Value} {n : Nat} {vs : List Value} (h : RoRow w e v n vs) : ∃ A c, v = .slice A n c ∧ n ≤ c ∧ c ≤ 9223372036854775807 := by
  rcases h.2 with ⟨rfl, rfl⟩ | ⟨g, c, cur, rfl, hg, h1, h2, _⟩
  · exact ⟨_, _, rfl, Nat.le_refl _, by omega⟩
  · exact ⟨_, _, rfl, h1, h2⟩
theorem RoRow.ok {w : World} {e : TypeId} {v : Value} {n : Nat} {xs : List Int} (h : RoRow w e v n (ints_ xs)) : (Ty.ints e xs).ok w v := by
  have hl : n = xs.length := by rw [← h.1]; simp [ints_]
  subst hl
  rcases h.2 with ⟨rfl, h0⟩ | ⟨g, c, cur, rfl, hg, h1, h2, h3, h4⟩
  · exact ⟨by simp, none, 0, ints_ xs, by rw [h0], by omega, by unfold maxLen; omega, (ints_own w xs).ok, fun hp => by simp [h0] at hp⟩
  · refine ⟨by simp, some ⟨g, 0, none⟩, c, ints_ xs, rfl, h1, h2, (ints_own w xs).ok, fun _ => ⟨g, 0, rfl, fun j x hj => ⟨cur, e, (0, 0), hg, ?_⟩⟩⟩
    rw [← h4, List.getElem?_take] at hj
    split at hj
    · rw [Nat.zero_add]; simpa using hj
    · simp at hj
def roO (e : TypeId) (v : Value) (n : Nat) (vs : List Value) : Own := ⟨v.ownBlock.toList, fun w => RoRow w e v n vs, fun h k => k.loc h⟩
def Ty.ro (e : TypeId) (xs : List Int) : Ty :=
  ⟨fun w v => (Ty.ints e xs).ok w v,
   fun w v fp => fp = v.ownBlock.toList ∧ RoRow w e v xs.length (ints_ xs),
   fun h x => Ty.mono _ h x,
   fun {_ _ _ _} h k => ⟨h.1, h.2.loc (fun b hb => k b (by rw [h.1]; exact hb))⟩,
   fun h => h.2.ok⟩
theorem ro_form {e : TypeId} {u : World} {v : Value} {xs : List Int} (h : (Ty.ro e xs).ok u v) : ∃ A c, v = .slice A xs.length c ∧ xs.length ≤ c ∧ c ≤ 9223372036854775807 := sl_form (show (Ty.ints e xs).ok u v from h)
theorem ro_own {w : World} {e : TypeId} {v : Value} {n : Nat} {xs ys : List Int} (h : RoRow w e v n (ints_ ys)) (hx : ys = xs) : (Ty.ro e xs).own w v v.ownBlock.toList := by
  subst hx
  have hl : n = ys.length := by rw [← h.1]; simp [ints_]
  subst hl
  exact ⟨rfl, h⟩
theorem Spl.ro (e : TypeId) (xs : List Int) : Spl (Ty.ro e xs) (fun v ow => ∃ A c, v = .slice A xs.length c ∧ ow = [roO e (.slice A xs.length c) xs.length (ints_ xs)] ∧ xs.length ≤ c ∧ c ≤ 9223372036854775807) := fun w v fp h => by
  obtain ⟨A, c, rfl, h1, h2⟩ := h.2.form
  exact ⟨_, ⟨A, c, rfl, rfl, h1, h2⟩, by simpa [roO] using h.1, fun o ho => by simp at ho; subst ho; exact h.2⟩
theorem srow_own {α : Type} (F : List α → List Ty) {w : World} {e : TypeId} {sz m : Nat} {v : Value} {vs : List Value} {xs ys : List α} {f : List Nat} (hr : w.ownsRow 0 e sz v m vs) (hc : cellsOwn w (F xs) vs f) (hl : (F xs).length = xs.length * sz) (h : xs = ys) (hsz : 0 < sz := by decide) :
    (Ty.sl e sz ys.length (F ys)).own w v (v.ownBlock.toList ++ f) := by
  subst h
  have h1 := hr.1
  have h2 := hc.length
  have hm : m = xs.length := Nat.eq_of_mul_eq_mul_right hsz (by omega)
  subst hm
  exact row_own hr hc
theorem snil_own {α : Type} (F : List α → List Ty) {w : World} {e : TypeId} {sz : Nat} {xs : List α} (h : [] = xs) (hF : F [] = [] := by rfl) : (Ty.sl e sz xs.length (F xs)).own w (.slice none 0 0) [] := by
  subst h
  rw [hF]
  exact ⟨by simp, [], [], ⟨by simp, .inl ⟨rfl, rfl⟩⟩, rfl, rfl⟩
theorem flat_len' {α β : Type} (f : α → List β) (k : Nat) (hf : ∀ a, (f a).length = k) : ∀ (l : List α), (l.flatMap f).length = l.length * k
  | [] => by simp
  | x :: l => by rw [List.flatMap_cons, List.length_append, hf, flat_len' f k hf l, List.length_cons, Nat.succ_mul, Nat.add_comm]
section
variable {P : Program} {n lo : Nat} {B : List Nat} {Q : Exit → Act → World → Prop} {cs : List Code} {l : Fr} {os : List Own} {u : World}
theorem Js.joinL {i j : Nat} {Ts Us Vs : List Ty} {vs us : List Value} {f g : List Nat} (hi : os[i]? = some (ownC Ts vs f)) (hj : (os.eraseIdx i)[j]? = some (ownC Us us g)) (he : Ts ++ Us = Vs)
    (k : ∀ f', Js P n lo B Q cs l (ownC Vs (vs ++ us) f' :: (os.eraseIdx i).eraseIdx j) u) : Js P n lo B Q cs l os u := by
  subst he
  exact Js.join2 hi hj (k _)
theorem Mem.rowR' {i b c m sz : Nat} {e : TypeId} {vs : List Value} {g : List Nat} {o s : Nat} {x : List Value} (hi : os[i]? = some (rowO e sz (.slice (some ⟨b, 0, none⟩) m c) m vs g)) (he : (vs.drop o).take s = x) : Mem lo B u os fun w => RowAt w b o x := by
  subst he; exact Mem.rowR hi o s
end
section
variable {P : Program} {n lo : Nat} {B : List Nat} {Q : Exit → Act → World → Prop} {cs : List Code} {l : Fr} {os : List Own} {u : World} {K : Act → World → Prop} {ops : Array Oper} {rest : List Oper}
theorem Js.ex3 {F : List Nat → List Nat → List Nat → List Own} (ho : ∀ w, St lo B u w os → ∃ a b c, St lo B u w (F a b c)) (k : ∀ a b c, Js P n lo B Q cs l (F a b c) u) : Js P n lo B Q cs l os u := fun a w ha hw => by
  obtain ⟨x, y, z, h⟩ := ho w hw
  exact k x y z a w ha h
theorem JL.ex3 {F : List Nat → List Nat → List Nat → List Own} (ho : ∀ w, St lo B u w os → ∃ a b c, St lo B u w (F a b c)) (k : ∀ a b c, JL P n lo B K ops rest l (F a b c) u) : JL P n lo B K ops rest l os u := fun a w ha hw => by
  obtain ⟨x, y, z, h⟩ := ho w hw
  exact k x y z a w ha h
theorem St.elemS {α : Type} (F : α → List Ty) {w : World} {i m k : Nat} {xs : List α} {y : α} {vs c : List Value} {f : List Nat} (hF : ∀ a, (F a).length = m) (hi : os[i]? = some (ownC (xs.flatMap F) vs f)) (hy : xs[k]? = some y) (hc : (vs.drop (0 + k * m)).take m = c)
    (hw : St lo B u w os) : ∃ f1 f2 f3, St lo B u w (ownC (F y) c f1 :: ownC ((xs.drop (k + 1)).flatMap F) (vs.drop (k * m + m)) f2 :: ownC ((xs.take k).flatMap F) (vs.take (k * m)) f3 :: os.eraseIdx i) := by
  have h1 := hw.front hi
  obtain ⟨hk, hy'⟩ := List.getElem?_eq_some_iff.1 hy
  have e1 : xs = xs.take k ++ (y :: xs.drop (k + 1)) := by rw [← hy', ← List.drop_eq_getElem_cons hk, List.take_append_drop]
  have l1 : ((xs.take k).flatMap F).length = k * m := by
    rw [flat_len' F m hF, List.length_take, Nat.min_eq_left (by omega)]
  have hl : vs.length = (xs.flatMap F).length := cellsOwn.length (w := w) (fp := f) (h1.prs (ownC (xs.flatMap F) vs f) (List.mem_cons_self ..))
  have l0 : (xs.flatMap F).length = xs.length * m := flat_len' F m hF xs
  have lb : (k + 1) * m ≤ xs.length * m := Nat.mul_le_mul_right m hk
  rw [Nat.succ_mul] at lb
  have e2 : xs.flatMap F = (xs.take k).flatMap F ++ (F y ++ (xs.drop (k + 1)).flatMap F) := by
    conv => lhs; rw [e1]
    simp
  have e3 : vs = vs.take (k * m) ++ (c ++ vs.drop (k * m + m)) := by
    rw [← hc, Nat.zero_add]
    rw [← List.drop_drop, List.take_append_drop, List.take_append_drop]
  rw [e2] at h1
  rw [e3] at h1
  obtain ⟨g1, g2, h2⟩ := h1.part (by rw [List.length_take, l1]; omega)
  have h3 := h2.front (i := 1) (o := ownC _ _ g2) rfl
  obtain ⟨g3, g4, h4⟩ := h3.part (by rw [← hc, hF, List.length_take, List.length_drop]; omega)
  exact ⟨g3, g4, g1, h4⟩
theorem ints_open {w : World} {e : TypeId} {xs : List Int} {A : Option Addr} {c m : Nat} {fp : List Nat} (h : (Ty.ints e xs).own w (.slice A m c) fp) : (rowO e 1 (.slice A m c) m (ints_ xs) []).pr w ∧ fp = (rowO e 1 (.slice A m c) m (ints_ xs) []).fp := by
  obtain ⟨A', c', he, _, _⟩ := sl_form ((Ty.ints e xs).ownok h)
  obtain ⟨_, vs, f, h3, h4, h5⟩ := h
  obtain ⟨rfl, rfl⟩ := ints_cells h5
  injection he with _ he _
  subst he
  exact ⟨h3, by simpa [rowO] using h4⟩
theorem St.closeE {α : Type} (F : α → List Ty) {w : World} {m k : Nat} {xs : List α} {y : α} {vs c vs' : List Value} {f1 f2 f3 : List Nat} (hk : k < xs.length) (hc : c.length = m) (hv : setL vs (0 + k * m) c = vs')
    (hw : St lo B u w (ownC ((xs.take k).flatMap F) (vs.take (k * m)) f3 :: ownC (F y) c f1 :: ownC ((xs.drop (k + 1)).flatMap F) (vs.drop (k * m + m)) f2 :: os)) : St lo B u w (ownC ((xs.set k y).flatMap F) vs' (f3 ++ f1 ++ f2) :: os) := by
  have h := hw.join.join
  have e1 : (xs.take k).flatMap F ++ F y ++ (xs.drop (k + 1)).flatMap F = (xs.set k y).flatMap F := by
    rw [List.set_eq_take_append_cons_drop, if_pos hk]; simp
  have e2 : vs.take (k * m) ++ c ++ vs.drop (k * m + m) = vs' := by
    rw [← hv]; unfold setL; rw [Nat.zero_add, hc]
  rw [e1, e2] at h
  exact h
theorem setL_same {vs c : List Value} {o m : Nat} (h : (vs.drop o).take m = c) (hc : c.length = m) : setL vs o c = vs := by
  unfold setL; rw [hc, ← h, List.append_assoc, ← List.drop_drop, List.take_append_drop, List.take_append_drop]
theorem setL_at {vs c : List Value} {o j m : Nat} {x : Value} {c' : List Value} (h : (vs.drop o).take m = c) (hj : j < m) (hl : o + m ≤ vs.length) (hs : c.set j x = c') : setL vs (o + j) [x] = setL vs o c' := by
  subst h
  subst hs
  have h1 : ((vs.drop o).take m).length = m := by rw [List.length_take, List.length_drop]; omega
  unfold setL
  rw [List.length_set, h1, List.set_eq_take_append_cons_drop, if_pos (by omega)]
  have a1 : vs.take (o + j) = vs.take o ++ ((vs.drop o).take m).take j := by
    rw [List.take_take, Nat.min_eq_left (by omega), List.take_add]
  have a2 : vs.drop (o + j + [x].length) = ((vs.drop o).take m).drop (j + 1) ++ vs.drop (o + m) := by
    rw [← List.take_append_drop (m - (j + 1)) (vs.drop (o + j + [x].length))]
    rw [List.drop_take, List.drop_drop, List.drop_drop]
    simp only [List.length_singleton]
    rw [show o + j + 1 + (m - (j + 1)) = o + m by omega, Nat.add_assoc o j 1]
  rw [a1, a2]
  simp
theorem elem_in {w : World} {α : Type} (F : α → List Ty) {m k : Nat} {xs : List α} {vs : List Value} (hF : ∀ a, (F a).length = m) (h : cellsOk w (xs.flatMap F) vs) (hk : k < xs.length) : 0 + k * m + m ≤ vs.length := by
  rw [h.length, flat_len' F m hF, Nat.zero_add]
  have : (k + 1) * m ≤ xs.length * m := Nat.mul_le_mul_right m hk
  rw [Nat.succ_mul] at this
  exact this
theorem srow_ok {α : Type} (F : List α → List Ty) {w : World} {e : TypeId} {sz m : Nat} {v : Value} {vs : List Value} {xs : List α} {f : List Nat} (hr : w.ownsRow 0 e sz v m vs) (hc : cellsOwn w (F xs) vs f) (hl : (F xs).length = xs.length * sz) (hsz : 0 < sz := by decide) :
    (Ty.sl e sz xs.length (F xs)).ok w v := (Ty.sl e sz xs.length (F xs)).ownok (srow_own F hr hc hl rfl hsz)
end
section
variable {P : Program}
theorem p_min {n : Nat} {l : Fr} {dst : Option Tmp} {ty : TypeId} {pos : String} {af : Array Edge} {gd : Option (Nat × Bool)} {x y : Operand} {k : IntKind} {i j : Int} {ts : Array TypeId} (hx : opd l x = some (.int k i)) (hy : opd l y = some (.int k j)) :
    OpP P n l ⟨dst, .call { callee := .builtin .min, args := #[x, y], argTypes := ts }, ty, pos, af, gd⟩ (.int k (if j < i then j else i)) := fun a w ha => by
  simp only [execOp, resolve, invoke, Sem.run_bind, Sem.run_pure, Result.andThen_ok, List.map_toArray, List.map_cons, List.map_nil, ha.eval hx, ha.eval hy]
  simp [builtin, Builtin.min_, Builtin.min2]
end
section
variable {P : Program} {n lo : Nat} {B : List Nat} {l : Fr} {os : List Own} {u : World} {dst : Option Tmp} {ty : TypeId} {pos : String} {af : Array Edge} {gd : Option (Nat × Bool)}
theorem Mem.ro {i b c m : Nat} {e : TypeId} {vs : List Value} {o : Nat} {x : Value} (hi : os[i]? = some (roO e (.slice (some ⟨b, 0, none⟩) m c) m vs)) (hx : vs[o]? = some x) : Mem lo B u os fun w => Cell w b o x := fun w hw => by
  have h : RoRow w e (.slice (some ⟨b, 0, none⟩) m c) m vs := hw.prs _ (List.mem_of_getElem? hi)
  rcases h.2 with ⟨h2, h3⟩ | ⟨g, cap, cur, h2, hg, h4, h5, h6, h7⟩
  · cases h2
  · cases h2
    refine ⟨cur, e, (0, 0), hg, ?_⟩
    rw [← h7, List.getElem?_take] at hx
    split at hx
    · simpa using hx
    · simp at hx
theorem ints_rook {e : TypeId} {m : Nat} {xs : List Int} {w : World} {v : Value} (h : RoRow w e v m (ints_ xs)) : (Ty.ints e xs).ok w v := h.ok
end
section
variable {P : Program} {n lo : Nat} {B : List Nat} {l : Fr} {os : List Own} {u : World}
theorem Js.is {Q : Exit → Act → World → Prop} {cs : List Code} {os' : List Own} (h : os = os') (k : Js P n lo B Q cs l os' u) : Js P n lo B Q cs l os u := h ▸ k
theorem ro_nil {w : World} {e : TypeId} {xs : List Int} (h : [] = xs) : (Ty.ro e xs).own w (.slice none 0 0) [] := by
  subst h; exact ⟨rfl, rfl, .inl ⟨rfl, rfl⟩⟩
theorem ro_ownR {w : World} {e : TypeId} {v : Value} {m : Nat} {xs ys : List Int} (h : w.ownsRow 0 e 1 v m (ints_ ys)) (hx : ys = xs) : (Ty.ro e xs).own w v v.ownBlock.toList := by
  subst hx
  have hl : m = ys.length := by have := h.1; simpa [ints_] using this.symm
  subst hl
  refine ⟨rfl, by simp [ints_], ?_⟩
  rcases h.2 with ⟨h2, h3⟩ | ⟨g, c, cur, h2, _, hg, h4, h5, h6, h7⟩
  · exact .inl ⟨h2, h3⟩
  · exact .inr ⟨g, c, cur, h2, hg, h4, h5, by rw [h6]; omega, by rw [Nat.mul_one] at h7; exact h7⟩
end
def Ty.ex {α : Type} (p : α → Prop) (F : α → Ty) : Ty :=
  ⟨fun w v => ∃ x, p x ∧ (F x).ok w v, fun w v fp => ∃ x, p x ∧ (F x).own w v fp, fun ⟨x, hp, h⟩ k => ⟨x, hp, Ty.mono _ h k⟩, fun ⟨x, hp, h⟩ k => ⟨x, hp, (F x).loc h k⟩, fun ⟨x, hp, h⟩ => ⟨x, hp, (F x).ownok h⟩⟩
theorem Spl.ex {α : Type} {p : α → Prop} {F : α → Ty} {R : α → Value → List Own → Prop} (h : ∀ x, Spl (F x) (R x)) : Spl (Ty.ex p F) (fun v ow => ∃ x, p x ∧ R x v ow) := fun w v fp ⟨x, hp, hx⟩ => by
  obtain ⟨ow, h1, h2, h3⟩ := h x w v fp hx
  exact ⟨ow, ⟨x, hp, h1⟩, h2, h3⟩
def Ty.byte : Ty :=
  ⟨fun _ v => ∃ b : Int, v = .int .u8 b ∧ 0 ≤ b ∧ b ≤ 255, fun _ v fp => (∃ b : Int, v = .int .u8 b ∧ 0 ≤ b ∧ b ≤ 255) ∧ fp = [], fun h _ => h, fun h _ => h, fun h => h.1⟩
def Ty.bytes (e : TypeId) (n : Nat) : Ty := Ty.sl e 1 n (List.replicate n Ty.byte)
def Ty.strs (e : TypeId) (xs : List (List UInt8)) : Ty := Ty.sl e 1 xs.length (xs.map Ty.str)
theorem strs_elem {e c i : Nat} {xs : List (List UInt8)} {y : List UInt8} {A : Option Addr} {u : World} (h : (Ty.strs e xs).ok u (.slice A xs.length c)) (hy : xs[i]? = some y) : ∃ b o, elemA 1 (.slice A xs.length c) i = some ⟨b, o, none⟩ ∧ Cell u b o (.string (sB y)) := by
  obtain ⟨hi, hg⟩ := List.getElem?_eq_some_iff.1 hy
  obtain ⟨b, o, vs, he, h, hr⟩ := sl_elem h hi rfl
  rw [Nat.mul_one, ← List.map_drop, ← List.map_take, List.drop_eq_getElem_cons hi, List.take_succ_cons, List.take_zero] at h
  cases vs with
  | nil => exact absurd h (by simp [cellsOk])
  | cons v r =>
    obtain ⟨hv, _⟩ := h
    have hv : v = .string (sB xs[i]) := hv
    subst hv
    rw [hg] at hr
    exact ⟨b, o, he, by simpa using hr 0 _ rfl⟩
@[reducible] def txs_ (l : List (List UInt8)) : List Value := l.map fun x => .string (sB x)
theorem strs_own {w : World} : ∀ (l : List (List UInt8)), cellsOwn w (l.map Ty.str) (txs_ l) []
  | [] => rfl
  | x :: l => ⟨[], [], rfl, ⟨rfl, rfl⟩, strs_own l⟩
section
variable {P : Program} {n : Nat} {l : Fr} {dst : Option Tmp} {ty : TypeId} {pos : String} {af : Array Edge} {gd : Option (Nat × Bool)}
theorem p_conv {x : Operand} {k k' : IntKind} {i r : Int} {s t : TypeId} {d : TypeDesc} (hs : P.underlying s = some d) (ht : P.underlying t = some (.int k')) (hx : opd l x = some (.int k i)) (hr : k'.wrap i = r) :
    OpP P n l ⟨dst, .convert s t x, ty, pos, af, gd⟩ (.int k' r) := fun a w ha => by
  subst hr
  simp [execOp, ha.eval hx, convert, run_underlying hs, run_underlying ht, Conv.intToInt]
theorem beq_dec (a b : List UInt8) : (a == b) = decide (a = b) := by
  by_cases h : a = b
  · subst h; simp
  · rw [decide_eq_false h]; simpa using h
theorem p_eqlT {x y : Operand} {a b : List UInt8} {t t' : TypeId} (hu : P.underlying t = some .string) (h1 : opd l x = some (.string (sB a))) (h2 : opd l y = some (.string (sB b))) : OpP P n l ⟨dst, .binOp .eql t x y t', ty, pos, af, gd⟩ (.bool (decide (a = b))) := fun c w ha => by
  have e : ((sB a).toList == (sB b).toList) = decide (a = b) := by rw [ByteArray.toList_mk, ByteArray.toList_mk]; exact beq_dec a b
  simp only [execOp, eqGuard, binOp, ha.eval h1, ha.eval h2, Op.stringOp, e]; rfl
theorem p_neqT {x y : Operand} {a b : List UInt8} {t t' : TypeId} (hu : P.underlying t = some .string) (h1 : opd l x = some (.string (sB a))) (h2 : opd l y = some (.string (sB b))) : OpP P n l ⟨dst, .binOp .neq t x y t', ty, pos, af, gd⟩ (.bool (!decide (a = b))) := fun c w ha => by
  have e : ((sB a).toList == (sB b).toList) = decide (a = b) := by rw [ByteArray.toList_mk, ByteArray.toList_mk]; exact beq_dec a b
  simp only [execOp, eqGuard, binOp, ha.eval h1, ha.eval h2, Op.stringOp, e]; rfl
theorem sB_append (a b : List UInt8) : sB a ++ sB b = sB (a ++ b) := by
  apply ByteArray.ext
  rw [ByteArray.data_append]; simp [sB]
theorem p_cat {x y : Operand} {a b : List UInt8} {t t' : TypeId} (h1 : opd l x = some (.string (sB a))) (h2 : opd l y = some (.string (sB b))) (hl : a.length + b.length ≤ 9223372036854775807) : OpP P n l ⟨dst, .binOp .add t x y t', ty, pos, af, gd⟩ (.string (sB (a ++ b))) := fun c w ha => by
  have e1 : (sB a).size = a.length := rfl
  have e2 : (sB b).size = b.length := rfl
  have hl' : ¬ (((a.length + b.length : Nat) : Int) > IntKind.i64.max) := by simp [IntKind.max, IntKind.bits, IntKind.signed]; omega
  simp only [execOp, eqGuard, binOp, ha.eval h1, ha.eval h2, Op.stringOp, e1, e2]
  rw [if_neg hl', sB_append]
  rfl
theorem p_lenS {x : Operand} {a : List UInt8} {t : TypeId} (hu : P.underlying t = some .string) (hx : opd l x = some (.string (sB a))) :
    OpP P n l ⟨dst, .call { callee := .builtin .len, args := #[x], argTypes := #[t] }, ty, pos, af, gd⟩ (.int .i64 (a.length : Int)) := fun c w ha => by
  have h2 : goInt (sB a).size = Value.int .i64 (a.length : Int) := rfl
  have := run_len_string (P := P) w t ty (sB a) hu
  rw [h2] at this
  simp only [execOp, resolve, invoke, Sem.run_bind, Sem.run_pure, Result.andThen_ok, List.map_toArray, List.map_cons, List.map_nil, ha.eval hx]
  simp only [builtin, Sem.run_bind, this, Result.andThen_ok, Sem.run_pure]
end
end Go.Proofs.YtjklnidbndopiaaGreatDoor

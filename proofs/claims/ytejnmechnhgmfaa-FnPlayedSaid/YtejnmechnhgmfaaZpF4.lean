/- A framework for walks: loads, stores, what makes memory, calls. -/
import Derived.Test.YtejnmechnhgmfaaZpF3
import Derived.Test.YtejnmechnhgmfaaZpApp
set_option linter.unusedSimpArgs false
set_option linter.unusedVariables false
namespace Go.Proofs.Ytejnmechnhgmfaa
open Go.RowKit
section
variable {P : Program} {n lo : Nat} {B : List Nat} {l : Fr} {os : List Own} {u : World} {dst : Option Tmp} {ty : TypeId} {pos : String} {af : Array Edge} {gd : Option (Nat × Bool)}
def Mem (lo : Nat) (B : List Nat) (u : World) (os : List Own) (p : World → Prop) : Prop := ∀ w, St lo B u w os → p w
theorem Mem.pub {b o : Nat} {x : Value} (h : Cell u b o x) : Mem lo B u os fun w => Cell w b o x := fun _ hw => h.vis hw.vis
theorem Mem.pubR {b o : Nat} {vs : List Value} (h : RowAt u b o vs) : Mem lo B u os fun w => RowAt w b o vs := fun _ hw => h.vis hw.vis
theorem Mem.box {i b o : Nat} {c : List Value} {T : TypeId} {x : Value} (hi : os[i]? = some (boxO b c T)) (hx : c[o]? = some x) : Mem lo B u os fun w => Cell w b o x := fun w hw =>
  ⟨c.toArray, T, (0, 0), hw.prs _ (List.mem_of_getElem? hi), by simpa using hx⟩
theorem Mem.boxR {i b : Nat} {c : List Value} {T : TypeId} (hi : os[i]? = some (boxO b c T)) (o s : Nat) : Mem lo B u os fun w => RowAt w b o ((c.drop o).take s) := fun w hw j x hj => by
  rw [List.getElem?_take] at hj
  split at hj
  · rw [List.getElem?_drop] at hj
    exact Mem.box hi hj w hw
  · simp at hj
theorem Mem.ok {T : Ty} {v : Value} (h : T.ok u v) : Mem lo B u os fun w => T.ok w v := fun _ hw => T.mono h hw.vis
theorem Mem.own {i : Nat} {T : Ty} {v : Value} {fp : List Nat} (hi : os[i]? = some (ownO T v fp)) : Mem lo B u os fun w => T.ok w v := fun _ hw => T.ownok (hw.prs _ (List.mem_of_getElem? hi))
theorem q_load1 {x : Operand} {t : TypeId} {s b o : Nat} {v : Value} (ht : tyOf P t = some (false, s)) (hx : opd l x = some (.pointer (some ⟨b, o, none⟩))) (h : Mem lo B u os fun w => Cell w b o v) :
    OpQ P n lo B l os u ⟨dst, .load t x, ty, pos, af, gd⟩ v := fun a w ha hw => by
  have := run_loadVar_one (P := P) w ht (h w hw)
  simp [execOp, ha.eval hx, Instr.loadAt, Instr.sureAddr, this]
theorem q_loadN {x : Operand} {t : TypeId} {s b o : Nat} {vs vs' : List Value} (ht : tyOf P t = some (true, s)) (hx : opd l x = some (.pointer (some ⟨b, o, none⟩))) (h : Mem lo B u os fun w => RowAt w b o vs') (hv : vs' = vs) (hs : vs.length = s) :
    OpQ P n lo B l os u ⟨dst, .load t x, ty, pos, af, gd⟩ (.agg vs.toArray) := fun a w ha hw => by
  subst hv; subst hs
  have := run_loadVar_agg (P := P) w ht (h w hw)
  simp [execOp, ha.eval hx, Instr.loadAt, Instr.sureAddr, this]
theorem p_len {x : Operand} {t e : TypeId} {sz by' : Nat} {z : List Value} {A : Option Addr} {m c : Nat} (ht : elOf P t = some (e, sz, by', z)) (hx : opd l x = some (.slice A m c)) :
    OpP P n l ⟨dst, .call { callee := .builtin .len, args := #[x], argTypes := #[t] }, ty, pos, af, gd⟩ (.int .i64 m) := fun a w ha => by
  have := run_builtin_len (P := P) ht A m c ty #[match x with | .const _ => true | _ => false] w
  simp only [execOp, resolve, invoke, Sem.run_bind, Sem.run_pure, Result.andThen_ok, List.map_toArray, List.map_cons, List.map_nil, ha.eval hx]
  exact this
def cutA (sz : Nat) (A : Option Addr) (lo m : Nat) : Option Addr := if m = lo then A else A.map (·.add (lo * sz))
theorem p_slice {x : Operand} {t e : TypeId} {sz by' : Nat} {z : List Value} {A : Option Addr} {m c lo' hi' mx' : Nat} {lo? hi? mx? : Option Operand} (ht : elOf P t = some (e, sz, by', z)) (hx : opd l x = some (.slice A m c))
    (hm : match mx? with | none => mx' = c | some y => ∃ k, opd l y = some (.int k mx') ∧ mx' ≤ c) (hh : match hi? with | none => hi' = m ∧ mx? = none | some y => ∃ k, opd l y = some (.int k hi') ∧ hi' ≤ mx')
    (hl : match lo? with | none => lo' = 0 | some y => ∃ k, opd l y = some (.int k lo') ∧ lo' ≤ hi') :
    OpP P n l ⟨dst, .slice t x lo? hi? mx?, ty, pos, af, gd⟩ (.slice (cutA sz A lo' mx') (hi' - lo') (mx' - lo')) := fun a w ha => by
  unfold elOf at ht
  split at ht
  · rename_i e' hu
    split at ht
    · rename_i i' hi
      split at ht
      · simp at ht
        obtain ⟨rfl, rfl, rfl, rfl⟩ := ht
        have key : (Instr.slice t (.slice A m c) (lo?.map a.eval) (hi?.map a.eval) (mx?.map a.eval)).run P w = .ok (.slice (cutA i'.size A lo' mx') (hi' - lo') (mx' - lo')) w := by
          cases mx? with
          | none =>
            simp only at hm
            subst hm
            cases hi? with
            | none =>
              simp only at hh
              obtain ⟨rfl, _⟩ := hh
              cases lo? with
              | none => simp only at hl; subst hl; simp [Instr.slice, run_underlying hu, Instr.sliceBounds, sizeOf, typeInfo, hi, cutA]
              | some y => obtain ⟨k, h1, h2⟩ := hl; simp [Instr.slice, run_underlying hu, Instr.sliceBounds, Instr.sliceBound, asIntOf, ha.eval h1, h2, sizeOf, typeInfo, hi, cutA]
            | some y =>
              obtain ⟨k, h1, h2⟩ := hh
              cases lo? with
              | none => simp only at hl; subst hl; simp [Instr.slice, run_underlying hu, Instr.sliceBounds, Instr.sliceBound, asIntOf, ha.eval h1, h2, sizeOf, typeInfo, hi, cutA]
              | some y => obtain ⟨k', h3, h4⟩ := hl; simp [Instr.slice, run_underlying hu, Instr.sliceBounds, Instr.sliceBound, asIntOf, ha.eval h1, h2, ha.eval h3, h4, sizeOf, typeInfo, hi, cutA]
          | some y =>
            obtain ⟨k0, h5, h6⟩ := hm
            cases hi? with
            | none => simp only at hh; simp at hh
            | some y =>
              obtain ⟨k, h1, h2⟩ := hh
              cases lo? with
              | none => simp only at hl; subst hl; simp [Instr.slice, run_underlying hu, Instr.sliceBounds, Instr.sliceBound, asIntOf, ha.eval h1, h2, ha.eval h5, h6, sizeOf, typeInfo, hi, cutA]
              | some y => obtain ⟨k', h3, h4⟩ := hl; simp [Instr.slice, run_underlying hu, Instr.sliceBounds, Instr.sliceBound, asIntOf, ha.eval h1, h2, ha.eval h3, h4, ha.eval h5, h6, sizeOf, typeInfo, hi, cutA]
        simp [execOp, ha.eval hx, Instr.sliceAt, run_underlying hu, key]
      · simp at ht
    · simp at ht
  · simp at ht
def cellsL : Value → List Value
  | .agg c => c.toList
  | v => [v]
theorem cellsL_eq (v : Value) : v.cells = (cellsL v).toArray := by cases v <;> simp [Value.cells, cellsL]
theorem St.newBox {w : World} (h : St lo B u w os) (c : List Value) (T : TypeId) : St lo B u (w.alloc (.cells c.toArray T)) (boxO w.heap.size c T :: os) := by
  refine h.new ((Ext.refl w).alloc _) (o := boxO w.heap.size c T) (fun k hk => ?_) (by simp [boxO]) (heap_alloc_new w _)
  simp only [boxO, List.mem_singleton] at hk
  subst hk
  simp
theorem e_box {x : Operand} {t : TypeId} {v : Value} {c : List Value} (hx : opd l x = some v) (hc : cellsL v = c) :
    OpE P n lo B l os u ⟨dst, .box t x, ty, pos, af, gd⟩ true (fun v os' u' => ∃ b, v = .pointer (some ⟨b, 0, none⟩) ∧ os' = boxO b c t :: os ∧ u = u') := fun a w ha hw K Q hk => by
  subst hc
  have hr : (execOp a.eval ⟨dst, .box t x, ty, pos, af, gd⟩).run P w = .ok (.value (.pointer (some ⟨w.heap.size, 0, none⟩))) (w.alloc (.cells (cellsL v).toArray t)) := by
    simp [execOp, ha.eval hx, Instr.box, newVar, newRow, cellsL_eq]
  unfold Oper.wp
  rw [hr]
  exact hk _ _ u _ ⟨_, rfl, rfl, rfl⟩ (Up.refl lo u) (hw.newBox _ _) (fun _ => (Ext.refl w).alloc _)
theorem e_alloc {t : TypeId} {c : List Value} (hz : zeroOf P t = some c) :
    OpE P n lo B l os u ⟨dst, .alloc t, ty, pos, af, gd⟩ true (fun v os' u' => ∃ b, v = .pointer (some ⟨b, 0, none⟩) ∧ os' = boxO b c t :: os ∧ u = u') := fun a w ha hw K Q hk => by
  unfold zeroOf at hz
  split at hz
  · rename_i i hi
    split at hz
    · rename_i z hzz
      simp at hz
      subst hz
      have hr : (execOp a.eval ⟨dst, .alloc t, ty, pos, af, gd⟩).run P w = .ok (.value (.pointer (some ⟨w.heap.size, 0, none⟩))) (w.alloc (.cells z.cells.toList.toArray t)) := by
        simp [execOp, Instr.alloc, zeroValue, typeInfo, hi, hzz, newVar, newRow]
      unfold Oper.wp
      rw [hr]
      exact hk _ _ u _ ⟨_, rfl, rfl, rfl⟩ (Up.refl lo u) (hw.newBox _ _) (fun _ => (Ext.refl w).alloc _)
    · simp at hz
  · simp at hz
def setL (c : List Value) (o : Nat) (vs : List Value) : List Value := c.take o ++ vs ++ c.drop (o + vs.length)
theorem run_storeCells_box (P : Program) (b : Nat) (T : TypeId) : ∀ (vs : List Value) (i o : Nat) (c : List Value) (w : World), w.heap[b]? = some (.cells c.toArray T (0, 0)) → o + i + vs.length ≤ c.length → vs.all (·.oneCell') = true →
    ∃ w', (storeCells ⟨b, o, none⟩ vs i).run P w = .ok () w' ∧ w'.heap[b]? = some (.cells (setL c (o + i) vs).toArray T (0, 0)) ∧ (∀ k, k ≠ b → w'.heap[k]? = w.heap[k]?) ∧ w'.heap.size = w.heap.size ∧ w'.os = w.os ∧ w'.tape = w.tape ∧ w'.output = w.output := by
  intro vs
  induction vs with
  | nil => intro i o c w hb hl _; exact ⟨w, by simp [storeCells], by simpa [setL] using hb, fun _ _ => rfl, rfl, rfl, rfl, rfl⟩
  | cons v r ih =>
    intro i o c w hb hl h1
    simp only [List.all_cons, Bool.and_eq_true] at h1
    simp only [List.length_cons] at hl
    have hc : w.cell? ⟨b, o + i, none⟩ = some (c[o + i]'(by omega)) := by
      simp [World.cell?, hb]
    have hf : w.frozen? ⟨b, o + i, none⟩ = false := by simp [World.frozen?, hb]
    have hs := run_store P w ⟨b, o + i, none⟩ v .plain h1.1
    rw [hc] at hs
    simp only [hf] at hs
    have hb2 : (w.setCell ⟨b, o + i, none⟩ v).heap[b]? = some (.cells (c.set (o + i) v).toArray T (0, 0)) := by
      simp [World.setCell, Array.getElem?_modify, hb]
    obtain ⟨w', r1, r2, r3, r4, r5, r6, r7⟩ := ih (i + 1) o (c.set (o + i) v) (w.setCell ⟨b, o + i, none⟩ v) hb2 (by rw [List.length_set]; omega) h1.2
    refine ⟨w', ?_, ?_, fun k hk => (r3 k hk).trans (Below.heap_setCell _ _ _ _ (by simpa using hk)), by rw [r4]; simp [World.setCell], r5, r6, r7⟩
    · simp only [storeCells, Sem.run_bind, addr_add]
      rw [hs]
      simpa using r1
    · rw [r2]
      congr 2
      simp only [setL, List.length_cons]
      congr 1
      have e1 : (c.set (o + i) v).take (o + (i + 1)) = c.take (o + i) ++ [v] := by
        rw [show o + (i + 1) = (o + i) + 1 by omega, List.take_succ_eq_append_getElem (by rw [List.length_set]; omega), List.take_set_of_le (by omega)]
        simp
      have e2 : (c.set (o + i) v).drop (o + (i + 1) + r.length) = c.drop (o + i + (r.length + 1)) := by
        rw [List.drop_set_of_lt (by omega)]
        congr 1
        omega
      rw [e1, e2]
      simp
theorem e_store {x y : Operand} {t T : TypeId} {g : Bool} {s i b o : Nat} {c c' vs : List Value} {v : Value} (ht : tyOf P t = some (g, s)) (hx : opd l x = some (.pointer (some ⟨b, o, none⟩))) (hi : os[i]? = some (boxO b c T)) (hy : opd l y = some v)
    (hv : cellsL v = vs) (hs : vs.length = s) (h1 : vs.all (·.oneCell') = true) (hl : Nat.ble (o + s) c.length = true) (hc : setL c o vs = c') :
    OpE P n lo B l os u ⟨dst, .store t x y, ty, pos, af, gd⟩ false (fun _ os' u' => os' = os.set i (boxO b c' T) ∧ u = u') := fun a w ha hw K Q hk => by
  have hl : o + s ≤ c.length := by simpa [Nat.ble_eq] using hl
  subst hs; subst hc
  have hb : w.heap[b]? = some (.cells c.toArray T (0, 0)) := hw.prs _ (List.mem_of_getElem? hi)
  obtain ⟨w', r1, r2, r3, r4, r5, r6, r7⟩ := run_storeCells_box P b T vs 0 o c w hb (by omega) h1
  have hsz := (run_isAgg (P := P) w ht).2
  have hr : (execOp a.eval ⟨dst, .store t x y, ty, pos, af, gd⟩).run P w = .ok .skip w' := by
    simp [execOp, ha.eval hx, ha.eval hy, Instr.storeAt, Instr.sureAddr, storeVar, hsz, cellsL_eq, hv, r1]
  unfold Oper.wp
  rw [hr]
  refine hk _ _ u _ ⟨rfl, rfl⟩ (Up.refl lo u) (hw.upd hi r5 r6 r7 (by omega) (fun k _ hk => r3 k (by simpa [boxO] using hk)) (fun k hk => .inl (by simpa [boxO] using hk)) (by simp [boxO]) (by simpa [boxO] using r2) (fun k hk _ => by simpa [boxO] using hk)) (fun h => by cases h)
def goodF (P : Program) (f : FuncId) : Bool := match P.funcs[f]? with
  | some fn => !(fn.name == "runtime.NumGoroutine") && fn.body.isSome
  | none => false
theorem run_call {f : FuncId} {xs : List Operand} {ts : Array TypeId} {vs : List Value} {a : Act} {w : World} (hf : goodF P f = true) (ha : Has n a l) (hx : opds l xs = some vs) :
    (execOp a.eval ⟨dst, .call { callee := .value (.func f), args := xs.toArray, argTypes := ts }, ty, pos, af, gd⟩).run P w = .ok (.enter f vs.toArray) w := by
  have h1 : execOp a.eval ⟨dst, .call { callee := .value (.func f), args := xs.toArray, argTypes := ts }, ty, pos, af, gd⟩ = callFunc f vs.toArray := by
    have h2 : execOp a.eval ⟨dst, .call { callee := .value (.func f), args := xs.toArray, argTypes := ts }, ty, pos, af, gd⟩ = callFunc f (#[] ++ xs.toArray.map a.eval ++ #[]) := rfl
    rw [h2, ← ha.evals hx]; simp
  unfold goodF at hf
  split at hf
  · rename_i fn hfn
    simp only [Bool.and_eq_true, Bool.not_eq_true', Option.isSome_iff_ne_none] at hf
    rw [h1]
    have hn : ¬ fn.name = "runtime.NumGoroutine" := by simpa using hf.1
    simp [callFunc, hfn, hn, hf.2]
  · simp at hf
theorem e_callV {f : FuncId} {xs : List Operand} {ts : Array TypeId} {vs : List Value} {v : Value} (hf : goodF P f = true) (hx : opds l xs = some vs) (hc : ∀ w, St lo B u w os → RetV P f vs w v) :
    OpE P n lo B l os u ⟨dst, .call { callee := .value (.func f), args := xs.toArray, argTypes := ts }, ty, pos, af, gd⟩ true (fun v' os' u' => v' = v ∧ os' = os ∧ u = u') := fun a w ha hw K Q hk => by
  unfold Oper.wp
  rw [run_call hf ha hx, Oper.upon_enter]
  refine Calls.mono (hc w hw) fun e w' h => ?_
  obtain ⟨rfl, hx'⟩ := h
  exact hk _ _ u _ ⟨rfl, rfl, rfl⟩ (Up.refl lo u) (hw.call hx') (fun _ => hx')
theorem e_callP {f : FuncId} {xs : List Operand} {ts : Array TypeId} {vs : List Value} {T : Ty} (hf : goodF P f = true) (hx : opds l xs = some vs) (hc : ∀ w, St lo B u w os → Ret P f vs w T) :
    OpE P n lo B l os u ⟨dst, .call { callee := .value (.func f), args := xs.toArray, argTypes := ts }, ty, pos, af, gd⟩ true (fun v' os' u' => T.ok u' v' ∧ os' = os) := fun a w ha hw K Q hk => by
  unfold Oper.wp
  rw [run_call hf ha hx, Oper.upon_enter]
  refine Calls.mono (hc w hw) fun e w' h => ?_
  obtain ⟨v, fp, rfl, ho, _, hfp, hx'⟩ := h
  obtain ⟨u', hup, hst, hok⟩ := hw.pubRet hx' ho hfp
  exact hk _ _ u' _ ⟨hok, rfl⟩ hup hst (fun _ => hx')
def Spl (T : Ty) (R : Value → List Own → Prop) : Prop := ∀ w v fp, T.own w v fp → ∃ ow, R v ow ∧ fp = ow.flatMap (·.fp) ∧ ∀ o ∈ ow, o.pr w
end
end Go.Proofs.Ytejnmechnhgmfaa

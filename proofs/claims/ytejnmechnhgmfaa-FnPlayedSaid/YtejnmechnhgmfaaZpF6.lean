/- A framework for walks: appends, rows that are written, the ends of calls. -/
import Derived.Test.YtejnmechnhgmfaaZpF5
set_option linter.unusedSimpArgs false
set_option linter.unusedVariables false
namespace Go.Proofs.Ytejnmechnhgmfaa
open Go.RowKit
section
variable {P : Program} {n lo : Nat} {B : List Nat} {Q : Exit → Act → World → Prop} {cs : List Code} {K : Act → World → Prop} {ops : Array Oper} {rest : List Oper} {l : Fr} {os : List Own} {u : World} {dst : Option Tmp} {ty : TypeId} {pos : String} {af : Array Edge} {gd : Option (Nat × Bool)}
theorem nodup_mem : ∀ {os : List Own} {o : Own}, (os.flatMap (·.fp)).Nodup → o ∈ os → o.fp.Nodup
  | x :: r, o, h, ho => by
    rw [List.flatMap_cons, List.nodup_append] at h
    rcases List.mem_cons.1 ho with rfl | ho
    · exact h.1
    · exact nodup_mem h.2.1 ho
theorem Js.fact {φ : Prop} (h : ∀ w, St lo B u w os → φ) (k : φ → Js P n lo B Q cs l os u) : Js P n lo B Q cs l os u := fun a w ha hw => k (h w hw) a w ha hw
theorem JL.fact {φ : Prop} (h : ∀ w, St lo B u w os → φ) (k : φ → JL P n lo B K ops rest l os u) : JL P n lo B K ops rest l os u := fun a w ha hw => k (h w hw) a w ha hw
theorem JH.fact {u₀ : World} {os₀ : List Own} {nm : List Nat} {fuel : Nat} {listed : Array Bool} {z : Bool} {φ : Prop} (h : ∀ w, St lo B u w os → φ) (k : φ → JH P n lo B K ops u₀ os₀ nm fuel listed z l os u) : JH P n lo B K ops u₀ os₀ nm fuel listed z l os u := fun a w ha hw hz hv => k (h w hw) a w ha hw hz hv
theorem JH.conv {u₀ : World} {os₀ os' : List Own} {nm : List Nat} {fuel : Nat} {listed : Array Bool} {z : Bool} (ho : ∀ w, St lo B u w os → St lo B u w os') (k : JH P n lo B K ops u₀ os₀ nm fuel listed z l os' u) : JH P n lo B K ops u₀ os₀ nm fuel listed z l os u := fun a w ha hw hz hv => k a w ha (ho w hw) hz hv
theorem JHo.fact {u₀ : World} {os₀ : List Own} {nm : List Nat} {fuel i : Nat} {listed : Array Bool} {z : Bool} {φ : Prop} (h : ∀ w, St lo B u w os → φ) (k : φ → JHo P n lo B K ops u₀ os₀ nm fuel listed z l os u i) : JHo P n lo B K ops u₀ os₀ nm fuel listed z l os u i := fun a w ha hw hz hv => k (h w hw) a w ha hw hz hv
theorem JHo.conv {u₀ : World} {os₀ os' : List Own} {nm : List Nat} {fuel i : Nat} {listed : Array Bool} {z : Bool} (ho : ∀ w, St lo B u w os → St lo B u w os') (k : JHo P n lo B K ops u₀ os₀ nm fuel listed z l os' u i) : JHo P n lo B K ops u₀ os₀ nm fuel listed z l os u i := fun a w ha hw hz hv => k a w ha (ho w hw) hz hv
theorem Js.release {i : Nat} {o : Own} {φ : World → Prop} (hB : B = []) (hi : os[i]? = some o) (hφ : ∀ w u', o.pr w → u'.heap.size = w.heap.size → (∀ k ∈ o.fp, u'.heap[k]? = w.heap[k]?) → φ u')
    (k : ∀ u', Up lo u u' → φ u' → Js P n lo B Q cs l (os.eraseIdx i) u') : Js P n lo B Q cs l os u := fun a w ha hw => by
  obtain ⟨u', h1, h2, h3, h4⟩ := hw.release hi hB
  exact k u' h1 (hφ w u' (hw.prs _ (List.mem_of_getElem? hi)) h3 h4) a w ha h2
theorem Js.drop {i : Nat} {o : Own} (hB : B = []) (hi : os[i]? = some o) (k : ∀ u', Up lo u u' → Js P n lo B Q cs l (os.eraseIdx i) u') : Js P n lo B Q cs l os u :=
  Js.release (φ := fun _ => True) hB hi (fun _ _ _ _ _ => trivial) (fun u' h _ => k u' h)
theorem Js.blockEnd {i : Nat} (h : Js P n lo B Q cs l os u) : Js P n lo B (BQ i (seqs P Q cs) Q) [] l os u := h
def ownC (Ts : List Ty) (vs : List Value) (f : List Nat) : Own := ⟨f, fun w => cellsOwn w Ts vs f, fun h k => k.loc h⟩
theorem Mem.ownC {i : Nat} {Ts : List Ty} {vs : List Value} {f : List Nat} (hi : os[i]? = some (ownC Ts vs f)) : Mem lo B u os fun w => cellsOk w Ts vs := fun _ hw => (hw.prs _ (List.mem_of_getElem? hi)).ok
theorem St.swap {w : World} (h : St lo B u w os) {os' : List Own} (hp : os'.Perm os) : St lo B u w os' :=
  h.conv (fun o ho => h.prs o (hp.mem_iff.1 ho)) (hp.flatMap_right _)
theorem St.front {w : World} (h : St lo B u w os) {i : Nat} {o : Own} (hi : os[i]? = some o) : St lo B u w (o :: os.eraseIdx i) := by
  refine h.swap ?_
  have hlt := (List.getElem?_eq_some_iff.1 hi).1
  have he := (List.getElem?_eq_some_iff.1 hi).2
  rw [List.eraseIdx_eq_take_drop_succ]
  have e : os = os.take i ++ o :: os.drop (i + 1) := by rw [← he, ← List.drop_eq_getElem_cons hlt, List.take_append_drop]
  refine List.Perm.trans (List.perm_middle (a := o) (l₁ := os.take i) (l₂ := os.drop (i + 1))).symm ?_
  exact List.Perm.of_eq e.symm
theorem St.join {w : World} {Ts Us : List Ty} {vs us : List Value} {f g : List Nat} (h : St lo B u w (ownC Ts vs f :: ownC Us us g :: os)) : St lo B u w (ownC (Ts ++ Us) (vs ++ us) (f ++ g) :: os) := by
  refine h.conv (fun o ho => ?_) ?_
  · rcases List.mem_cons.1 ho with rfl | ho
    · exact cellsOwn.append (h.prs (Go.Proofs.Ytejnmechnhgmfaa.ownC Ts vs f) (by simp)) (h.prs (Go.Proofs.Ytejnmechnhgmfaa.ownC Us us g) (by simp))
    · exact h.prs o (by simp [ho])
  · simp [Go.Proofs.Ytejnmechnhgmfaa.ownC]
theorem St.part {w : World} {Ts Us : List Ty} {vs us : List Value} {f : List Nat} (h : St lo B u w (ownC (Ts ++ Us) (vs ++ us) f :: os)) (hl : vs.length = Ts.length) : ∃ f1 f2, St lo B u w (ownC Ts vs f1 :: ownC Us us f2 :: os) := by
  have key : ∀ (Ts : List Ty) (vs : List Value) (f : List Nat), vs.length = Ts.length → cellsOwn w (Ts ++ Us) (vs ++ us) f → ∃ f1 f2, f = f1 ++ f2 ∧ cellsOwn w Ts vs f1 ∧ cellsOwn w Us us f2 := by
    intro Ts
    induction Ts with
    | nil => intro vs f hl h; cases vs with
      | nil => exact ⟨[], f, rfl, rfl, h⟩
      | cons v r => simp at hl
    | cons T r ih => intro vs f hl h; cases vs with
      | nil => simp at hl
      | cons v vr =>
        obtain ⟨f1, f2, rfl, h1, h2⟩ := h
        obtain ⟨g1, g2, rfl, h3, h4⟩ := ih vr f2 (by simpa using hl) h2
        exact ⟨f1 ++ g1, g2, by simp, ⟨f1, g1, rfl, h1, h3⟩, h4⟩
  obtain ⟨f1, f2, rfl, h1, h2⟩ := key Ts vs f hl (h.prs (Go.Proofs.Ytejnmechnhgmfaa.ownC (Ts ++ Us) (vs ++ us) f) (by simp))
  refine ⟨f1, f2, h.conv (fun o ho => ?_) ?_⟩
  · simp only [List.mem_cons] at ho
    rcases ho with rfl | rfl | ho
    · exact h1
    · exact h2
    · exact h.prs o (by simp [ho])
  · simp [Go.Proofs.Ytejnmechnhgmfaa.ownC]
theorem St.addVals {w : World} (h : St lo B u w os) {Ts : List Ty} {vs : List Value} (hc : cellsOwn w Ts vs []) : St lo B u w (ownC Ts vs [] :: os) := by
  refine h.conv (fun o ho => ?_) (by simp [Go.Proofs.Ytejnmechnhgmfaa.ownC])
  rcases List.mem_cons.1 ho with rfl | ho
  · exact hc
  · exact h.prs o ho
theorem Mem.row {i b o c m sz : Nat} {e : TypeId} {vs : List Value} {g : List Nat} {x : Value} (hi : os[i]? = some (rowO e sz (.slice (some ⟨b, 0, none⟩) m c) m vs g)) (hx : vs[o]? = some x) : Mem lo B u os fun w => Cell w b o x := fun w hw => by
  obtain ⟨h1, h2⟩ := hw.prs _ (List.mem_of_getElem? hi)
  rcases h2 with ⟨h2, _⟩ | ⟨g', cap, cur, h2, _, hg, _, _, _, ht⟩
  · cases h2
  · injection h2 with h2 _ _
    injection h2 with h2
    injection h2 with h2 _ _
    subst h2
    refine ⟨cur, e, (0, 0), hg, ?_⟩
    rw [← ht, List.getElem?_take] at hx
    split at hx
    · simpa using hx
    · simp at hx
theorem Mem.rowR {i b c m sz : Nat} {e : TypeId} {vs : List Value} {g : List Nat} (hi : os[i]? = some (rowO e sz (.slice (some ⟨b, 0, none⟩) m c) m vs g)) (o s : Nat) : Mem lo B u os fun w => RowAt w b o ((vs.drop o).take s) := fun w hw j x hj => by
  rw [List.getElem?_take] at hj
  split at hj
  · rw [List.getElem?_drop] at hj
    exact Mem.row hi hj w hw
  · simp at hj
theorem row_form {i m sz : Nat} {e : TypeId} {v : Value} {vs : List Value} {g : List Nat} (hi : os[i]? = some (rowO e sz v m vs g)) : ∀ w, St lo B u w os → (∃ c, v = .slice none m c ∧ m = 0 ∧ c = 0) ∨ ∃ b c, v = .slice (some ⟨b, 0, none⟩) m c ∧ m ≤ c ∧ c ≤ 9223372036854775807 := fun w hw => by
  obtain ⟨h1, h2⟩ := hw.prs _ (List.mem_of_getElem? hi)
  rcases h2 with ⟨h2, h3⟩ | ⟨g', cap, cur, h2, _, hg, h4, h5, _, ht⟩
  · exact .inl ⟨0, by rw [h3]; exact h2, h3, rfl⟩
  · exact .inr ⟨g', cap, h2, h4, by unfold maxLen at h5; omega⟩
theorem row_len {i m sz : Nat} {e : TypeId} {v : Value} {vs : List Value} {g : List Nat} (hi : os[i]? = some (rowO e sz v m vs g)) : ∀ w, St lo B u w os → vs.length = m * sz := fun w hw => (hw.prs _ (List.mem_of_getElem? hi)).1
theorem row_own {w : World} {e : TypeId} {sz m : Nat} {v : Value} {vs : List Value} {Ts : List Ty} {f : List Nat} (h : w.ownsRow 0 e sz v m vs) (hc : cellsOwn w Ts vs f) : (Ty.sl e sz m Ts).own w v (v.ownBlock.toList ++ f) :=
  ⟨by rw [← hc.length, h.1], vs, f, h, rfl, hc⟩
def ints_ (xs : List Int) : List Value := xs.map (Value.int .i64)
theorem ints_own (w : World) : ∀ xs : List Int, cellsOwn w (xs.map Ty.int) (ints_ xs) []
  | [] => rfl
  | x :: xs => ⟨[], [], rfl, ⟨rfl, rfl⟩, ints_own w xs⟩
theorem src_of {w : World} {tx e' : TypeId} (hk : P.underlying tx = some (.slice e')) {sz m c : Nat} {A : Option Addr} {vs : List Value} (hl : vs.length = m * sz) (h : 0 < vs.length → ∃ b o, A = some ⟨b, o, none⟩ ∧ RowAt w b o vs) (h1 : vs.all (·.oneCell') = true) (hm : vs.length = 0 → m = 0) :
    Src P sz tx (.slice A m c) m vs w := by
  by_cases hp : 0 < vs.length
  · obtain ⟨b, o, rfl, hr⟩ := h hp
    exact Src.ofSlice w hk _ _ _ _ hl (fun j v hj => by rw [addr_add]; exact (hr j v hj).get) (fun v hv => List.all_eq_true.1 h1 v hv)
  · have hv : vs = [] := List.eq_nil_of_length_eq_zero (by omega)
    subst hv
    have := hm rfl
    subst this
    cases A with
    | none => exact Src.ofNil w hk c
    | some a => exact Src.ofSlice w hk a 0 c [] (by simp) (fun j v hj => by simp at hj) (fun v hv => by simp at hv)
theorem src_row {tx e' e : TypeId} {sz i b m : Nat} {vs : List Value} {g : List Nat} (hk : P.underlying tx = some (.slice e')) (hi : os[i]? = some (rowO e sz (.slice (some ⟨b, 0, none⟩) m m) m vs g)) (h1 : vs.all (·.oneCell') = true) :
    ∀ w, St lo B u w os → Src P sz tx (.slice (some ⟨b, 0, none⟩) m m) m vs w := fun w hw => by
  have hl := row_len hi w hw
  refine Src.ofSlice w hk _ _ _ _ hl (fun j v hj => ?_) (fun v hv => List.all_eq_true.1 h1 v hv)
  rw [addr_add, Nat.zero_add]
  exact (Mem.row hi hj w hw).get
theorem src_ints {tx e' e : TypeId} {c : Nat} {A : Option Addr} {xs : List Int} (hk : P.underlying tx = some (.slice e')) (h : (Ty.ints e xs).ok u (.slice A xs.length c)) : ∀ w, St lo B u w os → Src P 1 tx (.slice A xs.length c) xs.length (ints_ xs) w := fun w hw => by
  obtain ⟨hl, A', c', vs, e1, h2, h3, h4, h5⟩ := Ty.mono _ h hw.vis
  injection e1 with e1 _ e3
  subst e1; subst e3
  have hv : vs = ints_ xs := by
    have key : ∀ (xs : List Int) (vs : List Value), cellsOk w (xs.map Ty.int) vs → vs = ints_ xs := by
      intro xs
      induction xs with
      | nil => intro vs h; cases vs with
        | nil => rfl
        | cons v r => exact h.elim
      | cons x r ih => intro vs h; cases vs with
        | nil => exact h.elim
        | cons v vr => obtain ⟨h1, h2⟩ := h; rw [ih vr h2]; have h1 : v = .int .i64 x := h1; rw [h1]; rfl
    exact key xs vs h4
  subst hv
  have hlen : (ints_ xs).length = xs.length := by simp [ints_]
  refine src_of hk (by rw [hlen]; omega) (fun hp => h5 (by simpa [ints_] using hp)) ?_ (fun h => by rw [hlen] at h; exact h)
  rw [List.all_eq_true]
  intro v hv
  obtain ⟨x, _, rfl⟩ := List.mem_map.1 hv
  rfl
theorem row_form' {i m sz : Nat} {e : TypeId} {v : Value} {vs : List Value} {g : List Nat} (hi : os[i]? = some (rowO e sz v m vs g)) : ∀ w, St lo B u w os → ∃ A c, v = .slice A m c ∧ m ≤ c ∧ c ≤ 9223372036854775807 := fun w hw => by
  rcases row_form hi w hw with ⟨c, rfl, rfl, rfl⟩ | ⟨b, c, rfl, h1, h2⟩
  · exact ⟨_, _, rfl, Nat.le_refl _, by omega⟩
  · exact ⟨_, _, rfl, h1, h2⟩
def anyO (f : List Nat) : Own := ⟨f, fun _ => True, fun _ _ => trivial⟩
theorem e_append {x y : Operand} {t tx e : TypeId} {sz by' i m k n' : Nat} {z xs news vs' : List Value} {v yv : Value} {g : List Nat} (ht : elOf P t = some (e, sz, by', z)) (hzl : Nat.beq z.length sz = true) (hx : opd l x = some v) (hi : os[i]? = some (rowO e sz v m xs g)) (hy : opd l y = some yv)
    (hs : ∀ w, St lo B u w os → Src P sz tx yv k news w) (h63 : m + k ≤ 9223372036854775807) (hb : (m + k) * by' ≤ 140737488355328) (hn' : m + k = n') (hvs : xs ++ news = vs') :
    OpE P n lo B l os u ⟨dst, .call { callee := .builtin .append, args := #[x, y], argTypes := #[t, tx] }, ty, pos, af, gd⟩ false
      (fun v' os' u' => (∃ g', os' = os.set i (rowO e sz v' n' vs' g')) ∧ u = u') := fun a w ha hw K Q hk => by
  subst hn'; subst hvs
  unfold elOf at ht
  split at ht
  · rename_i e' hu
    split at ht
    · rename_i i' hi'
      split at ht
      · rename_i zv hzz
        simp only [Option.some.injEq, Prod.mk.injEq] at ht
        obtain ⟨rfl, rfl, rfl, rfl⟩ := ht
        have hzl : zv.cells.size = i'.size := by simpa [Nat.beq_eq] using hzl
        have hown : w.ownsRow 0 e' i'.size v m xs := hw.prs _ (List.mem_of_getElem? hi)
        refine wp_append_own_src (P := P) (w := w) (o := ⟨dst, .call { callee := .builtin .append, args := #[x, y], argTypes := #[t, tx] }, ty, pos, af, gd⟩) x y t tx rfl 0 e' i' zv i'.size i'.bytes hu hi' hzz rfl rfl hzl v m xs (ha.eval hx) hown yv k news (ha.eval hy) (hs w hw) (by unfold maxLen; omega) hb (Nat.zero_le _) _ rfl ?_
        intro v' w' ho' hgr hat
        have hdis : (v.ownBlock.toList ++ g).Nodup := by
          exact nodup_mem hw.dis (List.mem_of_getElem? hi)
        have hlt := ho'.lt
        -- the blocks behind
        rcases Classical.em (v'.ownBlock = v.ownBlock) with he | he
        · refine hk v' _ u w' ⟨⟨g, rfl⟩, rfl⟩ (Up.refl lo u) (hw.upd hi hgr.os hgr.tape hgr.output hgr.size (fun k hk hn => hgr.block k hk fun e => hn (by simp [rowO, ← e])) (fun k hk => .inl (by simpa [rowO, he] using hk)) (by simpa [rowO, he] using hdis) ho' (fun k hk _ => by simpa [rowO, he] using hk)) (fun h => by cases h)
        · have hnew : v'.ownBlock = some w.heap.size := hat.resolve_left he
          refine hk v' _ u w' ⟨⟨v.ownBlock.toList ++ g, rfl⟩, rfl⟩ (Up.refl lo u) (hw.upd hi hgr.os hgr.tape hgr.output hgr.size (fun k hk hn => hgr.block k hk fun e => hn (by simp [rowO, ← e])) (fun k hk => ?_) ?_ ho' (fun k hk _ => by simp only [rowO] at hk ⊢; exact List.mem_append_right _ hk)) (fun h => by cases h)
          · simp only [rowO, hnew, Option.toList_some, List.mem_append, List.mem_singleton] at hk ⊢
            rcases hk with rfl | hk
            · exact .inr ⟨Nat.le_refl _, (hlt _ hnew).2⟩
            · exact .inl hk
          · simp only [rowO, hnew, Option.toList_some]
            rw [List.nodup_append]
            refine ⟨by simp, hdis, fun a' ha' b' hb' e => ?_⟩
            simp only [List.mem_singleton] at ha'
            subst ha'; subst e
            have := (hw.hid _ (List.mem_of_getElem? hi) _ (by simpa [rowO] using hb')).1
            omega
      · simp at ht
    · simp at ht
  · simp at ht
theorem e_storeRow {x y : Operand} {t e : TypeId} {gg : Bool} {s i b o c m sz : Nat} {vs xs xs' : List Value} {v : Value} {g : List Nat} (ht : tyOf P t = some (gg, s)) (hx : opd l x = some (.pointer (some ⟨b, o, none⟩))) (hi : os[i]? = some (rowO e sz (.slice (some ⟨b, 0, none⟩) m c) m xs g)) (hy : opd l y = some v)
    (hv : cellsL v = vs) (hs : vs.length = s) (h1 : vs.all (·.oneCell') = true) (hl : o + s ≤ xs.length) (hc : setL xs o vs = xs') :
    OpE P n lo B l os u ⟨dst, .store t x y, ty, pos, af, gd⟩ false (fun _ os' u' => os' = os.set i (rowO e sz (.slice (some ⟨b, 0, none⟩) m c) m xs' g) ∧ u = u') := fun a w ha hw K Q hk => by
  subst hs; subst hc
  obtain ⟨hown1, hown2⟩ := hw.prs _ (List.mem_of_getElem? hi)
  rcases hown2 with ⟨h2, _⟩ | ⟨g', cap, cur, h2, _, hg, h4, h5, h6, h7⟩
  · cases h2
  injection h2 with h2 _ h3
  injection h2 with h2
  injection h2 with h2 _ _
  subst h2; subst h3
  have hle : xs.length ≤ cur.toList.length := by rw [← h7, List.length_take]; omega
  obtain ⟨w', r1, r2, r3, r4, r5, r6, r7⟩ := run_storeCells_box P b e vs 0 o cur.toList w (by simpa using hg) (by omega) h1
  have hsz := (run_isAgg (P := P) w ht).2
  have hr : (execOp a.eval ⟨dst, .store t x y, ty, pos, af, gd⟩).run P w = .ok .skip w' := by
    simp [execOp, ha.eval hx, ha.eval hy, Instr.storeAt, Instr.sureAddr, storeVar, hsz, cellsL_eq, hv, r1]
  unfold Oper.wp
  rw [hr]
  have hset : (setL cur.toList o vs).length = cur.toList.length := by
    simp only [setL, List.length_append, List.length_take, List.length_drop]; omega
  refine hk _ _ u _ ⟨rfl, rfl⟩ (Up.refl lo u) (hw.upd hi r5 r6 r7 (by omega) (fun k _ hk => r3 k (fun e => hk (by simp [rowO, Value.ownBlock, e]))) (fun k hk => .inl hk) ?_ ?_ (fun k hk _ => hk)) (fun h => by cases h)
  · have h9 := nodup_mem hw.dis (List.mem_of_getElem? hi)
    exact h9
  · refine ⟨?_, .inr ⟨b, c, _, rfl, Nat.zero_le _, by simpa using r2, h4, h5, ?_, ?_⟩⟩
    · simp only [setL, List.length_append, List.length_take, List.length_drop]; omega
    · simp only [List.size_toArray]; simpa using hset.trans (by simpa using h6)
    · rw [List.toList_toArray]
      have e0 : m * sz = xs.length := hown1.symm
      have ex : xs = cur.toList.take xs.length := by rw [← e0]; exact h7.symm
      rw [e0]
      apply List.ext_getElem?
      intro j
      simp only [Nat.add_zero, setL, List.getElem?_take]
      by_cases hj : j < xs.length
      · rw [if_pos hj]
        rw [List.append_assoc, List.append_assoc]
        have l1 : (cur.toList.take o).length = o := by rw [List.length_take]; omega
        have l2 : (xs.take o).length = o := by rw [List.length_take]; omega
        by_cases h1' : j < o
        · rw [List.getElem?_append_left (l₁ := cur.toList.take o) (by rw [l1]; omega), List.getElem?_append_left (l₁ := xs.take o) (by rw [l2]; omega)]
          simp only [List.getElem?_take, h1', if_true]
          conv => rhs; rw [ex]
          rw [List.getElem?_take, if_pos hj]
        · rw [List.getElem?_append_right (l₁ := cur.toList.take o) (by rw [l1]; omega), List.getElem?_append_right (l₁ := xs.take o) (by rw [l2]; omega)]
          simp only [l1, l2]
          by_cases h2' : j - o < vs.length
          · rw [List.getElem?_append_left (l₂ := cur.toList.drop _) h2', List.getElem?_append_left (l₂ := xs.drop _) h2']
          · rw [List.getElem?_append_right (l₂ := cur.toList.drop _) (by omega), List.getElem?_append_right (l₂ := xs.drop _) (by omega)]
            simp only [List.getElem?_drop]
            conv => rhs; rw [ex]
            rw [List.getElem?_take, if_pos (by omega)]
      · rw [if_neg hj, List.getElem?_eq_none]
        simp only [List.length_append, List.length_take, List.length_drop]; omega
def ResOk (P : Program) (n lo : Nat) (B : List Nat) (l : Fr) (os : List Own) (u : World) : List ResultVar → List Value → Prop
  | [], [] => True
  | .tmp t :: r, v :: vs => look l t = some v ∧ ResOk P n lo B l os u r vs
  | .cell t T :: r, v :: vs => (∃ b o, look l t = some (.pointer (some ⟨b, o, none⟩)) ∧ ∀ w, St lo B u w os → (loadVar T ⟨b, o, none⟩).run P w = .ok v w) ∧ ResOk P n lo B l os u r vs
  | _, _ => False
theorem ResOk.nil : ResOk P n lo B l os u [] [] := trivial
theorem ResOk.tmp {t : Tmp} {r : List ResultVar} {v : Value} {vs : List Value} (h : look l t = some v) (k : ResOk P n lo B l os u r vs) : ResOk P n lo B l os u (.tmp t :: r) (v :: vs) := ⟨h, k⟩
theorem ResOk.cell {t : Tmp} {T : TypeId} {r : List ResultVar} {v : Value} {vs : List Value} (h : ∃ b o, look l t = some (.pointer (some ⟨b, o, none⟩)) ∧ ∀ w, St lo B u w os → (loadVar T ⟨b, o, none⟩).run P w = .ok v w) (k : ResOk P n lo B l os u r vs) :
    ResOk P n lo B l os u (.cell t T :: r) (v :: vs) := ⟨h, k⟩
theorem run_results {a : Act} {w : World} (ha : Has n a l) (hw : St lo B u w os) : ∀ {rs : List ResultVar} {vs : List Value}, ResOk P n lo B l os u rs vs →
    (rs.mapM (m := Sem) fun | .tmp t => pure (a.tmps.getD t undef) | .cell x t => do loadVar t (← asAddr (a.tmps.getD x undef))).run P w = .ok vs w
  | [], [], _ => by simp
  | .tmp t :: r, v :: vs, h => by
    have := run_results ha hw h.2
    simp only [List.mapM_cons, Sem.run_bind, Sem.run_pure, Result.andThen_ok, ha.get _ _ h.1, this]
  | .cell t T :: r, v :: vs, h => by
    have := run_results ha hw h.2
    obtain ⟨⟨b, o, h1, h2⟩, _⟩ := h
    have h3 : (asAddr (.pointer (some ⟨b, o, none⟩))).run P w = .ok ⟨b, o, none⟩ w := rfl
    simp only [List.mapM_cons, Sem.run_bind, Sem.run_pure, Result.andThen_ok, ha.get _ _ h1, h3, h2 w hw, this]
def outV : List Value → Value
  | [v] => v
  | vs => .tuple vs.toArray
theorem Js.ret {fn : Func} {R : Ending → World → Prop} {rs : List ResultVar} {vs : List Value} (hr : fn.results = rs.toArray) (hQ : ∀ a w, Q .ret a w = bodyPost P fn R .ret a w) (hv : ResOk P n lo B l os u rs vs) (h : ∀ w, St lo B u w os → R (.returned (outV vs)) w) :
    Js P n lo B Q (.ret :: cs) l os u := Js.ret_ fun a w ha hw => by
  rw [hQ]
  refine ⟨ha.dfr, outV vs, ?_, h w hw⟩
  have h1 := run_results ha hw hv
  have h2 : (results fn a.tmps).run P w = .ok (outV vs) w := by
    have h3 : (fn.results.mapM (m := Sem) fun | .tmp t => pure (a.tmps.getD t undef) | .cell x t => do loadVar t (← asAddr (a.tmps.getD x undef))).run P w = .ok vs.toArray w := by
      rw [hr, Array.mapM_eq_mapM_toList]
      simp only [Sem.run_map, h1, Result.andThen_ok]
    have h4 : (results fn a.tmps).run P w = (Result.ok vs.toArray w).andThen (fun vs w' => (Pure.pure (if h : vs.size = 1 then vs[0] else .tuple vs) : Sem Value).run P w') := by
      unfold results
      rw [Sem.run_bind]
      exact congrArg (fun r => Result.andThen r _) h3
    rw [h4]
    simp only [Result.andThen_ok, Sem.run_pure]
    congr 1
    match vs with
    | [] => rfl
    | [v] => rfl
    | v :: v' :: r => rfl
  exact h2
theorem Spl.val (x : Value) : Spl (Ty.val x) (fun v ow => v = x ∧ ow = []) := fun w v fp h => ⟨[], ⟨h.1, rfl⟩, by simpa using h.2, fun _ h => by simp at h⟩
theorem Spl.any : Spl Ty.any (fun v ow => ow = [] ∧ v.oneCell' = true) := fun w v fp h => ⟨[], ⟨rfl, h.2⟩, by simpa using h.1, fun _ h => by simp at h⟩
def RL : List (Value → List Own → Prop) → List Value → List Own → Prop
  | [], [], ow => ow = []
  | R :: Rs, v :: vs, ow => ∃ o1 o2, R v o1 ∧ RL Rs vs o2 ∧ ow = o1 ++ o2
  | _, _, _ => False
def Spls : List Ty → List (Value → List Own → Prop) → Prop
  | [], [] => True
  | T :: Ts, R :: Rs => Spl T R ∧ Spls Ts Rs
  | _, _ => False
theorem Spls.cells {w : World} : ∀ {Ts : List Ty} {Rs : List (Value → List Own → Prop)} {vs : List Value} {fp : List Nat}, Spls Ts Rs → cellsOwn w Ts vs fp → ∃ ow, RL Rs vs ow ∧ fp = ow.flatMap (·.fp) ∧ ∀ o ∈ ow, o.pr w
  | [], [], [], fp, _, h => ⟨[], rfl, by simpa [cellsOwn] using h, fun _ h => by simp at h⟩
  | T :: Ts, R :: Rs, v :: vs, fp, hs, h => by
    obtain ⟨f1, f2, rfl, h1, h2⟩ := h
    obtain ⟨o1, r1, e1, p1⟩ := hs.1 w v f1 h1
    obtain ⟨o2, r2, e2, p2⟩ := Spls.cells hs.2 h2
    exact ⟨o1 ++ o2, ⟨o1, o2, r1, r2, rfl⟩, by rw [List.flatMap_append, e1, e2], fun o ho => by rcases List.mem_append.1 ho with ho | ho; exact p1 o ho; exact p2 o ho⟩
theorem Spl.tup {Ts : List Ty} {Rs : List (Value → List Own → Prop)} (hs : Spls Ts Rs) : Spl (Ty.tup Ts) (fun v ow => ∃ vs, v = .tuple vs.toArray ∧ RL Rs vs ow) := fun w v fp h => by
  obtain ⟨vs, rfl, hc⟩ := h
  obtain ⟨ow, h1, h2, h3⟩ := hs.cells hc
  exact ⟨ow, ⟨vs, rfl, h1⟩, h2, h3⟩
theorem ints_cells {w : World} : ∀ {xs : List Int} {vs : List Value} {f : List Nat}, cellsOwn w (xs.map Ty.int) vs f → vs = ints_ xs ∧ f = []
  | [], [], f, h => ⟨rfl, h⟩
  | x :: xs, v :: vs, f, h => by
    obtain ⟨f1, f2, rfl, h1, h2⟩ := h
    obtain ⟨rfl, rfl⟩ := ints_cells h2
    obtain ⟨h1, rfl⟩ := h1
    subst h1
    exact ⟨rfl, rfl⟩
theorem Spl.ints (e : TypeId) (xs : List Int) : Spl (Ty.ints e xs) (fun v ow => ∃ A c, v = .slice A xs.length c ∧ ow = [rowO e 1 (.slice A xs.length c) xs.length (ints_ xs) []] ∧ xs.length ≤ c ∧ c ≤ 9223372036854775807) := fun w v fp h => by
  obtain ⟨A, c, rfl, h1, h2⟩ := sl_form ((Ty.ints e xs).ownok h)
  obtain ⟨_, vs, f, h3, h4, h5⟩ := h
  obtain ⟨rfl, rfl⟩ := ints_cells h5
  exact ⟨_, ⟨A, c, rfl, rfl, h1, h2⟩, by simpa [rowO] using h4, fun o ho => by simp at ho; subst ho; exact h3⟩
theorem Spl.sl (e : TypeId) (sz n : Nat) (Ts : List Ty) : Spl (Ty.sl e sz n Ts) (fun v ow => ∃ A c vs f, v = .slice A n c ∧ ow = [rowO e sz (.slice A n c) n vs [], ownC Ts vs f] ∧ n ≤ c ∧ c ≤ 9223372036854775807) := fun w v fp h => by
  obtain ⟨A, c, rfl, h1, h2⟩ := sl_form ((Ty.sl e sz n Ts).ownok h)
  obtain ⟨_, vs, f, h3, h4, h5⟩ := h
  exact ⟨_, ⟨A, c, vs, f, rfl, rfl, h1, h2⟩, by simpa [rowO, ownC] using h4, fun o ho => by
    simp only [List.mem_cons, List.not_mem_nil, or_false] at ho
    rcases ho with rfl | rfl
    · exact h3
    · exact h5⟩
end
def Pick (os : List Own) : List (Nat × List Nat) → Prop
  | [] => True
  | (j, f) :: r => (∃ o, os[j]? = some o ∧ f.Sublist o.fp) ∧ (∀ p ∈ r, p.1 ≠ j) ∧ Pick os r
theorem Pick.nil {os : List Own} : Pick os [] := trivial
theorem Pick.cons {os : List Own} {j : Nat} {f : List Nat} {o : Own} {r : List (Nat × List Nat)} (h1 : os[j]? = some o) (h2 : f.Sublist o.fp) (h3 : r.all (fun p => !Nat.beq p.1 j) = true) (h4 : Pick os r) : Pick os ((j, f) :: r) :=
  ⟨⟨o, h1, h2⟩, fun p hp e => by
    have := List.all_eq_true.1 h3 p hp
    rw [e] at this
    simp at this, h4⟩
theorem St.pr {lo : Nat} {B : List Nat} {u w : World} {os : List Own} (hw : St lo B u w os) {i : Nat} {o : Own} (hi : os[i]? = some o) : o.pr w := hw.prs o (List.mem_of_getElem? hi)
theorem gvl {l : Fr} {x : Operand} {c b : Bool} {v : Value} (h : opd l x = some (gv (c && b) v)) (hc : c = true) : opd l x = some (gv b v) := by subst hc; simpa using h
theorem p_pickAnd2 {P : Program} {n : Nat} {l : Fr} {dst : Option Tmp} {ty : TypeId} {pos : String} {af : Array Edge} {gd : Option (Nat × Bool)} {c x y : Operand} {b b' : Bool} (hc : opd l c = some (.bool b)) (h1 : opd l x = some (.bool b')) (h2 : opd l y = some (.bool false)) :
    OpP P n l ⟨dst, .pick c x y, ty, pos, af, gd⟩ (.bool (b && b')) := p_pick hc h1 h2 (by cases b <;> rfl)
theorem p_pickAnd {P : Program} {n : Nat} {l : Fr} {dst : Option Tmp} {ty : TypeId} {pos : String} {af : Array Edge} {gd : Option (Nat × Bool)} {c x y : Operand} {b b' : Bool} (hc : opd l c = some (.bool b)) (h1 : opd l x = some (gv b (.bool b'))) (h2 : opd l y = some (.bool false)) :
    OpP P n l ⟨dst, .pick c x y, ty, pos, af, gd⟩ (.bool (b && b')) := fun a w ha => by
  cases b <;> simp [execOp, ha.eval hc, ha.eval h1, ha.eval h2, asBool, gv]
theorem p_pickOr {P : Program} {n : Nat} {l : Fr} {dst : Option Tmp} {ty : TypeId} {pos : String} {af : Array Edge} {gd : Option (Nat × Bool)} {c x y : Operand} {b b' : Bool} (hc : opd l c = some (.bool b)) (h1 : opd l x = some (.bool true)) (h2 : opd l y = some (gv (!b) (.bool b'))) :
    OpP P n l ⟨dst, .pick c x y, ty, pos, af, gd⟩ (.bool (b || b')) := fun a w ha => by
  cases b <;> simp [execOp, ha.eval hc, ha.eval h1, ha.eval h2, asBool, gv]
section
variable {ops : Array Oper} {l : Fr} {o : Oper} {j t : Nat} {b c : Bool}
theorem Gd.t1 (h : o.guard = Option.some (j, true)) (hj : (ops[j]?).bind (·.dst) = Option.some t) (hl : look l t = Option.some (.bool b)) : Gd ops l o b := Gd.some' h hj hl b (by simp)
theorem Gd.f1 (h : o.guard = Option.some (j, false)) (hj : (ops[j]?).bind (·.dst) = Option.some t) (hl : look l t = Option.some (.bool b)) : Gd ops l o (!b) := Gd.some' h hj hl (!b) (by simp)
theorem Gd.t2 (h : o.guard = Option.some (j, true)) (hj : (ops[j]?).bind (·.dst) = Option.some t) (hl : look l t = Option.some (gv c (.bool b))) : Gd ops l o (c && b) := Gd.some h hj hl (c && b) (by simp)
theorem Gd.f2 (h : o.guard = Option.some (j, false)) (hj : (ops[j]?).bind (·.dst) = Option.some t) (hl : look l t = Option.some (gv c (.bool b))) : Gd ops l o (c && !b) := Gd.some h hj hl (c && !b) (by simp)
end
theorem opds_1 {l : Fr} {x1 : Operand} {v1 : Value} (h1 : opd l x1 = some v1) : opds l [x1] = some [v1] := by simp [opds, h1]
theorem opds_2 {l : Fr} {x1 x2 : Operand} {v1 v2 : Value} (h1 : opd l x1 = some v1) (h2 : opd l x2 = some v2) : opds l [x1, x2] = some [v1, v2] := by simp [opds, h1, h2]
theorem opds_3 {l : Fr} {x1 x2 x3 : Operand} {v1 v2 v3 : Value} (h1 : opd l x1 = some v1) (h2 : opd l x2 = some v2) (h3 : opd l x3 = some v3) : opds l [x1, x2, x3] = some [v1, v2, v3] := by simp [opds, h1, h2, h3]
theorem wrap_quo {i j : Int} (h0 : 0 ≤ i) (h1 : i ≤ 9223372036854775807) (hj : 0 < j) : IntKind.i64.wrap (i.tdiv j) = i / j := by
  rw [Int.tdiv_eq_ediv_of_nonneg h0]
  have a := Int.ediv_nonneg h0 (Int.le_of_lt hj)
  have b := Int.ediv_le_self j h0
  exact IntWalk.i64_in _ (by omega)
theorem nil_ok {e : TypeId} {u : World} : (Ty.ints e []).ok u (.slice none 0 0) := ⟨rfl, none, 0, [], rfl, Nat.le_refl _, by unfold maxLen; omega, trivial, fun h => by simp at h⟩
theorem nil_own {e : TypeId} {u : World} : (Ty.ints e []).own u (.slice none 0 0) [] := ⟨rfl, [], [], ⟨rfl, .inl ⟨rfl, rfl⟩⟩, rfl, rfl⟩
end Go.Proofs.Ytejnmechnhgmfaa

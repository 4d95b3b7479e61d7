/- Plain mathematics of memories: what the walk of a search with memory needs. -/
import Derived.Test.YtmgnckfhghibeaaGreatZbA3
import Derived.Test.YtmgnckfhghibeaaGreatZbA2
import Derived.Test.YtmgnckfhghibeaaGreatZbA0
import Derived.Test.YtmgnckfhghibeaaGreatZbA1
set_option linter.unusedSimpArgs false
set_option linter.unusedVariables false
namespace Go.Proofs.YtmgnckfhghibeaaGreat.M
def e9 (d : Nat) : Int := 9 ^ d
theorem e9_pos (d : Nat) : 1 ≤ e9 d := by have : (0 : Int) < 9 ^ d := Int.pow_pos (by decide); unfold e9; omega
theorem e9_step {d : Int} (h : 1 ≤ d) : e9 d.toNat = 9 * e9 (d - 1).toNat := by
  have : d.toNat = (d - 1).toNat + 1 := by omega
  rw [this, e9, Int.pow_succ, Int.mul_comm]; rfl
theorem e9_8 {d : Nat} (h : d ≤ 8) : e9 d ≤ 43046721 := by
  have : d = 0 ∨ d = 1 ∨ d = 2 ∨ d = 3 ∨ d = 4 ∨ d = 5 ∨ d = 6 ∨ d = 7 ∨ d = 8 := by omega
  rcases this with h | h | h | h | h | h | h | h | h <;> subst h <;> decide
def HB (e H : Int) (k : Nat) (h : Int) : Prop := H ≤ h ∧ h ≤ H + k * e
theorem HB.zero (e H : Int) : HB e H 0 H := ⟨Int.le_refl _, by simp⟩
theorem HB.step {e H h h' : Int} {k : Nat} (a : HB e H k h) (h1 : h ≤ h') (h2 : h' ≤ h + e) : HB e H (k + 1) h' :=
  ⟨by have := a.1; omega, by have := a.2; push_cast; rw [Int.add_mul, Int.one_mul]; omega⟩
theorem HB.lim {e H h : Int} {k : Nat} (a : HB e H k h) (hk : k ≤ 8) (he : 1 ≤ e) : H ≤ h ∧ h ≤ H + 8 * e :=
  ⟨a.1, by have := a.2; have : (k : Int) * e ≤ 8 * e := Int.mul_le_mul_of_nonneg_right (by omega) (by omega); omega⟩
def chV (r : Rul) (d : Nat) (y : Res) (low high b : Int) (sl : List Slo) (h : Int) : Int × List Slo × Int := vis r d y.next (loV y low high b) (hiV y low high b) (sl, h)
theorem loV_y {y : Res} {low high b : Int} (h : y.again = true) : loV y low high b = mx low b - y.gain := by unfold loV; rw [if_pos h]
theorem loV_n {y : Res} {low high b : Int} (h : ¬ y.again = true) : loV y low high b = y.gain - high := by unfold loV; rw [if_neg h]
theorem hiV_y {y : Res} {low high b : Int} (h : y.again = true) : hiV y low high b = high - y.gain := by unfold hiV; rw [if_pos h]
theorem hiV_n {y : Res} {low high b : Int} (h : ¬ y.again = true) : hiV y low high b = y.gain - mx low b := by unfold hiV; rw [if_neg h]
theorem chV_y {r : Rul} {d : Nat} {y : Res} {low high b : Int} {sl : List Slo} {h : Int} (a : y.again = true) : vis r d y.next (mx low b - y.gain) (high - y.gain) (sl, h) = chV r d y low high b sl h := by unfold chV; rw [loV_y a, hiV_y a]
theorem chV_n {r : Rul} {d : Nat} {y : Res} {low high b : Int} {sl : List Slo} {h : Int} (a : ¬ y.again = true) : vis r d y.next (y.gain - high) (y.gain - mx low b) (sl, h) = chV r d y low high b sl h := by unfold chV; rw [loV_n a, hiV_n a]
theorem vis_end {r : Rul} {d : Nat} {p : Pos} {low high : Int} {st : List Slo × Int} (h : (results r p).length = 0) : vis r d p low high st = (endV r p, st) := by
  cases d <;> (rw [vis, if_pos h])
theorem vis_0 {r : Rul} {p : Pos} {low high : Int} {st : List Slo × Int} (h : (results r p).length ≠ 0) : vis r 0 p low high st = (0, st) := by rw [vis, if_neg h]
theorem vis_hit {r : Rul} {d : Int} {p : Pos} {low high : Int} {sl : List Slo} {h0 : Int} (hd : 1 ≤ d) (h : (results r p).length ≠ 0) (hf : (fndB sl p d && useS (fnd sl p) low high) = true) : vis r d.toNat p low high (sl, h0) = ((fnd sl p).value, (sl, h0 + 1)) := by
  have e : d.toNat = (d - 1).toNat + 1 := by omega
  have e2 : (((d - 1).toNat + 1 : Nat) : Int) = d := by omega
  rw [e, vis, if_neg h, if_pos (by rw [e2]; exact hf)]
def vlp (r : Rul) (p : Pos) (d low high b : Int) (sl : List Slo) (h : Int) (k : Nat) : Int × List Slo × Int := visL (vis r (d - 1).toNat) low high b (sl, h) ((results r p).drop k)
theorem vis_d {r : Rul} {d : Int} {p : Pos} {low high : Int} {sl : List Slo} {h0 b : Int} {sl' : List Slo} {h' : Int} (hd : 1 ≤ d) (h : (results r p).length ≠ 0) (hf : ¬ (fndB sl p d && useS (fnd sl p) low high) = true) (hv : vlp r p d low high (-1000) sl h0 0 = (b, (sl', h'))) {bd : Int} (hb : bd = bndV b low high) :
    vis r d.toNat p low high (sl, h0) = (b, (stoS sl' ⟨true, p.pits, p.player, d, b, bd⟩, h')) := by
  have e : d.toNat = (d - 1).toNat + 1 := by omega
  have e2 : (((d - 1).toNat + 1 : Nat) : Int) = d := by omega
  rw [e, vis, if_neg h, if_neg (by rw [e2]; exact hf), e2]
  unfold vlp at hv; rw [List.drop_zero] at hv
  rw [hv, hb]
theorem vlp_y {r : Rul} {p : Pos} {d low high b : Int} {sl : List Slo} {h : Int} {k : Nat} {y : Res} {V : Int × List Slo × Int} (a : vlp r p d low high b sl h k = V) (hy : (results r p)[k]? = some y) (hb : ¬ high ≤ b) :
    vlp r p d low high (mx b (moveV y (chV r (d - 1).toNat y low high b sl h).1)) (chV r (d - 1).toNat y low high b sl h).2.1 (chV r (d - 1).toNat y low high b sl h).2.2 (k + 1) = V := visL_y (X := (sl, h)) a hy hb
theorem vlp_b {r : Rul} {p : Pos} {d low high b : Int} {sl : List Slo} {h : Int} {k : Nat} {V : Int × List Slo × Int} (a : vlp r p d low high b sl h k = V) (hb : high ≤ b) : V = (b, (sl, h)) := visL_b a hb
theorem vlp_e {r : Rul} {p : Pos} {d low high b : Int} {sl : List Slo} {h : Int} {k : Nat} {V : Int × List Slo × Int} (a : vlp r p d low high b sl h k = V) (hk : (results r p).length ≤ k) : V = (b, (sl, h)) := visL_e a hk
theorem fnd_b {sl : List Slo} {p : Pos} {d : Int} (hb : BdM sl) (hn : 0 < sl.length) (h : fndB sl p d = true) : -(1000 + 96 * d) ≤ (fnd sl p).value ∧ (fnd sl p).value ≤ 1000 + 96 * d := by
  simp only [fndB, Bool.and_eq_true, decide_eq_true_eq] at h
  have hpb := plc_bd p.pits p.player hn
  have hv := hb _ (slo_mem (l := sl) (k := (plc sl.length p.pits p.player).toNat) (by omega)) h.1.1.1
  have e : slo sl (plc sl.length p.pits p.player).toNat = fnd sl p := rfl
  rw [e, h.1.1.2] at hv
  exact hv
theorem bndV_2 {b low high : Int} (h : b ≤ low) : 2 = bndV b low high := by unfold bndV; rw [if_pos h]
theorem bndV_1 {b low high : Int} (h : ¬ b ≤ low) (h2 : high ≤ b) : 1 = bndV b low high := by unfold bndV; rw [if_neg h, if_pos h2]
theorem bndV_0 {b low high : Int} (h : ¬ b ≤ low) (h2 : ¬ high ≤ b) : 0 = bndV b low high := by unfold bndV; rw [if_neg h, if_neg h2]
theorem okCt_no {r : Rul} {x : Slo} (h : ((okP r ⟨x.pits, [0, 0], x.player⟩ = false ∨ betw x.depth 1 8 = false) ∨ betw x.value (-96) 96 = false) ∨ betw x.bound 0 2 = false) : (okP r (posS x) && okCt x.depth x.value x.bound) = false := by
  have e9 : posS x = ⟨x.pits, [0, 0], x.player⟩ := rfl
  rw [e9]; unfold okCt
  rcases h with ((h | h) | h) | h <;> simp [h]
theorem okCt_yes {r : Rul} {x : Slo} (h : ((okP r ⟨x.pits, [0, 0], x.player⟩ = true ∧ betw x.depth 1 8 = true) ∧ betw x.value (-96) 96 = true) ∧ betw x.bound 0 2 = true) : okP r (posS x) = true ∧ okCt x.depth x.value x.bound = true := ⟨h.1.1.1, by simp [okCt, h.1.1.2, h.1.2, h.2]⟩
def sameM (a b : Mem) : Bool := decide (a.rules = b.rules) && decide (a.slots = b.slots)
theorem slos_ext {a b : List Slo} (h : a.length = b.length) (hx : ∀ i : Nat, i < a.length → slo a i = slo b i) : a = b := by
  apply List.ext_getElem? ; intro i
  by_cases hi : i < a.length
  · rw [slo_get hi, slo_get (by omega), hx i hi]
  · rw [List.getElem?_eq_none (by omega), List.getElem?_eq_none (by omega)]
theorem sameM_y {a b : Mem} (hr : a.rules = b.rules) (h : a.slots.length = b.slots.length) (hx : ∀ i : Nat, i < a.slots.length → slo a.slots i = slo b.slots i) : sameM a b = true := by
  unfold sameM; simp [hr, slos_ext h hx]
theorem sameM_x {a b : Mem} {k : Nat} (h : sameS (slo a.slots k) (slo b.slots k) = false) : sameM a b = false := by
  cases e : sameM a b with
  | false => rfl
  | true => simp only [sameM, Bool.and_eq_true, decide_eq_true_eq] at e; rw [e.2, sameS_iff.2 rfl] at h; cases h
theorem sameM_iff {a b : Mem} : sameM a b = true ↔ a = b := by
  unfold sameM; simp only [Bool.and_eq_true, decide_eq_true_eq]; exact ⟨fun h => mem_ext h.1 h.2, fun h => by subst h; simp⟩
theorem sameM_no {a b : Mem} (h : ¬ a.rules = b.rules ∨ ¬ ((a.slots.length : Nat) : Int) = (b.slots.length : Nat)) : sameM a b = false := by
  cases e : sameM a b with
  | false => rfl
  | true => have := sameM_iff.1 e; subst this; rcases h with h | h <;> exact absurd rfl h
theorem sameM_h {a b : Mem} (h : a.rules = b.rules ∧ ((a.slots.length : Nat) : Int) = (b.slots.length : Nat)) : a.rules = b.rules ∧ a.slots.length = b.slots.length := ⟨h.1, by have := h.2; omega⟩
theorem sto_no {x s : Slo} (h : (x.used && decide (s.depth < x.depth)) = true) : ¬ (x.used = false ∨ x.depth ≤ s.depth) := by
  simp only [Bool.and_eq_true, decide_eq_true_eq] at h
  rintro (h8 | h8)
  · rw [h.1] at h8; cases h8
  · omega
theorem sto_yes {x s : Slo} (h : (x.used && decide (s.depth < x.depth)) = false) : x.used = false ∨ x.depth ≤ s.depth := by
  rcases Bool.eq_false_or_eq_true x.used with h8 | h8
  · rw [h8] at h; simp at h; exact Or.inr h
  · exact Or.inl h8
theorem vlp_t {r : Rul} {p : Pos} {d low high b : Int} {sl : List Slo} {h : Int} {k : Nat} {y : Res} {V : Int × List Slo × Int} (a : vlp r p d low high b sl h k = V) (hy : (results r p)[k]? = some y) (hb : ¬ high ≤ b) (hg : y.again = true) :
    vlp r p d low high (mx b (y.gain + (vis r (d - 1).toNat y.next (mx low b - y.gain) (high - y.gain) (sl, h)).1)) (vis r (d - 1).toNat y.next (mx low b - y.gain) (high - y.gain) (sl, h)).2.1 (vis r (d - 1).toNat y.next (mx low b - y.gain) (high - y.gain) (sl, h)).2.2 (k + 1) = V := by
  have := vlp_y a hy hb
  rw [moveV_y hg, ← chV_y hg] at this; exact this
theorem vlp_f {r : Rul} {p : Pos} {d low high b : Int} {sl : List Slo} {h : Int} {k : Nat} {y : Res} {V : Int × List Slo × Int} (a : vlp r p d low high b sl h k = V) (hy : (results r p)[k]? = some y) (hb : ¬ high ≤ b) (hg : y.again = false) :
    vlp r p d low high (mx b (y.gain - (vis r (d - 1).toNat y.next (y.gain - high) (y.gain - mx low b) (sl, h)).1)) (vis r (d - 1).toNat y.next (y.gain - high) (y.gain - mx low b) (sl, h)).2.1 (vis r (d - 1).toNat y.next (y.gain - high) (y.gain - mx low b) (sl, h)).2.2 (k + 1) = V := by
  have := vlp_y a hy hb
  rw [moveV_n hg, ← chV_n (by simp [hg])] at this; exact this
theorem vis_b {r : Rul} {d : Nat} {p : Pos} {low high : Int} {sl : List Slo} {h : Int} (hp : okP r p = true) (hb : BdM sl) (hn : 0 < sl.length) :
    BdM (vis r d p low high (sl, h)).2.1 ∧ (SzM 4194304 sl → SzM 4194304 (vis r d p low high (sl, h)).2.1) ∧ -(1000 + 96 * (d : Int)) ≤ (vis r d p low high (sl, h)).1 ∧ (vis r d p low high (sl, h)).1 ≤ 1000 + 96 * (d : Int) ∧ h ≤ (vis r d p low high (sl, h)).2.2 ∧ (vis r d p low high (sl, h)).2.2 ≤ h + e9 d ∧ (vis r d p low high (sl, h)).2.1.length = sl.length := by
  obtain ⟨a, b, c, d', e, f⟩ := vis_vb d p low high (sl, h) hp hb hn
  exact ⟨a, b, c, d', e, f, vis_len r d _ _ _ _⟩
theorem use_l {a b : Bool} (h : (a && b) = true) : a = true := by cases a <;> simp_all
theorem swOk_n {m : Mem} {p : Pos} {d : Int} (h : (!(betw (swS m p d).1 (-96) 96) || !(okM ⟨m.rules, (swS m p d).2.1⟩)) = true) : ¬ swOk m p d = true := by
  unfold swOk
  revert h
  cases betw (swS m p d).1 (-96) 96 <;> cases okM ⟨m.rules, (swS m p d).2.1⟩ <;> simp
theorem swOk_y {m : Mem} {p : Pos} {d : Int} (h : (!(betw (swS m p d).1 (-96) 96) || !(okM ⟨m.rules, (swS m p d).2.1⟩)) = false) : swOk m p d = true := by
  unfold swOk
  revert h
  cases betw (swS m p d).1 (-96) 96 <;> cases okM ⟨m.rules, (swS m p d).2.1⟩ <;> simp
theorem remC_eq {m : Mem} {p : Pos} (h : remC m p = 0) : remB m p = true := by
  cases e : remB m p with
  | true => rfl
  | false => rw [remC_1 (by simp [e])] at h; cases h
theorem remC_ne {m : Mem} {p : Pos} (h : ¬ remC m p = 0) : ¬ remB m p = true := fun e => h (remC_0 e)
theorem rem_parts {m : Mem} {p : Pos} (h : remB m p = true) : okM m = true ∧ okP m.rules p = true ∧ 1 ≤ m.slots.length ∧ m.slots.length ≤ 64 ∧ BdM m.slots := by
  simp only [remB, Bool.and_eq_true] at h
  obtain ⟨_, h2, h3, _⟩ := okM_parts h.1
  exact ⟨h.1, h.2, h2, h3, okM_bd h.1⟩
theorem rem_no {m : Mem} {p : Pos} (h : okM m = false ∨ okP m.rules p = false) : ¬ remB m p = true := by
  unfold remB; rcases h with h | h <;> simp [h]
end Go.Proofs.YtmgnckfhghibeaaGreat.M
namespace Go.Proofs.YtmgnckfhghibeaaGreat
open Go.RowKit
section
variable {P : Program} {n lo : Nat} {B : List Nat} {Q : Exit → Act → World → Prop} {cs : List Code} {l : Fr} {os os' : List Own} {u : World}
theorem giveL (ks : List Nat) {w w₀ : World} {bs : List Own} {fr : List Own} {m : Nat} (hb : Bw w₀ bs) (x : Up w₀.heap.size (offW w₀ (bs.flatMap (·.fp))) u) (hp : PP os ks os') (hf : NL (os'.take m) fr)
    (hw : St w₀.heap.size (bs.flatMap (·.fp)) u w os) : St w₀.heap.size (bs.flatMap (·.fp)) u w (fr ++ [anyO ((os'.drop m).flatMap (·.fp))]) := by
  have hpm := hp.perm
  have e : os' = fr ++ os'.drop m := by rw [← hf.eq, List.take_append_drop]
  exact hw.conv (fun o ho => by
    rcases List.mem_append.1 ho with ho | ho
    · exact hw.prs o (hpm.mem_iff.2 (by rw [e]; exact List.mem_append_left _ ho))
    · simp at ho; subst ho; trivial) (by
    have := hpm.symm.flatMap_right (fun o : Own => o.fp)
    rw [e, List.flatMap_append] at this
    rw [List.flatMap_append]
    simpa [anyO] using this)
theorem zrbE (ks : List Nat) {fn : Func} {R : Value → List Own → Prop} {w₀ : World} {bs : List Own} {fr : List Own} {m : Nat} (hb : Bw w₀ bs) (x : Up w₀.heap.size (offW w₀ (bs.flatMap (·.fp))) u) (h : R (.tuple #[]) fr)
    (hr : fn.results = #[] := by rfl) (hm : ks.length = m := by rfl) (hp : PP os ks os' := by exact pp_) (hf : NL (os'.take m) fr := by exact nl) :
    Js P n w₀.heap.size (bs.flatMap (·.fp)) (bodyPost P fn (RB w₀ bs R)) [] l os u := Js.end_ fun a w ha hw =>
  ⟨ha.dfr, .tuple #[], by unfold results; rw [hr]; simp, _, fr, _, rfl, h, (giveL ks hb x hp hf hw).giveBack hb x⟩
theorem zrb0 (ks : List Nat) {fn : Func} {R : Value → List Own → Prop} {w₀ : World} {bs : List Own} {fr : List Own} {m : Nat} (hb : Bw w₀ bs) (x : Up w₀.heap.size (offW w₀ (bs.flatMap (·.fp))) u) (h : R (.tuple #[]) fr)
    (hq : RetQ P fn (RB w₀ bs R) Q := by exact rq_) (hr : fn.results = #[] := by rfl) (hm : ks.length = m := by rfl) (hp : PP os ks os' := by exact pp_) (hf : NL (os'.take m) fr := by exact nl) :
    Js P n w₀.heap.size (bs.flatMap (·.fp)) Q (.ret :: cs) l os u := Js.ret_ fun a w ha hw => by
  rw [hq.eq]
  exact ⟨ha.dfr, .tuple #[], by unfold results; rw [hr]; simp, _, fr, _, rfl, h, (giveL ks hb x hp hf hw).giveBack hb x⟩
end
theorem ymkN {P : Program} {n lo : Nat} {B : List Nat} {K : Act → World → Prop} {ops : Array Oper} {l : Fr} {os os₀ : List Own} {u u₀ : World} {ty : TypeId} {pos : String} {af : Array Edge} {d i : Nat} {x y : Operand} {nm : List Nat} {fuel : Nat} {listed : Array Bool} {z : Bool}
    {α : Type} (T : α → List Ty) (x0 : α) {t e sz by' m : Nat} {zz : List Value} {a0 : Int} (hi : ops[i]? = some ⟨some d, .makeSlice t x y, ty, pos, af, none⟩) [ht : ElI P t e sz by' zz] (ha0 : a0 = (m : Int)) (hm : m * sz ≤ 16777216) (h0 : ∀ w, cellsOwn w (T x0) zz [])
    (k : ∀ b, JH P n lo B K ops u₀ os₀ nm fuel (listed.setIfInBounds i true) (z && true) ((d, .slice (some ⟨b, 0, none⟩) m m) :: l) (rowO e sz (.slice (some ⟨b, 0, none⟩) m m) m (repL zz m) [] :: ownC ((List.replicate m x0).flatMap T) (repL zz m) [] :: os) u)
    (hb : Nat.ble by' 64 = true := by rfl) (hzl : Nat.beq zz.length sz = true := by rfl) (hs : Nat.blt 0 sz = true := by rfl) (hx : opd l x = some (.int .i64 a0) := by rfl) (hy : opd l y = some (.int .i64 a0) := by rfl) (hn : Nat.blt d n = true := by rfl) :
    JHo P n lo B K ops u₀ os₀ nm fuel listed z l os u i := JHo.e hi (e_mk ht.h hb hzl hx hy ha0 hm hs) (.inl rfl) (by
      rintro _ _ _ ⟨b, rfl, rfl, rfl⟩ _
      refine JH.conv (fun w h => ?_) (k b)
      have h1 := h.addVals (zeros_own T (h0 w) m)
      exact h1.front (i := 1) (o := rowO e sz (.slice (some ⟨b, 0, none⟩) m m) m (repL zz m) []) rfl) rfl rfl hn
theorem zmkL {P : Program} {n lo : Nat} {B : List Nat} {K : Act → World → Prop} {ops : Array Oper} {rest : List Oper} {l : Fr} {os : List Own} {u : World} {ty : TypeId} {pos : String} {af : Array Edge} {d : Nat} {x y : Operand} {α : Type} (T : α → List Ty) (F : List α → List Ty) (x0 : α) {t e sz by' m : Nat} {zz : List Value} {a0 : Int} [ht : ElI P t e sz by' zz] (ha0 : a0 = (m : Int)) (hm : m * sz ≤ 16777216) (h0 : ∀ w, cellsOwn w (T x0) zz []) (k : ∀ b xs, xs = List.replicate m x0 → JL P n lo B K ops rest ((d, .slice (some ⟨b, 0, none⟩) xs.length xs.length) :: l) (rowO e sz (.slice (some ⟨b, 0, none⟩) xs.length xs.length) xs.length (repL zz xs.length) [] :: ownC (F xs) (repL zz xs.length) [] :: os) u)
    (hb : Nat.ble by' 64 = true := by rfl) (hzl : Nat.beq zz.length sz = true := by rfl) (hs : Nat.blt 0 sz = true := by rfl) (hx : opd l x = some (.int .i64 a0) := by rfl) (hy : opd l y = some (.int .i64 a0) := by rfl) (hn : Nat.blt d n = true := by rfl) (hFe : ∀ l, F l = l.flatMap T := by intro l; rfl) :
    JL P n lo B K ops (⟨some d, .makeSlice t x y, ty, pos, af, none⟩ :: rest) l os u := zmkN T x0 ha0 hm h0 (fun b => by
      have h9 := k b (List.replicate m x0) rfl
      simp only [List.length_replicate, hFe] at h9
      exact h9) hb hzl hs hx hy hn
theorem ymkL {P : Program} {n lo : Nat} {B : List Nat} {K : Act → World → Prop} {ops : Array Oper} {l : Fr} {os os₀ : List Own} {u u₀ : World} {ty : TypeId} {pos : String} {af : Array Edge} {d i : Nat} {x y : Operand} {nm : List Nat} {fuel : Nat} {listed : Array Bool} {z : Bool}
    {α : Type} (T : α → List Ty) (F : List α → List Ty) (x0 : α) {t e sz by' m : Nat} {zz : List Value} {a0 : Int} (hi : ops[i]? = some ⟨some d, .makeSlice t x y, ty, pos, af, none⟩) [ht : ElI P t e sz by' zz] (ha0 : a0 = (m : Int)) (hm : m * sz ≤ 16777216) (h0 : ∀ w, cellsOwn w (T x0) zz [])
    (k : ∀ b xs, xs = List.replicate m x0 → JH P n lo B K ops u₀ os₀ nm fuel (listed.setIfInBounds i true) (z && true) ((d, .slice (some ⟨b, 0, none⟩) xs.length xs.length) :: l) (rowO e sz (.slice (some ⟨b, 0, none⟩) xs.length xs.length) xs.length (repL zz xs.length) [] :: ownC (F xs) (repL zz xs.length) [] :: os) u)
    (hb : Nat.ble by' 64 = true := by rfl) (hzl : Nat.beq zz.length sz = true := by rfl) (hs : Nat.blt 0 sz = true := by rfl) (hx : opd l x = some (.int .i64 a0) := by rfl) (hy : opd l y = some (.int .i64 a0) := by rfl) (hn : Nat.blt d n = true := by rfl) (hFe : ∀ l, F l = l.flatMap T := by intro l; rfl) :
    JHo P n lo B K ops u₀ os₀ nm fuel listed z l os u i := ymkN T x0 hi ha0 hm h0 (fun b => by
      have h9 := k b (List.replicate m x0) rfl
      simp only [List.length_replicate, hFe] at h9
      exact h9) hb hzl hs hx hy hn
theorem own_cut {w : World} {e : TypeId} {sz n c k : Nat} {A : Option Addr} {vs : List Value} (h : w.ownsRow 0 e sz (.slice A n c) n vs) (hk : k ≤ n) :
    w.ownsRow 0 e sz (.slice (cutA sz A 0 c) (k - 0) (c - 0)) (k - 0) (vs.take (k * sz)) ∧ (Value.slice (cutA sz A 0 c) (k - 0) (c - 0)).ownBlock.toList = (Value.slice A n c).ownBlock.toList := by
  obtain ⟨hl, h2⟩ := h
  have hm : k * sz ≤ n * sz := Nat.mul_le_mul_right sz hk
  have hl' : (vs.take (k * sz)).length = (k - 0) * sz := by rw [List.length_take, hl, Nat.sub_zero]; omega
  rcases h2 with ⟨h3, h4⟩ | ⟨g, cap, cur, h3, hg, h5, h6, h7, h8, h9⟩
  · cases h3
    have : k = 0 := by omega
    subst this
    exact ⟨⟨hl', .inl ⟨rfl, rfl⟩⟩, rfl⟩
  · cases h3
    have e1 : cutA sz (some ⟨g, 0, none⟩) 0 c = some ⟨g, 0, none⟩ := by unfold cutA; split <;> simp [addr_add]
    rw [e1]
    refine ⟨⟨hl', .inr ⟨g, c, cur, rfl, hg, h5, by omega, h7, h8, ?_⟩⟩, rfl⟩
    rw [← h9, List.take_take, Nat.sub_zero]
    congr 1; omega
theorem Js.fold2 {P : Program} {n lo : Nat} {B : List Nat} {Q : Exit → Act → World → Prop} {cs : List Code} {l : Fr} {u : World} {os : List Own} {o : Own} {Vs : List Ty} {vs : List Value} {f : List Nat} (Us : List Ty) (e : Us = Vs) (k : Js P n lo B Q cs l (o :: ownC Us vs f :: os) u) : Js P n lo B Q cs l (o :: ownC Vs vs f :: os) u := e ▸ k
theorem St.cutN {α : Type} (F : α → List Ty) {lo : Nat} {B : List Nat} {os : List Own} {u w : World} {i j n c k sz : Nat} {e : TypeId} {A : Option Addr} {xs : List α} {vs : List Value} {g f : List Nat} (hF : ∀ a, (F a).length = sz)
    (hi : os[i]? = some (rowO e sz (.slice A n c) n vs g)) (hj : (os.eraseIdx i)[j]? = some (ownC (xs.flatMap F) vs f)) (hk : k ≤ n) (hw : St lo B u w os) :
    ∃ f1 f2 _f3 : List Nat, St lo B u w (rowO e sz (.slice (cutA sz A 0 c) (k - 0) (c - 0)) (k - 0) (vs.take (k * sz)) g :: ownC ((xs.take k).flatMap F) (vs.take (k * sz)) f1 :: anyO f2 :: (os.eraseIdx i).eraseIdx j) := by
  have h1 := hw.front hi
  have h2 := h1.front (i := j + 1) (o := ownC (xs.flatMap F) vs f) (by simpa using hj)
  have h0 : w.ownsRow 0 e sz (.slice A n c) n vs := h1.prs (rowO e sz (.slice A n c) n vs g) (by simp)
  have hl : vs.length = (xs.flatMap F).length := cellsOwn.length (w := w) (fp := f) (h2.prs (ownC (xs.flatMap F) vs f) (List.mem_cons_self ..))
  have l0 : (xs.flatMap F).length = xs.length * sz := flat_len' F sz hF xs
  have hvl : vs.length = n * sz := h0.1
  have hm : k * sz ≤ n * sz := Nat.mul_le_mul_right sz hk
  have e1 : xs.flatMap F = (xs.take k).flatMap F ++ (xs.drop k).flatMap F := by conv => lhs; rw [← List.take_append_drop k xs, List.flatMap_append]
  have e2 : vs = vs.take (k * sz) ++ vs.drop (k * sz) := (List.take_append_drop _ _).symm
  have l1 : (vs.take (k * sz)).length = ((xs.take k).flatMap F).length := by
    rw [flat_len' F sz hF, List.length_take, List.length_take]
    rcases Nat.le_total k xs.length with h | h
    · have h9 : k * sz ≤ xs.length * sz := Nat.mul_le_mul_right sz h
      rw [Nat.min_eq_left h]; omega
    · have h9 : xs.length * sz ≤ k * sz := Nat.mul_le_mul_right sz h
      rw [Nat.min_eq_right h]; omega
  rw [e1] at h2
  rw [show (ownC ((xs.take k).flatMap F ++ (xs.drop k).flatMap F) vs f) = ownC ((xs.take k).flatMap F ++ (xs.drop k).flatMap F) (vs.take (k * sz) ++ vs.drop (k * sz)) f by rw [← e2]] at h2
  obtain ⟨f1, f2, h3⟩ := h2.part l1
  obtain ⟨k1, k2⟩ := own_cut h0 hk
  refine ⟨f1, f2, [], h3.conv (fun o ho => ?_) ?_⟩
  · simp only [List.mem_cons] at ho
    rcases ho with rfl | rfl | rfl | ho
    · exact k1
    · exact h3.prs _ (by simp)
    · trivial
    · exact h3.prs o (by simp [ho])
  · simp only [List.flatMap_cons, rowO, ownC, anyO, k2, List.eraseIdx_cons_succ]
    exact (List.perm_append_comm_assoc _ _ _).trans (List.Perm.append_left _ (List.perm_append_comm_assoc _ _ _))
def RX (w : World) (R : Value → Prop) (e : Ending) (w' : World) : Prop := ∃ v, e = .returned v ∧ R v ∧ Ext w w'
def RetX (P : Program) (f : FuncId) (args : List Value) (w : World) (R : Value → Prop) : Prop := Calls P f args.toArray w (RX w R)
section
variable {P : Program} {n lo : Nat} {B : List Nat} {Q : Exit → Act → World → Prop} {cs : List Code} {K : Act → World → Prop} {ops : Array Oper} {rest : List Oper} {l : Fr} {os os' os1 : List Own} {u : World} {ty : TypeId} {pos : String} {af : Array Edge} {gd : Option (Nat × Bool)} {dst : Option Tmp} {v : Value} {d : Nat}
theorem e_callX {f : FuncId} {xs : List Operand} {ts : Array TypeId} {vs : List Value} {R : World → Value → Prop} {R' : Value → Prop} (hf : goodF P f = true) (hx : opds l xs = some vs) (hc : ∀ w, St lo B u w os → RetX P f vs w (R w)) (hk : ∀ w v, St lo B u w os → R w v → R' v) :
    OpE P n lo B l os u ⟨dst, .call { callee := .value (.func f), args := xs.toArray, argTypes := ts }, ty, pos, af, gd⟩ true (fun v' os' u' => R' v' ∧ os' = os ∧ u = u') := fun a w ha hw K Q hq => by
  unfold Oper.wp
  rw [run_call hf ha hx, Oper.upon_enter]
  refine Calls.mono (hc w hw) fun e w' h => ?_
  obtain ⟨v, rfl, hR, hxt⟩ := h
  exact hq v _ u w' ⟨hk w v hw hR, rfl, rfl⟩ (Up.refl lo u) (hw.call hxt) (fun _ => hxt)
theorem zxc {f : FuncId} {xs : List Operand} {ts : Array TypeId} {vs : List Value} {R : World → Value → Prop} (R' : Value → Prop) [hf : FnI P f] (hx : opds l xs = some vs) (hc : ∀ w, St lo B u w os → RetX P f vs w (R w)) (hk : ∀ w v, St lo B u w os → R w v → R' v)
    (k : ∀ v, R' v → JL P n lo B K ops rest ((d, v) :: l) os u) (hn : Nat.blt d n = true := by rfl) :
    JL P n lo B K ops (⟨some d, .call { callee := .value (.func f), args := xs.toArray, argTypes := ts }, ty, pos, af, none⟩ :: rest) l os u := JL.e (e_callX hf.h hx hc hk) (by rintro v _ _ ⟨h, rfl, rfl⟩ _; exact k v h) rfl rfl hn
theorem zX {fn : Func} {R : Value → Prop} {w₀ : World} {rs : List ResultVar} {vs : List Value} (x : Up w₀.heap.size w₀ u) (h : R v) (hq : RetQ P fn (RX w₀ R) Q := by exact rq_) (hr : fn.results = rs.toArray := by rfl) (hv : ResOk P n w₀.heap.size [] l os u rs vs := by exact rs_) (ho : OutV vs v := by exact ov_) : Js P n w₀.heap.size [] Q (.ret :: cs) l os u :=
  Js.ret hr hq.eq hv fun w hw => by rw [ho.eq]; exact ⟨v, rfl, h, hw.ext x⟩
end
end Go.Proofs.YtmgnckfhghibeaaGreat
namespace Go.Proofs.YtmgnckfhghibeaaGreat.M
structure Cho where
  move : Int
  games : Int
  score : Int
  deriving DecidableEq
structure Ent where
  pits : List Int
  choices : List Cho
  deriving DecidableEq
structure Boo where
  rules : Rul
  entries : List Ent
  deriving DecidableEq
def Cho.zero : Cho := ⟨0, 0, 0⟩
def Ent.zero : Ent := ⟨[], []⟩
def Boo.zero : Boo := ⟨Rul.zero, []⟩
def AllB (f : Nat → Bool) (k : Nat) : Prop := ∀ i, i < k → f i = true
theorem AllB.zero (f : Nat → Bool) : AllB f 0 := fun i h => absurd h (by omega)
theorem AllB.step {f : Nat → Bool} {k : Nat} (h : AllB f k) (hk : f k = true) : AllB f (k + 1) := fun i hi => by
  by_cases e : i = k
  · rw [e]; exact hk
  · exact h i (by omega)
section
variable {α : Type}
end
def hC (k : Int) (x : Cho) : Int := if x.move ≠ k then -1 else if x.games ≠ k + 1 then -1 else if x.score ≠ k + 2 then -1 else k + 3
def hE (k : Int) (e : Ent) : Int := if held e.pits k < 0 then -1 else if heldL hC (held e.pits k) e.choices < 0 then -1 else heldL hC (held e.pits k) e.choices
def hS (k : Int) (s : Slo) : Int := if s.used ≠ decide (k % 3 = 0) then -1 else if held s.pits (k + 1) < 0 then -1 else if s.player ≠ held s.pits (k + 1) then -1 else if s.depth ≠ held s.pits (k + 1) + 1 then -1 else if s.value ≠ held s.pits (k + 1) + 1 + 1 then -1 else if s.bound ≠ held s.pits (k + 1) + 1 + 1 + 1 then -1 else held s.pits (k + 1) + 1 + 1 + 1 + 1
theorem SzM.zero (n k : Nat) : SzM n (List.replicate k Slo.zero) := fun x hx => by rw [List.eq_of_mem_replicate hx]; simp [Slo.zero]
theorem SzM.rep {n k : Nat} {l : List Slo} (h : l = List.replicate k Slo.zero) : SzM n l := by rw [h]; exact SzM.zero n k
theorem newM_sz (r : Rul) (n : Int) : (newM r n).1.slots.length ≤ 64 ∧ SzM 16 (newM r n).1.slots := by
  have hz : Mem.zero.slots.length ≤ 64 ∧ SzM 16 Mem.zero.slots := ⟨by decide, fun x hx => by simp [Mem.zero] at hx⟩
  unfold newM
  split
  · split
    · rename_i h; have := betw_iff.1 h; exact ⟨by simp; omega, SzM.zero _ _⟩
    · exact hz
  · exact hz
theorem swM_sz (m : Mem) (p : Pos) (d : Int) : (swM m p d).2.2.1.slots.length ≤ 64 ∧ SzM 16 (swM m p d).2.2.1.slots := by
  have hz : Mem.zero.slots.length ≤ 64 ∧ SzM 16 Mem.zero.slots := ⟨by decide, fun x hx => by simp [Mem.zero] at hx⟩
  unfold swM
  split
  · split
    · split
      · rename_i h9
        simp only [swOk, Bool.and_eq_true] at h9
        have h16 := okM_16 h9.2
        obtain ⟨_, _, h64, _⟩ := okM_parts h9.2
        exact ⟨h64, h16⟩
      · exact hz
    · exact hz
  · exact hz
theorem SzM.set {n : Nat} {l : List Slo} {i : Nat} {x : Slo} (h : SzM n l) (hx : x.pits.length ≤ n) : SzM n (l.set i x) := fun y hy => by
  rcases List.mem_or_eq_of_mem_set hy with hy | rfl
  · exact h y hy
  · exact hx
theorem SzM.take {n : Nat} {l : List Slo} (h : SzM n l) (k : Nat) : SzM n (l.take k) := fun y hy => h y (List.mem_of_mem_take hy)
theorem results_9 {r : Rul} {p : Pos} (h : r.pits ≤ 9) : (results r p).length ≤ 9 := by
  have := resultsTo_len (r := r) (p := p) r.pits.toNat
  unfold results; omega
theorem sw_snd {r : Rul} {p : Pos} {d : Int} {l : List Slo} (h : srchC r p d = 0) (hs : SndM r d l) (h1 : 1 ≤ l.length) (h2 : l.length ≤ 64) :
    swM ⟨r, l⟩ p d = (val r d.toNat p, (swS ⟨r, l⟩ p d).2.2, ⟨r, (swS ⟨r, l⟩ p d).2.1⟩, 0) ∧ SndM r d (swS ⟨r, l⟩ p d).2.1 ∧ (swS ⟨r, l⟩ p d).2.1.length = l.length := by
  obtain ⟨ho, h0, h8, hz⟩ := srchC_ok h
  have ed : ((d.toNat : Nat) : Int) = d := by omega
  have hs' : SndM r ((d.toNat : Nat) : Int) l := by rw [ed]; exact hs
  obtain ⟨hq, hv⟩ := vis_plain (st := (l, 0)) ho (by omega) hz hs' (by simp only; omega)
  have h4 := pits_96 ho
  have hb1 := hq.v1
  have hb2 := hq.v2
  have hsn := hq.sn
  have hln := hq.ln
  have hR : okR r = true := okP_okR ho
  have hok := snd_ok hR hsn (by rw [hln]; exact h1) (by rw [hln]; exact h2)
  have hrem : remB ⟨r, l⟩ p = true := by simp only [remB, Bool.and_eq_true]; exact ⟨snd_ok hR hs h1 h2, ho⟩
  have hsw : swOk ⟨r, l⟩ p d = true := by
    unfold swOk
    simp only [Bool.and_eq_true, betw_iff]
    exact ⟨⟨by show -96 ≤ (vis r d.toNat p (-1000) 1000 (l, 0)).1; omega, by show (vis r d.toNat p (-1000) 1000 (l, 0)).1 ≤ 96; omega⟩, hok⟩
  refine ⟨?_, by rw [← ed] ; exact hsn, hln⟩
  rw [swM_0 hrem h hsw]
  show ((vis r d.toNat p (-1000) 1000 (l, 0)).1, _, _, _) = _
  rw [hv]
theorem fndB_new (n : Nat) (p : Pos) (d : Int) : fndB (List.replicate n Slo.zero) p d = false := by
  have e : ∀ k, slo (List.replicate n Slo.zero) k = Slo.zero := fun k => by
    unfold slo
    rw [List.getD, List.getElem?_replicate]; split <;> rfl
  unfold fndB fnd; rw [e]; rfl
theorem sw_again {r : Rul} {p : Pos} {d : Int} {n : Nat} (h : srchC r p d = 0) (h1 : 1 ≤ n) (hd : 0 < d) (hne : (results r p).length ≠ 0) : 1 ≤ (swS ⟨r, (swS ⟨r, List.replicate n Slo.zero⟩ p d).2.1⟩ p d).2.2 := by
  obtain ⟨ho, h0, h8, hz⟩ := srchC_ok h
  have e : d.toNat = (d.toNat - 1) + 1 := by omega
  unfold swS
  simp only
  rw [e]
  rw [e] at hz
  rw [vis_again (st := (List.replicate n Slo.zero, 0)) ho (by omega) hz (SndM.empty r _ n) (by simp; omega) hne (fndB_new _ _ _) 0]
  simp only; omega
theorem snd_ask {r : Rul} {s : Slo} (h : SndS r s) : srchC r ⟨s.pits, [0, 0], s.player⟩ s.depth = 0 ∧ (ask r ⟨s.pits, [0, 0], s.player⟩ s.depth).1 = val r s.depth.toNat (posS s) :=  by
  have hz : srchC r (posS s) s.depth = 0 := srchC_0 h.ok (betw_iff.2 ⟨by have := h.d1; omega, h.d2⟩) (by have := h.sz; omega)
  exact ⟨hz, by rw [show (⟨s.pits, [0, 0], s.player⟩ : Pos) = posS s from rfl, ask_yes hz]⟩
theorem newM_ok {r : Rul} {n : Int} (h : (newM r n).2 = 0) : okR r = true ∧ 1 ≤ n ∧ n ≤ 64 ∧ (newM r n).1 = ⟨r, List.replicate n.toNat Slo.zero⟩ := by
  unfold newM at h ⊢
  split at h
  · rename_i h1
    split at h
    · rename_i h2
      have := betw_iff.1 h2
      rw [if_pos h1, if_pos h2]; exact ⟨h1, this.1, this.2, rfl⟩
    · cases h
  · cases h
structure MemL (r : Rul) (p : Pos) (d : Int) (X Y : Int × Int × Mem × Int) : Prop where
  v1 : X.1 = val r d.toNat p
  c1 : X.2.2.2 = 0
  sn : SndM r d X.2.2.1.slots
  ru : X.2.2.1.rules = r
  l1 : 1 ≤ X.2.2.1.slots.length
  l2 : X.2.2.1.slots.length ≤ 64
  ok : okM X.2.2.1 = true
  v2 : Y.1 = val r d.toNat p
  c2 : Y.2.2.2 = 0
  ag : 0 < d → (results r p).length ≠ 0 → 1 ≤ Y.2.1
  sk : (ask r p d).1 = val r d.toNat p
theorem memL {r : Rul} {p : Pos} {d n : Int} (h1 : (newM r n).2 = 0) (h2 : srchC r p d = 0) : MemL r p d (swM (newM r n).1 p d) (swM (swM (newM r n).1 p d).2.2.1 p d) := by
  obtain ⟨hr, n1, n2, e⟩ := newM_ok h1
  rw [e]
  have hl : (List.replicate n.toNat Slo.zero).length = n.toNat := List.length_replicate
  obtain ⟨a1, a2, a3⟩ := sw_snd h2 (SndM.empty r d n.toNat) (by omega) (by omega)
  rw [a1]
  obtain ⟨b1, b2, b3⟩ := sw_snd h2 a2 (by omega) (by omega)
  simp only
  rw [b1]
  exact ⟨rfl, rfl, a2, rfl, by simp only; omega, by simp only; omega, snd_ok hr a2 (by omega) (by omega), rfl, rfl, fun hd hne => sw_again h2 (by omega) hd hne, by rw [ask_yes h2]⟩
theorem mem_dead {r : Rul} {s : Slo} (h : SndS r s) : ¬ ((s.bound = 0 ∧ ¬ s.value = val r s.depth.toNat (posS s)) ∨ (s.bound = 1 ∧ val r s.depth.toNat (posS s) < s.value) ∨ (s.bound = 2 ∧ s.value < val r s.depth.toNat (posS s))) := by
  rcases h.bd with ⟨b1, b2⟩ | ⟨b1, b2⟩ | ⟨b1, b2⟩ <;> omega
theorem runs_snoc (r : Rul) (m : Int) : ∀ (a : List Int) (p : Pos), (runs r p a).length = a.length → (make r (lastPos p (runs r p a)) m).2 = 0 → runs r p (a ++ [m]) = runs r p a ++ [(make r (lastPos p (runs r p a)) m).1]
  | [], p, _, h => by
    have h' : (make r p m).2 = 0 := h
    show (if (make r p m).2 = 0 then _ else _) = _
    rw [if_pos h']
    rfl
  | x :: xs, p, hl, h => by
    by_cases hz : (make r p x).2 = 0
    · have e : runs r p (x :: xs) = (make r p x).1 :: runs r (make r p x).1.next xs := by rw [runs, if_pos hz]
      rw [e] at hl h ⊢
      have := runs_snoc r m xs (make r p x).1.next (by simpa using hl) h
      rw [List.cons_append, runs, if_pos hz, this]
      rfl
    · rw [runs, if_neg hz] at hl; simp at hl
structure Played (g : Gam) (move : Int) : Prop where
  ok : okG (play g move).1 = true
  code : (make g.rules g.now move).2 = 0
  now : (play g move).1.now = (make g.rules g.now move).1.next
  back : undo (play g move).1 = (g, 0)
theorem played {g : Gam} {move : Int} (h : okG g = true) (hz : (play g move).2 = 0) : Played g move := by
  obtain ⟨k1, k2, k3, k4, k5, k6, k7, k8, k9⟩ := okG_parts h
  by_cases h1 : 0 ≤ g.resigned
  · rw [play_6 h1] at hz; simp at hz
  by_cases h2 : g.moves.length = 120
  · rw [play_5 h1 h2] at hz; simp at hz
  have h3 : (make g.rules g.now move).2 = 0 := Decidable.byContradiction fun h3 => by rw [play_c h1 h2 h3] at hz; exact h3 hz
  have hp := play_0 h1 h2 h3
  have hs := runs_snoc g.rules move g.moves g.start k8 (by rw [← k9]; exact h3)
  rw [← k9] at hs
  have hr : g.resigned = -1 := by omega
  have hok : okG (play g move).1 = true := by
    rw [hp]
    simp only [okG, Bool.and_eq_true, decide_eq_true_eq, hs]
    refine ⟨⟨⟨⟨k1, ?_⟩, betw_iff.2 ⟨k3, k4⟩⟩, ?_⟩, lastPos_snoc _ _ _⟩
    · simp; omega
    · simp [k8]
  refine ⟨hok, h3, by rw [hp], ?_⟩
  have hl : (play g move).1.moves.length = g.moves.length + 1 := by rw [hp]; simp
  have hrr : (play g move).1.resigned = -1 := by rw [hp]; exact hr
  rw [undo_0 hok (by omega), hl]
  have e : (((g.moves.length + 1 : Nat) : Int) - 1).toNat = g.moves.length := by omega
  rw [e]
  obtain ⟨j1, j2, j3, j4, j5, j6, j7, j8, j9⟩ := okG_parts hok
  have hn : (cutG (play g move).1 g.moves.length).now = g.now := by
    refine cutG_now ?_
    rw [j6, hp]
    show (hist g.start (runs g.rules g.start (g.moves ++ [move])))[g.moves.length]? = _
    rw [hs]
    have e2 : hist g.start (runs g.rules g.start g.moves ++ [(make g.rules g.now move).1]) = hist g.start (runs g.rules g.start g.moves) ++ [(make g.rules g.now move).1.next] := by simp [hist]
    rw [e2, List.getElem?_append_left (by simp [k8]), ← k8, hist_last, ← k9]
  refine Prod.ext (gam_ext ?_ ?_ ?_ hn ?_) rfl
  · rw [hp]; rfl
  · rw [hp]; rfl
  · rw [hp]; simp [cutG]
  · rw [hr]; rfl
end Go.Proofs.YtmgnckfhghibeaaGreat.M
